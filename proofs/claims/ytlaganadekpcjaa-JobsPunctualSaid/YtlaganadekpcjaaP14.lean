/- A part of the proof: nothing is assumed. -/
import Derived.Test.YtlaganadekpcjaaP12
import Derived.Test.YtlaganadekpcjaaP13
import Derived.Test.YtlaganadekpcjaaP11
set_option linter.all false
namespace Go.Ab
open Go.Proofs
noncomputable def K17 (p1 p2 p3 : List T → Prop) (r2 r3 : T) : Orc := ((noneO.add 25 (callP p1 (.int .i64 0))).add 26 (callP p2 r2)).add 27 (callP p3 r3)
/-- Jobs with one more behind them. -/
def JL.snoc (L : JL) (a b d on : Int) : JL := ⟨fun j => if j < L.n then L.tm j else a, fun j => if j < L.n then L.du j else b, fun j => if j < L.n then L.af j else d, fun j => if j < L.n then L.on j else on, L.n + 1⟩
/-- When a promised job is ready. -/
def prm (L : JL) (mm : Nat) (a d on : Int) : Int := (gvR (plst L (oN L) mm L.n) a d on mm).2.2
theorem snoc_get (L : JL) (a b d on : Int) (j : Nat) : (if j < L.n then jcells (L.tm j) (L.du j) (L.af j) (L.on j) else jcells a b d on) = [.int .i64 ((L.snoc a b d on).tm j), .int .i64 ((L.snoc a b d on).du j), .int .i64 ((L.snoc a b d on).af j), .int .u32 ((L.snoc a b d on).on j)] := by
  unfold JL.snoc
  by_cases q : j < L.n
  · simp [q, jcells]
  · simp [q, jcells]
set_option maxRecDepth 20000 in
theorem PromT (L : JL) (c : Option Nat) (mm : Nat) (a b d on : Int) (hL : L.Ok) (h8 : L.n ≤ 200) (hm : 1 ≤ mm ∧ mm ≤ 16) (hab : ∀ i, i < L.n → 0 < (abL (L.on i) mm).length) (hab2 : 0 < (abL on mm).length)
    (ha : 1 ≤ a ∧ a ≤ 100000) (hb : 0 ≤ b ∧ b ≤ 100000) (hd : 0 ≤ d ∧ d ≤ 100000) (hon : 0 ≤ on ∧ on ≤ 7) :
    ToldOk P41 G41 17 [jv L c, .int .i64 mm, jT a b d on] (.tup [.int .i64 (prm L mm a d on), .int .i64 (if b < prm L mm a d on then 19 else 0)]) := by
  have hn := hL.n
  have hs : (L.snoc a b d on).Ok := by
    refine ⟨by show L.n + 1 ≤ 256; omega, fun j hj => ?_, fun j hj => ?_, fun j hj => ?_, fun j hj => ?_⟩
    all_goals
      show _ ≤ (if j < L.n then _ else _) ∧ (if j < L.n then _ else _) ≤ _
      by_cases q : j < L.n
      · rw [if_pos q]; first | exact hL.tm j q | exact hL.du j q | exact hL.af j q | exact hL.on j q
      · rw [if_neg q]; assumption
  have hcs := fun c' => chkT (L.snoc a b d on) c' mm hs hm fun i _ => by
    show 0 < (abL (if i < L.n then _ else _) mm).length
    by_cases q : i < L.n
    · rw [if_pos q]; exact hab i q
    · rw [if_neg q]; exact hab2
  have hp := planT L c mm hL hm hab
  have hg := giveT a b d on mm (plst L (oN L) mm L.n) (some mm) L.n hm.2 (fun j hj => by
    have := plst_bd hL (o := oN L) (mm := mm) L.n (fun j hj => oN_lt hj) j hj
    omega) (by omega) (by omega)
  have hview : ∀ (m : Nat) (get : Nat → List T) (c' : Option Nat), m = L.n + 1 → (∀ j, j < L.n + 1 → get j = if j < L.n then jcells (L.tm j) (L.du j) (L.af j) (L.on j) else jcells a b d on) → ToldOk P41 G41 25 [.view 4 m get c', .int .i64 mm] (.int .i64 0) := fun m get c' hm' hget => by
    subst hm'
    exact (hcs c').sim (.cons (.view (.inl rfl) fun j hj => by rw [hget j hj, snoc_get]; exact .refl _) (.cons (.refl _) .nil))
  unfold prm svT rvT at *
  generalize scells L (oN L) mm = y at *
  generalize plst L (oN L) mm L.n = rd at *
  generalize (gvR rd a d on mm).1 = x2 at *
  generalize (gvR rd a d on mm).2.1 = x3 at *
  generalize (gvR rd a d on mm).2.2 = x4 at *
  obtain ⟨p1, e1⟩ := told_pred P41 G41 25 (.int .i64 0)
  obtain ⟨p2, e2⟩ := told_pred P41 G41 26 (.tup [.new (.view 4 L.n y (some L.n)), .new (iv mm rd (some mm))])
  obtain ⟨p3, e3⟩ := told_pred P41 G41 27 (.agg [.int .i64 L.n, .int .i64 x2, .int .i64 x3, .int .i64 x4])
  refine stepL_told hm41 hn41 (K := K17 p1 p2 p3 (.tup [.new (.view 4 L.n y (some L.n)), .new (iv mm rd (some mm))]) (.agg [.int .i64 L.n, .int .i64 x2, .int .i64 x3, .int .i64 x4])) (told_add (told_add (told_add none_ok (callP_told (told_predT e1))) (callP_told (told_predT e2))) (callP_told (told_predT e3))) (A := A41) (m := 0) (by kernel_rfl) loops0 ?_
  refine Eq.trans (show stepL P41 G41 A41 (K17 p1 p2 p3 (.tup [.new (.view 4 L.n y (some L.n)), .new (iv mm rd (some mm))]) (.agg [.int .i64 L.n, .int .i64 x2, .int .i64 x3, .int .i64 x4])) 0 17 [] [jv L c, .int .i64 mm, jT a b d on] =
(
 bif decide ((0 : Int) ≤ IntKind.i64.wrap (Int.ofNat L.n + (1 : Int))) && decide (IntKind.i64.wrap (Int.ofNat L.n + (1 : Int)) * (32 : Int) ≤ (140737488355328 : Int)) && decide (IntKind.i64.wrap (Int.ofNat L.n + (1 : Int)) ≤ (9223372036854775807 : Int)) then
 bif L.n == (0 : Nat) then
 bif Nat.ble 1 (IntKind.i64.wrap (Int.ofNat L.n + (1 : Int))).toNat then
 bif Nat.ble 1 (IntKind.i64.wrap (Int.ofNat L.n + (1 : Int))).toNat then
 bif propF p1 [bif Nat.ble 1 (IntKind.i64.wrap (Int.ofNat L.n + (1 : Int))).toNat then T.view 4 1 (fun j =>
 bif Nat.ble 0 ((0 : Nat) + j) && ((0 : Nat) + j).blt 1 then List.map plainOr ([[T.int .i64 a, T.int .i64 b, T.int .i64 d, T.int .u32 on]].getD ((0 : Nat) + j - (0 : Nat)) [])
 else [T.int .i64 (0 : Int), T.int .i64 (0 : Int), T.int .i64 (0 : Int), T.int .u32 (0 : Int)]) (some (IntKind.i64.wrap (Int.ofNat L.n + (1 : Int))).toNat)
 else T.undef, T.int .i64 (Int.ofNat mm)] then
 bif propF p2 [jv L c, T.int .i64 (Int.ofNat mm)] then
 bif propF p3 [T.agg [T.int .i64 a, T.int .i64 b, T.int .i64 d, T.int .u32 on], T.int .i64 (Int.ofNat L.n), T.view 1 mm (fun j => [T.int .i64 (rd j)]) (some mm)] then
 bif decide (b < x4) then
 some (T.tup [T.int .i64 x4, T.int .i64 (19 : Int)])
 else
 some (T.tup [T.int .i64 x4, T.int .i64 (0 : Int)])
 else none else none else none else none else
 bif propF p1 [T.view 4 1 (fun j =>
 bif ((0 : Nat) + j).blt 0 then [T.int .i64 (0 : Int), T.int .i64 (0 : Int), T.int .i64 (0 : Int), T.int .u32 (0 : Int)]
 else List.map plainOr ([[T.int .i64 a, T.int .i64 b, T.int .i64 d, T.int .u32 on]].getD ((0 : Nat) + j - (0 : Nat)) []))
 none, T.int .i64 (Int.ofNat mm)] then
 bif propF p2 [jv L c, T.int .i64 (Int.ofNat mm)] then
 bif propF p3 [T.agg [T.int .i64 a, T.int .i64 b, T.int .i64 d, T.int .u32 on], T.int .i64 (Int.ofNat L.n), T.view 1 mm (fun j => [T.int .i64 (rd j)]) (some mm)] then
 bif decide (b < x4) then
 some (T.tup [T.int .i64 x4, T.int .i64 (19 : Int)])
 else
 some (T.tup [T.int .i64 x4, T.int .i64 (0 : Int)])
 else none else none else none else
 bif (((0 : Nat) + L.n) * (33 : Nat)).ble 70368744177664 then
 bif ((0 : Nat) + L.n).ble (IntKind.i64.wrap (Int.ofNat L.n + (1 : Int))).toNat then
 bif ((0 : Nat) + L.n).ble (IntKind.i64.wrap (Int.ofNat L.n + (1 : Int))).toNat then
 bif ((0 : Nat) + ((0 : Nat) + L.n)).ble (IntKind.i64.wrap (Int.ofNat L.n + (1 : Int))).toNat then
 bif (((0 : Nat) + L.n + (1 : Nat)) * (33 : Nat)).ble 70368744177664 then
 bif ((0 : Nat) + L.n + (1 : Nat)).ble (IntKind.i64.wrap (Int.ofNat L.n + (1 : Int))).toNat then
 bif ((0 : Nat) + ((0 : Nat) + L.n) + (1 : Nat)).ble (IntKind.i64.wrap (Int.ofNat L.n + (1 : Int))).toNat then
 bif propF p1 [bif ((0 : Nat) + ((0 : Nat) + L.n + (1 : Nat))).ble (IntKind.i64.wrap (Int.ofNat L.n + (1 : Int))).toNat then T.view 4 ((0 : Nat) + L.n + (1 : Nat)) (fun j =>
 bif ((0 : Nat) + ((0 : Nat) + L.n)).ble ((0 : Nat) + j) && ((0 : Nat) + j).blt ((0 : Nat) + ((0 : Nat) + L.n) + (1 : Nat)) then List.map plainOr ([[T.int .i64 a, T.int .i64 b, T.int .i64 d, T.int .u32 on]].getD ((0 : Nat) + j - ((0 : Nat) + ((0 : Nat) + L.n))) [])
 else
 bif Nat.ble 0 ((0 : Nat) + j) && ((0 : Nat) + j).blt ((0 : Nat) + L.n) then [T.int .i64 (L.tm ((0 : Nat) + j - (0 : Nat))), T.int .i64 (L.du ((0 : Nat) + j - (0 : Nat))), T.int .i64 (L.af ((0 : Nat) + j - (0 : Nat))), T.int .u32 (L.on ((0 : Nat) + j - (0 : Nat)))]
 else [T.int .i64 (0 : Int), T.int .i64 (0 : Int), T.int .i64 (0 : Int), T.int .u32 (0 : Int)]) (some (IntKind.i64.wrap (Int.ofNat L.n + (1 : Int))).toNat)
 else T.undef, T.int .i64 (Int.ofNat mm)] then
 bif propF p2 [jv L c, T.int .i64 (Int.ofNat mm)] then
 bif propF p3 [T.agg [T.int .i64 a, T.int .i64 b, T.int .i64 d, T.int .u32 on], T.int .i64 (Int.ofNat L.n), T.view 1 mm (fun j => [T.int .i64 (rd j)]) (some mm)] then
 bif decide (b < x4) then
 some (T.tup [T.int .i64 x4, T.int .i64 (19 : Int)])
 else
 some (T.tup [T.int .i64 x4, T.int .i64 (0 : Int)])
 else none else none else none else none else
 bif propF p1 [bif ((0 : Nat) + ((0 : Nat) + L.n + (1 : Nat))).ble ((0 : Nat) + L.n + (1 : Nat)) then T.view 4 ((0 : Nat) + L.n + (1 : Nat)) (fun j =>
 bif ((0 : Nat) + j).blt ((0 : Nat) + L.n) then
 bif Nat.ble 0 ((0 : Nat) + ((0 : Nat) + j)) && ((0 : Nat) + ((0 : Nat) + j)).blt ((0 : Nat) + L.n) then [T.int .i64 (L.tm ((0 : Nat) + ((0 : Nat) + j) - (0 : Nat))), T.int .i64 (L.du ((0 : Nat) + ((0 : Nat) + j) - (0 : Nat))), T.int .i64 (L.af ((0 : Nat) + ((0 : Nat) + j) - (0 : Nat))), T.int .u32 (L.on ((0 : Nat) + ((0 : Nat) + j) - (0 : Nat)))]
 else [T.int .i64 (0 : Int), T.int .i64 (0 : Int), T.int .i64 (0 : Int), T.int .u32 (0 : Int)]
 else List.map plainOr ([[T.int .i64 a, T.int .i64 b, T.int .i64 d, T.int .u32 on]].getD ((0 : Nat) + j - ((0 : Nat) + L.n)) [])) none else T.undef, T.int .i64 (Int.ofNat mm)] then
 bif propF p2 [jv L c, T.int .i64 (Int.ofNat mm)] then
 bif propF p3 [T.agg [T.int .i64 a, T.int .i64 b, T.int .i64 d, T.int .u32 on], T.int .i64 (Int.ofNat L.n), T.view 1 mm (fun j => [T.int .i64 (rd j)]) (some mm)] then
 bif decide (b < x4) then
 some (T.tup [T.int .i64 x4, T.int .i64 (19 : Int)])
 else
 some (T.tup [T.int .i64 x4, T.int .i64 (0 : Int)])
 else none else none else none else none else none else none else
 bif ((0 : Nat) + ((0 : Nat) + L.n)).ble ((0 : Nat) + L.n) then
 bif (((0 : Nat) + L.n + (1 : Nat)) * (33 : Nat)).ble 70368744177664 then
 bif ((0 : Nat) + ((0 : Nat) + L.n) + (1 : Nat)).ble ((0 : Nat) + L.n) then
 bif propF p1 [bif ((0 : Nat) + ((0 : Nat) + L.n + (1 : Nat))).ble ((0 : Nat) + L.n) then T.view 4 ((0 : Nat) + L.n + (1 : Nat)) (fun j =>
 bif ((0 : Nat) + ((0 : Nat) + L.n)).ble ((0 : Nat) + j) && ((0 : Nat) + j).blt ((0 : Nat) + ((0 : Nat) + L.n) + (1 : Nat)) then List.map plainOr ([[T.int .i64 a, T.int .i64 b, T.int .i64 d, T.int .u32 on]].getD ((0 : Nat) + j - ((0 : Nat) + ((0 : Nat) + L.n))) [])
 else [T.int .i64 (L.tm ((0 : Nat) + j - (0 : Nat))), T.int .i64 (L.du ((0 : Nat) + j - (0 : Nat))), T.int .i64 (L.af ((0 : Nat) + j - (0 : Nat))), T.int .u32 (L.on ((0 : Nat) + j - (0 : Nat)))]) none else T.undef, T.int .i64 (Int.ofNat mm)] then
 bif propF p2 [jv L c, T.int .i64 (Int.ofNat mm)] then
 bif propF p3 [T.agg [T.int .i64 a, T.int .i64 b, T.int .i64 d, T.int .u32 on], T.int .i64 (Int.ofNat L.n), T.view 1 mm (fun j => [T.int .i64 (rd j)]) (some mm)] then
 bif decide (b < x4) then
 some (T.tup [T.int .i64 x4, T.int .i64 (19 : Int)])
 else
 some (T.tup [T.int .i64 x4, T.int .i64 (0 : Int)])
 else none else none else none else
 bif propF p1 [bif ((0 : Nat) + ((0 : Nat) + L.n + (1 : Nat))).ble ((0 : Nat) + L.n + (1 : Nat)) then T.view 4 ((0 : Nat) + L.n + (1 : Nat)) (fun j =>
 bif ((0 : Nat) + j).blt ((0 : Nat) + L.n) then [T.int .i64 (L.tm ((0 : Nat) + ((0 : Nat) + j) - (0 : Nat))), T.int .i64 (L.du ((0 : Nat) + ((0 : Nat) + j) - (0 : Nat))), T.int .i64 (L.af ((0 : Nat) + ((0 : Nat) + j) - (0 : Nat))), T.int .u32 (L.on ((0 : Nat) + ((0 : Nat) + j) - (0 : Nat)))]
 else List.map plainOr ([[T.int .i64 a, T.int .i64 b, T.int .i64 d, T.int .u32 on]].getD ((0 : Nat) + j - ((0 : Nat) + L.n)) [])) none else T.undef, T.int .i64 (Int.ofNat mm)] then
 bif propF p2 [jv L c, T.int .i64 (Int.ofNat mm)] then
 bif propF p3 [T.agg [T.int .i64 a, T.int .i64 b, T.int .i64 d, T.int .u32 on], T.int .i64 (Int.ofNat L.n), T.view 1 mm (fun j => [T.int .i64 (rd j)]) (some mm)] then
 bif decide (b < x4) then
 some (T.tup [T.int .i64 x4, T.int .i64 (19 : Int)])
 else
 some (T.tup [T.int .i64 x4, T.int .i64 (0 : Int)])
 else none else none else none else none else none else none else
 none) from by kernel_rfl) ?_
  have fin : True → (bif propF p2 [jv L c, .int .i64 mm] then bif propF p3 [jT a b d on, .int .i64 L.n, iv mm rd (some mm)] then bif decide (b < x4) then some (T.tup [T.int IntKind.i64 x4, T.int IntKind.i64 (19 : Int)]) else some (T.tup [T.int IntKind.i64 x4, T.int IntKind.i64 (0 : Int)]) else none else none) = some (T.tup [.int .i64 x4, .int .i64 (if b < x4 then 19 else 0)]) := by
    intro _
    refine bift (pred_yes e2 hp) (bift (pred_yes e3 hg) ?_)
    exact bifd (fun q => by rw [if_pos q]) fun q => by rw [if_neg q]
  rw [show IntKind.i64.wrap (Int.ofNat L.n + (1 : Int)) = (L.n : Int) + 1 from wr64 (by rw [ofNatE]; omega) (by rw [ofNatE]; omega), toNatE1]
  by_cases q0 : L.n = 0
  · (repeat (first | (refine bift (by (simp (disch := omega) only [nbeq, nble, nblt, Bool.and_eq_true, decide_eq_true_eq, Nat.zero_add]; omega)) ?_) | (refine biff (by (simp (disch := omega) only [nbeq, nble, nblt, Nat.zero_add]; omega)) ?_)))
    refine bift (pred_yes e1 ?_) (fin trivial)
    rw [show Nat.ble 1 (L.n + 1) = true from bleT (by omega), cond_true]
    refine hview _ _ _ (by omega) fun j hj => ?_
    obtain rfl : j = 0 := by omega
    rw [if_neg (by omega)]
    rfl
  · (repeat (first | (refine bift (by (simp (disch := omega) only [nbeq, nble, nblt, Bool.and_eq_true, decide_eq_true_eq, Nat.zero_add]; omega)) ?_) | (refine biff (by (simp (disch := omega) only [nbeq, nble, nblt, Nat.zero_add]; omega)) ?_)))
    refine bift (pred_yes e1 ?_) (fin trivial)
    rw [show Nat.ble (0 + (0 + L.n + 1)) (L.n + 1) = true from bleT (by omega), cond_true]
    refine hview _ _ _ (by omega) fun j hj => ?_
    simp only [Nat.zero_add, Nat.sub_zero]
    by_cases q : j < L.n
    · rw [show Nat.ble L.n j = false from bleF (by omega), Bool.false_and, cond_false, show Nat.ble 0 j = true from bleT (by omega), bltT q, Bool.and_self, cond_true, if_pos q]
      rfl
    · obtain rfl : j = L.n := by omega
      rw [show Nat.ble L.n L.n = true from bleT (by omega), bltT (show L.n < L.n + 1 by omega), Bool.and_self, cond_true, if_neg q, Nat.sub_self]
      rfl
end Go.Ab

namespace Go.Ab
open Go.Proofs
/-- The machines of a job of the laws. -/
def onV (o : Nat) : Nat := if 1 < o % 4 then 1 + o % 3 + 4 * (o % 2) else 0
def exL : JL := ⟨fun j => [4, 2, 3, 1].getD j 0, fun j => [4, 3, 8, 6].getD j 0, fun _ => 0, fun _ => 0, 4⟩
def uJ (t d a o : Nat) : List T := [.int .u8 t, .int .u8 d, .int .u8 a, .int .u8 o]
theorem onV_le (o : Nat) : onV o ≤ 7 := by
  unfold onV
  split <;> omega
theorem ofT (t d a o : Nat) (ht : t < 256) (hd : d < 256) (ha : a < 256) (ho : o < 256) : ToldOk P41 G41 18 [.agg (uJ t d a o)] (jT (1 + t : Nat) d a (onV o : Nat)) := by
  refine stepL_told hm41 hn41 none_ok (K := noneO) (A := A41) (m := 0) (by kernel_rfl) loops0 ?_
  refine Eq.trans (show stepL P41 G41 A41 noneO 0 18 [] [.agg (uJ t d a o)] =
(
 bif decide ((1 : Int) < (Int.ofNat o).tmod (4 : Int)) then
 some (T.agg [T.int .i64 (IntKind.i64.wrap ((1 : Int) + IntKind.i64.wrap (Int.ofNat t))), T.int .i64 (IntKind.i64.wrap (Int.ofNat d)), T.int .i64 (IntKind.i64.wrap (Int.ofNat a)), T.int .u32 (IntKind.u32.wrap (IntKind.u8.wrap (IntKind.u8.wrap ((1 : Int) + (Int.ofNat o).tmod (3 : Int)) + IntKind.u8.wrap ((4 : Int) * (Int.ofNat o).tmod (2 : Int)))))])
 else
 some (T.agg [T.int .i64 (IntKind.i64.wrap ((1 : Int) + IntKind.i64.wrap (Int.ofNat t))), T.int .i64 (IntKind.i64.wrap (Int.ofNat d)), T.int .i64 (IntKind.i64.wrap (Int.ofNat a)), T.int .u32 (0 : Int)])) from by kernel_rfl) ?_
  have e4 : (Int.ofNat o).tmod (4 : Int) = ((o % 4 : Nat) : Int) := rfl
  have e3 : (Int.ofNat o).tmod (3 : Int) = ((o % 3 : Nat) : Int) := rfl
  have e2 : (Int.ofNat o).tmod (2 : Int) = ((o % 2 : Nat) : Int) := rfl
  rw [e4, e3, e2]
  have w1 : IntKind.i64.wrap (Int.ofNat t) = (t : Int) := wr64 (by rw [ofNatE]; omega) (by rw [ofNatE]; omega)
  have w2 : IntKind.i64.wrap (Int.ofNat d) = (d : Int) := wr64 (by rw [ofNatE]; omega) (by rw [ofNatE]; omega)
  have w3 : IntKind.i64.wrap (Int.ofNat a) = (a : Int) := wr64 (by rw [ofNatE]; omega) (by rw [ofNatE]; omega)
  have w4 : IntKind.i64.wrap ((1 : Int) + (t : Int)) = ((1 + t : Nat) : Int) := by rw [wr64 (by omega) (by omega)]; omega
  rw [w1, w2, w3, w4]
  unfold onV
  refine bifd (fun q => ?_) fun q => ?_
  · rw [if_pos (by omega)]
    rw [show IntKind.u8.wrap ((1 : Int) + ((o % 3 : Nat) : Int)) = (1 : Int) + ((o % 3 : Nat) : Int) from wr8 (by omega) (by omega),
      show IntKind.u8.wrap ((4 : Int) * ((o % 2 : Nat) : Int)) = (4 : Int) * ((o % 2 : Nat) : Int) from wr8 (by omega) (by omega),
      show IntKind.u8.wrap ((1 : Int) + ((o % 3 : Nat) : Int) + (4 : Int) * ((o % 2 : Nat) : Int)) = (1 : Int) + ((o % 3 : Nat) : Int) + (4 : Int) * ((o % 2 : Nat) : Int) from wr8 (by omega) (by omega),
      show IntKind.u32.wrap ((1 : Int) + ((o % 3 : Nat) : Int) + (4 : Int) * ((o % 2 : Nat) : Int)) = ((1 + o % 3 + 4 * (o % 2) : Nat) : Int) by rw [wr32 (by omega) (by omega)]; omega]
    rfl
  · rw [if_neg (by omega)]
    rfl
theorem exOk : exL.Ok := by
  refine ⟨by decide, fun j hj => ?_, fun j hj => ?_, fun j hj => ⟨Int.le_refl 0, show (0 : Int) ≤ 100000 by decide⟩, fun j hj => ⟨Int.le_refl 0, show (0 : Int) ≤ 7 by decide⟩⟩
  all_goals
    have hj : j < 4 := hj
    obtain rfl | rfl | rfl | rfl : j = 0 ∨ j = 1 ∨ j = 2 ∨ j = 3 := by omega
    all_goals decide
theorem exT : ToldOk P41 G41 21 [] (.new (jv exL (some 4))) := by
  have := (stepL_told (args := []) hm41 hn41 none_ok (K := noneO) (A := A41) (m := 0) (f := 21) (by kernel_rfl) loops0 (show stepL P41 G41 A41 noneO 0 21 [] [] = some (.fresh true 4 4 (fun j => [jcells 4 4 0 0, jcells 2 3 0 0, jcells 3 8 0 0, jcells 1 6 0 0].getD (0 + j) []) 4 (some 4)) from by kernel_rfl)).frz
  refine this.resTo (.new (.view (.inl rfl) fun j hj => ?_))
  obtain rfl | rfl | rfl | rfl : j = 0 ∨ j = 1 ∨ j = 2 ∨ j = 3 := by omega
  all_goals exact .refl _
end Go.Ab

namespace Go.Ab
open Go.Proofs
def v15 (n : Nat) (x y : Nat → Int) (c : Option Nat) (i : Int) : List T := [iv n x (some n), iv n y c, .int .i64 i]
theorem l15 (n : Nat) (x y : Nat → Int) (c : Option Nat) (hn : n ≤ 100000) (hxy : ∀ j, j < n → x j = y j) : LoopOk P41 G41 (A41 15) 15 4 (litS (v15 n x y c 0) [] (.exit 0) [.undef] []) := by
  refine loop_steps hm41 (by kernel_rfl) (fun i => v15 n x y c i) (fun _ => []) (n := n) (fun i hi => ?_) ?_
  · refine Step.mk0 (A := A41) (m := 0) none_ok rfl rfl loops0 (h1 := []) ?_ .nil
    refine Eq.trans (show iterR P41 G41 A41 noneO 0 15 [] 4 (v15 n x y c i) [] =
(
 bif decide (Int.ofNat i < Int.ofNat n) then
 bif decide ((0 : Int) ≤ Int.ofNat i) && decide (Int.ofNat i < Int.ofNat n) then
 bif decide ((0 : Int) ≤ Int.ofNat i) && decide (Int.ofNat i < Int.ofNat n) then
 bif !decide (x i = y i) then
 some ((Ex.ret, [T.bool false], []))
 else
 some ((Ex.normal, [T.view 1 n (fun j => [T.int .i64 (x j)]) (some n), T.view 1 n (fun j => [T.int .i64 (y j)]) c, T.int .i64 (IntKind.i64.wrap (Int.ofNat i + (1 : Int)))], []))
 else none else none else
 some ((Ex.exit 0, [T.undef], []))) from by kernel_rfl) ?_
    rw [dT (hxy i hi)]
    (repeat (first | (refine bift (by first | assumption | omega | (simp (disch := omega) only [wr64, wr8, wr16, wr32, ofNatE, toNatE, toNatE1, Bool.and_eq_true, Bool.or_eq_true, Bool.not_eq_true', decide_eq_true_eq, decide_eq_false_iff_not, nble, nblt, nbeq, Nat.zero_add, Nat.add_zero, Int.zero_add, Int.add_zero, List.length_cons, List.length_nil, true_and, and_true, Nat.reduceAdd, and_self]; done) | (simp (disch := omega) only [wr64, wr8, wr16, wr32, ofNatE, toNatE, toNatE1, Bool.and_eq_true, Bool.or_eq_true, Bool.not_eq_true', decide_eq_true_eq, decide_eq_false_iff_not, nble, nblt, nbeq, Nat.zero_add, Nat.add_zero, Int.zero_add, Int.add_zero, List.length_cons, List.length_nil, true_and, and_true, Nat.reduceAdd, and_self]; omega)) ?_) | (refine biff (by first | assumption | (simp (disch := omega) only [wr64, wr8, wr16, wr32, ofNatE, toNatE, toNatE1, Bool.and_eq_true, Bool.or_eq_true, Bool.not_eq_true', decide_eq_true_eq, decide_eq_false_iff_not, nble, nblt, nbeq, Nat.zero_add, Nat.add_zero, Int.zero_add, Int.add_zero, List.length_cons, List.length_nil, true_and, and_true, Nat.reduceAdd, and_self]; done) | (simp (disch := omega) only [wr64, wr8, wr16, wr32, ofNatE, toNatE, toNatE1, Bool.and_eq_true, Bool.or_eq_true, Bool.not_eq_true', decide_eq_true_eq, decide_eq_false_iff_not, nble, nblt, nbeq, Nat.zero_add, Nat.add_zero, Int.zero_add, Int.add_zero, List.length_cons, List.length_nil, true_and, and_true, Nat.reduceAdd, and_self]; omega)) ?_)))
    first | rfl | (simp (disch := omega) only [wr64, wr8, wr16, wr32, ofNatE, Nat.zero_add, bleT, bltT, dT, dF, Bool.true_and, Bool.and_true, Bool.and_self, cond_true, cond_false, Nat.sub_zero, beq_self_eq_true, Bool.not_true]; done) | (simp (disch := omega) only [wr64, wr8, wr16, wr32, ofNatE, Nat.zero_add, bleT, bltT, dT, dF, Bool.true_and, Bool.and_true, Bool.and_self, cond_true, cond_false, Nat.sub_zero, beq_self_eq_true, Bool.not_true]; rfl)
  · refine Last.mk0 (A := A41) (m := 0) none_ok rfl rfl loops0 (h1 := []) (by simp) ?_ .nil
    refine Eq.trans (show iterR P41 G41 A41 noneO 0 15 [] 4 (v15 n x y c (n : Int)) [] =
(
 bif decide (Int.ofNat n < Int.ofNat n) then
 bif decide ((0 : Int) ≤ Int.ofNat n) && decide (Int.ofNat n < Int.ofNat n) then
 bif decide ((0 : Int) ≤ Int.ofNat n) && decide (Int.ofNat n < Int.ofNat n) then
 bif !decide (x n = y n) then
 some ((Ex.ret, [T.bool false], []))
 else
 some ((Ex.normal, [T.view 1 n (fun j => [T.int .i64 (x j)]) (some n), T.view 1 n (fun j => [T.int .i64 (y j)]) c, T.int .i64 (IntKind.i64.wrap (Int.ofNat n + (1 : Int)))], []))
 else none else none else
 some ((Ex.exit 0, [T.undef], []))) from by kernel_rfl) ?_
    (repeat (first | (refine bift (by first | assumption | omega | (simp (disch := omega) only [wr64, wr8, wr16, wr32, ofNatE, toNatE, toNatE1, Bool.and_eq_true, Bool.or_eq_true, Bool.not_eq_true', decide_eq_true_eq, decide_eq_false_iff_not, nble, nblt, nbeq, Nat.zero_add, Nat.add_zero, Int.zero_add, Int.add_zero, List.length_cons, List.length_nil, true_and, and_true, Nat.reduceAdd, and_self]; done) | (simp (disch := omega) only [wr64, wr8, wr16, wr32, ofNatE, toNatE, toNatE1, Bool.and_eq_true, Bool.or_eq_true, Bool.not_eq_true', decide_eq_true_eq, decide_eq_false_iff_not, nble, nblt, nbeq, Nat.zero_add, Nat.add_zero, Int.zero_add, Int.add_zero, List.length_cons, List.length_nil, true_and, and_true, Nat.reduceAdd, and_self]; omega)) ?_) | (refine biff (by first | assumption | (simp (disch := omega) only [wr64, wr8, wr16, wr32, ofNatE, toNatE, toNatE1, Bool.and_eq_true, Bool.or_eq_true, Bool.not_eq_true', decide_eq_true_eq, decide_eq_false_iff_not, nble, nblt, nbeq, Nat.zero_add, Nat.add_zero, Int.zero_add, Int.add_zero, List.length_cons, List.length_nil, true_and, and_true, Nat.reduceAdd, and_self]; done) | (simp (disch := omega) only [wr64, wr8, wr16, wr32, ofNatE, toNatE, toNatE1, Bool.and_eq_true, Bool.or_eq_true, Bool.not_eq_true', decide_eq_true_eq, decide_eq_false_iff_not, nble, nblt, nbeq, Nat.zero_add, Nat.add_zero, Int.zero_add, Int.add_zero, List.length_cons, List.length_nil, true_and, and_true, Nat.reduceAdd, and_self]; omega)) ?_)))
    first | rfl | (simp (disch := omega) only [wr64, wr8, wr16, wr32, ofNatE, Nat.zero_add, bleT, bltT, dT, dF, Bool.true_and, Bool.and_true, Bool.and_self, cond_true, cond_false, Nat.sub_zero, beq_self_eq_true]; done) | (simp (disch := omega) only [wr64, wr8, wr16, wr32, ofNatE, Nat.zero_add, bleT, bltT, dT, dF, Bool.true_and, Bool.and_true, Bool.and_self, cond_true, cond_false, Nat.sub_zero, beq_self_eq_true]; rfl)
theorem sameT (n : Nat) (x y : Nat → Int) (c : Option Nat) (hn : n ≤ 100000) (hxy : ∀ j, j < n → x j = y j) : ToldOk P41 G41 15 [iv n x (some n), iv n y c] (.bool true) := by
  have hl := l15 n x y c hn hxy
  refine stepL_told hm41 hn41 none_ok (K := noneO) (A := A41) (m := 0) (by kernel_rfl) (loops1 hl) ?_
  refine Eq.trans (show stepL P41 G41 A41 noneO 0 15 [(4, litS (v15 n x y c 0) [] (.exit 0) [.undef] [])] [iv n x (some n), iv n y c] =
(
 bif !decide (Int.ofNat n = Int.ofNat n) then
 some (T.bool false)
 else
 bif !decide (Int.ofNat n = Int.ofNat n) then
 some (T.bool false)
 else
 bif weakF [T.view 1 n (fun j => [T.int .i64 (x j)]) (some n), T.view 1 n (fun j => [T.int .i64 (y j)]) c, T.int .i64 (0 : Int)] [] [T.view 1 n (fun j => [T.int .i64 (x j)]) (some n), T.view 1 n (fun j => [T.int .i64 (y j)]) c, T.int .i64 (0 : Int)] [] then
 some (T.bool true)
 else
 none) from by kernel_rfl) ?_
  rw [dT (rfl : Int.ofNat n = Int.ofNat n)]
  simp only [Bool.not_true, cond_false]
  exact bift (weakF_of ⟨rfl, .refl _⟩) rfl
end Go.Ab

namespace Go.Ab
open Go.Proofs
/-- Jobs of the laws, as they are given. -/
structure JR where
  t : Nat → Nat
  d : Nat → Nat
  a : Nat → Nat
  o : Nat → Nat
  n : Nat
def JR.v (R : JR) (c : Option Nat) : T := .view 4 R.n (fun j => uJ (R.t j) (R.d j) (R.a j) (R.o j)) c
def JR.L (R : JR) (m : Nat) : JL := ⟨fun j => (1 + R.t j : Nat), fun j => (R.d j : Nat), fun j => (R.a j : Nat), fun j => (onV (R.o j) : Nat), m⟩
def v9 (R : JR) (c : Option Nat) (x : T) (i : Int) : List T := [R.v c, x, .int .i64 i]
def jb (v nd : Nat) (get : Nat → List T) : Blk := ⟨v, 4, nd, get, true, false⟩
noncomputable def K9 (p : List T → Prop) (r : T) : Orc := noneO.add 18 (callP p r)
def gc (R : JR) (j : Nat) : List T := jcells (1 + R.t j : Nat) (R.d j : Nat) (R.a j : Nat) (onV (R.o j) : Nat)
structure JR.Ok (R : JR) : Prop where
  t : ∀ j, R.t j < 256
  d : ∀ j, R.d j < 256
  a : ∀ j, R.a j < 256
  o : ∀ j, R.o j < 256
def tb9 (x : List T) : Blk := ⟨0, 4, 1, fun j => [x].getD j [], true, true⟩
theorem s9z (R : JR) (c : Option Nat) (hR : R.Ok) (hn : 0 < R.n) : Step P41 G41 (A41 9) 9 3 0 (v9 R c .nils 0) [] (v9 R c (.own 0 0 0 1 none) 1) [jb 0 1 (fun j => [gc R 0].getD (0 + j) [])] := by
  have ht := ofT _ _ _ _ (hR.t 0) (hR.d 0) (hR.a 0) (hR.o 0)
  unfold gc
  generalize ((1 + R.t 0 : Nat) : Int) = a at *
  generalize ((R.d 0 : Nat) : Int) = b at *
  generalize ((R.a 0 : Nat) : Int) = d at *
  generalize ((onV (R.o 0) : Nat) : Int) = on at *
  obtain ⟨p, e⟩ := told_pred P41 G41 18 (jT a b d on)
  refine Step.mkC (A := A41) (m := 0) (told_add none_ok (callP_told (told_predT e))) rfl rfl loops0 [1] (K := K9 p (jT a b d on)) (v2 := v9 R c (.own 0 0 0 1 none) 1) (h2 := [jb 0 1 (fun j => [jcells a b d on].getD (0 + j) [])])
    (v1 := v9 R c (.own 1 0 0 1 none) 1) (h1 := [tb9 (jcells a b d on), jb 0 1 (fun j => [jcells a b d on].getD (0 + j) [])]) (Eq.trans (show iterR P41 G41 A41 (K9 p (jT a b d on)) 0 9 [] 3 (v9 R c .nils 0) [] =
(
 bif decide ((0 : Int) < Int.ofNat R.n) then
 bif decide ((0 : Int) < Int.ofNat R.n) then
 bif propF p [T.agg [T.int .u8 (Int.ofNat (R.t (0 : Nat))), T.int .u8 (Int.ofNat (R.d (0 : Nat))), T.int .u8 (Int.ofNat (R.a (0 : Nat))), T.int .u8 (Int.ofNat (R.o (0 : Nat)))]] then
 some ((Ex.normal, [T.view 4 R.n (fun j => [T.int .u8 (Int.ofNat (R.t j)), T.int .u8 (Int.ofNat (R.d j)), T.int .u8 (Int.ofNat (R.a j)), T.int .u8 (Int.ofNat (R.o j))]) c, T.own [Blk.mk 0 4 1 (fun j => [[T.int .i64 a, T.int .i64 b, T.int .i64 d, T.int .u32 on]].getD j []) true true].length (0 : Nat) (0 : Nat) (1 : Nat)
 none, T.int .i64 (1 : Int)], [Blk.mk 0 4 1 (fun j => [[T.int .i64 a, T.int .i64 b, T.int .i64 d, T.int .u32 on]].getD j []) true true, Blk.mk 0 4 1 (fun j => [[T.int .i64 a, T.int .i64 b, T.int .i64 d, T.int .u32 on]].getD ((0 : Nat) + j) []) true false]))
 else none else none else
 some ((Ex.exit 0, [T.nils], []))) from by kernel_rfl) ?_) (by rfl) (by rfl) (by rfl) fun nt => .same (.refl _)
  refine bift (by simp only [ofNatE, decide_eq_true_eq]; omega) ?_
  refine bift (by simp only [ofNatE, decide_eq_true_eq]; omega) ?_
  refine bift (pred_yes e ht) ?_
  first | rfl | (simp (disch := omega) only [wr64, wr8, wr16, wr32, ofNatE]; done) | (simp (disch := omega) only [wr64, wr8, wr16, wr32, ofNatE]; rfl)
def ap9 (get : Nat → List T) (i : Nat) (x : List T) : Nat → List T := fun j => if j = i then x else get j
theorem s9a (R : JR) (c : Option Nat) (hR : R.Ok) (i v nd : Nat) (get : Nat → List T) (hn : i < R.n) (h40 : i < 40) (hnd : i ≤ nd) :
    ∃ v' nd' get', i + 1 ≤ nd' ∧ (∀ j, j < i + 1 → get' j = ap9 get i (gc R i) j) ∧ Step P41 G41 (A41 9) 9 3 0 (v9 R c (.own 0 v 0 i none) i) [jb v nd get] (v9 R c (.own 0 v' 0 (i + 1) none) (i + 1 : Nat)) [jb v' nd' get'] := by
  have ht := ofT _ _ _ _ (hR.t i) (hR.d i) (hR.a i) (hR.o i)
  unfold gc
  generalize ((1 + R.t i : Nat) : Int) = a at *
  generalize ((R.d i : Nat) : Int) = b at *
  generalize ((R.a i : Nat) : Int) = d at *
  generalize ((onV (R.o i) : Nat) : Int) = on at *
  obtain ⟨p, e⟩ := told_pred P41 G41 18 (jT a b d on)
  by_cases q : i + 1 ≤ nd
  · refine ⟨v, nd, fun j => bif Nat.ble (0 + i) j && Nat.blt j (0 + i + 1) then [jcells a b d on].getD (0 + (j - (0 + i))) [] else get j, q, fun j hj => ?_, Step.mkC (A := A41) (m := 0) (told_add none_ok (callP_told (told_predT e))) rfl rfl loops0 [0] (K := K9 p (jT a b d on)) (v2 := v9 R c (.own 0 v 0 (i + 1) none) (i + 1 : Nat)) (h2 := [jb v nd (fun j => bif Nat.ble (0 + i) j && Nat.blt j (0 + i + 1) then [jcells a b d on].getD (0 + (j - (0 + i))) [] else get j)])
      (v1 := v9 R c (.own 0 v 0 (i + 1) none) (i + 1 : Nat)) (h1 := [jb v nd (fun j => bif Nat.ble (0 + i) j && Nat.blt j (0 + i + 1) then [jcells a b d on].getD (0 + (j - (0 + i))) [] else get j), tb9 (jcells a b d on)]) (Eq.trans (show iterR P41 G41 A41 (K9 p (jT a b d on)) 0 9 [] 3 (v9 R c (.own 0 v 0 i none) i) [jb v nd get] =
(
 bif decide (Int.ofNat i < Int.ofNat R.n) then
 bif decide (Int.ofNat i < (40 : Int)) then
 bif decide ((0 : Int) ≤ Int.ofNat i) && decide (Int.ofNat i < Int.ofNat R.n) then
 bif propF p [T.agg [T.int .u8 (Int.ofNat (R.t i)), T.int .u8 (Int.ofNat (R.d i)), T.int .u8 (Int.ofNat (R.a i)), T.int .u8 (Int.ofNat (R.o i))]] then
 bif v == v then
 bif ((0 : Nat) + i).ble nd then
 bif ((i + (1 : Nat)) * (33 : Nat)).ble 70368744177664 then
 bif ((0 : Nat) + i + (1 : Nat)).ble nd then
 some ((Ex.normal, [T.view 4 R.n (fun j => [T.int .u8 (Int.ofNat (R.t j)), T.int .u8 (Int.ofNat (R.d j)), T.int .u8 (Int.ofNat (R.a j)), T.int .u8 (Int.ofNat (R.o j))]) c, T.own 0 v 0 (i + (1 : Nat))
 none, T.int .i64 (IntKind.i64.wrap (Int.ofNat i + (1 : Int)))], [Blk.mk v 4 nd (fun j =>
 bif ((0 : Nat) + i).ble j && j.blt ((0 : Nat) + i + (1 : Nat)) then [[T.int .i64 a, T.int .i64 b, T.int .i64 d, T.int .u32 on]].getD ((0 : Nat) + (j - ((0 : Nat) + i))) []
 else get j) true false, Blk.mk 0 4 1 (fun j => [[T.int .i64 a, T.int .i64 b, T.int .i64 d, T.int .u32 on]].getD j []) true true]))
 else
 some ((Ex.normal, [T.view 4 R.n (fun j => [T.int .u8 (Int.ofNat (R.t j)), T.int .u8 (Int.ofNat (R.d j)), T.int .u8 (Int.ofNat (R.a j)), T.int .u8 (Int.ofNat (R.o j))]) c, T.own 0 (v + (1 : Nat)) (0 : Nat) (i + (1 : Nat))
 none, T.int .i64 (IntKind.i64.wrap (Int.ofNat i + (1 : Int)))], [Blk.mk (v + (1 : Nat)) (4 : Nat) (i + (1 : Nat)) (fun j =>
 bif j.blt i then get ((0 : Nat) + j)
 else [[T.int .i64 a, T.int .i64 b, T.int .i64 d, T.int .u32 on]].getD ((0 : Nat) + (j - i)) []) true false, Blk.mk 0 4 1 (fun j => [[T.int .i64 a, T.int .i64 b, T.int .i64 d, T.int .u32 on]].getD j []) true true]))
 else none else none else none else none else none else
 some ((Ex.exit 0, [T.own 0 v 0 i
 none], [Blk.mk v 4 nd get true false]))
 else
 some ((Ex.exit 0, [T.own 0 v 0 i
 none], [Blk.mk v 4 nd get true false]))) from by kernel_rfl) ?_) (by rfl) (by rfl) (by rfl) fun nt => .same (.refl _)⟩
    · unfold ap9
      simp only
      by_cases qj : j = i
      · subst qj
        rw [if_pos rfl, Nat.zero_add, show Nat.ble j j = true from bleT (by omega), bltT (show j < j + 1 by omega), Nat.sub_self]
        rfl
      · rw [if_neg qj, Nat.zero_add, show Nat.ble i j = false from bleF (by omega)]
        rfl
    · refine bift (by simp only [ofNatE, decide_eq_true_eq]; omega) ?_
      refine bift (by simp only [ofNatE, decide_eq_true_eq]; omega) ?_
      refine bift (by simp only [ofNatE, Bool.and_eq_true, decide_eq_true_eq]; omega) ?_
      refine bift (pred_yes e ht) ?_
      refine bift (beq_self_eq_true _) ?_
      refine bift (bleT (by omega)) ?_
      refine bift (bleT (by omega)) ?_
      refine bift (bleT (by omega)) ?_
      first | rfl | (simp (disch := omega) only [wr64, wr8, wr16, wr32, ofNatE]; done) | (simp (disch := omega) only [wr64, wr8, wr16, wr32, ofNatE]; rfl)
  · refine ⟨v + 1, i + 1, fun j => bif Nat.blt j i then get (0 + j) else [jcells a b d on].getD (0 + (j - i)) [], Nat.le_refl _, fun j hj => ?_, Step.mkC (A := A41) (m := 0) (told_add none_ok (callP_told (told_predT e))) rfl rfl loops0 [0] (K := K9 p (jT a b d on)) (v2 := v9 R c (.own 0 (v + 1) 0 (i + 1) none) (i + 1 : Nat)) (h2 := [jb (v + 1) (i + 1) (fun j => bif Nat.blt j i then get (0 + j) else [jcells a b d on].getD (0 + (j - i)) [])])
      (v1 := v9 R c (.own 0 (v + 1) 0 (i + 1) none) (i + 1 : Nat)) (h1 := [jb (v + 1) (i + 1) (fun j => bif Nat.blt j i then get (0 + j) else [jcells a b d on].getD (0 + (j - i)) []), tb9 (jcells a b d on)]) (Eq.trans (show iterR P41 G41 A41 (K9 p (jT a b d on)) 0 9 [] 3 (v9 R c (.own 0 v 0 i none) i) [jb v nd get] =
(
 bif decide (Int.ofNat i < Int.ofNat R.n) then
 bif decide (Int.ofNat i < (40 : Int)) then
 bif decide ((0 : Int) ≤ Int.ofNat i) && decide (Int.ofNat i < Int.ofNat R.n) then
 bif propF p [T.agg [T.int .u8 (Int.ofNat (R.t i)), T.int .u8 (Int.ofNat (R.d i)), T.int .u8 (Int.ofNat (R.a i)), T.int .u8 (Int.ofNat (R.o i))]] then
 bif v == v then
 bif ((0 : Nat) + i).ble nd then
 bif ((i + (1 : Nat)) * (33 : Nat)).ble 70368744177664 then
 bif ((0 : Nat) + i + (1 : Nat)).ble nd then
 some ((Ex.normal, [T.view 4 R.n (fun j => [T.int .u8 (Int.ofNat (R.t j)), T.int .u8 (Int.ofNat (R.d j)), T.int .u8 (Int.ofNat (R.a j)), T.int .u8 (Int.ofNat (R.o j))]) c, T.own 0 v 0 (i + (1 : Nat))
 none, T.int .i64 (IntKind.i64.wrap (Int.ofNat i + (1 : Int)))], [Blk.mk v 4 nd (fun j =>
 bif ((0 : Nat) + i).ble j && j.blt ((0 : Nat) + i + (1 : Nat)) then [[T.int .i64 a, T.int .i64 b, T.int .i64 d, T.int .u32 on]].getD ((0 : Nat) + (j - ((0 : Nat) + i))) []
 else get j) true false, Blk.mk 0 4 1 (fun j => [[T.int .i64 a, T.int .i64 b, T.int .i64 d, T.int .u32 on]].getD j []) true true]))
 else
 some ((Ex.normal, [T.view 4 R.n (fun j => [T.int .u8 (Int.ofNat (R.t j)), T.int .u8 (Int.ofNat (R.d j)), T.int .u8 (Int.ofNat (R.a j)), T.int .u8 (Int.ofNat (R.o j))]) c, T.own 0 (v + (1 : Nat)) (0 : Nat) (i + (1 : Nat))
 none, T.int .i64 (IntKind.i64.wrap (Int.ofNat i + (1 : Int)))], [Blk.mk (v + (1 : Nat)) (4 : Nat) (i + (1 : Nat)) (fun j =>
 bif j.blt i then get ((0 : Nat) + j)
 else [[T.int .i64 a, T.int .i64 b, T.int .i64 d, T.int .u32 on]].getD ((0 : Nat) + (j - i)) []) true false, Blk.mk 0 4 1 (fun j => [[T.int .i64 a, T.int .i64 b, T.int .i64 d, T.int .u32 on]].getD j []) true true]))
 else none else none else none else none else none else
 some ((Ex.exit 0, [T.own 0 v 0 i
 none], [Blk.mk v 4 nd get true false]))
 else
 some ((Ex.exit 0, [T.own 0 v 0 i
 none], [Blk.mk v 4 nd get true false]))) from by kernel_rfl) ?_) (by rfl) (by rfl) (by rfl) fun nt => .same (.refl _)⟩
    · unfold ap9
      simp only
      by_cases qj : j = i
      · subst qj
        rw [if_pos rfl, bltF (show j ≤ j by omega), Nat.sub_self]
        rfl
      · rw [if_neg qj, bltT (show j < i by omega), Nat.zero_add]
        rfl
    · refine bift (by simp only [ofNatE, decide_eq_true_eq]; omega) ?_
      refine bift (by simp only [ofNatE, decide_eq_true_eq]; omega) ?_
      refine bift (by simp only [ofNatE, Bool.and_eq_true, decide_eq_true_eq]; omega) ?_
      refine bift (pred_yes e ht) ?_
      refine bift (beq_self_eq_true _) ?_
      refine bift (bleT (by omega)) ?_
      refine bift (bleT (by omega)) ?_
      refine biff (by rw [nble]; omega) ?_
      first | rfl | (simp (disch := omega) only [wr64, wr8, wr16, wr32, ofNatE]; done) | (simp (disch := omega) only [wr64, wr8, wr16, wr32, ofNatE]; rfl)
end Go.Ab

namespace Go.Ab
open Go.Proofs
/-- Where the loop of list stands. -/
inductive P9 (R : JR) (c : Option Nat) (i : Nat) : List T → Heap → Prop
  | z (hi : i = 0) : P9 R c i (v9 R c .nils (i : Nat)) []
  | a (hi : 0 < i) (v nd : Nat) (get : Nat → List T) (hn : i ≤ nd) (hg : ∀ j, j < i → get j = gc R j) : P9 R c i (v9 R c (.own 0 v 0 i none) (i : Nat)) [jb v nd get]
inductive E9 (R : JR) (m : Nat) : List T → Heap → Prop
  | z (hi : m = 0) : E9 R m [.nils] []
  | a (v nd : Nat) (get : Nat → List T) (hn : m ≤ nd) (hg : ∀ j, j < m → get j = gc R j) : E9 R m [.own 0 v 0 m none] [jb v nd get]
theorem x9z (R : JR) (c : Option Nat) (i : Nat) (hi : R.n ≤ i ∨ 40 ≤ i) : Last P41 G41 (A41 9) 9 3 0 (v9 R c .nils i) [] (.exit 0) [.nils] [] := by
  refine Last.mk0 (A := A41) (m := 0) none_ok rfl rfl loops0 (by simp) (Eq.trans (show iterR P41 G41 A41 noneO 0 9 [] 3 (v9 R c .nils i) [] =
(
 bif decide (Int.ofNat i < Int.ofNat R.n) then
 bif decide (Int.ofNat i < (40 : Int)) then
 bif decide ((0 : Int) ≤ Int.ofNat i) && decide (Int.ofNat i < Int.ofNat R.n) then none else none else
 some ((Ex.exit 0, [T.nils], []))
 else
 some ((Ex.exit 0, [T.nils], []))) from by kernel_rfl) ?_) (.refl _)
  refine bifd (fun q => ?_) fun q => rfl
  rw [ofNatE, ofNatE] at q
  refine biff (by simp only [ofNatE, decide_eq_true_eq]; omega) rfl
theorem x9a (R : JR) (c : Option Nat) (i v nd : Nat) (get : Nat → List T) (hi : R.n ≤ i ∨ 40 ≤ i) : Last P41 G41 (A41 9) 9 3 0 (v9 R c (.own 0 v 0 i none) i) [jb v nd get] (.exit 0) [.own 0 v 0 i none] [jb v nd get] := by
  refine Last.mk0 (A := A41) (m := 0) none_ok rfl rfl loops0 (by simp) (Eq.trans (show iterR P41 G41 A41 noneO 0 9 [] 3 (v9 R c (.own 0 v 0 i none) i) [jb v nd get] =
(
 bif decide (Int.ofNat i < Int.ofNat R.n) then
 bif decide (Int.ofNat i < (40 : Int)) then
 bif decide ((0 : Int) ≤ Int.ofNat i) && decide (Int.ofNat i < Int.ofNat R.n) then none else none else
 some ((Ex.exit 0, [T.own 0 v 0 i
 none], [Blk.mk v 4 nd get true false]))
 else
 some ((Ex.exit 0, [T.own 0 v 0 i
 none], [Blk.mk v 4 nd get true false]))) from by kernel_rfl) ?_) (.refl _)
  refine bifd (fun q => ?_) fun q => rfl
  rw [ofNatE, ofNatE] at q
  refine biff (by simp only [ofNatE, decide_eq_true_eq]; omega) rfl
theorem l9 (R : JR) (c : Option Nat) (hR : R.Ok) : ∃ vs1 h1, E9 R (Nat.min R.n 40) vs1 h1 ∧ LoopOk P41 G41 (A41 9) 9 3 (litS (v9 R c .nils 0) [] (.exit 0) vs1 h1) := by
  have hmin : Nat.min R.n 40 ≤ R.n ∧ Nat.min R.n 40 ≤ 40 ∧ (Nat.min R.n 40 = R.n ∨ Nat.min R.n 40 = 40) := by
    have : Nat.min R.n 40 = min R.n 40 := rfl
    omega
  generalize Nat.min R.n 40 = m at *
  obtain ⟨e, vs1, h1, ⟨rfl, hE⟩, hl⟩ := loop_exists (P := P41) (Gl := G41) (an := A41 9) hm41 (f := 9) (r := 3) (k := 0) (by kernel_rfl) (fun n vs h => ∃ i, i ≤ m ∧ n = m - i ∧ P9 R c i vs h) (fun e vs h => e = .exit 0 ∧ E9 R m vs h)
    (fun n vs h ⟨i, hi, hn, hp⟩ => by
      rcases Nat.lt_or_ge i m with q | q
      · left
        cases hp with
        | z hz =>
          subst hz
          exact ⟨m - 1, _, _, by omega, s9z R c hR (by omega), 1, by omega, rfl, .a (by omega) _ _ _ (Nat.le_refl _) fun j hj => by
            obtain rfl : j = 0 := by omega
            rfl⟩
        | a h0 v nd get hnd hg =>
          obtain ⟨v', nd', get', q1, q2, q3⟩ := s9a R c hR i v nd get (by omega) (by omega) hnd
          refine ⟨m - (i + 1), _, _, by omega, q3, i + 1, by omega, rfl, .a (by omega) _ _ _ q1 fun j hj => ?_⟩
          rw [q2 j hj]
          unfold ap9
          by_cases qj : j = i
          · rw [if_pos qj, qj]
          · rw [if_neg qj, hg j (by omega)]
      · right
        obtain rfl : i = m := by omega
        cases hp with
        | z hz => exact ⟨_, _, _, x9z R c i (by omega), rfl, .z hz⟩
        | a _ v nd get hnd hg => exact ⟨_, _, _, x9a R c i v nd get (by omega), rfl, .a v nd get hnd hg⟩)
    (n := m) (vs := v9 R c .nils 0) (h := []) rfl ⟨0, by omega, by omega, .z rfl⟩
  exact ⟨vs1, h1, hE, hl⟩
theorem listT (R : JR) (c : Option Nat) (hR : R.Ok) : ToldOk P41 G41 9 [R.v c] (.new (jv (R.L (Nat.min R.n 40)) none)) := by
  obtain ⟨vs1, h1, hE, hl⟩ := l9 R c hR
  generalize Nat.min R.n 40 = m at *
  cases hE with
  | z hz =>
    subst hz
    have := stepL_told (args := [R.v c]) (r := .nils) hm41 hn41 none_ok (K := noneO) (A := A41) (m := 0) (by kernel_rfl) (loops1 hl) (Eq.trans (show stepL P41 G41 A41 noneO 0 9 [(3, litS (v9 R c .nils 0) [] (.exit 0) [.nils] [])] [R.v c] =
(
 bif weakF [T.view 4 R.n (fun j => [T.int .u8 (Int.ofNat (R.t j)), T.int .u8 (Int.ofNat (R.d j)), T.int .u8 (Int.ofNat (R.a j)), T.int .u8 (Int.ofNat (R.o j))]) c, T.nils, T.int .i64 (0 : Int)] [] [T.view 4 R.n (fun j => [T.int .u8 (Int.ofNat (R.t j)), T.int .u8 (Int.ofNat (R.d j)), T.int .u8 (Int.ofNat (R.a j)), T.int .u8 (Int.ofNat (R.o j))]) c, T.nils, T.int .i64 (0 : Int)] [] then
 some (T.nils)
 else
 none) from by kernel_rfl) (bift (weakF_of ⟨rfl, .refl _⟩) rfl))
    exact this.resTo (.niln _ _ _ (.inl rfl))
  | a v nd get hn hg =>
    have := (stepL_told (args := [R.v c]) (r := .fresh true 4 nd (fun j => get (0 + j)) m none) hm41 hn41 none_ok (K := noneO) (A := A41) (m := 0) (by kernel_rfl) (loops1 hl) (Eq.trans (show stepL P41 G41 A41 noneO 0 9 [(3, litS (v9 R c .nils 0) [] (.exit 0) [.own 0 v 0 m none] [jb v nd get])] [R.v c] =
(
 bif weakF [T.view 4 R.n (fun j => [T.int .u8 (Int.ofNat (R.t j)), T.int .u8 (Int.ofNat (R.d j)), T.int .u8 (Int.ofNat (R.a j)), T.int .u8 (Int.ofNat (R.o j))]) c, T.nils, T.int .i64 (0 : Int)] [] [T.view 4 R.n (fun j => [T.int .u8 (Int.ofNat (R.t j)), T.int .u8 (Int.ofNat (R.d j)), T.int .u8 (Int.ofNat (R.a j)), T.int .u8 (Int.ofNat (R.o j))]) c, T.nils, T.int .i64 (0 : Int)] [] then
 some (bif v == v && ((0 : Nat) + m).ble nd then T.fresh true (4 : Nat) (nd - (0 : Nat)) (fun j => get ((0 : Nat) + j)) m none else T.undef)
 else
 none) from by kernel_rfl) (by
      refine bift (weakF_of ⟨rfl, .refl _⟩) ?_
      (repeat (first | (refine bift (by first | assumption | omega | (simp (disch := omega) only [wr64, wr8, wr16, wr32, ofNatE, toNatE, toNatE1, Bool.and_eq_true, Bool.or_eq_true, Bool.not_eq_true', decide_eq_true_eq, decide_eq_false_iff_not, nble, nblt, nbeq, Nat.zero_add, Nat.add_zero, Int.zero_add, Int.add_zero, List.length_cons, List.length_nil, true_and, and_true, Nat.reduceAdd, and_self]; done) | (simp (disch := omega) only [wr64, wr8, wr16, wr32, ofNatE, toNatE, toNatE1, Bool.and_eq_true, Bool.or_eq_true, Bool.not_eq_true', decide_eq_true_eq, decide_eq_false_iff_not, nble, nblt, nbeq, Nat.zero_add, Nat.add_zero, Int.zero_add, Int.add_zero, List.length_cons, List.length_nil, true_and, and_true, Nat.reduceAdd, and_self]; omega)) ?_) | (refine biff (by first | assumption | (simp (disch := omega) only [wr64, wr8, wr16, wr32, ofNatE, toNatE, toNatE1, Bool.and_eq_true, Bool.or_eq_true, Bool.not_eq_true', decide_eq_true_eq, decide_eq_false_iff_not, nble, nblt, nbeq, Nat.zero_add, Nat.add_zero, Int.zero_add, Int.add_zero, List.length_cons, List.length_nil, true_and, and_true, Nat.reduceAdd, and_self]; done) | (simp (disch := omega) only [wr64, wr8, wr16, wr32, ofNatE, toNatE, toNatE1, Bool.and_eq_true, Bool.or_eq_true, Bool.not_eq_true', decide_eq_true_eq, decide_eq_false_iff_not, nble, nblt, nbeq, Nat.zero_add, Nat.add_zero, Int.zero_add, Int.add_zero, List.length_cons, List.length_nil, true_and, and_true, Nat.reduceAdd, and_self]; omega)) ?_)))
      first | rfl | (simp (disch := omega) only [wr64, wr8, wr16, wr32, ofNatE, Nat.zero_add, bleT, bltT, dT, dF, Bool.true_and, Bool.and_true, Bool.and_self, cond_true, cond_false, Nat.sub_zero, beq_self_eq_true]; done) | (simp (disch := omega) only [wr64, wr8, wr16, wr32, ofNatE, Nat.zero_add, bleT, bltT, dT, dF, Bool.true_and, Bool.and_true, Bool.and_self, cond_true, cond_false, Nat.sub_zero, beq_self_eq_true]; rfl)))).frz
    refine this.resTo (.new (.view (.inl rfl) fun j hj => ?_))
    rw [Nat.zero_add, hg j hj]
    exact .refl _
end Go.Ab

namespace Go.Ab
theorem ordEx : ordL exL.du 4 = [1, 0, 3, 2] := by
  have e : List.range 4 = [0, 1, 2, 3] := rfl
  unfold ordL
  rw [e]
  simp [List.mergeSort, List.MergeSort.Internal.splitInTwo, List.merge, dueLt, exL]
theorem wstEx1 : wst exL (fun j => [1, 0, 3, 2].getD j 0) 4 = 2 := by decide +kernel
theorem wstEx2 : wst exL (fun j => j) 4 = 4 := by decide +kernel
theorem pstEx : pst exL (fun j => [1, 0, 3, 2].getD j 0) 4 = ([1, 3, 2], 6, [0]) := by decide +kernel
theorem srtEx : srtN [0] = [0] := by decide +kernel
theorem abEx : abL 0 2 = [0, 1] := by decide +kernel
theorem sltEx : (List.range 4).map (slt exL (fun j => [1, 0, 3, 2].getD j 0) 2) = [(0, 0, 2), (1, 0, 4), (0, 2, 3), (0, 3, 6)] := by decide +kernel
theorem prmEx : (gvR (plst exL (fun j => [1, 0, 3, 2].getD j 0) 2 4) 2 0 0 2).2.2 = 6 := by decide +kernel
end Go.Ab

namespace Go.Ab
open Go.Proofs
def o4 : T := .view 1 4 (fun j => [.int .i64 ([1, 0, 3, 2].getD j 0)]) (some 4)
def d3 : T := .view 1 3 (fun j => [.int .i64 ([1, 3, 2].getD j 0)]) (some 3)
def e1' : T := .view 1 1 (fun j => [.int .i64 ([0].getD j 0)]) (some 1)
def s4 : T := .view 4 4 (fun j => [[T.int .i64 1, .int .i64 0, .int .i64 0, .int .i64 2], [T.int .i64 0, .int .i64 1, .int .i64 0, .int .i64 4], [T.int .i64 3, .int .i64 0, .int .i64 2, .int .i64 3], [T.int .i64 2, .int .i64 0, .int .i64 3, .int .i64 6]].getD j []) (some 4)
/-- The lateness of the arguments. -/
def cellN : List T → Nat
  | [.int _ z] => z.toNat
  | _ => 0
def lateVF (L : JL) : List T → Int
  | [_, .view _ m g _] => wst L (fun j => cellN (g j)) m
  | _ => 0
def gE : Nat → List T := fun j => [.int .i64 (exL.tm j), .int .i64 (exL.du j), .int .i64 (exL.af j), .int .u32 (exL.on j)]
noncomputable def callI (p : List T → Prop) (vF : List T → Int) (args : List T) : Tree := .ite (propF p args) (.ret (.tup [.int .i64 (vF args), .int .i64 0])) .none
noncomputable def K12 (xF : T) (vF : List T → Int) (p21 p10 p11 p13 p16 p17 p15 : List T → Prop) : Orc :=
  ((((((noneO.add 21 (callP p21 (.new xF))).add 10 (callP p10 (.tup [o4, .int .i64 0]))).add 11 (callI p11 vF)).add 13 (callP p13 (.tup [.new d3, .new e1', .int .i64 0]))).add 16 (callP p16 (.tup [s4, .int .i64 0]))).add 17 (callP p17 (.tup [.int .i64 6, .int .i64 0]))).add 15 (callP p15 (.bool true))
theorem callI_told {P : Program} {Gl : Nat → Option (List T)} {f : FuncId} {p : List T → Prop} {vF : List T → Int} (h : ∀ a, p a → ToldOk P Gl f a (.tup [.int .i64 (vF a), .int .i64 0])) : ∀ args r, (callI p vF args).run some = some r → ToldOk P Gl f args r := by
  intro args r hr
  unfold callI at hr
  simp only [Tree.run] at hr
  obtain ⟨hc, hr⟩ := bif_none hr
  obtain rfl := Option.some.inj hr
  exact h _ (propF_iff.1 hc)
theorem told_predI (P : Program) (Gl : Nat → Option (List T)) (f : FuncId) (vF : List T → Int) : ∃ p : List T → Prop, p = fun z => ToldOk P Gl f z (.tup [.int .i64 (vF z), .int .i64 0]) := ⟨_, rfl⟩
theorem predI_yes {P : Program} {Gl : Nat → Option (List T)} {f : FuncId} {vF : List T → Int} {p : List T → Prop} (h : p = fun z => ToldOk P Gl f z (.tup [.int .i64 (vF z), .int .i64 0])) {a : List T} {v : Int} (t : ToldOk P Gl f a (.tup [.int .i64 v, .int .i64 0])) (hv : vF a = v) : propF p a = true := propF_iff.2 (by subst hv; rw [h]; exact t)
theorem predI_told {P : Program} {Gl : Nat → Option (List T)} {f : FuncId} {vF : List T → Int} {p : List T → Prop} (h : p = fun z => ToldOk P Gl f z (.tup [.int .i64 (vF z), .int .i64 0])) : ∀ a, p a → ToldOk P Gl f a (.tup [.int .i64 (vF a), .int .i64 0]) := fun a ha => by rw [h] at ha; exact ha
theorem c4 {p : Nat → Prop} (h0 : p 0) (h1 : p 1) (h2 : p 2) (h3 : p 3) : ∀ j, j < 4 → p j := fun j hj => by
  obtain rfl | rfl | rfl | rfl : j = 0 ∨ j = 1 ∨ j = 2 ∨ j = 3 := by omega
  all_goals assumption
theorem c3 {p : Nat → Prop} (h0 : p 0) (h1 : p 1) (h2 : p 2) : ∀ j, j < 3 → p j := fun j hj => by
  obtain rfl | rfl | rfl : j = 0 ∨ j = 1 ∨ j = 2 := by omega
  all_goals assumption
theorem c1 {p : Nat → Prop} (h0 : p 0) : ∀ j, j < 1 → p j := fun j hj => by
  obtain rfl : j = 0 := by omega
  assumption
theorem oNEx : oN exL = fun j => [1, 0, 3, 2].getD j 0 := by
  unfold oN
  rw [show exL.n = 4 from rfl, ordEx]
theorem ex10 : ToldOk P41 G41 10 [.view 4 4 gE (some 4)] (.tup [o4, .int .i64 0]) := by
  have h : ToldOk P41 G41 10 [.view 4 4 gE (some 4)] (.tup [iv 4 (ordI exL) (some 4), .int .i64 0]) := orderT exL (some 4) exOk
  have e : ordI exL = fun j => (([1, 0, 3, 2].getD j 0 : Nat) : Int) := by
    unfold ordI
    rw [show exL.n = 4 from rfl, ordEx]
  rw [e] at h
  exact h.tupTo (.cons (.view (.view (.inl rfl) (c4 (.refl _) (.refl _) (.refl _) (.refl _)))) (.cons (.refl _) .nil))
theorem ex11 (m : Nat) (o : Nat → Nat) (c2 : Option Nat) (hm : m ≤ 4) (ho : ∀ j, j < m → o j < 4) (hd : ∀ i j, i < j → j < m → o i ≠ o j) (g : Nat → List T) (hg : ∀ j, j < m → g j = [.int .i64 (o j : Nat)]) : ToldOk P41 G41 11 [.view 4 4 gE (some 4), .view 1 m g c2] (.tup [.int .i64 (wst exL o m), .int .i64 0]) := by
  have h : ToldOk P41 G41 11 [.view 4 4 gE (some 4), ov m o c2] (.tup [.int .i64 (wst exL o m), .int .i64 0]) := lateT exL (some 4) m o c2 exOk (by omega) ho hd
  exact h.sim (.cons (.refl _) (.cons (.view (.inl rfl) fun j hj => by rw [hg j hj]; exact .refl _) .nil))
theorem ex13 : ToldOk P41 G41 13 [.view 4 4 gE (some 4)] (.tup [.new d3, .new e1', .int .i64 0]) := by
  have h := punT exL (some 4) exOk (fun j => [1, 0, 3, 2].getD j 0) (fun j _ => by rw [show exL.n = 4 from rfl, ordEx])
  rw [show exL.n = 4 from rfl, pstEx, srtEx] at h
  have h : ToldOk P41 G41 13 [.view 4 4 gE (some 4)] (.tup [.new (lv [1, 3, 2]), .new (lv [0]), .int .i64 0]) := h
  refine h.tupTo (.cons (.new (.view (.inl rfl) fun j hj => ?_)) (.cons (.new (.view (.inl rfl) fun j hj => ?_)) (.cons (.refl _) .nil)))
  · have hj : j < 3 := hj
    obtain rfl | rfl | rfl : j = 0 ∨ j = 1 ∨ j = 2 := by omega
    all_goals exact .refl _
  · have hj : j < 1 := hj
    obtain rfl : j = 0 := by omega
    exact .refl _
theorem exAb : ∀ i, i < exL.n → 0 < (abL (exL.on i) 2).length := fun i _ => by
  show 0 < (abL 0 2).length
  rw [abEx]; decide
theorem ex16 : ToldOk P41 G41 16 [.view 4 4 gE (some 4), .int .i64 2] (.tup [s4, .int .i64 0]) := by
  have h := PlanT exL (some 4) 2 exOk (by omega) exAb
  unfold svT scells at h
  rw [oNEx] at h
  have hs := sltEx
  have e : ∀ j, j < 4 → slt exL (fun j => [1, 0, 3, 2].getD j 0) 2 j = [((0 : Int), (0 : Int), (2 : Int)), (1, 0, 4), (0, 2, 3), (0, 3, 6)].getD j (0, 0, 0) := fun j hj => by
    rw [← hs, List.getD_eq_getElem?_getD, List.getElem?_map, List.getElem?_range hj]
    rfl
  refine h.tupTo (.cons (.view (.view (.inl rfl) (c4 ?_ ?_ ?_ ?_))) (.cons (.refl _) .nil))
  · rw [e 0 (by omega)]; exact .refl _
  · rw [e 1 (by omega)]; exact .refl _
  · rw [e 2 (by omega)]; exact .refl _
  · rw [e 3 (by omega)]; exact .refl _
theorem ex17 : ToldOk P41 G41 17 [.view 4 4 gE (some 4), .int .i64 2, .agg [.int .i64 2, .int .i64 9, .int .i64 0, .int .u32 0]] (.tup [.int .i64 6, .int .i64 0]) := by
  have h := PromT exL (some 4) 2 2 9 0 0 exOk (by decide) (by omega) exAb (by rw [abEx]; decide) (by omega) (by omega) (by omega) (by omega)
  have e : prm exL 2 2 0 0 = 6 := by
    unfold prm
    rw [oNEx]
    exact prmEx
  rw [e] at h
  exact h
theorem ex15 (n : Nat) (x : Nat → List T) (y : Nat → List T) (z : Nat → Int) (c : Option Nat) (hn : n ≤ 4) (hx : ∀ j, j < n → x j = [.int .i64 (z j)]) (hy : ∀ j, j < n → y j = [.int .i64 (z j)]) : ToldOk P41 G41 15 [.view 1 n x (some n), .view 1 n y c] (.bool true) :=
  (sameT n z z c (by omega) (fun _ _ => rfl)).sim (.cons (.view (.inl rfl) fun j hj => by rw [hx j hj]; exact .refl _) (.cons (.view (.inl rfl) fun j hj => by rw [hy j hj]; exact .refl _) .nil))
theorem livesT : ToldOk P41 G41 12 [] (.bool true) := by
  have h21 : ToldOk P41 G41 21 [] (.new (.view 4 4 gE (some 4))) := exT
  have h10 := ex10
  have h11 := ex11
  have h13 := ex13
  have h16 := ex16
  have h17 := ex17
  generalize gE = g at *
  obtain ⟨p21, e21⟩ := told_pred P41 G41 21 (.new (.view 4 4 g (some 4)))
  obtain ⟨p10, e10⟩ := told_pred P41 G41 10 (.tup [o4, .int .i64 0])
  obtain ⟨p11, e11⟩ := told_predI P41 G41 11 (lateVF exL)
  obtain ⟨p13, e13⟩ := told_pred P41 G41 13 (.tup [.new d3, .new e1', .int .i64 0])
  obtain ⟨p16, e16⟩ := told_pred P41 G41 16 (.tup [s4, .int .i64 0])
  obtain ⟨p17, e17⟩ := told_pred P41 G41 17 (.tup [.int .i64 6, .int .i64 0])
  obtain ⟨p15, e15⟩ := told_pred P41 G41 15 (.bool true)
  refine stepL_told hm41 hn41 (K := K12 (.view 4 4 g (some 4)) (lateVF exL) p21 p10 p11 p13 p16 p17 p15) (told_add (told_add (told_add (told_add (told_add (told_add (told_add none_ok (callP_told (told_predT e21))) (callP_told (told_predT e10))) (callI_told (predI_told e11))) (callP_told (told_predT e13))) (callP_told (told_predT e16))) (callP_told (told_predT e17))) (callP_told (told_predT e15))) (A := A41) (m := 0) (by kernel_rfl) loops0 ?_
  have v1 : lateVF exL [.view 4 4 g (some 4), o4] = 2 := wstEx1
  have v2 : lateVF exL [.view 4 4 g (some 4), .view 1 4 (fun j => [[T.int .i64 (0 : Int)], [T.int .i64 (1 : Int)], [T.int .i64 (2 : Int)], [T.int .i64 (3 : Int)]].getD (0 + j) []) (some 4)] = 4 := by
    show wst exL _ 4 = 4
    decide +kernel
  unfold o4 at v1
  have t1 := h11 4 (fun j => [1, 0, 3, 2].getD j 0) (some 4) (by omega) (c4 (by decide) (by decide) (by decide) (by decide)) (fun i j hi hj => (by decide : ∀ j, j < 4 → ∀ i, i < j → [1, 0, 3, 2].getD i 0 ≠ [1, 0, 3, 2].getD j 0) j hj i hi) (fun j => [.int .i64 ([1, 0, 3, 2].getD j 0)]) (c4 rfl rfl rfl rfl)
  have t2 := h11 4 (fun j => j) (some 4) (by omega) (fun j hj => hj) (fun i j hi _ e => by omega) (fun j => [[T.int .i64 (0 : Int)], [T.int .i64 (1 : Int)], [T.int .i64 (2 : Int)], [T.int .i64 (3 : Int)]].getD (0 + j) []) (c4 rfl rfl rfl rfl)
  rw [wstEx1] at t1
  rw [wstEx2] at t2
  have y1 := predI_yes e11 t1 v1
  have y2 := predI_yes e11 t2 v2
  generalize lateVF exL = vF at *
  refine Eq.trans (show stepL P41 G41 A41 (K12 (.view 4 4 g (some 4)) vF p21 p10 p11 p13 p16 p17 p15) 0 12 [] [] =
(
 bif propF p21 [] then
 bif propF p10 [T.view 4 4 g (some 4)] then
 bif propF p11 [T.view 4 4 g (some 4), T.view 1 4 (fun j => [T.int .i64 ([(1 : Int), (0 : Int), (3 : Int), (2 : Int)].getD j (0 : Int))]) (some 4)] then
 bif propF p11 [T.view 4 4 g (some 4), T.view 1 4 (fun j => [[T.int .i64 (0 : Int)], [T.int .i64 (1 : Int)], [T.int .i64 (2 : Int)], [T.int .i64 (3 : Int)]].getD ((0 : Nat) + j) []) (some 4)] then
 bif propF p13 [T.view 4 4 g (some 4)] then
 bif propF p16 [T.view 4 4 g (some 4), T.int .i64 (2 : Int)] then
 bif propF p17 [T.view 4 4 g (some 4), T.int .i64 (2 : Int), T.agg [T.int .i64 (2 : Int), T.int .i64 (9 : Int), T.int .i64 (0 : Int), T.int .u32 (0 : Int)]] then
 bif propF p15 [T.view 1 4 (fun j => [T.int .i64 ([(1 : Int), (0 : Int), (3 : Int), (2 : Int)].getD j (0 : Int))]) (some 4), T.view 1 4 (fun j => [[T.int .i64 (1 : Int)], [T.int .i64 (0 : Int)], [T.int .i64 (3 : Int)], [T.int .i64 (2 : Int)]].getD ((0 : Nat) + j) []) (some 4)] then
 bif decide (vF [T.view 4 4 g (some 4), T.view 1 4 (fun j => [T.int .i64 ([(1 : Int), (0 : Int), (3 : Int), (2 : Int)].getD j (0 : Int))]) (some 4)] = (2 : Int)) then
 bif decide (vF [T.view 4 4 g (some 4), T.view 1 4 (fun j => [[T.int .i64 (0 : Int)], [T.int .i64 (1 : Int)], [T.int .i64 (2 : Int)], [T.int .i64 (3 : Int)]].getD ((0 : Nat) + j) []) (some 4)] = (4 : Int)) then
 bif propF p15 [T.view 1 3 (fun j => [T.int .i64 ([(1 : Int), (3 : Int), (2 : Int)].getD j (0 : Int))]) (some 3), T.view 1 3 (fun j => [[T.int .i64 (1 : Int)], [T.int .i64 (3 : Int)], [T.int .i64 (2 : Int)]].getD ((0 : Nat) + j) []) (some 3)] then
 bif propF p15 [T.view 1 1 (fun j => [T.int .i64 ([(0 : Int)].getD j (0 : Int))]) (some 1), T.view 1 1 (fun j => [[T.int .i64 (0 : Int)]].getD ((0 : Nat) + j) []) (some 1)] then
 some (T.bool true)
 else none else none else
 some (T.bool false)
 else
 some (T.bool false)
 else none else none else none else none else none else none else none else
 none) from by kernel_rfl) ?_
  refine bift (pred_yes e21 h21) ?_
  refine bift (pred_yes e10 h10) ?_
  refine bift y1 ?_
  refine bift y2 ?_
  refine bift (pred_yes e13 h13) ?_
  refine bift (pred_yes e16 h16) ?_
  refine bift (pred_yes e17 h17) ?_
  refine bift (pred_yes e15 (ex15 4 _ _ (fun j => [1, 0, 3, 2].getD j 0) _ (by omega) (c4 rfl rfl rfl rfl) (c4 rfl rfl rfl rfl))) ?_
  refine bift (dT v1) ?_
  refine bift (dT v2) ?_
  refine bift (pred_yes e15 (ex15 3 _ _ (fun j => [1, 3, 2].getD j 0) _ (by omega) (c3 rfl rfl rfl) (c3 rfl rfl rfl))) ?_
  refine bift (pred_yes e15 (ex15 1 _ _ (fun j => [0].getD j 0) _ (by omega) (c1 rfl) (c1 rfl))) ?_
  rfl
end Go.Ab

/- Orders of jobs: plain laws. -/
namespace Go.Ab
def tot (tm : Nat → Int) : List Nat → Int
  | [] => 0
  | x :: l => tm x + tot tm l
theorem tot_app (tm : Nat → Int) (l m : List Nat) : tot tm (l ++ m) = tot tm l + tot tm m := by
  induction l with
  | nil => simp [tot]
  | cons x l ih => simp only [List.cons_append, tot, ih]; omega
theorem tot_one (tm : Nat → Int) (x : Nat) : tot tm [x] = tm x := by simp [tot]
theorem tot_perm {tm : Nat → Int} {l m : List Nat} (h : l.Perm m) : tot tm l = tot tm m := by
  induction h with
  | nil => rfl
  | cons x _ ih => simp only [tot, ih]
  | swap x y l => simp only [tot]; omega
  | trans _ _ h1 h2 => omega
theorem tot_nonneg {tm : Nat → Int} {l : List Nat} (h : ∀ x ∈ l, 0 ≤ tm x) : 0 ≤ tot tm l := by
  induction l with
  | nil => exact Int.le_refl 0
  | cons x l ih =>
    have h1 := h x (by simp)
    have h2 := ih fun y hy => h y (by simp [hy])
    simp only [tot]; omega
theorem tot_erase {tm : Nat → Int} {l : List Nat} {x : Nat} (h : x ∈ l) : tot tm (l.erase x) = tot tm l - tm x := by
  have := tot_perm (tm := tm) (List.perm_cons_erase h)
  simp only [tot] at this
  omega
/-- The last one of some jobs is done behind all of them. -/
theorem last_of {tm : Nat → Int} {A : Nat → Bool} : ∀ {l : List Nat}, (∀ x ∈ l, 0 ≤ tm x) → (∃ x ∈ l, A x = true) → ∃ i, ∃ hi : i < l.length, A l[i] = true ∧ tot tm (l.filter A) ≤ tot tm (l.take (i + 1)) := by
  intro l
  induction l with
  | nil => intro _ ⟨x, hx, _⟩; cases hx
  | cons x l ih =>
    intro hp hA
    have hx := hp x (by simp)
    by_cases q : ∃ y ∈ l, A y = true
    · obtain ⟨i, hi, h1, h2⟩ := ih (fun y hy => hp y (by simp [hy])) q
      refine ⟨i + 1, by simpa using hi, by simpa using h1, ?_⟩
      rw [List.take_succ_cons, List.filter_cons]
      split
      · simp only [tot]; omega
      · simp only [tot]; omega
    · obtain ⟨y, hy, ha⟩ := hA
      rcases List.mem_cons.1 hy with rfl | hy
      · refine ⟨0, by simp, ha, ?_⟩
        rw [List.filter_cons, if_pos ha]
        have : l.filter A = [] := by
          rw [List.filter_eq_nil_iff]
          intro z hz hza
          exact q ⟨z, hz, hza⟩
        rw [this]
        simp [tot]
      · exact absurd ⟨y, hy, ha⟩ q
/-- What is done in time: each job of the list, in this order. -/
def Feas (tm du : Nat → Int) (l : List Nat) : Prop := ∀ i, ∀ hi : i < l.length, tot tm (l.take (i + 1)) ≤ du l[i]
theorem Feas.nil (tm du : Nat → Int) : Feas tm du [] := fun i hi => by simp at hi
theorem feas_snoc {tm du : Nat → Int} {l : List Nat} {x : Nat} : Feas tm du (l ++ [x]) ↔ Feas tm du l ∧ tot tm l + tm x ≤ du x := by
  constructor
  · intro h
    refine ⟨fun i hi => ?_, ?_⟩
    · have := h i (by simp; omega)
      rw [List.take_append_of_le_length (by omega), List.getElem_append_left hi] at this
      exact this
    · have := h l.length (by simp)
      rw [List.getElem_append_right (Nat.le_refl _)] at this
      simp only [Nat.sub_self, List.getElem_singleton] at this
      rw [List.take_of_length_le (by simp), tot_app, tot_one] at this
      exact this
  · intro ⟨h1, h2⟩ i hi
    simp only [List.length_append, List.length_singleton] at hi
    rcases Nat.lt_or_ge i l.length with q | q
    · rw [List.take_append_of_le_length (by omega), List.getElem_append_left q]
      exact h1 i q
    · obtain rfl : i = l.length := by omega
      rw [List.getElem_append_right (Nat.le_refl _), List.take_of_length_le (by simp), tot_app, tot_one]
      simpa using h2
theorem mem_take_lt {l : List Nat} {i : Nat} {x : Nat} (h : x ∈ l.take (i + 1)) : ∃ k, k ≤ i ∧ ∃ hk : k < l.length, l[k] = x := by
  obtain ⟨k, hk, e⟩ := List.mem_iff_getElem.1 h
  rw [List.length_take] at hk
  refine ⟨k, by omega, by omega, ?_⟩
  rw [← e, List.getElem_take]
/-- The jobs of a set, in an order by due time: their sum is not above the time at which the last of them is done in any order. -/
theorem late_of {tm du : Nat → Int} {l s : List Nat} (hp : ∀ x ∈ l, 0 ≤ tm x) (hn : l.Nodup) (hs : s.Nodup) (hsub : ∀ x ∈ s, x ∈ l) (hso : s.Pairwise fun x y => du x ≤ du y) {i : Nat} (hi : i < s.length) :
    ∃ k, ∃ hk : k < l.length, l[k] ∈ s ∧ tot tm (s.take (i + 1)) ≤ tot tm (l.take (k + 1)) ∧ du l[k] ≤ du s[i] := by
  have hin : ∀ x, x ∈ s.take (i + 1) → x ∈ s := fun x hx => List.mem_of_mem_take hx
  obtain ⟨k, hk, h1, h2⟩ := last_of (tm := tm) (A := fun x => decide (x ∈ s.take (i + 1))) hp ⟨s[i], hsub _ (List.getElem_mem _), by
    rw [decide_eq_true_eq]
    exact List.mem_iff_getElem.2 ⟨i, by rw [List.length_take]; omega, by rw [List.getElem_take]⟩⟩
  rw [decide_eq_true_eq] at h1
  refine ⟨k, hk, hin _ h1, ?_, ?_⟩
  · have hpm : (l.filter fun x => decide (x ∈ s.take (i + 1))).Perm (s.take (i + 1)) := by
      refine (List.perm_ext_iff_of_nodup (hn.sublist List.filter_sublist) (hs.sublist (List.take_sublist _ _))).2 fun x => ?_
      rw [List.mem_filter, decide_eq_true_eq]
      exact ⟨fun h => h.2, fun h => ⟨hsub x (hin x h), h⟩⟩
    rw [tot_perm hpm] at h2
    exact h2
  · obtain ⟨j, hj, hjl, e⟩ := mem_take_lt h1
    rw [← e]
    rcases Nat.lt_or_ge j i with q | q
    · exact List.pairwise_iff_getElem.1 hso j i hjl hi q
    · obtain rfl : j = i := by omega
      exact Int.le_refl _
/-- Moore and Hodgson's procedure. -/
structure MH (tm du : Nat → Int) (done p : List Nat) : Prop where
  sub : done.Sublist p
  feas : Feas tm du done
  opt : ∀ s, s.Sublist p → Feas tm du s → ∃ E : List Nat, E.Nodup ∧ (∀ x ∈ E, x ∈ done) ∧ E.length = s.length ∧ tot tm E ≤ tot tm s
theorem MH.nil (tm du : Nat → Int) : MH tm du [] [] := ⟨.slnil, .nil _ _, fun s hs _ => by
  obtain rfl := List.sublist_nil.1 hs
  exact ⟨[], by simp, by simp, rfl, Int.le_refl _⟩⟩
theorem sublist_snoc {s p : List Nat} {j : Nat} (h : s.Sublist (p ++ [j])) : s.Sublist p ∨ ∃ t, s = t ++ [j] ∧ t.Sublist p := by
  obtain ⟨l1, l2, rfl, h1, h2⟩ := List.sublist_append_iff.1 h
  match l2, h2 with
  | [], _ => exact .inl (by simpa using h1)
  | [x], h2 =>
    have : x = j := by
      have := h2.subset (List.mem_singleton_self x)
      simpa using this
    subst this
    exact .inr ⟨l1, rfl, h1⟩
  | x :: y :: r, h2 => have := h2.length_le; simp at this
theorem MH.step_in {tm du : Nat → Int} {done p : List Nat} {j : Nat} (h : MH tm du done p) (hn : (p ++ [j]).Nodup) (ht : tot tm done + tm j ≤ du j) : MH tm du (done ++ [j]) (p ++ [j]) := by
  have hj : j ∉ done := fun hm => by
    have := h.sub.subset hm
    rw [List.nodup_append] at hn
    exact hn.2.2 j this j (by simp) rfl
  refine ⟨h.sub.append (List.Sublist.refl _), feas_snoc.2 ⟨h.feas, ht⟩, fun s hs hf => ?_⟩
  rcases sublist_snoc hs with q | ⟨t, rfl, q⟩
  · obtain ⟨E, e1, e2, e3, e4⟩ := h.opt s q hf
    exact ⟨E, e1, fun x hx => by simp [e2 x hx], e3, e4⟩
  · obtain ⟨f1, f2⟩ := feas_snoc.1 hf
    obtain ⟨E, e1, e2, e3, e4⟩ := h.opt t q f1
    refine ⟨E ++ [j], ?_, ?_, by simp [e3], by rw [tot_app, tot_app]; omega⟩
    · rw [List.nodup_append]
      refine ⟨e1, by simp, fun a ha b hb => ?_⟩
      obtain rfl := List.mem_singleton.1 hb
      exact fun e => hj (e2 _ (e ▸ ha))
    · intro x hx
      rw [List.mem_append] at hx ⊢
      exact hx.imp (e2 x) id
theorem getD_eq {l : List Nat} {i : Nat} (h : i < l.length) : l.getD i 0 = l[i] := by
  rw [List.getD_eq_getElem?_getD, List.getElem?_eq_getElem h]; rfl
theorem mem_eraseIdx_of {l : List Nat} {g x : Nat} (hg : g < l.length) (hx : x ∈ l) (hne : x ≠ l[g]) : x ∈ l.eraseIdx g := by
  obtain ⟨k, hk, e⟩ := List.mem_iff_getElem.1 hx
  rw [List.mem_eraseIdx_iff_getElem]
  refine ⟨k, hk, ?_, e⟩
  intro ek
  subst ek
  exact hne e.symm
theorem eraseIdx_perm {l : List Nat} {g : Nat} (hg : g < l.length) : l.Perm (l[g] :: l.eraseIdx g) := by
  induction l generalizing g with
  | nil => simp at hg
  | cons x l ih =>
    cases g with
    | zero => exact .refl _
    | succ g =>
      have := ih (g := g) (by simpa using hg)
      exact (this.cons x).trans (.swap _ _ _)
theorem tot_eraseIdx {tm : Nat → Int} {l : List Nat} {g : Nat} (hg : g < l.length) : tot tm (l.eraseIdx g) = tot tm l - tm l[g] := by
  have := tot_perm (tm := tm) (eraseIdx_perm hg)
  simp only [tot] at this
  omega
theorem feas_eraseIdx {tm du : Nat → Int} {l : List Nat} {j g : Nat} (hp : ∀ x ∈ l ++ [j], 0 ≤ tm x) (hf : Feas tm du l) (hdu : ∀ x ∈ l, du x ≤ du j) (hg : g < (l ++ [j]).length) (hmax : ∀ x ∈ l ++ [j], tm x ≤ tm ((l ++ [j])[g])) : Feas tm du ((l ++ [j]).eraseIdx g) := by
  intro i hi
  rw [List.length_eraseIdx, if_pos hg] at hi
  have hll : (l ++ [j]).length = l.length + 1 := by simp
  have hil : i < l.length := by omega
  rcases Nat.lt_or_ge i g with q | q
  · have e1 : ((l ++ [j]).eraseIdx g).take (i + 1) = l.take (i + 1) := by
      rw [List.eraseIdx_eq_take_drop_succ, List.take_append_of_le_length (by rw [List.length_take]; omega), List.take_take, show min (i + 1) g = i + 1 by omega, List.take_append_of_le_length (by omega)]
    rw [e1, List.getElem_eraseIdx_of_lt (by rw [List.length_eraseIdx, if_pos hg]; omega) q, List.getElem_append_left hil]
    exact hf i hil
  · have e1 : tot tm (((l ++ [j]).eraseIdx g).take (i + 1)) = tot tm ((l ++ [j]).take (i + 2)) - tm ((l ++ [j])[g]) := by
      have : ((l ++ [j]).eraseIdx g).take (i + 1) = ((l ++ [j]).take (i + 2)).eraseIdx g := by
        rw [List.eraseIdx_eq_take_drop_succ, List.eraseIdx_eq_take_drop_succ, List.take_append, List.take_take, List.take_take, List.length_take, show min (i + 1) g = g by omega, show min g (i + 2) = g by omega, List.take_drop, List.length_append, List.length_singleton, show g + 1 + (i + 1 - min g (l.length + 1)) = i + 2 by rw [hll] at hg; omega]
      rw [this, tot_eraseIdx (by rw [List.length_take]; omega), List.getElem_take]
    rw [e1, List.getElem_eraseIdx_of_ge (by rw [List.length_eraseIdx, if_pos hg]; omega) q]
    have hg0 : 0 ≤ tm ((l ++ [j])[g]) := hp _ (List.getElem_mem _)
    generalize tm ((l ++ [j])[g]) = tg at *
    rcases Nat.lt_or_ge (i + 1) l.length with q1 | q1
    · rw [List.take_append_of_le_length (by omega), List.getElem_append_left q1]
      have : tot tm (l.take (i + 2)) ≤ du l[i + 1] := hf (i + 1) q1
      omega
    · obtain e : i + 1 = l.length := by omega
      have h1 := hmax j (by simp)
      have h2 := hf i hil
      have h3 := hdu l[i] (List.getElem_mem _)
      rw [show l.take (i + 1) = l from by rw [e]; exact List.take_length] at h2
      rw [List.take_of_length_le (by omega), tot_app, tot_one, List.getElem_append_right (by omega)]
      simp only [List.getElem_singleton]
      omega
theorem exists_not_mem {E m : List Nat} (hE : E.Nodup) (hm : m.Nodup) (hs : ∀ x ∈ E, x ∈ m) (hne : ¬ E.Perm m) : ∃ x ∈ m, x ∉ E := by
  by_cases q : ∃ x ∈ m, x ∉ E
  · exact q
  · exfalso
    refine hne ((List.perm_ext_iff_of_nodup hE hm).2 fun x => ⟨hs x, fun hx => ?_⟩)
    by_cases hxe : x ∈ E
    · exact hxe
    · exact absurd ⟨x, hx, hxe⟩ q
theorem MH.step_out {tm du : Nat → Int} {done p : List Nat} {j g : Nat} (h : MH tm du done p) (hn : (p ++ [j]).Nodup) (hp : ∀ x ∈ p ++ [j], 0 ≤ tm x) (hdu : ∀ x ∈ p, du x ≤ du j) (ht : ¬ tot tm done + tm j ≤ du j)
    (hg : g < (done ++ [j]).length) (hmax : ∀ x ∈ done ++ [j], tm x ≤ tm ((done ++ [j])[g])) : MH tm du ((done ++ [j]).eraseIdx g) (p ++ [j]) := by
  have hsubJ : (done ++ [j]).Sublist (p ++ [j]) := h.sub.append (List.Sublist.refl _)
  have hnd : (done ++ [j]).Nodup := hn.sublist hsubJ
  have hj : j ∉ done := fun hm => by
    rw [List.nodup_append] at hnd
    exact hnd.2.2 j hm j (by simp) rfl
  -- a list below done ++ [j] that is not all of it may be brought below what is kept
  have key : ∀ E : List Nat, E.Nodup → (∀ x ∈ E, x ∈ done ++ [j]) → ¬ E.Perm (done ++ [j]) → ∃ F : List Nat, F.Nodup ∧ (∀ x ∈ F, x ∈ (done ++ [j]).eraseIdx g) ∧ F.length = E.length ∧ tot tm F ≤ tot tm E := by
    intro E hE hs hne
    by_cases q : (done ++ [j])[g] ∈ E
    · obtain ⟨x, hx, hxE⟩ := exists_not_mem hE hnd hs hne
      refine ⟨x :: E.erase (done ++ [j])[g], ?_, ?_, ?_, ?_⟩
      · rw [List.nodup_cons]
        exact ⟨fun hm => hxE (List.mem_of_mem_erase hm), hE.erase _⟩
      · intro y hy
        rcases List.mem_cons.1 hy with rfl | hy
        · exact mem_eraseIdx_of hg hx fun e => hxE (e ▸ q)
        · obtain ⟨y1, y2⟩ := hE.mem_erase_iff.1 hy
          exact mem_eraseIdx_of hg (hs y y2) y1
      · rw [List.length_cons, List.length_erase_of_mem q]
        have := List.length_pos_of_mem q
        omega
      · simp only [tot]
        rw [tot_erase q]
        have := hmax x hx
        omega
    · exact ⟨E, hE, fun x hx => mem_eraseIdx_of hg (hs x hx) fun e => q (e ▸ hx), rfl, Int.le_refl _⟩
  refine ⟨(List.eraseIdx_sublist _ _).trans hsubJ, feas_eraseIdx (fun x hx => hp x (hsubJ.subset hx)) h.feas (fun x hx => hdu x (h.sub.subset hx)) hg hmax, fun s hs hf => ?_⟩
  rcases sublist_snoc hs with q | ⟨t, rfl, q⟩
  · obtain ⟨E, e1, e2, e3, e4⟩ := h.opt s q hf
    obtain ⟨F, f1, f2, f3, f4⟩ := key E e1 (fun x hx => by simp [e2 x hx]) fun hpm => hj (e2 j (hpm.mem_iff.2 (by simp)))
    exact ⟨F, f1, f2, by omega, by omega⟩
  · obtain ⟨c1, c2⟩ := feas_snoc.1 hf
    obtain ⟨E, e1, e2, e3, e4⟩ := h.opt t q c1
    have e5 : (E ++ [j]).Nodup := by
      rw [List.nodup_append]
      refine ⟨e1, by simp, fun a ha b hb => ?_⟩
      obtain rfl := List.mem_singleton.1 hb
      exact fun e => hj (e2 _ (e ▸ ha))
    obtain ⟨F, f1, f2, f3, f4⟩ := key (E ++ [j]) e5 (fun x hx => by
      rw [List.mem_append] at hx ⊢
      exact hx.imp (e2 x) id) fun hpm => by
        have := tot_perm (tm := tm) hpm
        rw [tot_app, tot_app, tot_one] at this
        omega
    refine ⟨F, f1, f2, by rw [f3]; simp [e3], ?_⟩
    rw [tot_app, tot_one] at f4 ⊢
    omega
theorem MH.best {tm du : Nat → Int} {done p s : List Nat} (h : MH tm du done p) (hs : s.Sublist p) (hf : Feas tm du s) : s.length ≤ done.length := by
  obtain ⟨E, e1, e2, e3, _⟩ := h.opt s hs hf
  rw [← e3]
  exact e1.length_le_of_subset e2
/-- What is in time in an order, put into the order by due time, is done in time. -/
theorem feas_ontime {tm du : Nat → Int} {l p : List Nat} (hp : ∀ x ∈ l, 0 ≤ tm x) (hl : l.Perm p) (hn : p.Nodup) (hso : p.Pairwise fun x y => du x ≤ du y) (A : Nat → Bool) (hA : ∀ k, ∀ hk : k < l.length, A l[k] = true → tot tm (l.take (k + 1)) ≤ du l[k]) : Feas tm du (p.filter A) := by
  intro i hi
  obtain ⟨k, hk, h1, h2, h3⟩ := late_of (tm := tm) (du := du) hp (hl.nodup_iff.2 hn) (hn.sublist List.filter_sublist) (s := p.filter A) (fun x hx => hl.mem_iff.2 (List.mem_filter.1 hx).1) (hso.sublist List.filter_sublist) hi
  have := hA k hk (List.mem_filter.1 h1).2
  omega
end Go.Ab

namespace Go.Ab
open Go.Proofs
def v7 (mv : T) (L : JL) (o : Nat → Nat) (i : Int) : List T := [mv, jv L none, ov L.n o (some L.n), .ptr 0 0 0 0, .int .i64 i]
def e7 (mv : T) (L : JL) (o : Nat → Nat) : List T := [mv, .undef, jv L none, ov L.n o (some L.n)]
def mvT (nm : Nat) (mm : Nat → Nat) (cm : Option Nat) : T := .view 1 nm (fun j => [.int .u8 (mm j)]) cm
def v16 (mv x5 x6 : T) (n : Nat) (i : Int) : List T := [mv, x5, x6, .own 2 0 0 n none, .int .i64 i]
def e16 (x5 x6 : T) (n : Nat) : List T := [x5, x6, .own 2 0 0 n none]
def v22 (L : JL) (x6 : T) (a b i : Int) : List T := [jv L none, x6, .own 2 0 0 L.n none, .int .i64 a, .int .i64 b, .int .i64 i]
def e22 (L : JL) (x6 : T) (b : Int) : List T := [jv L none, x6, .own 2 0 0 L.n none, .int .i64 b]
def eb (v : Nat) : Blk := ⟨v, 1, 0, fun _ => [], true, true⟩
/-- An order of the first numbers. -/
structure Ordr (n : Nat) (d : Nat → Nat) : Prop where
  lt : ∀ j, j < n → d j < n
  ne : ∀ i j, i < j → j < n → d i ≠ d j
def tra (a b j : Nat) : Nat := if j = b then a else if j = a then b else j
def swp (d : Nat → Nat) (a b : Nat) : Nat → Nat := fun j => d (tra a b j)
theorem Ordr.swp {n a b : Nat} {d : Nat → Nat} (h : Ordr n d) (ha : a < n) (hb : b < n) : Ordr n (swp d a b) := by
  have tl : ∀ j, j < n → tra a b j < n := fun j hj => by unfold tra; split; exact ha; split; exact hb; exact hj
  refine ⟨fun j hj => h.lt _ (tl j hj), fun i j hij hj e => ?_⟩
  have ti : tra a b i ≠ tra a b j := by unfold tra; split <;> split <;> (try split) <;> (try split) <;> omega
  have e : d (tra a b i) = d (tra a b j) := e
  rcases Nat.lt_trichotomy (tra a b i) (tra a b j) with q | q | q
  · exact h.ne _ _ q (tl j hj) e
  · exact ti q
  · exact h.ne _ _ q (tl i (by omega)) e.symm
noncomputable def K3 (p9 p10 p11 p12 : List T → Prop) (xF : T) (x6 : T) (vF : List T → Int) : Orc :=
  (((noneO.add 9 (callP p9 (.new xF))).add 10 (callP p10 (.tup [x6, .int .i64 0]))).add 11 (callI p11 vF)).add 12 (callP p12 (.bool true))
end Go.Ab

/- Orders of jobs: what the program's numbers are. -/
namespace Go.Ab
open Go.Proofs
def oL (o : Nat → Nat) (n : Nat) : List Nat := (List.range n).map o
theorem oL_len (o : Nat → Nat) (n : Nat) : (oL o n).length = n := by simp [oL]
theorem oL_get (o : Nat → Nat) (n : Nat) {i : Nat} (hi : i < (oL o n).length) : (oL o n)[i] = o i := by simp [oL]
theorem oL_take (o : Nat → Nat) {n i : Nat} (hi : i ≤ n) : (oL o n).take i = oL o i := by
  unfold oL
  rw [← List.map_take, List.take_range, Nat.min_eq_left hi]
theorem tms_tot (L : JL) (o : Nat → Nat) : ∀ i, tms L o i = tot L.tm (oL o i) := by
  intro i
  induction i with
  | zero => rfl
  | succ i ih => simp only [tms, ih, oL, List.range_succ, List.map_append, tot_app, List.map_cons, List.map_nil, tot_one]
theorem Ordr.nodup {n : Nat} {d : Nat → Nat} (h : Ordr n d) : (oL d n).Nodup := by
  rw [List.nodup_iff_pairwise_ne, List.pairwise_iff_getElem]
  intro i j hi hj hij
  rw [oL_get, oL_get]
  exact h.ne i j hij (by simpa [oL] using hj)
theorem nodup_perm_range {l : List Nat} {n : Nat} (hl : l.Nodup) (hn : l.length = n) (hb : ∀ x ∈ l, x < n) : l.Perm (List.range n) := by
  refine (List.perm_ext_iff_of_nodup hl List.nodup_range).2 fun x => ⟨fun h => List.mem_range.2 (hb x h), fun h => ?_⟩
  by_cases q : x ∈ l
  · exact q
  · exfalso
    have h1 : (x :: l).Nodup := List.nodup_cons.2 ⟨q, hl⟩
    have h2 := h1.length_le_of_subset (l₂ := List.range n) fun y hy => by
      rcases List.mem_cons.1 hy with rfl | hy
      · exact h
      · exact List.mem_range.2 (hb y hy)
    simp at h2
    omega
theorem Ordr.perm {n : Nat} {d : Nat → Nat} (h : Ordr n d) : (oL d n).Perm (List.range n) :=
  nodup_perm_range h.nodup (oL_len d n) fun x hx => by
    obtain ⟨j, hj, rfl⟩ := List.mem_map.1 hx
    exact h.lt j (List.mem_range.1 hj)
theorem oL_oN (L : JL) : oL (oN L) L.n = ordL L.du L.n := by
  have hl := ordL_len L.du L.n
  refine List.ext_getElem (by rw [oL_len, hl]) fun i h1 h2 => ?_
  rw [oL_get]
  unfold oN
  rw [getD_eq h2]
theorem oN_ordr (L : JL) : Ordr L.n (oN L) := by
  refine ⟨fun j hj => oN_lt hj, fun i j hij hj e => ?_⟩
  have hl := ordL_len L.du L.n
  have hp := List.nodup_iff_pairwise_ne.1 (ordL_nodup L.du L.n)
  have := List.pairwise_iff_getElem.1 hp i j (by omega) (by omega) hij
  unfold oN at e
  rw [getD_eq (by omega), getD_eq (by omega)] at e
  exact this e
theorem ordL_due (du : Nat → Int) (n : Nat) : (ordL du n).Pairwise fun x y => du x ≤ du y :=
  List.Pairwise.imp (fun {a b} h => by unfold dueLt at h; omega) (ordL_sorted du n)
theorem oN_next (L : JL) (i : Nat) (hi : i + 1 < L.n) : L.du (oN L i) < L.du (oN L (i + 1)) ∨ (L.du (oN L i) = L.du (oN L (i + 1)) ∧ oN L i < oN L (i + 1)) := by
  have hl := ordL_len L.du L.n
  have h1 := (oN_ordr L).ne i (i + 1) (by omega) hi
  have h2 := List.pairwise_iff_getElem.1 (ordL_sorted L.du L.n) i (i + 1) (by omega) (by omega) (by omega)
  rw [← getD_eq, ← getD_eq] at h2
  unfold oN at *
  unfold dueLt at h2
  omega
theorem wst_ge (L : JL) (o : Nat → Nat) : ∀ m i, i < m → tms L o (i + 1) - L.du (o i) ≤ wst L o m := by
  intro m
  induction m with
  | zero => intro i hi; omega
  | succ m ih =>
    intro i hi
    simp only [wst]
    rcases Nat.lt_or_ge i m with q | q
    · have := ih i q
      split <;> omega
    · obtain rfl : i = m := by omega
      split <;> omega
theorem wst_mem (L : JL) (o : Nat → Nat) : ∀ m, 0 < m → ∃ i, i < m ∧ wst L o m = tms L o (i + 1) - L.du (o i) := by
  intro m
  induction m with
  | zero => intro h; omega
  | succ m ih =>
    intro _
    simp only [wst]
    split
    · exact ⟨m, by omega, rfl⟩
    · rename_i h
      obtain ⟨i, hi, e⟩ := ih (by omega)
      exact ⟨i, by omega, e⟩
/-- No order has a lesser lateness than that by due time. -/
theorem wst_least (L : JL) (hL : L.Ok) (d : Nat → Nat) (hd : Ordr L.n d) : wst L (oN L) L.n ≤ wst L d L.n := by
  rcases Nat.eq_zero_or_pos L.n with h0 | h0
  · rw [h0]; exact Int.le_refl _
  · obtain ⟨i, hi, e⟩ := wst_mem L (oN L) L.n h0
    rw [e]
    have hp : ∀ x ∈ oL d L.n, 0 ≤ L.tm x := fun x hx => by
      have := hL.tm x (List.mem_range.1 (hd.perm.mem_iff.1 hx)); omega
    have hpm := ordL_perm L.du L.n
    have hi' : i < (ordL L.du L.n).length := by rw [ordL_len]; exact hi
    obtain ⟨k, hk, h1, h2, h3⟩ := late_of (tm := L.tm) (du := L.du) hp hd.nodup (ordL_nodup L.du L.n) (fun x hx => hd.perm.mem_iff.2 (hpm.mem_iff.1 hx)) (ordL_due L.du L.n) hi'
    rw [oL_get] at h3
    rw [oL_len] at hk
    have hw := wst_ge L d L.n k hk
    rw [oL_take d (by omega), ← tms_tot] at h2
    rw [← oL_oN, oL_take _ (by omega), ← tms_tot] at h2
    have e2 : (ordL L.du L.n)[i] = oN L i := by unfold oN; rw [getD_eq hi']
    rw [e2] at h3
    omega
end Go.Ab

/- Moore and Hodgson's procedure, as the program does it. -/
namespace Go.Ab
open Go.Proofs
theorem lgst_max (f : Nat → Int) : ∀ n, (∀ j, j < n → f j ≤ f (lgst f n)) ∧ ∀ j, lgst f n < j → j < n → f j < f (lgst f n) := by
  intro n
  induction n with
  | zero => exact ⟨fun j hj => by omega, fun j _ hj => by omega⟩
  | succ n ih =>
    obtain ⟨h1, h2⟩ := ih
    simp only [lgst]
    by_cases q : f (lgst f n) ≤ f n
    · rw [if_pos q]
      refine ⟨fun j hj => ?_, fun j hj hj2 => by omega⟩
      rcases Nat.lt_or_ge j n with q1 | q1
      · have := h1 j q1; omega
      · obtain rfl : j = n := by omega
        exact Int.le_refl _
    · rw [if_neg q]
      refine ⟨fun j hj => ?_, fun j hj hj2 => ?_⟩
      · rcases Nat.lt_or_ge j n with q1 | q1
        · exact h1 j q1
        · obtain rfl : j = n := by omega
          omega
      · rcases Nat.lt_or_ge j n with q1 | q1
        · exact h2 j hj q1
        · obtain rfl : j = n := by omega
          omega
theorem tot_sum (tm : Nat → Int) : ∀ l : List Nat, tot tm l = (l.map tm).sum
  | [] => rfl
  | x :: l => by simp only [tot, List.map_cons, List.sum_cons, tot_sum tm l]
theorem take_succ_ord (L : JL) {i : Nat} (hi : i < L.n) : (ordL L.du L.n).take (i + 1) = (ordL L.du L.n).take i ++ [oN L i] := by
  have hl := ordL_len L.du L.n
  rw [List.take_add_one, List.getElem?_eq_getElem (by omega)]
  unfold oN
  rw [getD_eq (by omega)]
  rfl
/-- What holds of the procedure at each step. -/
structure Mok (L : JL) (s : List Nat × Int × List Nat) (p : List Nat) : Prop where
  mh : MH L.tm L.du s.1 p
  t : s.2.1 = tot L.tm s.1
  pm : (s.1 ++ s.2.2).Perm p
theorem pst_mok (L : JL) (hL : L.Ok) : ∀ i, i ≤ L.n → Mok L (pst L (oN L) i) ((ordL L.du L.n).take i) := by
  intro i
  induction i with
  | zero => intro _; exact ⟨.nil _ _, rfl, .refl _⟩
  | succ i ih =>
    intro hi
    obtain ⟨h1, h2, h3⟩ := ih (by omega)
    have hl := ordL_len L.du L.n
    have ho := oN_lt (L := L) (j := i) (by omega)
    have htk := take_succ_ord L (i := i) (by omega)
    have hnd : ((ordL L.du L.n).take i ++ [oN L i]).Nodup := by rw [← htk]; exact (ordL_nodup _ _).sublist (List.take_sublist _ _)
    have hdu : ∀ x ∈ (ordL L.du L.n).take i, L.du x ≤ L.du (oN L i) := fun x hx => by
      have hs := (ordL_due L.du L.n).sublist (List.take_sublist (i + 1) _)
      rw [htk, List.pairwise_append] at hs
      exact hs.2.2 x hx _ (by simp)
    have hp : ∀ x ∈ (ordL L.du L.n).take i ++ [oN L i], 0 ≤ L.tm x := fun x hx => by
      rw [← htk] at hx
      have := hL.tm x (ordL_mem.1 (List.mem_of_mem_take hx))
      omega
    rw [htk]
    show Mok L (pstep L (pst L (oN L) i) (oN L i)) _
    generalize pst L (oN L) i = s at *
    generalize (ordL L.du L.n).take i = p at *
    generalize oN L i = x at *
    unfold pstep
    by_cases q : s.2.1 + L.tm x ≤ L.du x
    · rw [if_pos q]
      refine ⟨h1.step_in hnd (by rw [← h2]; exact q), ?_, ?_⟩
      · show _ = tot L.tm (s.1 ++ [x])
        rw [tot_app, tot_one, ← h2]
      · show ((s.1 ++ [x]) ++ s.2.2).Perm (p ++ [x])
        refine List.Perm.trans ?_ (h3.append_right [x])
        rw [List.append_assoc, List.append_assoc]
        exact List.Perm.append_left _ List.perm_append_comm
    · rw [if_neg q]
      have hlen : (s.1 ++ [x]).length = s.1.length + 1 := by simp
      have hg := lgst_lt (fun j => L.tm ((s.1 ++ [x]).getD j 0)) (s.1.length + 1) (by omega)
      have hmx := (lgst_max (fun j => L.tm ((s.1 ++ [x]).getD j 0)) (s.1.length + 1)).1
      generalize lgst (fun j => L.tm ((s.1 ++ [x]).getD j 0)) (s.1.length + 1) = g at *
      have hge : (s.1 ++ [x]).getD g 0 = (s.1 ++ [x])[g]'(by omega) := getD_eq (by omega)
      refine ⟨h1.step_out hnd hp hdu (by rw [← h2]; exact q) (by omega) (fun y hy => ?_), ?_, ?_⟩
      · obtain ⟨k, hk, rfl⟩ := List.mem_iff_getElem.1 hy
        have := hmx k (by omega)
        rw [getD_eq hk, hge] at this
        exact this
      · show s.2.1 + L.tm x - L.tm ((s.1 ++ [x]).getD g 0) = tot L.tm ((s.1 ++ [x]).eraseIdx g)
        rw [tot_eraseIdx (by omega), tot_app, tot_one, ← h2, hge]
      · show ((s.1 ++ [x]).eraseIdx g ++ (s.2.2 ++ [(s.1 ++ [x]).getD g 0])).Perm (p ++ [x])
        have e1 := eraseIdx_perm (l := s.1 ++ [x]) (g := g) (by omega)
        rw [hge]
        have h4 : ((s.1 ++ [x]) ++ s.2.2).Perm (p ++ [x]) := by
          refine List.Perm.trans ?_ (h3.append_right [x])
          rw [List.append_assoc, List.append_assoc]
          exact List.Perm.append_left _ List.perm_append_comm
        refine List.Perm.trans ?_ h4
        refine List.Perm.trans ?_ (e1.append_right s.2.2).symm
        rw [← List.append_assoc, List.cons_append]
        exact List.perm_append_singleton _ _
theorem take_ord_all (L : JL) : (ordL L.du L.n).take L.n = ordL L.du L.n := List.take_of_length_le (by rw [ordL_len]; exact Nat.le_refl _)
/-- How many of the first jobs of an order are late. -/
def mny (L : JL) (d : Nat → Nat) : Nat → Nat
  | 0 => 0
  | i + 1 => if L.du (d i) < tms L d (i + 1) then mny L d i + 1 else mny L d i
theorem mny_le (L : JL) (d : Nat → Nat) : ∀ i, mny L d i ≤ i := by
  intro i
  induction i with
  | zero => exact Nat.le_refl _
  | succ i ih => simp only [mny]; split <;> omega
theorem mny_count (L : JL) (d : Nat → Nat) : ∀ m, ((List.range m).filter fun k => decide (tms L d (k + 1) ≤ L.du (d k))).length + mny L d m = m := by
  intro m
  induction m with
  | zero => rfl
  | succ m ih =>
    rw [List.range_succ, List.filter_append, List.length_append]
    simp only [mny]
    by_cases q : L.du (d m) < tms L d (m + 1)
    · rw [if_pos q, List.filter_cons_of_neg (by simp only [decide_eq_true_eq]; omega)]
      simp only [List.filter_nil, List.length_nil]
      omega
    · rw [if_neg q, List.filter_cons_of_pos (by simp only [decide_eq_true_eq]; omega)]
      simp only [List.filter_nil, List.length_cons, List.length_nil]
      omega
/-- No order has fewer late jobs than are put aside. -/
theorem mny_least (L : JL) (hL : L.Ok) (d : Nat → Nat) (hd : Ordr L.n d) : (pst L (oN L) L.n).2.2.length ≤ mny L d L.n := by
  have hk := pst_mok L hL L.n (Nat.le_refl _)
  rw [take_ord_all] at hk
  obtain ⟨h1, _, h3⟩ := hk
  have hl := ordL_len L.du L.n
  have hpm := ordL_perm L.du L.n
  have hlen := h3.length_eq
  rw [List.length_append, hl] at hlen
  have inj : ∀ i j, i < L.n → j < L.n → d i = d j → i = j := fun i j hi hj e => by
    rcases Nat.lt_trichotomy i j with q | q | q
    · exact absurd e (hd.ne i j q hj)
    · exact q
    · exact absurd e.symm (hd.ne j i q hi)
  -- a job is in time
  let A : Nat → Bool := fun x => (List.range L.n).any fun k => decide (d k = x) && decide (tms L d (k + 1) ≤ L.du (d k))
  have hA : ∀ k, k < L.n → (A (d k) = true ↔ tms L d (k + 1) ≤ L.du (d k)) := fun k hk => by
    constructor
    · intro h
      obtain ⟨j, hj, q⟩ := List.any_eq_true.1 h
      simp only [Bool.and_eq_true, decide_eq_true_eq] at q
      have := inj j k (List.mem_range.1 hj) hk q.1
      subst this
      exact q.2
    · intro h
      exact List.any_eq_true.2 ⟨k, List.mem_range.2 hk, by rw [Bool.and_eq_true, decide_eq_true_eq, decide_eq_true_eq]; exact ⟨rfl, h⟩⟩
  have hp : ∀ x ∈ oL d L.n, 0 ≤ L.tm x := fun x hx => by
    have := hL.tm x (List.mem_range.1 (hd.perm.mem_iff.1 hx)); omega
  have hf := feas_ontime (tm := L.tm) (du := L.du) (l := oL d L.n) (p := ordL L.du L.n) hp (hd.perm.trans hpm.symm) (ordL_nodup _ _) (ordL_due _ _) A fun k hk ha => by
    rw [oL_len] at hk
    rw [oL_get] at ha ⊢
    rw [oL_take d (by omega), ← tms_tot]
    exact (hA k hk).1 ha
  have hb := h1.best List.filter_sublist hf
  have hc := ((hd.perm.trans hpm.symm).filter A).length_eq
  rw [← hc] at hb
  have e : ((oL d L.n).filter A).length = ((List.range L.n).filter fun k => decide (tms L d (k + 1) ≤ L.du (d k))).length := by
    unfold oL
    rw [List.filter_map, List.length_map]
    congr 1
    refine List.filter_congr fun k hk => ?_
    have := hA k (List.mem_range.1 hk)
    show A (d k) = _
    by_cases q : tms L d (k + 1) ≤ L.du (d k)
    · rw [this.2 q, decide_eq_true q]
    · rw [decide_eq_false q, Bool.eq_false_iff]
      exact fun h => q (this.1 h)
  have hm := mny_count L d L.n
  omega
theorem tms_done (L : JL) (l : List Nat) : ∀ i, i ≤ l.length → tms L (fun j => l.getD j 0) i = tot L.tm (l.take i) := by
  intro i
  induction i with
  | zero => intro _; simp [tms, tot]
  | succ i ih =>
    intro hi
    simp only [tms]
    rw [ih (by omega), List.take_add_one, List.getElem?_eq_getElem (by omega), tot_app, getD_eq (by omega)]
    show _ = _ + tot L.tm [l[i]]
    rw [tot_one]
/-- What is not put aside is in time. -/
theorem done_intime (L : JL) (hL : L.Ok) (h0 : 0 < (pst L (oN L) L.n).1.length) : wst L (fun j => (pst L (oN L) L.n).1.getD j 0) (pst L (oN L) L.n).1.length ≤ 0 := by
  have hk := pst_mok L hL L.n (Nat.le_refl _)
  obtain ⟨i, hi, e⟩ := wst_mem L (fun j => (pst L (oN L) L.n).1.getD j 0) _ h0
  rw [e, tms_done _ _ _ (by omega)]
  have := hk.mh.feas i hi
  rw [getD_eq hi]
  omega
theorem pst_nodup (L : JL) (hL : L.Ok) : ((pst L (oN L) L.n).1 ++ (pst L (oN L) L.n).2.2).Nodup := by
  have hk := pst_mok L hL L.n (Nat.le_refl _)
  rw [take_ord_all] at hk
  exact hk.pm.nodup_iff.2 (ordL_nodup _ _)
theorem srtN_perm (l : List Nat) : (srtN l).Perm l := List.mergeSort_perm _ _
theorem srtN_sorted (l : List Nat) : (srtN l).Pairwise fun a b => a ≤ b := by
  have := List.pairwise_mergeSort (le := fun x y : Nat => decide (x ≤ y)) (fun a b c h1 h2 => by simp only [decide_eq_true_eq] at *; omega) (fun a b => by simp only [Bool.or_eq_true, decide_eq_true_eq]; omega) l
  exact this.imp fun h => by simpa using h
theorem srtN_lt {l : List Nat} (h : l.Nodup) : (srtN l).Pairwise fun a b => a < b := by
  have h1 := srtN_sorted l
  have h2 := List.nodup_iff_pairwise_ne.1 ((srtN_perm l).nodup_iff.2 h)
  exact (h1.and h2).imp fun {a b} hab => by omega
theorem srtN_next {l : List Nat} (h : l.Nodup) {i : Nat} (hi : i + 1 < (srtN l).length) : (srtN l).getD i 0 < (srtN l).getD (i + 1) 0 := by
  rw [getD_eq (by omega), getD_eq hi]
  exact List.pairwise_iff_getElem.1 (srtN_lt h) i (i + 1) (by omega) hi (by omega)
/-- What is put aside, found by going through all jobs. -/
theorem srtN_filter {l : List Nat} {n : Nat} (h : l.Nodup) (hb : ∀ x ∈ l, x < n) : (List.range n).filter (fun x => decide (x ∈ l)) = srtN l := by
  refine List.Perm.eq_of_pairwise (le := fun a b => a ≤ b) (fun a b _ _ q1 q2 => Nat.le_antisymm q1 q2) ?_ (srtN_sorted l) ?_
  · exact (List.pairwise_lt_range.imp fun {a b} h => Nat.le_of_lt h).sublist List.filter_sublist
  · refine List.Perm.trans ?_ (srtN_perm l).symm
    refine (List.perm_ext_iff_of_nodup (List.nodup_range.sublist List.filter_sublist) h).2 fun x => ?_
    rw [List.mem_filter, decide_eq_true_eq, List.mem_range]
    exact ⟨fun q => q.2, fun q => ⟨hb x q, q⟩⟩
end Go.Ab

namespace Go.Ab
open Go.Proofs
theorem JR.lok (R : JR) (hR : R.Ok) (m : Nat) (hm : m ≤ 40) : (R.L m).Ok := by
  refine ⟨by show m ≤ 256; omega, fun j _ => ?_, fun j _ => ?_, fun j _ => ?_, fun j _ => ?_⟩
  · have := hR.t j
    show _ ≤ ((1 + R.t j : Nat) : Int) ∧ ((1 + R.t j : Nat) : Int) ≤ _
    omega
  · have := hR.d j
    show _ ≤ ((R.d j : Nat) : Int) ∧ ((R.d j : Nat) : Int) ≤ _
    omega
  · have := hR.a j
    show _ ≤ ((R.a j : Nat) : Int) ∧ ((R.a j : Nat) : Int) ≤ _
    omega
  · have := onV_le (R.o j)
    show _ ≤ ((onV (R.o j) : Nat) : Int) ∧ ((onV (R.o j) : Nat) : Int) ≤ _
    omega
theorem min40 (n : Nat) : Nat.min n 40 ≤ 40 := Nat.min_le_right _ _
theorem maxB_ge (a b : Int) : a ≤ maxB a b ∧ b ≤ maxB a b ∧ (maxB a b = a ∨ maxB a b = b) := by
  unfold maxB
  by_cases q : a < b
  · rw [dT q]; simp; omega
  · rw [dF q]; simp; omega
end Go.Ab

namespace Go.Ab
open Go.Proofs
/-- Slots over the main loop of the law: jobs, order, what is done, what is put aside, the step. -/
def v8 (L : JL) (o : Nat → Nat) (x6 : T) (i : Int) : List T := [jv L none, ov L.n o (some L.n), x6, .ptr 0 0 0 0, .int .i64 i]
def e8 (L : JL) (x6 : T) : List T := [jv L none, x6, .ptr 0 0 0 0]
def v13' (L : JL) (o : Nat → Nat) (x6 : T) (i a b k : Int) : List T := [jv L none, ov L.n o (some L.n), x6, .ptr 0 0 0 0, .int .i64 i, .int .i64 a, .int .i64 b, .int .i64 k]
def e13' (L : JL) (o : Nat → Nat) (x6 : T) (i a b : Int) : List T := [jv L none, ov L.n o (some L.n), x6, .ptr 0 0 0 0, .int .i64 i, .int .i64 a, .int .i64 b]
def v19p (L : JL) (o : Nat → Nat) (x6 : T) (i b k : Int) : List T := [jv L none, ov L.n o (some L.n), x6, .ptr 0 0 0 0, .int .i64 i, .int .i64 b, .int .i64 k]
def e19p (L : JL) (o : Nat → Nat) (x6 : T) (i k : Int) : List T := [jv L none, ov L.n o (some L.n), x6, .ptr 0 0 0 0, .int .i64 i, .int .i64 k]
end Go.Ab

namespace Go.Ab
open Go.Proofs
def mxd (L : JL) (d : Nat → Nat) : Nat → Int
  | 0 => 0
  | k + 1 => maxB (mxd L d k) (L.tm (d k))
theorem mxd_lgst (L : JL) (d : Nat → Nat) : ∀ m, (∀ j, j < m → 0 ≤ L.tm (d j)) → 0 < m → mxd L d m = L.tm (d (lgst (fun j => L.tm (d j)) m)) := by
  intro m
  induction m with
  | zero => intro _ h; omega
  | succ m ih =>
    intro h _
    have hm := h m (by omega)
    have h3 := maxB_ge (mxd L d m) (L.tm (d m))
    rcases Nat.eq_zero_or_pos m with q | q
    · subst q
      have e : mxd L d 0 = 0 := rfl
      have e2 : lgst (fun j => L.tm (d j)) (0 + 1) = 0 := by simp [lgst]
      rw [e2]
      simp only [mxd, e] at *
      omega
    · have e := ih (fun j hj => h j (by omega)) q
      simp only [mxd, lgst]
      rw [e] at h3 ⊢
      by_cases q2 : L.tm (d (lgst (fun j => L.tm (d j)) m)) ≤ L.tm (d m)
      · rw [if_pos q2]; omega
      · rw [if_neg q2]; omega
theorem mxd_bd (L : JL) (hL : L.Ok) (d : Nat → Nat) : ∀ m, (∀ j, j < m → d j < L.n) → 0 ≤ mxd L d m ∧ mxd L d m ≤ 100000 := by
  intro m
  induction m with
  | zero => intro _; simp [mxd]
  | succ m ih =>
    intro h
    have h1 := ih fun j hj => h j (by omega)
    have h2 := hL.tm _ (h m (by omega))
    have h3 := maxB_ge (mxd L d m) (L.tm (d m))
    simp only [mxd]
    rcases h3.2.2 with q | q <;> rw [q] <;> omega
theorem tmsd_bd (L : JL) (hL : L.Ok) (d : Nat → Nat) : ∀ m, (∀ j, j < m → d j < L.n) → 0 ≤ tms L d m ∧ tms L d m ≤ 100000 * m := by
  intro m
  induction m with
  | zero => intro _; simp [tms]
  | succ m ih =>
    intro h
    have h1 := ih fun j hj => h j (by omega)
    have h2 := hL.tm _ (h m (by omega))
    simp only [tms]
    omega
theorem l13p (L : JL) (hL : L.Ok) (o : Nat → Nat) (i : Int) (A : Blk) (v len nd : Nat) (d : Nat → Nat) (hr : Heap) (hnd : len ≤ nd) (hn4 : len ≤ 400) (hd : ∀ j, j < len → d j < L.n) :
    LoopOk P41 G41 (A41 5) 5 13 (litS (v13' L o (.own 1 v 0 len none) i 0 0 0) (A :: nb v nd d :: hr) (.exit 2) (e13' L o (.own 1 v 0 len none) i (tms L d len) (mxd L d len)) (A :: nb v nd d :: hr)) := by
  have hn := hL.n
  refine loop_steps hm41 (by kernel_rfl) (fun k => v13' L o (.own 1 v 0 len none) i (tms L d k) (mxd L d k) k) (fun _ => A :: nb v nd d :: hr) (n := len) (fun k hk => ?_) ?_
  · have h1 := tmsd_bd L hL d k fun j hj => hd j (by omega)
    have h2 := hL.tm _ (hd k hk)
    have h3 := hd k hk
    have e1 : tms L d (k + 1) = tms L d k + L.tm (d k) := rfl
    have e2 : mxd L d (k + 1) = maxB (mxd L d k) (L.tm (d k)) := rfl
    rw [e1, e2]
    generalize tms L d k = t at *
    generalize mxd L d k = x at *
    refine Step.mk0 (A := A41) (m := 0) none_ok rfl rfl loops0 (h1 := A :: nb v nd d :: hr) (Eq.trans (show iterR P41 G41 A41 noneO 0 5 [] 13 (v13' L o (.own 1 v 0 len none) i t x k) (A :: nb v nd d :: hr) =
(
 bif v == v then
 bif decide (Int.ofNat k < Int.ofNat len) then
 bif v == v then
 bif decide ((0 : Int) ≤ Int.ofNat k) && decide (Int.ofNat k < Int.ofNat len) then
 bif v == v then
 bif ((0 : Nat) + k).blt nd then
 bif decide ((0 : Int) ≤ Int.ofNat (d ((0 : Nat) + k))) && decide (Int.ofNat (d ((0 : Nat) + k)) < Int.ofNat L.n) then
 bif v == v then
 bif decide ((0 : Int) ≤ Int.ofNat k) && decide (Int.ofNat k < Int.ofNat len) then
 bif v == v then
 bif ((0 : Nat) + k).blt nd then
 bif decide ((0 : Int) ≤ Int.ofNat (d ((0 : Nat) + k))) && decide (Int.ofNat (d ((0 : Nat) + k)) < Int.ofNat L.n) then
 some ((Ex.normal, [jv L
 none, ov L.n o (some L.n), T.own 1 v 0 len
 none, T.ptr 0 0 0 0, T.int .i64 i, T.int .i64 (IntKind.i64.wrap (t + L.tm (d ((0 : Nat) + k)))), T.int .i64 (bif decide (x < L.tm (d ((0 : Nat) + k))) then L.tm (d ((0 : Nat) + k))
 else x), T.int .i64 (IntKind.i64.wrap (Int.ofNat k + (1 : Int)))], A :: nb v nd d :: hr))
 else none else none else none else none else none else none else none else none else none else none else
 some ((Ex.exit 2, [jv L
 none, ov L.n o (some L.n), T.own 1 v 0 len
 none, T.ptr 0 0 0 0, T.int .i64 i, T.int .i64 t, T.int .i64 x], A :: nb v nd d :: hr))
 else
 none) from by kernel_rfl) ?_) (.refl _)
    simp only [Nat.zero_add]
    (repeat (first | (refine bift (by first | assumption | omega | (simp (disch := omega) only [wr64, wr8, wr16, wr32, ofNatE, toNatE, toNatE1, Bool.and_eq_true, Bool.or_eq_true, Bool.not_eq_true', decide_eq_true_eq, decide_eq_false_iff_not, nble, nblt, nbeq, Nat.zero_add, Nat.add_zero, Int.zero_add, Int.add_zero, List.length_cons, List.length_nil, true_and, and_true, Nat.reduceAdd, and_self]; done) | (simp (disch := omega) only [wr64, wr8, wr16, wr32, ofNatE, toNatE, toNatE1, Bool.and_eq_true, Bool.or_eq_true, Bool.not_eq_true', decide_eq_true_eq, decide_eq_false_iff_not, nble, nblt, nbeq, Nat.zero_add, Nat.add_zero, Int.zero_add, Int.add_zero, List.length_cons, List.length_nil, true_and, and_true, Nat.reduceAdd, and_self]; omega)) ?_) | (refine biff (by first | assumption | (simp (disch := omega) only [wr64, wr8, wr16, wr32, ofNatE, toNatE, toNatE1, Bool.and_eq_true, Bool.or_eq_true, Bool.not_eq_true', decide_eq_true_eq, decide_eq_false_iff_not, nble, nblt, nbeq, Nat.zero_add, Nat.add_zero, Int.zero_add, Int.add_zero, List.length_cons, List.length_nil, true_and, and_true, Nat.reduceAdd, and_self]; done) | (simp (disch := omega) only [wr64, wr8, wr16, wr32, ofNatE, toNatE, toNatE1, Bool.and_eq_true, Bool.or_eq_true, Bool.not_eq_true', decide_eq_true_eq, decide_eq_false_iff_not, nble, nblt, nbeq, Nat.zero_add, Nat.add_zero, Int.zero_add, Int.add_zero, List.length_cons, List.length_nil, true_and, and_true, Nat.reduceAdd, and_self]; omega)) ?_)))
    unfold maxB
    first | rfl | (simp (disch := omega) only [wr64, wr8, wr16, wr32, ofNatE, Nat.zero_add, bleT, bltT, dT, dF, Bool.true_and, Bool.and_true, Bool.and_self, cond_true, cond_false, Nat.sub_zero, beq_self_eq_true]; done) | (simp (disch := omega) only [wr64, wr8, wr16, wr32, ofNatE, Nat.zero_add, bleT, bltT, dT, dF, Bool.true_and, Bool.and_true, Bool.and_self, cond_true, cond_false, Nat.sub_zero, beq_self_eq_true]; rfl)
  · generalize tms L d len = t at *
    generalize mxd L d len = x at *
    refine Last.mk0 (A := A41) (m := 0) none_ok rfl rfl loops0 (by simp) (h1 := A :: nb v nd d :: hr) (Eq.trans (show iterR P41 G41 A41 noneO 0 5 [] 13 (v13' L o (.own 1 v 0 len none) i t x len) (A :: nb v nd d :: hr) =
(
 bif v == v then
 bif decide (Int.ofNat len < Int.ofNat len) then
 bif v == v then
 bif decide ((0 : Int) ≤ Int.ofNat len) && decide (Int.ofNat len < Int.ofNat len) then
 bif v == v then
 bif ((0 : Nat) + len).blt nd then
 bif decide ((0 : Int) ≤ Int.ofNat (d ((0 : Nat) + len))) && decide (Int.ofNat (d ((0 : Nat) + len)) < Int.ofNat L.n) then
 bif v == v then
 bif decide ((0 : Int) ≤ Int.ofNat len) && decide (Int.ofNat len < Int.ofNat len) then
 bif v == v then
 bif ((0 : Nat) + len).blt nd then
 bif decide ((0 : Int) ≤ Int.ofNat (d ((0 : Nat) + len))) && decide (Int.ofNat (d ((0 : Nat) + len)) < Int.ofNat L.n) then
 some ((Ex.normal, [jv L
 none, ov L.n o (some L.n), T.own 1 v 0 len
 none, T.ptr 0 0 0 0, T.int .i64 i, T.int .i64 (IntKind.i64.wrap (t + L.tm (d ((0 : Nat) + len)))), T.int .i64 (bif decide (x < L.tm (d ((0 : Nat) + len))) then L.tm (d ((0 : Nat) + len))
 else x), T.int .i64 (IntKind.i64.wrap (Int.ofNat len + (1 : Int)))], A :: nb v nd d :: hr))
 else none else none else none else none else none else none else none else none else none else none else
 some ((Ex.exit 2, [jv L
 none, ov L.n o (some L.n), T.own 1 v 0 len
 none, T.ptr 0 0 0 0, T.int .i64 i, T.int .i64 t, T.int .i64 x], A :: nb v nd d :: hr))
 else
 none) from by kernel_rfl) ?_) (.refl _)
    (repeat (first | (refine bift (by first | assumption | omega | (simp (disch := omega) only [wr64, wr8, wr16, wr32, ofNatE, toNatE, toNatE1, Bool.and_eq_true, Bool.or_eq_true, Bool.not_eq_true', decide_eq_true_eq, decide_eq_false_iff_not, nble, nblt, nbeq, Nat.zero_add, Nat.add_zero, Int.zero_add, Int.add_zero, List.length_cons, List.length_nil, true_and, and_true, Nat.reduceAdd, and_self]; done) | (simp (disch := omega) only [wr64, wr8, wr16, wr32, ofNatE, toNatE, toNatE1, Bool.and_eq_true, Bool.or_eq_true, Bool.not_eq_true', decide_eq_true_eq, decide_eq_false_iff_not, nble, nblt, nbeq, Nat.zero_add, Nat.add_zero, Int.zero_add, Int.add_zero, List.length_cons, List.length_nil, true_and, and_true, Nat.reduceAdd, and_self]; omega)) ?_) | (refine biff (by first | assumption | (simp (disch := omega) only [wr64, wr8, wr16, wr32, ofNatE, toNatE, toNatE1, Bool.and_eq_true, Bool.or_eq_true, Bool.not_eq_true', decide_eq_true_eq, decide_eq_false_iff_not, nble, nblt, nbeq, Nat.zero_add, Nat.add_zero, Int.zero_add, Int.add_zero, List.length_cons, List.length_nil, true_and, and_true, Nat.reduceAdd, and_self]; done) | (simp (disch := omega) only [wr64, wr8, wr16, wr32, ofNatE, toNatE, toNatE1, Bool.and_eq_true, Bool.or_eq_true, Bool.not_eq_true', decide_eq_true_eq, decide_eq_false_iff_not, nble, nblt, nbeq, Nat.zero_add, Nat.add_zero, Int.zero_add, Int.add_zero, List.length_cons, List.length_nil, true_and, and_true, Nat.reduceAdd, and_self]; omega)) ?_)))
    first | rfl | (simp (disch := omega) only [wr64, wr8, wr16, wr32, ofNatE, Nat.zero_add, bleT, bltT, dT, dF, Bool.true_and, Bool.and_true, Bool.and_self, cond_true, cond_false, Nat.sub_zero, beq_self_eq_true]; done) | (simp (disch := omega) only [wr64, wr8, wr16, wr32, ofNatE, Nat.zero_add, bleT, bltT, dT, dF, Bool.true_and, Bool.and_true, Bool.and_self, cond_true, cond_false, Nat.sub_zero, beq_self_eq_true]; rfl)
theorem l19p (L : JL) (o : Nat → Nat) (i : Int) (A : Blk) (v len nd g : Nat) (d : Nat → Nat) (hr : Heap) (hlen : 0 < len) (hnd : len ≤ nd) (hn4 : len ≤ 400) (hd : ∀ j, j < len → d j < L.n) (x : Int) (hg : g < len) (hx : L.tm (d g) = x) (hgt : ∀ j, g < j → j < len → L.tm (d j) < x) :
    LoopOk P41 G41 (A41 5) 5 19 (litS (v19p L o (.own 1 v 0 len none) i x (len - 1 : Nat)) (A :: nb v nd d :: hr) (.exit 4) (e19p L o (.own 1 v 0 len none) i (g : Nat)) (A :: nb v nd d :: hr)) := by
  have := loop_steps (P := P41) (Gl := G41) (an := A41 5) hm41 (f := 5) (r := 19) (by kernel_rfl) (fun k => v19p L o (.own 1 v 0 len none) i x (len - 1 - k : Nat)) (fun _ => A :: nb v nd d :: hr) (n := len - 1 - g) (e1 := .exit 4) (vs1 := e19p L o (.own 1 v 0 len none) i (g : Nat)) (h1 := A :: nb v nd d :: hr) (fun k hk => ?_) ?_
  · exact this
  · have e : len - 1 - (k + 1) = len - 1 - k - 1 := by omega
    rw [e]
    have hgk : g < len - 1 - k := by omega
    have hkl : len - 1 - k < len := by omega
    generalize len - 1 - k = k at *
    have h1 := hgt k hgk hkl
    have h2 := hd k hkl
    refine Step.mk0 (A := A41) (m := 0) none_ok rfl rfl loops0 (h1 := A :: nb v nd d :: hr) (Eq.trans (show iterR P41 G41 A41 noneO 0 5 [] 19 (v19p L o (.own 1 v 0 len none) i x (k : Nat)) (A :: nb v nd d :: hr) =
(
 bif v == v then
 bif decide ((0 : Int) ≤ Int.ofNat k) && decide (Int.ofNat k < Int.ofNat len) then
 bif v == v then
 bif ((0 : Nat) + k).blt nd then
 bif decide ((0 : Int) ≤ Int.ofNat (d ((0 : Nat) + k))) && decide (Int.ofNat (d ((0 : Nat) + k)) < Int.ofNat L.n) then
 bif !decide (L.tm (d ((0 : Nat) + k)) = x) then
 some ((Ex.normal, [jv L
 none, ov L.n o (some L.n), T.own 1 v 0 len
 none, T.ptr 0 0 0 0, T.int .i64 i, T.int .i64 x, T.int .i64 (IntKind.i64.wrap (Int.ofNat k - (1 : Int)))], A :: nb v nd d :: hr))
 else
 some ((Ex.exit 4, [jv L
 none, ov L.n o (some L.n), T.own 1 v 0 len
 none, T.ptr 0 0 0 0, T.int .i64 i, T.int .i64 (Int.ofNat k)], A :: nb v nd d :: hr))
 else none else none else none else none else
 none) from by kernel_rfl) ?_) (.refl _)
    simp only [Nat.zero_add]
    rw [show IntKind.i64.wrap (Int.ofNat k - (1 : Int)) = ((k - 1 : Nat) : Int) by rw [wr64 (by rw [ofNatE]; omega) (by rw [ofNatE]; omega), ofNatE]; omega]
    (repeat (first | (refine bift (by first | assumption | omega | (simp (disch := omega) only [wr64, wr8, wr16, wr32, ofNatE, toNatE, toNatE1, Bool.and_eq_true, Bool.or_eq_true, Bool.not_eq_true', decide_eq_true_eq, decide_eq_false_iff_not, nble, nblt, nbeq, Nat.zero_add, Nat.add_zero, Int.zero_add, Int.add_zero, List.length_cons, List.length_nil, true_and, and_true, Nat.reduceAdd, and_self]; done) | (simp (disch := omega) only [wr64, wr8, wr16, wr32, ofNatE, toNatE, toNatE1, Bool.and_eq_true, Bool.or_eq_true, Bool.not_eq_true', decide_eq_true_eq, decide_eq_false_iff_not, nble, nblt, nbeq, Nat.zero_add, Nat.add_zero, Int.zero_add, Int.add_zero, List.length_cons, List.length_nil, true_and, and_true, Nat.reduceAdd, and_self]; omega)) ?_) | (refine biff (by first | assumption | (simp (disch := omega) only [wr64, wr8, wr16, wr32, ofNatE, toNatE, toNatE1, Bool.and_eq_true, Bool.or_eq_true, Bool.not_eq_true', decide_eq_true_eq, decide_eq_false_iff_not, nble, nblt, nbeq, Nat.zero_add, Nat.add_zero, Int.zero_add, Int.add_zero, List.length_cons, List.length_nil, true_and, and_true, Nat.reduceAdd, and_self]; done) | (simp (disch := omega) only [wr64, wr8, wr16, wr32, ofNatE, toNatE, toNatE1, Bool.and_eq_true, Bool.or_eq_true, Bool.not_eq_true', decide_eq_true_eq, decide_eq_false_iff_not, nble, nblt, nbeq, Nat.zero_add, Nat.add_zero, Int.zero_add, Int.add_zero, List.length_cons, List.length_nil, true_and, and_true, Nat.reduceAdd, and_self]; omega)) ?_)))
    first | rfl | (simp (disch := omega) only [wr64, wr8, wr16, wr32, ofNatE, Nat.zero_add, bleT, bltT, dT, dF, Bool.true_and, Bool.and_true, Bool.and_self, cond_true, cond_false, Nat.sub_zero, beq_self_eq_true]; done) | (simp (disch := omega) only [wr64, wr8, wr16, wr32, ofNatE, Nat.zero_add, bleT, bltT, dT, dF, Bool.true_and, Bool.and_true, Bool.and_self, cond_true, cond_false, Nat.sub_zero, beq_self_eq_true]; rfl)
  · rw [show len - 1 - (len - 1 - g) = g by omega]
    have h2 := hd g hg
    refine Last.mk0 (A := A41) (m := 0) none_ok rfl rfl loops0 (by simp) (h1 := A :: nb v nd d :: hr) (Eq.trans (show iterR P41 G41 A41 noneO 0 5 [] 19 (v19p L o (.own 1 v 0 len none) i x (g : Nat)) (A :: nb v nd d :: hr) =
(
 bif v == v then
 bif decide ((0 : Int) ≤ Int.ofNat g) && decide (Int.ofNat g < Int.ofNat len) then
 bif v == v then
 bif ((0 : Nat) + g).blt nd then
 bif decide ((0 : Int) ≤ Int.ofNat (d ((0 : Nat) + g))) && decide (Int.ofNat (d ((0 : Nat) + g)) < Int.ofNat L.n) then
 bif !decide (L.tm (d ((0 : Nat) + g)) = x) then
 some ((Ex.normal, [jv L
 none, ov L.n o (some L.n), T.own 1 v 0 len
 none, T.ptr 0 0 0 0, T.int .i64 i, T.int .i64 x, T.int .i64 (IntKind.i64.wrap (Int.ofNat g - (1 : Int)))], A :: nb v nd d :: hr))
 else
 some ((Ex.exit 4, [jv L
 none, ov L.n o (some L.n), T.own 1 v 0 len
 none, T.ptr 0 0 0 0, T.int .i64 i, T.int .i64 (Int.ofNat g)], A :: nb v nd d :: hr))
 else none else none else none else none else
 none) from by kernel_rfl) ?_) (.refl _)
    simp only [Nat.zero_add, hx]
    (repeat (first | (refine bift (by first | assumption | omega | (simp (disch := omega) only [wr64, wr8, wr16, wr32, ofNatE, toNatE, toNatE1, Bool.and_eq_true, Bool.or_eq_true, Bool.not_eq_true', decide_eq_true_eq, decide_eq_false_iff_not, nble, nblt, nbeq, Nat.zero_add, Nat.add_zero, Int.zero_add, Int.add_zero, List.length_cons, List.length_nil, true_and, and_true, Nat.reduceAdd, and_self]; done) | (simp (disch := omega) only [wr64, wr8, wr16, wr32, ofNatE, toNatE, toNatE1, Bool.and_eq_true, Bool.or_eq_true, Bool.not_eq_true', decide_eq_true_eq, decide_eq_false_iff_not, nble, nblt, nbeq, Nat.zero_add, Nat.add_zero, Int.zero_add, Int.add_zero, List.length_cons, List.length_nil, true_and, and_true, Nat.reduceAdd, and_self]; omega)) ?_) | (refine biff (by first | assumption | (simp (disch := omega) only [wr64, wr8, wr16, wr32, ofNatE, toNatE, toNatE1, Bool.and_eq_true, Bool.or_eq_true, Bool.not_eq_true', decide_eq_true_eq, decide_eq_false_iff_not, nble, nblt, nbeq, Nat.zero_add, Nat.add_zero, Int.zero_add, Int.add_zero, List.length_cons, List.length_nil, true_and, and_true, Nat.reduceAdd, and_self]; done) | (simp (disch := omega) only [wr64, wr8, wr16, wr32, ofNatE, toNatE, toNatE1, Bool.and_eq_true, Bool.or_eq_true, Bool.not_eq_true', decide_eq_true_eq, decide_eq_false_iff_not, nble, nblt, nbeq, Nat.zero_add, Nat.add_zero, Int.zero_add, Int.add_zero, List.length_cons, List.length_nil, true_and, and_true, Nat.reduceAdd, and_self]; omega)) ?_)))
    first | rfl | (simp (disch := omega) only [wr64, wr8, wr16, wr32, ofNatE, Nat.zero_add, bleT, bltT, dT, dF, Bool.true_and, Bool.and_true, Bool.and_self, cond_true, cond_false, Nat.sub_zero, beq_self_eq_true]; done) | (simp (disch := omega) only [wr64, wr8, wr16, wr32, ofNatE, Nat.zero_add, bleT, bltT, dT, dF, Bool.true_and, Bool.and_true, Bool.and_self, cond_true, cond_false, Nat.sub_zero, beq_self_eq_true]; rfl)
end Go.Ab

namespace Go.Ab
open Go.Proofs
def aU (s : Nat → Bool) (x : Nat) : Nat → Bool := fun e => bif e == x then true else s e
theorem r5z (L : JL) (hL : L.Ok) (o : Nat → Nat) (i : Nat) (s : Nat → Bool) (hn : L.n ≤ 40) (hi : i < L.n) (ho : o i < L.n) :
    (L.tm (o i) ≤ L.du (o i) → Step P41 G41 (A41 5) 5 8 1 (v8 L o .nils i) [bb 40 s] (v8 L o (.own 1 0 0 1 none) (i + 1 : Nat)) [bb 40 s, nb 0 1 fun _ => o i]) ∧
    (¬ L.tm (o i) ≤ L.du (o i) → Step P41 G41 (A41 5) 5 8 1 (v8 L o .nils i) [bb 40 s] (v8 L o (.own 1 0 0 0 (some 0)) (i + 1 : Nat)) [bb 40 (aU s (o i)), nb 0 0 fun _ => 0]) := by
  have ht := hL.tm _ ho
  have tree := (show iterR P41 G41 A41 noneO 3 5 [] 8 (v8 L o .nils i) [bb 40 s] =
(
 bif decide (Int.ofNat i < Int.ofNat L.n) then
 bif decide ((0 : Int) ≤ Int.ofNat i) && decide (Int.ofNat i < Int.ofNat L.n) then
 bif decide ((0 : Int) ≤ Int.ofNat (o i)) && decide (Int.ofNat (o i) < Int.ofNat L.n) then
 bif decide ((0 : Int) ≤ Int.ofNat (o i)) && decide (Int.ofNat (o i) < Int.ofNat L.n) then
 bif decide ((0 : Int) ≤ Int.ofNat i) && decide (Int.ofNat i < Int.ofNat L.n) then
 bif decide ((0 : Int) ≤ Int.ofNat (o i)) && decide (Int.ofNat (o i) < Int.ofNat L.n) then
 bif decide (IntKind.i64.wrap ((0 : Int) + L.tm (o i)) ≤ L.du (o i)) then
 some ((Ex.normal, [jv L
 none, ov L.n o (some L.n), T.own [bb 40 s, Blk.mk 0 1 1 (fun j => [[T.int .i64 (Int.ofNat (o i))]].getD j []) true true].length (0 : Nat) (0 : Nat) (1 : Nat)
 none, T.ptr 0 0 0 0, T.int .i64 (IntKind.i64.wrap (Int.ofNat i + (1 : Int)))], [bb 40 s, Blk.mk 0 1 1 (fun j => [[T.int .i64 (Int.ofNat (o i))]].getD j []) true true, Blk.mk 0 1 1 (fun j => [[T.int .i64 (Int.ofNat (o i))]].getD ((0 : Nat) + j) []) true false]))
 else
 bif decide ((0 : Int) ≤ Int.ofNat (o i)) && decide (Int.ofNat (o i) < Int.ofNat L.n) then
 bif !decide (L.tm (o i) =
 bif decide ((0 : Int) < L.tm (o i)) then L.tm (o i)
 else (0 : Int)) then none else
 bif decide ((0 : Int) ≤ Int.ofNat (o i)) && decide (Int.ofNat (o i) < (40 : Int)) then
 bif ((0 : Nat) + o i).blt 40 && true && true && true then
 some ((Ex.normal, [jv L
 none, ov L.n o (some L.n), T.own [Blk.mk 0 1 40 (fun e => [T.bool (bif e == (0 : Nat) + o i then true
 else s e)]) true false, Blk.mk 0 1 1 (fun j => [[T.int .i64 (Int.ofNat (o i))]].getD j []) true true, Blk.mk 0 1 1 (fun j => [[T.int .i64 (Int.ofNat (o i))]].getD ((0 : Nat) + j) []) true false].length (0 : Nat) (0 : Nat) (0 : Nat) (some 0), T.ptr 0 0 0 0, T.int .i64 (IntKind.i64.wrap (Int.ofNat i + (1 : Int)))], [Blk.mk 0 1 40 (fun e => [T.bool (bif e == (0 : Nat) + o i then true
 else s e)]) true false, Blk.mk 0 1 1 (fun j => [[T.int .i64 (Int.ofNat (o i))]].getD j []) true true, Blk.mk 0 1 1 (fun j => [[T.int .i64 (Int.ofNat (o i))]].getD ((0 : Nat) + j) []) true false, Blk.mk 0 1 0 (fun j => []) true true]))
 else none else none else none else none else none else none else none else none else
 some ((Ex.exit 0, [jv L
 none, T.nils, T.ptr 0 0 0 0], [bb 40 s]))) from by kernel_rfl)
  rw [show IntKind.i64.wrap (Int.ofNat i + (1 : Int)) = ((i + 1 : Nat) : Int) by rw [wr64 (by rw [ofNatE]; omega) (by rw [ofNatE]; omega)]; rfl] at tree
  simp only [Nat.zero_add, Int.zero_add] at tree
  constructor
  · intro hq
    refine Step.mkC (A := A41) (m := 3) none_ok rfl rfl loops0 [0, 2] (v1 := v8 L o (.own 2 0 0 1 none) (i + 1 : Nat)) (h1 := [bb 40 s, tb (o i), lb1 (o i)]) (v2 := v8 L o (.own 1 0 0 1 none) (i + 1 : Nat)) (h2 := [bb 40 s, lb1 (o i)]) (Eq.trans tree ?_) (by rfl) (by rfl) (by rfl) fun nt => .same (.cons ⟨rfl, rfl, rfl, id, fun _ _ => rfl⟩ (.cons ⟨rfl, rfl, rfl, id, fun j hj => by
      have hj' : j < 1 := hj
      obtain rfl : j = 0 := by omega
      rfl⟩ .nil))
    clear tree
    (repeat (first | (refine bift (by first | assumption | omega | (simp (disch := omega) only [wr64, wr8, wr16, wr32, ofNatE, toNatE, toNatE1, Bool.and_eq_true, Bool.or_eq_true, Bool.not_eq_true', decide_eq_true_eq, decide_eq_false_iff_not, nble, nblt, nbeq, Nat.zero_add, Nat.add_zero, Int.zero_add, Int.add_zero, List.length_cons, List.length_nil, true_and, and_true, Nat.reduceAdd, and_self]; done) | (simp (disch := omega) only [wr64, wr8, wr16, wr32, ofNatE, toNatE, toNatE1, Bool.and_eq_true, Bool.or_eq_true, Bool.not_eq_true', decide_eq_true_eq, decide_eq_false_iff_not, nble, nblt, nbeq, Nat.zero_add, Nat.add_zero, Int.zero_add, Int.add_zero, List.length_cons, List.length_nil, true_and, and_true, Nat.reduceAdd, and_self]; omega)) ?_) | (refine biff (by first | assumption | (simp (disch := omega) only [wr64, wr8, wr16, wr32, ofNatE, toNatE, toNatE1, Bool.and_eq_true, Bool.or_eq_true, Bool.not_eq_true', decide_eq_true_eq, decide_eq_false_iff_not, nble, nblt, nbeq, Nat.zero_add, Nat.add_zero, Int.zero_add, Int.add_zero, List.length_cons, List.length_nil, true_and, and_true, Nat.reduceAdd, and_self]; done) | (simp (disch := omega) only [wr64, wr8, wr16, wr32, ofNatE, toNatE, toNatE1, Bool.and_eq_true, Bool.or_eq_true, Bool.not_eq_true', decide_eq_true_eq, decide_eq_false_iff_not, nble, nblt, nbeq, Nat.zero_add, Nat.add_zero, Int.zero_add, Int.add_zero, List.length_cons, List.length_nil, true_and, and_true, Nat.reduceAdd, and_self]; omega)) ?_)))
    simp only [lb1, Nat.zero_add]
    rfl
  · intro hq
    refine Step.mkC (A := A41) (m := 3) none_ok rfl rfl loops0 [0, 3] (v1 := v8 L o (.own 3 0 0 0 (some 0)) (i + 1 : Nat)) (h1 := [bb 40 (aU s (o i)), tb (o i), lb1 (o i), eb 0]) (v2 := v8 L o (.own 1 0 0 0 (some 0)) (i + 1 : Nat)) (h2 := [bb 40 (aU s (o i)), eb 0]) (Eq.trans tree ?_) (by rfl) (by rfl) (by rfl) fun nt => .same (.cons ⟨rfl, rfl, rfl, id, fun _ _ => rfl⟩ (.cons ⟨rfl, rfl, rfl, id, fun j hj => by cases hj⟩ .nil))
    simp only [show (bif decide ((0 : Int) < L.tm (o i)) then L.tm (o i) else (0 : Int)) = L.tm (o i) by rw [dT (show (0 : Int) < L.tm (o i) by omega)]; rfl]
    clear tree
    (repeat (first | (refine bift (by first | assumption | omega | (simp (disch := omega) only [wr64, wr8, wr16, wr32, ofNatE, toNatE, toNatE1, Bool.and_eq_true, Bool.or_eq_true, Bool.not_eq_true', decide_eq_true_eq, decide_eq_false_iff_not, nble, nblt, nbeq, Nat.zero_add, Nat.add_zero, Int.zero_add, Int.add_zero, List.length_cons, List.length_nil, true_and, and_true, Nat.reduceAdd, and_self]; done) | (simp (disch := omega) only [wr64, wr8, wr16, wr32, ofNatE, toNatE, toNatE1, Bool.and_eq_true, Bool.or_eq_true, Bool.not_eq_true', decide_eq_true_eq, decide_eq_false_iff_not, nble, nblt, nbeq, Nat.zero_add, Nat.add_zero, Int.zero_add, Int.add_zero, List.length_cons, List.length_nil, true_and, and_true, Nat.reduceAdd, and_self]; omega)) ?_) | (refine biff (by first | assumption | (simp (disch := omega) only [wr64, wr8, wr16, wr32, ofNatE, toNatE, toNatE1, Bool.and_eq_true, Bool.or_eq_true, Bool.not_eq_true', decide_eq_true_eq, decide_eq_false_iff_not, nble, nblt, nbeq, Nat.zero_add, Nat.add_zero, Int.zero_add, Int.add_zero, List.length_cons, List.length_nil, true_and, and_true, Nat.reduceAdd, and_self]; done) | (simp (disch := omega) only [wr64, wr8, wr16, wr32, ofNatE, toNatE, toNatE1, Bool.and_eq_true, Bool.or_eq_true, Bool.not_eq_true', decide_eq_true_eq, decide_eq_false_iff_not, nble, nblt, nbeq, Nat.zero_add, Nat.add_zero, Int.zero_add, Int.add_zero, List.length_cons, List.length_nil, true_and, and_true, Nat.reduceAdd, and_self]; omega)) ?_)))
    refine biff (by simp) ?_
    (repeat (first | (refine bift (by first | assumption | omega | (simp (disch := omega) only [wr64, wr8, wr16, wr32, ofNatE, toNatE, toNatE1, Bool.and_eq_true, Bool.or_eq_true, Bool.not_eq_true', decide_eq_true_eq, decide_eq_false_iff_not, nble, nblt, nbeq, Nat.zero_add, Nat.add_zero, Int.zero_add, Int.add_zero, List.length_cons, List.length_nil, true_and, and_true, Nat.reduceAdd, and_self]; done) | (simp (disch := omega) only [wr64, wr8, wr16, wr32, ofNatE, toNatE, toNatE1, Bool.and_eq_true, Bool.or_eq_true, Bool.not_eq_true', decide_eq_true_eq, decide_eq_false_iff_not, nble, nblt, nbeq, Nat.zero_add, Nat.add_zero, Int.zero_add, Int.add_zero, List.length_cons, List.length_nil, true_and, and_true, Nat.reduceAdd, and_self]; omega)) ?_) | (refine biff (by first | assumption | (simp (disch := omega) only [wr64, wr8, wr16, wr32, ofNatE, toNatE, toNatE1, Bool.and_eq_true, Bool.or_eq_true, Bool.not_eq_true', decide_eq_true_eq, decide_eq_false_iff_not, nble, nblt, nbeq, Nat.zero_add, Nat.add_zero, Int.zero_add, Int.add_zero, List.length_cons, List.length_nil, true_and, and_true, Nat.reduceAdd, and_self]; done) | (simp (disch := omega) only [wr64, wr8, wr16, wr32, ofNatE, toNatE, toNatE1, Bool.and_eq_true, Bool.or_eq_true, Bool.not_eq_true', decide_eq_true_eq, decide_eq_false_iff_not, nble, nblt, nbeq, Nat.zero_add, Nat.add_zero, Int.zero_add, Int.add_zero, List.length_cons, List.length_nil, true_and, and_true, Nat.reduceAdd, and_self]; omega)) ?_)))
    simp only [lb1, aU, Nat.zero_add]
    rfl
theorem r5e (L : JL) (hL : L.Ok) (o : Nat → Nat) (i : Nat) (s : Nat → Bool) (d : Nat → Nat) (hn : L.n ≤ 40) (hi : i < L.n) (ho : o i < L.n) :
    (L.tm (o i) ≤ L.du (o i) → Step P41 G41 (A41 5) 5 8 1 (v8 L o (.own 1 0 0 0 (some 0)) i) [bb 40 s, nb 0 0 d] (v8 L o (.own 1 0 0 1 none) (i + 1 : Nat)) [bb 40 s, nb 0 1 fun _ => o i]) ∧
    (¬ L.tm (o i) ≤ L.du (o i) → Step P41 G41 (A41 5) 5 8 1 (v8 L o (.own 1 0 0 0 (some 0)) i) [bb 40 s, nb 0 0 d] (v8 L o (.own 1 0 0 0 (some 0)) (i + 1 : Nat)) [bb 40 (aU s (o i)), nb 0 0 fun _ => 0]) := by
  have ht := hL.tm _ ho
  have tree := (show iterR P41 G41 A41 noneO 3 5 [] 8 (v8 L o (.own 1 0 0 0 (some 0)) i) [bb 40 s, nb 0 0 d] =
(
 bif decide (Int.ofNat i < Int.ofNat L.n) then
 bif decide ((0 : Int) ≤ Int.ofNat i) && decide (Int.ofNat i < Int.ofNat L.n) then
 bif decide ((0 : Int) ≤ Int.ofNat (o i)) && decide (Int.ofNat (o i) < Int.ofNat L.n) then
 bif decide ((0 : Int) ≤ Int.ofNat (o i)) && decide (Int.ofNat (o i) < Int.ofNat L.n) then
 bif decide ((0 : Int) ≤ Int.ofNat i) && decide (Int.ofNat i < Int.ofNat L.n) then
 bif decide ((0 : Int) ≤ Int.ofNat (o i)) && decide (Int.ofNat (o i) < Int.ofNat L.n) then
 bif decide (IntKind.i64.wrap ((0 : Int) + L.tm (o i)) ≤ L.du (o i)) then
 some ((Ex.normal, [jv L
 none, ov L.n o (some L.n), T.own [bb 40 s, nb 0 0 d, Blk.mk 0 1 1 (fun j => [[T.int .i64 (Int.ofNat (o i))]].getD j []) true true].length (0 : Nat) (0 : Nat) (1 : Nat)
 none, T.ptr 0 0 0 0, T.int .i64 (IntKind.i64.wrap (Int.ofNat i + (1 : Int)))], [bb 40 s, nb 0 0 d, Blk.mk 0 1 1 (fun j => [[T.int .i64 (Int.ofNat (o i))]].getD j []) true true, Blk.mk 0 1 1 (fun j =>
 bif j.blt 0 then [T.int .i64 (Int.ofNat (d ((0 : Nat) + j)))]
 else [[T.int .i64 (Int.ofNat (o i))]].getD ((0 : Nat) + (j - (0 : Nat))) []) true false]))
 else
 bif decide ((0 : Int) ≤ Int.ofNat (o i)) && decide (Int.ofNat (o i) < Int.ofNat L.n) then
 bif !decide (L.tm (o i) =
 bif decide ((0 : Int) < L.tm (o i)) then L.tm (o i)
 else (0 : Int)) then none else
 bif decide ((0 : Int) ≤ Int.ofNat (o i)) && decide (Int.ofNat (o i) < (40 : Int)) then
 bif ((0 : Nat) + o i).blt 40 && true && true && true then
 some ((Ex.normal, [jv L
 none, ov L.n o (some L.n), T.own [Blk.mk 0 1 40 (fun e => [T.bool (bif e == (0 : Nat) + o i then true
 else s e)]) true false, nb 0 0 d, Blk.mk 0 1 1 (fun j => [[T.int .i64 (Int.ofNat (o i))]].getD j []) true true, Blk.mk 0 1 1 (fun j =>
 bif j.blt 0 then [T.int .i64 (Int.ofNat (d ((0 : Nat) + j)))]
 else [[T.int .i64 (Int.ofNat (o i))]].getD ((0 : Nat) + (j - (0 : Nat))) []) true false].length (0 : Nat) (0 : Nat) (0 : Nat) (some 0), T.ptr 0 0 0 0, T.int .i64 (IntKind.i64.wrap (Int.ofNat i + (1 : Int)))], [Blk.mk 0 1 40 (fun e => [T.bool (bif e == (0 : Nat) + o i then true
 else s e)]) true false, nb 0 0 d, Blk.mk 0 1 1 (fun j => [[T.int .i64 (Int.ofNat (o i))]].getD j []) true true, Blk.mk 0 1 1 (fun j =>
 bif j.blt 0 then [T.int .i64 (Int.ofNat (d ((0 : Nat) + j)))]
 else [[T.int .i64 (Int.ofNat (o i))]].getD ((0 : Nat) + (j - (0 : Nat))) []) true false, Blk.mk 0 1 0 (fun j => []) true true]))
 else none else none else none else none else none else none else none else none else
 some ((Ex.exit 0, [jv L
 none, T.own 1 0 0 0 (some 0), T.ptr 0 0 0 0], [bb 40 s, nb 0 0 d]))) from by kernel_rfl)
  rw [show IntKind.i64.wrap (Int.ofNat i + (1 : Int)) = ((i + 1 : Nat) : Int) by rw [wr64 (by rw [ofNatE]; omega) (by rw [ofNatE]; omega)]; rfl] at tree
  simp only [Nat.zero_add, Int.zero_add] at tree
  constructor
  · intro hq
    refine Step.mkC (A := A41) (m := 3) none_ok rfl rfl loops0 [0, 3] (v1 := v8 L o (.own 3 0 0 1 none) (i + 1 : Nat)) (h1 := [bb 40 s, nb 0 0 d, tb (o i), lb1 (o i)]) (v2 := v8 L o (.own 1 0 0 1 none) (i + 1 : Nat)) (h2 := [bb 40 s, lb1 (o i)]) (Eq.trans tree ?_) (by rfl) (by rfl) (by rfl) fun nt => .same (.cons ⟨rfl, rfl, rfl, id, fun _ _ => rfl⟩ (.cons ⟨rfl, rfl, rfl, id, fun j hj => by
      have hj' : j < 1 := hj
      obtain rfl : j = 0 := by omega
      rfl⟩ .nil))
    clear tree
    (repeat (first | (refine bift (by first | assumption | omega | (simp (disch := omega) only [wr64, wr8, wr16, wr32, ofNatE, toNatE, toNatE1, Bool.and_eq_true, Bool.or_eq_true, Bool.not_eq_true', decide_eq_true_eq, decide_eq_false_iff_not, nble, nblt, nbeq, Nat.zero_add, Nat.add_zero, Int.zero_add, Int.add_zero, List.length_cons, List.length_nil, true_and, and_true, Nat.reduceAdd, and_self]; done) | (simp (disch := omega) only [wr64, wr8, wr16, wr32, ofNatE, toNatE, toNatE1, Bool.and_eq_true, Bool.or_eq_true, Bool.not_eq_true', decide_eq_true_eq, decide_eq_false_iff_not, nble, nblt, nbeq, Nat.zero_add, Nat.add_zero, Int.zero_add, Int.add_zero, List.length_cons, List.length_nil, true_and, and_true, Nat.reduceAdd, and_self]; omega)) ?_) | (refine biff (by first | assumption | (simp (disch := omega) only [wr64, wr8, wr16, wr32, ofNatE, toNatE, toNatE1, Bool.and_eq_true, Bool.or_eq_true, Bool.not_eq_true', decide_eq_true_eq, decide_eq_false_iff_not, nble, nblt, nbeq, Nat.zero_add, Nat.add_zero, Int.zero_add, Int.add_zero, List.length_cons, List.length_nil, true_and, and_true, Nat.reduceAdd, and_self]; done) | (simp (disch := omega) only [wr64, wr8, wr16, wr32, ofNatE, toNatE, toNatE1, Bool.and_eq_true, Bool.or_eq_true, Bool.not_eq_true', decide_eq_true_eq, decide_eq_false_iff_not, nble, nblt, nbeq, Nat.zero_add, Nat.add_zero, Int.zero_add, Int.add_zero, List.length_cons, List.length_nil, true_and, and_true, Nat.reduceAdd, and_self]; omega)) ?_)))
    simp only [lb1, Nat.zero_add]
    rfl
  · intro hq
    refine Step.mkC (A := A41) (m := 3) none_ok rfl rfl loops0 [0, 4] (v1 := v8 L o (.own 4 0 0 0 (some 0)) (i + 1 : Nat)) (h1 := [bb 40 (aU s (o i)), nb 0 0 d, tb (o i), lb1 (o i), eb 0]) (v2 := v8 L o (.own 1 0 0 0 (some 0)) (i + 1 : Nat)) (h2 := [bb 40 (aU s (o i)), eb 0]) (Eq.trans tree ?_) (by rfl) (by rfl) (by rfl) fun nt => .same (.cons ⟨rfl, rfl, rfl, id, fun _ _ => rfl⟩ (.cons ⟨rfl, rfl, rfl, id, fun j hj => by cases hj⟩ .nil))
    simp only [show (bif decide ((0 : Int) < L.tm (o i)) then L.tm (o i) else (0 : Int)) = L.tm (o i) by rw [dT (show (0 : Int) < L.tm (o i) by omega)]; rfl]
    clear tree
    (repeat (first | (refine bift (by first | assumption | omega | (simp (disch := omega) only [wr64, wr8, wr16, wr32, ofNatE, toNatE, toNatE1, Bool.and_eq_true, Bool.or_eq_true, Bool.not_eq_true', decide_eq_true_eq, decide_eq_false_iff_not, nble, nblt, nbeq, Nat.zero_add, Nat.add_zero, Int.zero_add, Int.add_zero, List.length_cons, List.length_nil, true_and, and_true, Nat.reduceAdd, and_self]; done) | (simp (disch := omega) only [wr64, wr8, wr16, wr32, ofNatE, toNatE, toNatE1, Bool.and_eq_true, Bool.or_eq_true, Bool.not_eq_true', decide_eq_true_eq, decide_eq_false_iff_not, nble, nblt, nbeq, Nat.zero_add, Nat.add_zero, Int.zero_add, Int.add_zero, List.length_cons, List.length_nil, true_and, and_true, Nat.reduceAdd, and_self]; omega)) ?_) | (refine biff (by first | assumption | (simp (disch := omega) only [wr64, wr8, wr16, wr32, ofNatE, toNatE, toNatE1, Bool.and_eq_true, Bool.or_eq_true, Bool.not_eq_true', decide_eq_true_eq, decide_eq_false_iff_not, nble, nblt, nbeq, Nat.zero_add, Nat.add_zero, Int.zero_add, Int.add_zero, List.length_cons, List.length_nil, true_and, and_true, Nat.reduceAdd, and_self]; done) | (simp (disch := omega) only [wr64, wr8, wr16, wr32, ofNatE, toNatE, toNatE1, Bool.and_eq_true, Bool.or_eq_true, Bool.not_eq_true', decide_eq_true_eq, decide_eq_false_iff_not, nble, nblt, nbeq, Nat.zero_add, Nat.add_zero, Int.zero_add, Int.add_zero, List.length_cons, List.length_nil, true_and, and_true, Nat.reduceAdd, and_self]; omega)) ?_)))
    refine biff (by simp) ?_
    (repeat (first | (refine bift (by first | assumption | omega | (simp (disch := omega) only [wr64, wr8, wr16, wr32, ofNatE, toNatE, toNatE1, Bool.and_eq_true, Bool.or_eq_true, Bool.not_eq_true', decide_eq_true_eq, decide_eq_false_iff_not, nble, nblt, nbeq, Nat.zero_add, Nat.add_zero, Int.zero_add, Int.add_zero, List.length_cons, List.length_nil, true_and, and_true, Nat.reduceAdd, and_self]; done) | (simp (disch := omega) only [wr64, wr8, wr16, wr32, ofNatE, toNatE, toNatE1, Bool.and_eq_true, Bool.or_eq_true, Bool.not_eq_true', decide_eq_true_eq, decide_eq_false_iff_not, nble, nblt, nbeq, Nat.zero_add, Nat.add_zero, Int.zero_add, Int.add_zero, List.length_cons, List.length_nil, true_and, and_true, Nat.reduceAdd, and_self]; omega)) ?_) | (refine biff (by first | assumption | (simp (disch := omega) only [wr64, wr8, wr16, wr32, ofNatE, toNatE, toNatE1, Bool.and_eq_true, Bool.or_eq_true, Bool.not_eq_true', decide_eq_true_eq, decide_eq_false_iff_not, nble, nblt, nbeq, Nat.zero_add, Nat.add_zero, Int.zero_add, Int.add_zero, List.length_cons, List.length_nil, true_and, and_true, Nat.reduceAdd, and_self]; done) | (simp (disch := omega) only [wr64, wr8, wr16, wr32, ofNatE, toNatE, toNatE1, Bool.and_eq_true, Bool.or_eq_true, Bool.not_eq_true', decide_eq_true_eq, decide_eq_false_iff_not, nble, nblt, nbeq, Nat.zero_add, Nat.add_zero, Int.zero_add, Int.add_zero, List.length_cons, List.length_nil, true_and, and_true, Nat.reduceAdd, and_self]; omega)) ?_)))
    simp only [lb1, aU, Nat.zero_add]
    rfl
end Go.Ab

namespace Go.Ab
open Go.Proofs
set_option maxHeartbeats 1000000 in
theorem r5 (L : JL) (hL : L.Ok) (o : Nat → Nat) (i : Nat) (s : Nat → Bool) (v len nd : Nat) (d : Nat → Nat) (hn : L.n ≤ 40) (hi : i < L.n) (ho : o i < L.n) (h0 : 0 < len) (h1 : len ≤ nd) (h2 : len ≤ 300) (hd : ∀ j, j < len → d j < L.n) (g : Nat) (hg : g = lgst (fun j => L.tm (apD d len (o i) j)) (len + 1)) :
    (tms L (apD d len (o i)) (len + 1) ≤ L.du (o i) → ∃ v' nd', len + 1 ≤ nd' ∧ Step P41 G41 (A41 5) 5 8 1 (v8 L o (.own 1 v 0 len none) i) [bb 40 s, nb v nd d] (v8 L o (.own 1 v' 0 (len + 1) none) (i + 1 : Nat)) [bb 40 s, nb v' nd' (apD d len (o i))]) ∧
    (¬ tms L (apD d len (o i)) (len + 1) ≤ L.du (o i) → ∃ v', Step P41 G41 (A41 5) 5 8 1 (v8 L o (.own 1 v 0 len none) i) [bb 40 s, nb v nd d] (v8 L o (.own 1 v' 0 len none) (i + 1 : Nat)) [bb 40 (aU s (apD d len (o i) g)), nb v' len (delD (apD d len (o i)) g len)]) := by
  have htm := hL.tm (o i) ho
  have hgl : g < len + 1 := by rw [hg]; exact lgst_lt _ _ (by omega)
  have hda : ∀ j, j < len + 1 → apD d len (o i) j < L.n := fun j hj => by
    unfold apD
    by_cases q : j = len
    · rw [if_pos q]; exact ho
    · rw [if_neg q]; exact hd j (by omega)
  have hlm := lgst_max (fun j => L.tm (apD d len (o i) j)) (len + 1)
  rw [← hg] at hlm
  have hmx := mxd_lgst L (apD d len (o i)) (len + 1) (fun j hj => by have := hL.tm _ (hda j hj); omega) (by omega)
  rw [← hg] at hmx
  have hx := hda g hgl
  have hset := apD_set (d := d) (len := len) (x := o i)
  have hget := fun (j : Nat) (hj : j < len + 1) => apD_get (d := d) (x := o i) hj
  have wi : IntKind.i64.wrap (Int.ofNat i + (1 : Int)) = ((i + 1 : Nat) : Int) := by rw [wr64 (by rw [ofNatE]; omega) (by rw [ofNatE]; omega)]; rfl
  have wg : IntKind.i64.wrap (Int.ofNat g + (1 : Int)) = ((g + 1 : Nat) : Int) := by rw [wr64 (by rw [ofNatE]; omega) (by rw [ofNatE]; omega)]; rfl
  have wl : IntKind.i64.wrap (Int.ofNat (len + 1) - (1 : Int)) = (len : Int) := by rw [wr64 (by rw [ofNatE]; omega) (by rw [ofNatE]; omega), ofNatE]; omega
  have ed : ∀ j, j < len → delD (apD d len (o i)) g len j = if j < g then apD d len (o i) j else apD d len (o i) (j + 1) := fun j hj => by
    unfold delD
    by_cases q : j < g
    · rw [if_pos q, if_pos q]
    · rw [if_neg q, if_pos hj, if_neg q]
  generalize apD d len (o i) = dA at *
  have core : ∀ v2 nd2, (len + 1 ≤ nd ∧ v2 = v ∧ nd2 = nd) ∨ (nd < len + 1 ∧ v2 = v + 1 ∧ nd2 = len + 1) → len + 1 ≤ nd2 →
      (tms L dA (len + 1) ≤ L.du (o i) → Step P41 G41 (A41 5) 5 8 1 (v8 L o (.own 1 v 0 len none) i) [bb 40 s, nb v nd d] (v8 L o (.own 1 v2 0 (len + 1) none) (i + 1 : Nat)) [bb 40 s, nb v2 nd2 dA]) ∧
      (¬ tms L dA (len + 1) ≤ L.du (o i) → ∃ v', Step P41 G41 (A41 5) 5 8 1 (v8 L o (.own 1 v 0 len none) i) [bb 40 s, nb v nd d] (v8 L o (.own 1 v' 0 len none) (i + 1 : Nat)) [bb 40 (aU s (dA g)), nb v' len (delD dA g len)]) := by
    intro v2 nd2 hcase hnd2
    have la := l13p L hL o i (bb 40 s) v2 (len + 1) nd2 dA [tb (o i)] hnd2 (by omega) hda
    have lb := l19p L o i (bb 40 s) v2 (len + 1) nd2 g dA [tb (o i)] (by omega) hnd2 (by omega) hda (mxd L dA (len + 1)) hgl hmx.symm (fun j q1 q2 => by rw [hmx]; exact hlm.2 j q1 q2)
    rw [show len + 1 - 1 = len from rfl] at lb
    clear hmx hlm hg
    generalize tms L dA (len + 1) = t at *
    generalize mxd L dA (len + 1) = x at *
    have tree := (show iterR P41 G41 A41 noneO 0 5 [(13, litS (v13' L o (.own 1 v2 0 (len + 1) none) i 0 0 0) [bb 40 s, nb v2 nd2 dA, tb (o i)] (.exit 2) (e13' L o (.own 1 v2 0 (len + 1) none) i t x) [bb 40 s, nb v2 nd2 dA, tb (o i)]), (19, litS (v19p L o (.own 1 v2 0 (len + 1) none) i x (len : Nat)) [bb 40 s, nb v2 nd2 dA, tb (o i)] (.exit 4) (e19p L o (.own 1 v2 0 (len + 1) none) i (g : Nat)) [bb 40 s, nb v2 nd2 dA, tb (o i)])] 8 (v8 L o (.own 1 v 0 len none) i) [bb 40 s, nb v nd d] =
(
 bif decide (Int.ofNat i < Int.ofNat L.n) then
 bif decide ((0 : Int) ≤ Int.ofNat i) && decide (Int.ofNat i < Int.ofNat L.n) then
 bif v == v then
 bif ((0 : Nat) + len).ble nd then
 bif ((len + (1 : Nat)) * (9 : Nat)).ble 70368744177664 then
 bif ((0 : Nat) + len + (1 : Nat)).ble nd then
 bif weakF [jv L
 none, ov L.n o (some L.n), T.own 1 v 0 (len + (1 : Nat))
 none, T.ptr 0 0 0 0, T.int .i64 (Int.ofNat i), T.int .i64 (0 : Int), T.int .i64 (0 : Int), T.int .i64 (0 : Int)] [bb 40 s, Blk.mk v 1 nd (fun j =>
 bif ((0 : Nat) + len).ble j && j.blt ((0 : Nat) + len + (1 : Nat)) then [[T.int .i64 (Int.ofNat (o i))]].getD ((0 : Nat) + (j - ((0 : Nat) + len))) []
 else [T.int .i64 (Int.ofNat (d j))]) true false, Blk.mk 0 1 1 (fun j => [[T.int .i64 (Int.ofNat (o i))]].getD j []) true true] [jv L
 none, ov L.n o (some L.n), T.own 1 v2 0 (len + (1 : Nat))
 none, T.ptr 0 0 0 0, T.int .i64 (Int.ofNat i), T.int .i64 (0 : Int), T.int .i64 (0 : Int), T.int .i64 (0 : Int)] [bb 40 s, nb v2 nd2 dA, Blk.mk 0 1 1 (fun j => [[T.int .i64 (Int.ofNat (o i))]].getD j []) true true] then
 bif decide ((0 : Int) ≤ Int.ofNat i) && decide (Int.ofNat i < Int.ofNat L.n) then
 bif decide ((0 : Int) ≤ Int.ofNat (o i)) && decide (Int.ofNat (o i) < Int.ofNat L.n) then
 bif decide (t ≤ L.du (o i)) then
 some ((Ex.normal, [jv L
 none, ov L.n o (some L.n), T.own 1 v2 0 (len + (1 : Nat))
 none, T.ptr 0 0 0 0, T.int .i64 (IntKind.i64.wrap (Int.ofNat i + (1 : Int)))], [bb 40 s, nb v2 nd2 dA, Blk.mk 0 1 1 (fun j => [[T.int .i64 (Int.ofNat (o i))]].getD j []) true true]))
 else
 bif v2 == v2 then
 bif weakF [jv L
 none, ov L.n o (some L.n), T.own 1 v2 0 (len + (1 : Nat))
 none, T.ptr 0 0 0 0, T.int .i64 (Int.ofNat i), T.int .i64 x, T.int .i64 (IntKind.i64.wrap (Int.ofNat (len + (1 : Nat)) - (1 : Int)))] [bb 40 s, nb v2 nd2 dA, Blk.mk 0 1 1 (fun j => [[T.int .i64 (Int.ofNat (o i))]].getD j []) true true] [jv L
 none, ov L.n o (some L.n), T.own 1 v2 0 (len + (1 : Nat))
 none, T.ptr 0 0 0 0, T.int .i64 (Int.ofNat i), T.int .i64 x, T.int .i64 (Int.ofNat len)] [bb 40 s, nb v2 nd2 dA, Blk.mk 0 1 1 (fun j => [[T.int .i64 (Int.ofNat (o i))]].getD j []) true true] then
 bif v2 == v2 then
 bif decide ((0 : Int) ≤ Int.ofNat g) && decide (Int.ofNat g < Int.ofNat (len + (1 : Nat))) then
 bif v2 == v2 then
 bif ((0 : Nat) + g).blt nd2 then
 bif decide ((0 : Int) ≤ Int.ofNat (dA ((0 : Nat) + g))) && decide (Int.ofNat (dA ((0 : Nat) + g)) < (40 : Int)) then
 bif ((0 : Nat) + dA ((0 : Nat) + g)).blt 40 && true && true && true then
 bif v2 == v2 then
 bif decide ((0 : Int) ≤ Int.ofNat g) && decide (Int.ofNat g ≤ Int.ofNat (nd2 - (0 : Nat))) then
 bif v2 == v2 then
 bif ((0 : Nat) + (g - (0 : Nat))).ble nd2 then
 bif g - (0 : Nat) == (0 : Nat) then
 bif v2 == v2 then
 bif decide ((0 : Int) ≤ IntKind.i64.wrap (Int.ofNat g + (1 : Int))) && decide (IntKind.i64.wrap (Int.ofNat g + (1 : Int)) ≤ Int.ofNat (len + (1 : Nat))) && decide (Int.ofNat (len + (1 : Nat)) ≤ Int.ofNat (nd2 - (0 : Nat))) then
 bif v2 == v2 then
 bif ((0 : Nat) + (IntKind.i64.wrap (Int.ofNat g + (1 : Int))).toNat + (len + (1 : Nat) - (IntKind.i64.wrap (Int.ofNat g + (1 : Int))).toNat)).ble nd2 then
 bif len + (1 : Nat) - (IntKind.i64.wrap (Int.ofNat g + (1 : Int))).toNat == (0 : Nat) then
 some ((Ex.normal, [jv L
 none, ov L.n o (some L.n), T.own [Blk.mk 0 1 40 (fun e => [T.bool (bif e == (0 : Nat) + dA ((0 : Nat) + g) then true
 else s e)]) true false, nb v2 nd2 dA, Blk.mk 0 1 1 (fun j => [[T.int .i64 (Int.ofNat (o i))]].getD j []) true true].length (0 : Nat) (0 : Nat) (0 : Nat) (some 0), T.ptr 0 0 0 0, T.int .i64 (IntKind.i64.wrap (Int.ofNat i + (1 : Int)))], [Blk.mk 0 1 40 (fun e => [T.bool (bif e == (0 : Nat) + dA ((0 : Nat) + g) then true
 else s e)]) true false, nb v2 nd2 dA, Blk.mk 0 1 1 (fun j => [[T.int .i64 (Int.ofNat (o i))]].getD j []) true true, Blk.mk 0 1 0 (fun j => []) true true]))
 else
 bif (((0 : Nat) + (len + (1 : Nat) - (IntKind.i64.wrap (Int.ofNat g + (1 : Int))).toNat)) * (9 : Nat)).ble 70368744177664 then
 bif ((0 : Nat) + (len + (1 : Nat) - (IntKind.i64.wrap (Int.ofNat g + (1 : Int))).toNat)).ble 0 then
 bif ((0 : Nat) + (len + (1 : Nat) - (IntKind.i64.wrap (Int.ofNat g + (1 : Int))).toNat)).ble 0 then
 some ((Ex.normal, [jv L
 none, ov L.n o (some L.n), T.own [Blk.mk 0 1 40 (fun e => [T.bool (bif e == (0 : Nat) + dA ((0 : Nat) + g) then true
 else s e)]) true false, nb v2 nd2 dA, Blk.mk 0 1 1 (fun j => [[T.int .i64 (Int.ofNat (o i))]].getD j []) true true].length (0 : Nat) (0 : Nat) ((0 : Nat) + (len + (1 : Nat) - (IntKind.i64.wrap (Int.ofNat g + (1 : Int))).toNat)) (some 0), T.ptr 0 0 0 0, T.int .i64 (IntKind.i64.wrap (Int.ofNat i + (1 : Int)))], [Blk.mk 0 1 40 (fun e => [T.bool (bif e == (0 : Nat) + dA ((0 : Nat) + g) then true
 else s e)]) true false, nb v2 nd2 dA, Blk.mk 0 1 1 (fun j => [[T.int .i64 (Int.ofNat (o i))]].getD j []) true true, Blk.mk 0 1 0 (fun j =>
 bif Nat.ble 0 j && j.blt ((0 : Nat) + (len + (1 : Nat) - (IntKind.i64.wrap (Int.ofNat g + (1 : Int))).toNat)) then [T.int .i64 (Int.ofNat (dA ((0 : Nat) + (IntKind.i64.wrap (Int.ofNat g + (1 : Int))).toNat + (j - (0 : Nat)))))]
 else []) true true]))
 else none else
 some ((Ex.normal, [jv L
 none, ov L.n o (some L.n), T.own [Blk.mk 0 1 40 (fun e => [T.bool (bif e == (0 : Nat) + dA ((0 : Nat) + g) then true
 else s e)]) true false, nb v2 nd2 dA, Blk.mk 0 1 1 (fun j => [[T.int .i64 (Int.ofNat (o i))]].getD j []) true true, Blk.mk 0 1 0 (fun j => []) true true].length (0 : Nat) (0 : Nat) ((0 : Nat) + (len + (1 : Nat) - (IntKind.i64.wrap (Int.ofNat g + (1 : Int))).toNat))
 none, T.ptr 0 0 0 0, T.int .i64 (IntKind.i64.wrap (Int.ofNat i + (1 : Int)))], [Blk.mk 0 1 40 (fun e => [T.bool (bif e == (0 : Nat) + dA ((0 : Nat) + g) then true
 else s e)]) true false, nb v2 nd2 dA, Blk.mk 0 1 1 (fun j => [[T.int .i64 (Int.ofNat (o i))]].getD j []) true true, Blk.mk 0 1 0 (fun j => []) true true, Blk.mk 0 1 ((0 : Nat) + (len + (1 : Nat) - (IntKind.i64.wrap (Int.ofNat g + (1 : Int))).toNat)) (fun j => [T.int .i64 (Int.ofNat (dA ((0 : Nat) + (IntKind.i64.wrap (Int.ofNat g + (1 : Int))).toNat + (j - (0 : Nat)))))]) true false]))
 else none else none else none else none else none else
 bif (((0 : Nat) + (g - (0 : Nat))) * (9 : Nat)).ble 70368744177664 then
 bif ((0 : Nat) + (g - (0 : Nat))).ble 0 then
 bif ((0 : Nat) + (g - (0 : Nat))).ble 0 then
 bif v2 == v2 then
 bif decide ((0 : Int) ≤ IntKind.i64.wrap (Int.ofNat g + (1 : Int))) && decide (IntKind.i64.wrap (Int.ofNat g + (1 : Int)) ≤ Int.ofNat (len + (1 : Nat))) && decide (Int.ofNat (len + (1 : Nat)) ≤ Int.ofNat (nd2 - (0 : Nat))) then
 bif v2 == v2 then
 bif ((0 : Nat) + (IntKind.i64.wrap (Int.ofNat g + (1 : Int))).toNat + (len + (1 : Nat) - (IntKind.i64.wrap (Int.ofNat g + (1 : Int))).toNat)).ble nd2 then
 bif ((0 : Nat) + ((0 : Nat) + (g - (0 : Nat)))).ble 0 then
 bif len + (1 : Nat) - (IntKind.i64.wrap (Int.ofNat g + (1 : Int))).toNat == (0 : Nat) then
 some ((Ex.normal, [jv L
 none, ov L.n o (some L.n), T.own [Blk.mk 0 1 40 (fun e => [T.bool (bif e == (0 : Nat) + dA ((0 : Nat) + g) then true
 else s e)]) true false, nb v2 nd2 dA, Blk.mk 0 1 1 (fun j => [[T.int .i64 (Int.ofNat (o i))]].getD j []) true true].length (0 : Nat) (0 : Nat) ((0 : Nat) + (g - (0 : Nat))) (some 0), T.ptr 0 0 0 0, T.int .i64 (IntKind.i64.wrap (Int.ofNat i + (1 : Int)))], [Blk.mk 0 1 40 (fun e => [T.bool (bif e == (0 : Nat) + dA ((0 : Nat) + g) then true
 else s e)]) true false, nb v2 nd2 dA, Blk.mk 0 1 1 (fun j => [[T.int .i64 (Int.ofNat (o i))]].getD j []) true true, Blk.mk 0 1 0 (fun j =>
 bif Nat.ble 0 j && j.blt ((0 : Nat) + (g - (0 : Nat))) then [T.int .i64 (Int.ofNat (dA ((0 : Nat) + (j - (0 : Nat)))))]
 else []) true true]))
 else
 bif (((0 : Nat) + (g - (0 : Nat)) + (len + (1 : Nat) - (IntKind.i64.wrap (Int.ofNat g + (1 : Int))).toNat)) * (9 : Nat)).ble 70368744177664 then
 bif ((0 : Nat) + (g - (0 : Nat)) + (len + (1 : Nat) - (IntKind.i64.wrap (Int.ofNat g + (1 : Int))).toNat)).ble 0 then
 bif ((0 : Nat) + ((0 : Nat) + (g - (0 : Nat))) + (len + (1 : Nat) - (IntKind.i64.wrap (Int.ofNat g + (1 : Int))).toNat)).ble 0 then
 some ((Ex.normal, [jv L
 none, ov L.n o (some L.n), T.own [Blk.mk 0 1 40 (fun e => [T.bool (bif e == (0 : Nat) + dA ((0 : Nat) + g) then true
 else s e)]) true false, nb v2 nd2 dA, Blk.mk 0 1 1 (fun j => [[T.int .i64 (Int.ofNat (o i))]].getD j []) true true].length (0 : Nat) (0 : Nat) ((0 : Nat) + (g - (0 : Nat)) + (len + (1 : Nat) - (IntKind.i64.wrap (Int.ofNat g + (1 : Int))).toNat)) (some 0), T.ptr 0 0 0 0, T.int .i64 (IntKind.i64.wrap (Int.ofNat i + (1 : Int)))], [Blk.mk 0 1 40 (fun e => [T.bool (bif e == (0 : Nat) + dA ((0 : Nat) + g) then true
 else s e)]) true false, nb v2 nd2 dA, Blk.mk 0 1 1 (fun j => [[T.int .i64 (Int.ofNat (o i))]].getD j []) true true, Blk.mk 0 1 0 (fun j =>
 bif ((0 : Nat) + ((0 : Nat) + (g - (0 : Nat)))).ble j && j.blt ((0 : Nat) + ((0 : Nat) + (g - (0 : Nat))) + (len + (1 : Nat) - (IntKind.i64.wrap (Int.ofNat g + (1 : Int))).toNat)) then [T.int .i64 (Int.ofNat (dA ((0 : Nat) + (IntKind.i64.wrap (Int.ofNat g + (1 : Int))).toNat + (j - ((0 : Nat) + ((0 : Nat) + (g - (0 : Nat))))))))]
 else
 bif Nat.ble 0 j && j.blt ((0 : Nat) + (g - (0 : Nat))) then [T.int .i64 (Int.ofNat (dA ((0 : Nat) + (j - (0 : Nat)))))]
 else []) true true]))
 else none else
 some ((Ex.normal, [jv L
 none, ov L.n o (some L.n), T.own [Blk.mk 0 1 40 (fun e => [T.bool (bif e == (0 : Nat) + dA ((0 : Nat) + g) then true
 else s e)]) true false, nb v2 nd2 dA, Blk.mk 0 1 1 (fun j => [[T.int .i64 (Int.ofNat (o i))]].getD j []) true true, Blk.mk 0 1 0 (fun j =>
 bif Nat.ble 0 j && j.blt ((0 : Nat) + (g - (0 : Nat))) then [T.int .i64 (Int.ofNat (dA ((0 : Nat) + (j - (0 : Nat)))))]
 else []) true true].length (0 : Nat) (0 : Nat) ((0 : Nat) + (g - (0 : Nat)) + (len + (1 : Nat) - (IntKind.i64.wrap (Int.ofNat g + (1 : Int))).toNat))
 none, T.ptr 0 0 0 0, T.int .i64 (IntKind.i64.wrap (Int.ofNat i + (1 : Int)))], [Blk.mk 0 1 40 (fun e => [T.bool (bif e == (0 : Nat) + dA ((0 : Nat) + g) then true
 else s e)]) true false, nb v2 nd2 dA, Blk.mk 0 1 1 (fun j => [[T.int .i64 (Int.ofNat (o i))]].getD j []) true true, Blk.mk 0 1 0 (fun j =>
 bif Nat.ble 0 j && j.blt ((0 : Nat) + (g - (0 : Nat))) then [T.int .i64 (Int.ofNat (dA ((0 : Nat) + (j - (0 : Nat)))))]
 else []) true true, Blk.mk 0 1 ((0 : Nat) + (g - (0 : Nat)) + (len + (1 : Nat) - (IntKind.i64.wrap (Int.ofNat g + (1 : Int))).toNat)) (fun j =>
 bif j.blt ((0 : Nat) + (g - (0 : Nat))) then
 bif Nat.ble 0 ((0 : Nat) + j) && ((0 : Nat) + j).blt ((0 : Nat) + (g - (0 : Nat))) then [T.int .i64 (Int.ofNat (dA ((0 : Nat) + ((0 : Nat) + j - (0 : Nat)))))]
 else []
 else [T.int .i64 (Int.ofNat (dA ((0 : Nat) + (IntKind.i64.wrap (Int.ofNat g + (1 : Int))).toNat + (j - ((0 : Nat) + (g - (0 : Nat)))))))]) true false]))
 else none else none else none else none else none else none else none else
 bif v2 == v2 then
 bif decide ((0 : Int) ≤ IntKind.i64.wrap (Int.ofNat g + (1 : Int))) && decide (IntKind.i64.wrap (Int.ofNat g + (1 : Int)) ≤ Int.ofNat (len + (1 : Nat))) && decide (Int.ofNat (len + (1 : Nat)) ≤ Int.ofNat (nd2 - (0 : Nat))) then
 bif v2 == v2 then
 bif ((0 : Nat) + (IntKind.i64.wrap (Int.ofNat g + (1 : Int))).toNat + (len + (1 : Nat) - (IntKind.i64.wrap (Int.ofNat g + (1 : Int))).toNat)).ble nd2 then
 bif ((0 : Nat) + ((0 : Nat) + (g - (0 : Nat)))).ble ((0 : Nat) + (g - (0 : Nat))) then
 bif len + (1 : Nat) - (IntKind.i64.wrap (Int.ofNat g + (1 : Int))).toNat == (0 : Nat) then
 some ((Ex.normal, [jv L
 none, ov L.n o (some L.n), T.own [Blk.mk 0 1 40 (fun e => [T.bool (bif e == (0 : Nat) + dA ((0 : Nat) + g) then true
 else s e)]) true false, nb v2 nd2 dA, Blk.mk 0 1 1 (fun j => [[T.int .i64 (Int.ofNat (o i))]].getD j []) true true, Blk.mk 0 1 0 (fun j => []) true true].length (0 : Nat) (0 : Nat) ((0 : Nat) + (g - (0 : Nat)))
 none, T.ptr 0 0 0 0, T.int .i64 (IntKind.i64.wrap (Int.ofNat i + (1 : Int)))], [Blk.mk 0 1 40 (fun e => [T.bool (bif e == (0 : Nat) + dA ((0 : Nat) + g) then true
 else s e)]) true false, nb v2 nd2 dA, Blk.mk 0 1 1 (fun j => [[T.int .i64 (Int.ofNat (o i))]].getD j []) true true, Blk.mk 0 1 0 (fun j => []) true true, Blk.mk 0 1 ((0 : Nat) + (g - (0 : Nat))) (fun j => [T.int .i64 (Int.ofNat (dA ((0 : Nat) + (j - (0 : Nat)))))]) true false]))
 else
 bif (((0 : Nat) + (g - (0 : Nat)) + (len + (1 : Nat) - (IntKind.i64.wrap (Int.ofNat g + (1 : Int))).toNat)) * (9 : Nat)).ble 70368744177664 then
 bif ((0 : Nat) + ((0 : Nat) + (g - (0 : Nat))) + (len + (1 : Nat) - (IntKind.i64.wrap (Int.ofNat g + (1 : Int))).toNat)).ble ((0 : Nat) + (g - (0 : Nat))) then
 some ((Ex.normal, [jv L
 none, ov L.n o (some L.n), T.own [Blk.mk 0 1 40 (fun e => [T.bool (bif e == (0 : Nat) + dA ((0 : Nat) + g) then true
 else s e)]) true false, nb v2 nd2 dA, Blk.mk 0 1 1 (fun j => [[T.int .i64 (Int.ofNat (o i))]].getD j []) true true, Blk.mk 0 1 0 (fun j => []) true true].length (0 : Nat) (0 : Nat) ((0 : Nat) + (g - (0 : Nat)) + (len + (1 : Nat) - (IntKind.i64.wrap (Int.ofNat g + (1 : Int))).toNat))
 none, T.ptr 0 0 0 0, T.int .i64 (IntKind.i64.wrap (Int.ofNat i + (1 : Int)))], [Blk.mk 0 1 40 (fun e => [T.bool (bif e == (0 : Nat) + dA ((0 : Nat) + g) then true
 else s e)]) true false, nb v2 nd2 dA, Blk.mk 0 1 1 (fun j => [[T.int .i64 (Int.ofNat (o i))]].getD j []) true true, Blk.mk 0 1 0 (fun j => []) true true, Blk.mk 0 1 ((0 : Nat) + (g - (0 : Nat))) (fun j =>
 bif ((0 : Nat) + ((0 : Nat) + (g - (0 : Nat)))).ble j && j.blt ((0 : Nat) + ((0 : Nat) + (g - (0 : Nat))) + (len + (1 : Nat) - (IntKind.i64.wrap (Int.ofNat g + (1 : Int))).toNat)) then [T.int .i64 (Int.ofNat (dA ((0 : Nat) + (IntKind.i64.wrap (Int.ofNat g + (1 : Int))).toNat + (j - ((0 : Nat) + ((0 : Nat) + (g - (0 : Nat))))))))]
 else [T.int .i64 (Int.ofNat (dA ((0 : Nat) + (j - (0 : Nat)))))]) true false]))
 else
 some ((Ex.normal, [jv L
 none, ov L.n o (some L.n), T.own [Blk.mk 0 1 40 (fun e => [T.bool (bif e == (0 : Nat) + dA ((0 : Nat) + g) then true
 else s e)]) true false, nb v2 nd2 dA, Blk.mk 0 1 1 (fun j => [[T.int .i64 (Int.ofNat (o i))]].getD j []) true true, Blk.mk 0 1 0 (fun j => []) true true].length (1 : Nat) (0 : Nat) ((0 : Nat) + (g - (0 : Nat)) + (len + (1 : Nat) - (IntKind.i64.wrap (Int.ofNat g + (1 : Int))).toNat))
 none, T.ptr 0 0 0 0, T.int .i64 (IntKind.i64.wrap (Int.ofNat i + (1 : Int)))], [Blk.mk 0 1 40 (fun e => [T.bool (bif e == (0 : Nat) + dA ((0 : Nat) + g) then true
 else s e)]) true false, nb v2 nd2 dA, Blk.mk 0 1 1 (fun j => [[T.int .i64 (Int.ofNat (o i))]].getD j []) true true, Blk.mk 0 1 0 (fun j => []) true true, Blk.mk 1 1 ((0 : Nat) + (g - (0 : Nat)) + (len + (1 : Nat) - (IntKind.i64.wrap (Int.ofNat g + (1 : Int))).toNat)) (fun j =>
 bif j.blt ((0 : Nat) + (g - (0 : Nat))) then [T.int .i64 (Int.ofNat (dA ((0 : Nat) + ((0 : Nat) + j - (0 : Nat)))))]
 else [T.int .i64 (Int.ofNat (dA ((0 : Nat) + (IntKind.i64.wrap (Int.ofNat g + (1 : Int))).toNat + (j - ((0 : Nat) + (g - (0 : Nat)))))))]) true false]))
 else none else none else none else none else none else none else none else none else none else none else none else none else none else none else none else none else none else none else none else none else none else none else
 bif weakF [jv L
 none, ov L.n o (some L.n), T.own 1 (v + (1 : Nat)) (0 : Nat) (len + (1 : Nat))
 none, T.ptr 0 0 0 0, T.int .i64 (Int.ofNat i), T.int .i64 (0 : Int), T.int .i64 (0 : Int), T.int .i64 (0 : Int)] [bb 40 s, Blk.mk (v + (1 : Nat)) (1 : Nat) (len + (1 : Nat)) (fun j =>
 bif j.blt len then [T.int .i64 (Int.ofNat (d ((0 : Nat) + j)))]
 else [[T.int .i64 (Int.ofNat (o i))]].getD ((0 : Nat) + (j - len)) []) true false, Blk.mk 0 1 1 (fun j => [[T.int .i64 (Int.ofNat (o i))]].getD j []) true true] [jv L
 none, ov L.n o (some L.n), T.own 1 v2 0 (len + (1 : Nat))
 none, T.ptr 0 0 0 0, T.int .i64 (Int.ofNat i), T.int .i64 (0 : Int), T.int .i64 (0 : Int), T.int .i64 (0 : Int)] [bb 40 s, nb v2 nd2 dA, Blk.mk 0 1 1 (fun j => [[T.int .i64 (Int.ofNat (o i))]].getD j []) true true] then
 bif decide ((0 : Int) ≤ Int.ofNat i) && decide (Int.ofNat i < Int.ofNat L.n) then
 bif decide ((0 : Int) ≤ Int.ofNat (o i)) && decide (Int.ofNat (o i) < Int.ofNat L.n) then
 bif decide (t ≤ L.du (o i)) then
 some ((Ex.normal, [jv L
 none, ov L.n o (some L.n), T.own 1 v2 0 (len + (1 : Nat))
 none, T.ptr 0 0 0 0, T.int .i64 (IntKind.i64.wrap (Int.ofNat i + (1 : Int)))], [bb 40 s, nb v2 nd2 dA, Blk.mk 0 1 1 (fun j => [[T.int .i64 (Int.ofNat (o i))]].getD j []) true true]))
 else
 bif v2 == v2 then
 bif weakF [jv L
 none, ov L.n o (some L.n), T.own 1 v2 0 (len + (1 : Nat))
 none, T.ptr 0 0 0 0, T.int .i64 (Int.ofNat i), T.int .i64 x, T.int .i64 (IntKind.i64.wrap (Int.ofNat (len + (1 : Nat)) - (1 : Int)))] [bb 40 s, nb v2 nd2 dA, Blk.mk 0 1 1 (fun j => [[T.int .i64 (Int.ofNat (o i))]].getD j []) true true] [jv L
 none, ov L.n o (some L.n), T.own 1 v2 0 (len + (1 : Nat))
 none, T.ptr 0 0 0 0, T.int .i64 (Int.ofNat i), T.int .i64 x, T.int .i64 (Int.ofNat len)] [bb 40 s, nb v2 nd2 dA, Blk.mk 0 1 1 (fun j => [[T.int .i64 (Int.ofNat (o i))]].getD j []) true true] then
 bif v2 == v2 then
 bif decide ((0 : Int) ≤ Int.ofNat g) && decide (Int.ofNat g < Int.ofNat (len + (1 : Nat))) then
 bif v2 == v2 then
 bif ((0 : Nat) + g).blt nd2 then
 bif decide ((0 : Int) ≤ Int.ofNat (dA ((0 : Nat) + g))) && decide (Int.ofNat (dA ((0 : Nat) + g)) < (40 : Int)) then
 bif ((0 : Nat) + dA ((0 : Nat) + g)).blt 40 && true && true && true then
 bif v2 == v2 then
 bif decide ((0 : Int) ≤ Int.ofNat g) && decide (Int.ofNat g ≤ Int.ofNat (nd2 - (0 : Nat))) then
 bif v2 == v2 then
 bif ((0 : Nat) + (g - (0 : Nat))).ble nd2 then
 bif g - (0 : Nat) == (0 : Nat) then
 bif v2 == v2 then
 bif decide ((0 : Int) ≤ IntKind.i64.wrap (Int.ofNat g + (1 : Int))) && decide (IntKind.i64.wrap (Int.ofNat g + (1 : Int)) ≤ Int.ofNat (len + (1 : Nat))) && decide (Int.ofNat (len + (1 : Nat)) ≤ Int.ofNat (nd2 - (0 : Nat))) then
 bif v2 == v2 then
 bif ((0 : Nat) + (IntKind.i64.wrap (Int.ofNat g + (1 : Int))).toNat + (len + (1 : Nat) - (IntKind.i64.wrap (Int.ofNat g + (1 : Int))).toNat)).ble nd2 then
 bif len + (1 : Nat) - (IntKind.i64.wrap (Int.ofNat g + (1 : Int))).toNat == (0 : Nat) then
 some ((Ex.normal, [jv L
 none, ov L.n o (some L.n), T.own [Blk.mk 0 1 40 (fun e => [T.bool (bif e == (0 : Nat) + dA ((0 : Nat) + g) then true
 else s e)]) true false, nb v2 nd2 dA, Blk.mk 0 1 1 (fun j => [[T.int .i64 (Int.ofNat (o i))]].getD j []) true true].length (0 : Nat) (0 : Nat) (0 : Nat) (some 0), T.ptr 0 0 0 0, T.int .i64 (IntKind.i64.wrap (Int.ofNat i + (1 : Int)))], [Blk.mk 0 1 40 (fun e => [T.bool (bif e == (0 : Nat) + dA ((0 : Nat) + g) then true
 else s e)]) true false, nb v2 nd2 dA, Blk.mk 0 1 1 (fun j => [[T.int .i64 (Int.ofNat (o i))]].getD j []) true true, Blk.mk 0 1 0 (fun j => []) true true]))
 else
 bif (((0 : Nat) + (len + (1 : Nat) - (IntKind.i64.wrap (Int.ofNat g + (1 : Int))).toNat)) * (9 : Nat)).ble 70368744177664 then
 bif ((0 : Nat) + (len + (1 : Nat) - (IntKind.i64.wrap (Int.ofNat g + (1 : Int))).toNat)).ble 0 then
 bif ((0 : Nat) + (len + (1 : Nat) - (IntKind.i64.wrap (Int.ofNat g + (1 : Int))).toNat)).ble 0 then
 some ((Ex.normal, [jv L
 none, ov L.n o (some L.n), T.own [Blk.mk 0 1 40 (fun e => [T.bool (bif e == (0 : Nat) + dA ((0 : Nat) + g) then true
 else s e)]) true false, nb v2 nd2 dA, Blk.mk 0 1 1 (fun j => [[T.int .i64 (Int.ofNat (o i))]].getD j []) true true].length (0 : Nat) (0 : Nat) ((0 : Nat) + (len + (1 : Nat) - (IntKind.i64.wrap (Int.ofNat g + (1 : Int))).toNat)) (some 0), T.ptr 0 0 0 0, T.int .i64 (IntKind.i64.wrap (Int.ofNat i + (1 : Int)))], [Blk.mk 0 1 40 (fun e => [T.bool (bif e == (0 : Nat) + dA ((0 : Nat) + g) then true
 else s e)]) true false, nb v2 nd2 dA, Blk.mk 0 1 1 (fun j => [[T.int .i64 (Int.ofNat (o i))]].getD j []) true true, Blk.mk 0 1 0 (fun j =>
 bif Nat.ble 0 j && j.blt ((0 : Nat) + (len + (1 : Nat) - (IntKind.i64.wrap (Int.ofNat g + (1 : Int))).toNat)) then [T.int .i64 (Int.ofNat (dA ((0 : Nat) + (IntKind.i64.wrap (Int.ofNat g + (1 : Int))).toNat + (j - (0 : Nat)))))]
 else []) true true]))
 else none else
 some ((Ex.normal, [jv L
 none, ov L.n o (some L.n), T.own [Blk.mk 0 1 40 (fun e => [T.bool (bif e == (0 : Nat) + dA ((0 : Nat) + g) then true
 else s e)]) true false, nb v2 nd2 dA, Blk.mk 0 1 1 (fun j => [[T.int .i64 (Int.ofNat (o i))]].getD j []) true true, Blk.mk 0 1 0 (fun j => []) true true].length (0 : Nat) (0 : Nat) ((0 : Nat) + (len + (1 : Nat) - (IntKind.i64.wrap (Int.ofNat g + (1 : Int))).toNat))
 none, T.ptr 0 0 0 0, T.int .i64 (IntKind.i64.wrap (Int.ofNat i + (1 : Int)))], [Blk.mk 0 1 40 (fun e => [T.bool (bif e == (0 : Nat) + dA ((0 : Nat) + g) then true
 else s e)]) true false, nb v2 nd2 dA, Blk.mk 0 1 1 (fun j => [[T.int .i64 (Int.ofNat (o i))]].getD j []) true true, Blk.mk 0 1 0 (fun j => []) true true, Blk.mk 0 1 ((0 : Nat) + (len + (1 : Nat) - (IntKind.i64.wrap (Int.ofNat g + (1 : Int))).toNat)) (fun j => [T.int .i64 (Int.ofNat (dA ((0 : Nat) + (IntKind.i64.wrap (Int.ofNat g + (1 : Int))).toNat + (j - (0 : Nat)))))]) true false]))
 else none else none else none else none else none else
 bif (((0 : Nat) + (g - (0 : Nat))) * (9 : Nat)).ble 70368744177664 then
 bif ((0 : Nat) + (g - (0 : Nat))).ble 0 then
 bif ((0 : Nat) + (g - (0 : Nat))).ble 0 then
 bif v2 == v2 then
 bif decide ((0 : Int) ≤ IntKind.i64.wrap (Int.ofNat g + (1 : Int))) && decide (IntKind.i64.wrap (Int.ofNat g + (1 : Int)) ≤ Int.ofNat (len + (1 : Nat))) && decide (Int.ofNat (len + (1 : Nat)) ≤ Int.ofNat (nd2 - (0 : Nat))) then
 bif v2 == v2 then
 bif ((0 : Nat) + (IntKind.i64.wrap (Int.ofNat g + (1 : Int))).toNat + (len + (1 : Nat) - (IntKind.i64.wrap (Int.ofNat g + (1 : Int))).toNat)).ble nd2 then
 bif ((0 : Nat) + ((0 : Nat) + (g - (0 : Nat)))).ble 0 then
 bif len + (1 : Nat) - (IntKind.i64.wrap (Int.ofNat g + (1 : Int))).toNat == (0 : Nat) then
 some ((Ex.normal, [jv L
 none, ov L.n o (some L.n), T.own [Blk.mk 0 1 40 (fun e => [T.bool (bif e == (0 : Nat) + dA ((0 : Nat) + g) then true
 else s e)]) true false, nb v2 nd2 dA, Blk.mk 0 1 1 (fun j => [[T.int .i64 (Int.ofNat (o i))]].getD j []) true true].length (0 : Nat) (0 : Nat) ((0 : Nat) + (g - (0 : Nat))) (some 0), T.ptr 0 0 0 0, T.int .i64 (IntKind.i64.wrap (Int.ofNat i + (1 : Int)))], [Blk.mk 0 1 40 (fun e => [T.bool (bif e == (0 : Nat) + dA ((0 : Nat) + g) then true
 else s e)]) true false, nb v2 nd2 dA, Blk.mk 0 1 1 (fun j => [[T.int .i64 (Int.ofNat (o i))]].getD j []) true true, Blk.mk 0 1 0 (fun j =>
 bif Nat.ble 0 j && j.blt ((0 : Nat) + (g - (0 : Nat))) then [T.int .i64 (Int.ofNat (dA ((0 : Nat) + (j - (0 : Nat)))))]
 else []) true true]))
 else
 bif (((0 : Nat) + (g - (0 : Nat)) + (len + (1 : Nat) - (IntKind.i64.wrap (Int.ofNat g + (1 : Int))).toNat)) * (9 : Nat)).ble 70368744177664 then
 bif ((0 : Nat) + (g - (0 : Nat)) + (len + (1 : Nat) - (IntKind.i64.wrap (Int.ofNat g + (1 : Int))).toNat)).ble 0 then
 bif ((0 : Nat) + ((0 : Nat) + (g - (0 : Nat))) + (len + (1 : Nat) - (IntKind.i64.wrap (Int.ofNat g + (1 : Int))).toNat)).ble 0 then
 some ((Ex.normal, [jv L
 none, ov L.n o (some L.n), T.own [Blk.mk 0 1 40 (fun e => [T.bool (bif e == (0 : Nat) + dA ((0 : Nat) + g) then true
 else s e)]) true false, nb v2 nd2 dA, Blk.mk 0 1 1 (fun j => [[T.int .i64 (Int.ofNat (o i))]].getD j []) true true].length (0 : Nat) (0 : Nat) ((0 : Nat) + (g - (0 : Nat)) + (len + (1 : Nat) - (IntKind.i64.wrap (Int.ofNat g + (1 : Int))).toNat)) (some 0), T.ptr 0 0 0 0, T.int .i64 (IntKind.i64.wrap (Int.ofNat i + (1 : Int)))], [Blk.mk 0 1 40 (fun e => [T.bool (bif e == (0 : Nat) + dA ((0 : Nat) + g) then true
 else s e)]) true false, nb v2 nd2 dA, Blk.mk 0 1 1 (fun j => [[T.int .i64 (Int.ofNat (o i))]].getD j []) true true, Blk.mk 0 1 0 (fun j =>
 bif ((0 : Nat) + ((0 : Nat) + (g - (0 : Nat)))).ble j && j.blt ((0 : Nat) + ((0 : Nat) + (g - (0 : Nat))) + (len + (1 : Nat) - (IntKind.i64.wrap (Int.ofNat g + (1 : Int))).toNat)) then [T.int .i64 (Int.ofNat (dA ((0 : Nat) + (IntKind.i64.wrap (Int.ofNat g + (1 : Int))).toNat + (j - ((0 : Nat) + ((0 : Nat) + (g - (0 : Nat))))))))]
 else
 bif Nat.ble 0 j && j.blt ((0 : Nat) + (g - (0 : Nat))) then [T.int .i64 (Int.ofNat (dA ((0 : Nat) + (j - (0 : Nat)))))]
 else []) true true]))
 else none else
 some ((Ex.normal, [jv L
 none, ov L.n o (some L.n), T.own [Blk.mk 0 1 40 (fun e => [T.bool (bif e == (0 : Nat) + dA ((0 : Nat) + g) then true
 else s e)]) true false, nb v2 nd2 dA, Blk.mk 0 1 1 (fun j => [[T.int .i64 (Int.ofNat (o i))]].getD j []) true true, Blk.mk 0 1 0 (fun j =>
 bif Nat.ble 0 j && j.blt ((0 : Nat) + (g - (0 : Nat))) then [T.int .i64 (Int.ofNat (dA ((0 : Nat) + (j - (0 : Nat)))))]
 else []) true true].length (0 : Nat) (0 : Nat) ((0 : Nat) + (g - (0 : Nat)) + (len + (1 : Nat) - (IntKind.i64.wrap (Int.ofNat g + (1 : Int))).toNat))
 none, T.ptr 0 0 0 0, T.int .i64 (IntKind.i64.wrap (Int.ofNat i + (1 : Int)))], [Blk.mk 0 1 40 (fun e => [T.bool (bif e == (0 : Nat) + dA ((0 : Nat) + g) then true
 else s e)]) true false, nb v2 nd2 dA, Blk.mk 0 1 1 (fun j => [[T.int .i64 (Int.ofNat (o i))]].getD j []) true true, Blk.mk 0 1 0 (fun j =>
 bif Nat.ble 0 j && j.blt ((0 : Nat) + (g - (0 : Nat))) then [T.int .i64 (Int.ofNat (dA ((0 : Nat) + (j - (0 : Nat)))))]
 else []) true true, Blk.mk 0 1 ((0 : Nat) + (g - (0 : Nat)) + (len + (1 : Nat) - (IntKind.i64.wrap (Int.ofNat g + (1 : Int))).toNat)) (fun j =>
 bif j.blt ((0 : Nat) + (g - (0 : Nat))) then
 bif Nat.ble 0 ((0 : Nat) + j) && ((0 : Nat) + j).blt ((0 : Nat) + (g - (0 : Nat))) then [T.int .i64 (Int.ofNat (dA ((0 : Nat) + ((0 : Nat) + j - (0 : Nat)))))]
 else []
 else [T.int .i64 (Int.ofNat (dA ((0 : Nat) + (IntKind.i64.wrap (Int.ofNat g + (1 : Int))).toNat + (j - ((0 : Nat) + (g - (0 : Nat)))))))]) true false]))
 else none else none else none else none else none else none else none else
 bif v2 == v2 then
 bif decide ((0 : Int) ≤ IntKind.i64.wrap (Int.ofNat g + (1 : Int))) && decide (IntKind.i64.wrap (Int.ofNat g + (1 : Int)) ≤ Int.ofNat (len + (1 : Nat))) && decide (Int.ofNat (len + (1 : Nat)) ≤ Int.ofNat (nd2 - (0 : Nat))) then
 bif v2 == v2 then
 bif ((0 : Nat) + (IntKind.i64.wrap (Int.ofNat g + (1 : Int))).toNat + (len + (1 : Nat) - (IntKind.i64.wrap (Int.ofNat g + (1 : Int))).toNat)).ble nd2 then
 bif ((0 : Nat) + ((0 : Nat) + (g - (0 : Nat)))).ble ((0 : Nat) + (g - (0 : Nat))) then
 bif len + (1 : Nat) - (IntKind.i64.wrap (Int.ofNat g + (1 : Int))).toNat == (0 : Nat) then
 some ((Ex.normal, [jv L
 none, ov L.n o (some L.n), T.own [Blk.mk 0 1 40 (fun e => [T.bool (bif e == (0 : Nat) + dA ((0 : Nat) + g) then true
 else s e)]) true false, nb v2 nd2 dA, Blk.mk 0 1 1 (fun j => [[T.int .i64 (Int.ofNat (o i))]].getD j []) true true, Blk.mk 0 1 0 (fun j => []) true true].length (0 : Nat) (0 : Nat) ((0 : Nat) + (g - (0 : Nat)))
 none, T.ptr 0 0 0 0, T.int .i64 (IntKind.i64.wrap (Int.ofNat i + (1 : Int)))], [Blk.mk 0 1 40 (fun e => [T.bool (bif e == (0 : Nat) + dA ((0 : Nat) + g) then true
 else s e)]) true false, nb v2 nd2 dA, Blk.mk 0 1 1 (fun j => [[T.int .i64 (Int.ofNat (o i))]].getD j []) true true, Blk.mk 0 1 0 (fun j => []) true true, Blk.mk 0 1 ((0 : Nat) + (g - (0 : Nat))) (fun j => [T.int .i64 (Int.ofNat (dA ((0 : Nat) + (j - (0 : Nat)))))]) true false]))
 else
 bif (((0 : Nat) + (g - (0 : Nat)) + (len + (1 : Nat) - (IntKind.i64.wrap (Int.ofNat g + (1 : Int))).toNat)) * (9 : Nat)).ble 70368744177664 then
 bif ((0 : Nat) + ((0 : Nat) + (g - (0 : Nat))) + (len + (1 : Nat) - (IntKind.i64.wrap (Int.ofNat g + (1 : Int))).toNat)).ble ((0 : Nat) + (g - (0 : Nat))) then
 some ((Ex.normal, [jv L
 none, ov L.n o (some L.n), T.own [Blk.mk 0 1 40 (fun e => [T.bool (bif e == (0 : Nat) + dA ((0 : Nat) + g) then true
 else s e)]) true false, nb v2 nd2 dA, Blk.mk 0 1 1 (fun j => [[T.int .i64 (Int.ofNat (o i))]].getD j []) true true, Blk.mk 0 1 0 (fun j => []) true true].length (0 : Nat) (0 : Nat) ((0 : Nat) + (g - (0 : Nat)) + (len + (1 : Nat) - (IntKind.i64.wrap (Int.ofNat g + (1 : Int))).toNat))
 none, T.ptr 0 0 0 0, T.int .i64 (IntKind.i64.wrap (Int.ofNat i + (1 : Int)))], [Blk.mk 0 1 40 (fun e => [T.bool (bif e == (0 : Nat) + dA ((0 : Nat) + g) then true
 else s e)]) true false, nb v2 nd2 dA, Blk.mk 0 1 1 (fun j => [[T.int .i64 (Int.ofNat (o i))]].getD j []) true true, Blk.mk 0 1 0 (fun j => []) true true, Blk.mk 0 1 ((0 : Nat) + (g - (0 : Nat))) (fun j =>
 bif ((0 : Nat) + ((0 : Nat) + (g - (0 : Nat)))).ble j && j.blt ((0 : Nat) + ((0 : Nat) + (g - (0 : Nat))) + (len + (1 : Nat) - (IntKind.i64.wrap (Int.ofNat g + (1 : Int))).toNat)) then [T.int .i64 (Int.ofNat (dA ((0 : Nat) + (IntKind.i64.wrap (Int.ofNat g + (1 : Int))).toNat + (j - ((0 : Nat) + ((0 : Nat) + (g - (0 : Nat))))))))]
 else [T.int .i64 (Int.ofNat (dA ((0 : Nat) + (j - (0 : Nat)))))]) true false]))
 else
 some ((Ex.normal, [jv L
 none, ov L.n o (some L.n), T.own [Blk.mk 0 1 40 (fun e => [T.bool (bif e == (0 : Nat) + dA ((0 : Nat) + g) then true
 else s e)]) true false, nb v2 nd2 dA, Blk.mk 0 1 1 (fun j => [[T.int .i64 (Int.ofNat (o i))]].getD j []) true true, Blk.mk 0 1 0 (fun j => []) true true].length (1 : Nat) (0 : Nat) ((0 : Nat) + (g - (0 : Nat)) + (len + (1 : Nat) - (IntKind.i64.wrap (Int.ofNat g + (1 : Int))).toNat))
 none, T.ptr 0 0 0 0, T.int .i64 (IntKind.i64.wrap (Int.ofNat i + (1 : Int)))], [Blk.mk 0 1 40 (fun e => [T.bool (bif e == (0 : Nat) + dA ((0 : Nat) + g) then true
 else s e)]) true false, nb v2 nd2 dA, Blk.mk 0 1 1 (fun j => [[T.int .i64 (Int.ofNat (o i))]].getD j []) true true, Blk.mk 0 1 0 (fun j => []) true true, Blk.mk 1 1 ((0 : Nat) + (g - (0 : Nat)) + (len + (1 : Nat) - (IntKind.i64.wrap (Int.ofNat g + (1 : Int))).toNat)) (fun j =>
 bif j.blt ((0 : Nat) + (g - (0 : Nat))) then [T.int .i64 (Int.ofNat (dA ((0 : Nat) + ((0 : Nat) + j - (0 : Nat)))))]
 else [T.int .i64 (Int.ofNat (dA ((0 : Nat) + (IntKind.i64.wrap (Int.ofNat g + (1 : Int))).toNat + (j - ((0 : Nat) + (g - (0 : Nat)))))))]) true false]))
 else none else none else none else none else none else none else none else none else none else none else none else none else none else none else none else none else none else none else none else none else none else none else none else none else none else none else
 some ((Ex.exit 0, [jv L
 none, T.own 1 v 0 len
 none, T.ptr 0 0 0 0], [bb 40 s, nb v nd d]))) from by kernel_rfl)
    simp only [Nat.zero_add, Nat.sub_zero, wi, wg, wl, toNatE] at tree
    constructor
    · intro hq
      refine Step.mkC (A := A41) (m := 0) none_ok rfl rfl (loopsC la (loops1 lb)) [0, 1] (v1 := v8 L o (.own 1 v2 0 (len + 1) none) (i + 1 : Nat)) (h1 := [bb 40 s, nb v2 nd2 dA, tb (o i)]) (v2 := v8 L o (.own 1 v2 0 (len + 1) none) (i + 1 : Nat)) (h2 := [bb 40 s, nb v2 nd2 dA]) (Eq.trans tree ?_) (by rfl) (by rfl) (by rfl) fun nt => .same (.refl _)
      clear tree la lb
      rcases hcase with ⟨q, rfl, rfl⟩ | ⟨q, rfl, rfl⟩
      all_goals
        (repeat (first | (refine bift (by first | assumption | omega | (simp (disch := omega) only [wr64, wr8, wr16, wr32, ofNatE, toNatE, toNatE1, Bool.and_eq_true, Bool.or_eq_true, Bool.not_eq_true', decide_eq_true_eq, decide_eq_false_iff_not, nble, nblt, nbeq, Nat.zero_add, Nat.add_zero, Int.zero_add, Int.add_zero, List.length_cons, List.length_nil, true_and, and_true, Nat.reduceAdd, and_self, beq_self_eq_true]; done) | (simp (disch := omega) only [wr64, wr8, wr16, wr32, ofNatE, toNatE, toNatE1, Bool.and_eq_true, Bool.or_eq_true, Bool.not_eq_true', decide_eq_true_eq, decide_eq_false_iff_not, nble, nblt, nbeq, Nat.zero_add, Nat.add_zero, Int.zero_add, Int.add_zero, List.length_cons, List.length_nil, true_and, and_true, Nat.reduceAdd, and_self, beq_self_eq_true]; omega)) ?_) | (refine biff (by first | assumption | (simp (disch := omega) only [wr64, wr8, wr16, wr32, ofNatE, toNatE, toNatE1, Bool.and_eq_true, Bool.or_eq_true, Bool.not_eq_true', decide_eq_true_eq, decide_eq_false_iff_not, nble, nblt, nbeq, Nat.zero_add, Nat.add_zero, Int.zero_add, Int.add_zero, List.length_cons, List.length_nil, true_and, and_true, Nat.reduceAdd, and_self, beq_self_eq_true]; done) | (simp (disch := omega) only [wr64, wr8, wr16, wr32, ofNatE, toNatE, toNatE1, Bool.and_eq_true, Bool.or_eq_true, Bool.not_eq_true', decide_eq_true_eq, decide_eq_false_iff_not, nble, nblt, nbeq, Nat.zero_add, Nat.add_zero, Int.zero_add, Int.add_zero, List.length_cons, List.length_nil, true_and, and_true, Nat.reduceAdd, and_self, beq_self_eq_true]; omega)) ?_)))
        refine bift (weakF_of ⟨rfl, .cons ⟨rfl, rfl, rfl, id, fun _ _ => rfl⟩ (.cons ⟨rfl, rfl, rfl, id, fun j hj => ?_⟩ (.refl _))⟩) ?_
        · first
            | exact hset j
            | exact hget j hj
        (repeat (first | (refine bift (by first | assumption | omega | (simp (disch := omega) only [wr64, wr8, wr16, wr32, ofNatE, toNatE, toNatE1, Bool.and_eq_true, Bool.or_eq_true, Bool.not_eq_true', decide_eq_true_eq, decide_eq_false_iff_not, nble, nblt, nbeq, Nat.zero_add, Nat.add_zero, Int.zero_add, Int.add_zero, List.length_cons, List.length_nil, true_and, and_true, Nat.reduceAdd, and_self, beq_self_eq_true]; done) | (simp (disch := omega) only [wr64, wr8, wr16, wr32, ofNatE, toNatE, toNatE1, Bool.and_eq_true, Bool.or_eq_true, Bool.not_eq_true', decide_eq_true_eq, decide_eq_false_iff_not, nble, nblt, nbeq, Nat.zero_add, Nat.add_zero, Int.zero_add, Int.add_zero, List.length_cons, List.length_nil, true_and, and_true, Nat.reduceAdd, and_self, beq_self_eq_true]; omega)) ?_) | (refine biff (by first | assumption | (simp (disch := omega) only [wr64, wr8, wr16, wr32, ofNatE, toNatE, toNatE1, Bool.and_eq_true, Bool.or_eq_true, Bool.not_eq_true', decide_eq_true_eq, decide_eq_false_iff_not, nble, nblt, nbeq, Nat.zero_add, Nat.add_zero, Int.zero_add, Int.add_zero, List.length_cons, List.length_nil, true_and, and_true, Nat.reduceAdd, and_self, beq_self_eq_true]; done) | (simp (disch := omega) only [wr64, wr8, wr16, wr32, ofNatE, toNatE, toNatE1, Bool.and_eq_true, Bool.or_eq_true, Bool.not_eq_true', decide_eq_true_eq, decide_eq_false_iff_not, nble, nblt, nbeq, Nat.zero_add, Nat.add_zero, Int.zero_add, Int.add_zero, List.length_cons, List.length_nil, true_and, and_true, Nat.reduceAdd, and_self, beq_self_eq_true]; omega)) ?_)))
        rfl
    · intro hq
      have fin : ∀ (v' : Nat) (dB : Nat → Nat) (m : Nat) (v1 : List T) (h1 : Heap), m = len → (∀ j, j < len → dB j = delD dA g len j) →
          iterR P41 G41 A41 noneO 0 5 [(13, litS (v13' L o (.own 1 v2 0 (len + 1) none) i 0 0 0) [bb 40 s, nb v2 nd2 dA, tb (o i)] (.exit 2) (e13' L o (.own 1 v2 0 (len + 1) none) i t x) [bb 40 s, nb v2 nd2 dA, tb (o i)]), (19, litS (v19p L o (.own 1 v2 0 (len + 1) none) i x (len : Nat)) [bb 40 s, nb v2 nd2 dA, tb (o i)] (.exit 4) (e19p L o (.own 1 v2 0 (len + 1) none) i (g : Nat)) [bb 40 s, nb v2 nd2 dA, tb (o i)])] 8 (v8 L o (.own 1 v 0 len none) i) [bb 40 s, nb v nd d] = some (.normal, v8 L o (.own 4 v' 0 m none) (i + 1 : Nat), [bb 40 (aU s (dA g)), nb v2 nd2 dA, tb (o i), eb 0, nb v' m dB]) →
          ∃ v', Step P41 G41 (A41 5) 5 8 1 (v8 L o (.own 1 v 0 len none) i) [bb 40 s, nb v nd d] (v8 L o (.own 1 v' 0 len none) (i + 1 : Nat)) [bb 40 (aU s (dA g)), nb v' len (delD dA g len)] := by
        intro v' dB m v1 h1 hm hB hr
        subst hm
        exact ⟨v', Step.mkC (A := A41) (m := 0) none_ok rfl rfl (loopsC la (loops1 lb)) [0, 4] hr (v2 := v8 L o (.own 1 v' 0 m none) (i + 1 : Nat)) (h2 := [bb 40 (aU s (dA g)), nb v' m dB]) (by rfl) (by rfl) (by rfl) fun nt => .same (.cons ⟨rfl, rfl, rfl, id, fun _ _ => rfl⟩ (.cons ⟨rfl, rfl, rfl, id, fun j hj => by
          show [T.int .i64 ((delD dA g m j : Nat) : Int)] = [T.int .i64 ((dB j : Nat) : Int)]
          rw [hB j hj]⟩ .nil))⟩
      by_cases g0 : g = 0
      · refine fin 0 (fun j => dA (g + 1 + j)) (len + 1 - (g + 1)) [] [] (by omega) (fun j hj => by
          have e1 : ¬ j < g := by omega
          have e2 : g + 1 + j = j + 1 := by omega
          rw [ed j hj, if_neg e1, e2]) (Eq.trans tree ?_)
        clear tree la lb fin
        rcases hcase with ⟨q, rfl, rfl⟩ | ⟨q, rfl, rfl⟩
        all_goals
          (repeat (first | (refine bift (by first | assumption | omega | (simp (disch := omega) only [wr64, wr8, wr16, wr32, ofNatE, toNatE, toNatE1, Bool.and_eq_true, Bool.or_eq_true, Bool.not_eq_true', decide_eq_true_eq, decide_eq_false_iff_not, nble, nblt, nbeq, Nat.zero_add, Nat.add_zero, Int.zero_add, Int.add_zero, List.length_cons, List.length_nil, true_and, and_true, Nat.reduceAdd, and_self, beq_self_eq_true]; done) | (simp (disch := omega) only [wr64, wr8, wr16, wr32, ofNatE, toNatE, toNatE1, Bool.and_eq_true, Bool.or_eq_true, Bool.not_eq_true', decide_eq_true_eq, decide_eq_false_iff_not, nble, nblt, nbeq, Nat.zero_add, Nat.add_zero, Int.zero_add, Int.add_zero, List.length_cons, List.length_nil, true_and, and_true, Nat.reduceAdd, and_self, beq_self_eq_true]; omega)) ?_) | (refine biff (by first | assumption | (simp (disch := omega) only [wr64, wr8, wr16, wr32, ofNatE, toNatE, toNatE1, Bool.and_eq_true, Bool.or_eq_true, Bool.not_eq_true', decide_eq_true_eq, decide_eq_false_iff_not, nble, nblt, nbeq, Nat.zero_add, Nat.add_zero, Int.zero_add, Int.add_zero, List.length_cons, List.length_nil, true_and, and_true, Nat.reduceAdd, and_self, beq_self_eq_true]; done) | (simp (disch := omega) only [wr64, wr8, wr16, wr32, ofNatE, toNatE, toNatE1, Bool.and_eq_true, Bool.or_eq_true, Bool.not_eq_true', decide_eq_true_eq, decide_eq_false_iff_not, nble, nblt, nbeq, Nat.zero_add, Nat.add_zero, Int.zero_add, Int.add_zero, List.length_cons, List.length_nil, true_and, and_true, Nat.reduceAdd, and_self, beq_self_eq_true]; omega)) ?_)))
          refine bift (weakF_of ⟨rfl, .cons ⟨rfl, rfl, rfl, id, fun _ _ => rfl⟩ (.cons ⟨rfl, rfl, rfl, id, fun j hj => ?_⟩ (.refl _))⟩) ?_
          · first
              | exact hset j
              | exact hget j hj
          (repeat (first | (refine bift (by first | assumption | omega | (simp (disch := omega) only [wr64, wr8, wr16, wr32, ofNatE, toNatE, toNatE1, Bool.and_eq_true, Bool.or_eq_true, Bool.not_eq_true', decide_eq_true_eq, decide_eq_false_iff_not, nble, nblt, nbeq, Nat.zero_add, Nat.add_zero, Int.zero_add, Int.add_zero, List.length_cons, List.length_nil, true_and, and_true, Nat.reduceAdd, and_self, beq_self_eq_true]; done) | (simp (disch := omega) only [wr64, wr8, wr16, wr32, ofNatE, toNatE, toNatE1, Bool.and_eq_true, Bool.or_eq_true, Bool.not_eq_true', decide_eq_true_eq, decide_eq_false_iff_not, nble, nblt, nbeq, Nat.zero_add, Nat.add_zero, Int.zero_add, Int.add_zero, List.length_cons, List.length_nil, true_and, and_true, Nat.reduceAdd, and_self, beq_self_eq_true]; omega)) ?_) | (refine biff (by first | assumption | (simp (disch := omega) only [wr64, wr8, wr16, wr32, ofNatE, toNatE, toNatE1, Bool.and_eq_true, Bool.or_eq_true, Bool.not_eq_true', decide_eq_true_eq, decide_eq_false_iff_not, nble, nblt, nbeq, Nat.zero_add, Nat.add_zero, Int.zero_add, Int.add_zero, List.length_cons, List.length_nil, true_and, and_true, Nat.reduceAdd, and_self, beq_self_eq_true]; done) | (simp (disch := omega) only [wr64, wr8, wr16, wr32, ofNatE, toNatE, toNatE1, Bool.and_eq_true, Bool.or_eq_true, Bool.not_eq_true', decide_eq_true_eq, decide_eq_false_iff_not, nble, nblt, nbeq, Nat.zero_add, Nat.add_zero, Int.zero_add, Int.add_zero, List.length_cons, List.length_nil, true_and, and_true, Nat.reduceAdd, and_self, beq_self_eq_true]; omega)) ?_)))
          refine bift (weakF_of ⟨rfl, .refl _⟩) ?_
          (repeat (first | (refine bift (by first | assumption | omega | (simp (disch := omega) only [wr64, wr8, wr16, wr32, ofNatE, toNatE, toNatE1, Bool.and_eq_true, Bool.or_eq_true, Bool.not_eq_true', decide_eq_true_eq, decide_eq_false_iff_not, nble, nblt, nbeq, Nat.zero_add, Nat.add_zero, Int.zero_add, Int.add_zero, List.length_cons, List.length_nil, true_and, and_true, Nat.reduceAdd, and_self, beq_self_eq_true]; done) | (simp (disch := omega) only [wr64, wr8, wr16, wr32, ofNatE, toNatE, toNatE1, Bool.and_eq_true, Bool.or_eq_true, Bool.not_eq_true', decide_eq_true_eq, decide_eq_false_iff_not, nble, nblt, nbeq, Nat.zero_add, Nat.add_zero, Int.zero_add, Int.add_zero, List.length_cons, List.length_nil, true_and, and_true, Nat.reduceAdd, and_self, beq_self_eq_true]; omega)) ?_) | (refine biff (by first | assumption | (simp (disch := omega) only [wr64, wr8, wr16, wr32, ofNatE, toNatE, toNatE1, Bool.and_eq_true, Bool.or_eq_true, Bool.not_eq_true', decide_eq_true_eq, decide_eq_false_iff_not, nble, nblt, nbeq, Nat.zero_add, Nat.add_zero, Int.zero_add, Int.add_zero, List.length_cons, List.length_nil, true_and, and_true, Nat.reduceAdd, and_self, beq_self_eq_true]; done) | (simp (disch := omega) only [wr64, wr8, wr16, wr32, ofNatE, toNatE, toNatE1, Bool.and_eq_true, Bool.or_eq_true, Bool.not_eq_true', decide_eq_true_eq, decide_eq_false_iff_not, nble, nblt, nbeq, Nat.zero_add, Nat.add_zero, Int.zero_add, Int.add_zero, List.length_cons, List.length_nil, true_and, and_true, Nat.reduceAdd, and_self, beq_self_eq_true]; omega)) ?_)))
          rfl
      · by_cases gl : g = len
        · refine fin 0 dA g [] [] gl (fun j hj => by
          have e1 : j < g := by omega
          rw [ed j hj, if_pos e1]) (Eq.trans tree ?_)
          clear tree la lb fin
          rcases hcase with ⟨q, rfl, rfl⟩ | ⟨q, rfl, rfl⟩
          all_goals
            (repeat (first | (refine bift (by first | assumption | omega | (simp (disch := omega) only [wr64, wr8, wr16, wr32, ofNatE, toNatE, toNatE1, Bool.and_eq_true, Bool.or_eq_true, Bool.not_eq_true', decide_eq_true_eq, decide_eq_false_iff_not, nble, nblt, nbeq, Nat.zero_add, Nat.add_zero, Int.zero_add, Int.add_zero, List.length_cons, List.length_nil, true_and, and_true, Nat.reduceAdd, and_self, beq_self_eq_true]; done) | (simp (disch := omega) only [wr64, wr8, wr16, wr32, ofNatE, toNatE, toNatE1, Bool.and_eq_true, Bool.or_eq_true, Bool.not_eq_true', decide_eq_true_eq, decide_eq_false_iff_not, nble, nblt, nbeq, Nat.zero_add, Nat.add_zero, Int.zero_add, Int.add_zero, List.length_cons, List.length_nil, true_and, and_true, Nat.reduceAdd, and_self, beq_self_eq_true]; omega)) ?_) | (refine biff (by first | assumption | (simp (disch := omega) only [wr64, wr8, wr16, wr32, ofNatE, toNatE, toNatE1, Bool.and_eq_true, Bool.or_eq_true, Bool.not_eq_true', decide_eq_true_eq, decide_eq_false_iff_not, nble, nblt, nbeq, Nat.zero_add, Nat.add_zero, Int.zero_add, Int.add_zero, List.length_cons, List.length_nil, true_and, and_true, Nat.reduceAdd, and_self, beq_self_eq_true]; done) | (simp (disch := omega) only [wr64, wr8, wr16, wr32, ofNatE, toNatE, toNatE1, Bool.and_eq_true, Bool.or_eq_true, Bool.not_eq_true', decide_eq_true_eq, decide_eq_false_iff_not, nble, nblt, nbeq, Nat.zero_add, Nat.add_zero, Int.zero_add, Int.add_zero, List.length_cons, List.length_nil, true_and, and_true, Nat.reduceAdd, and_self, beq_self_eq_true]; omega)) ?_)))
            refine bift (weakF_of ⟨rfl, .cons ⟨rfl, rfl, rfl, id, fun _ _ => rfl⟩ (.cons ⟨rfl, rfl, rfl, id, fun j hj => ?_⟩ (.refl _))⟩) ?_
            · first
                | exact hset j
                | exact hget j hj
            (repeat (first | (refine bift (by first | assumption | omega | (simp (disch := omega) only [wr64, wr8, wr16, wr32, ofNatE, toNatE, toNatE1, Bool.and_eq_true, Bool.or_eq_true, Bool.not_eq_true', decide_eq_true_eq, decide_eq_false_iff_not, nble, nblt, nbeq, Nat.zero_add, Nat.add_zero, Int.zero_add, Int.add_zero, List.length_cons, List.length_nil, true_and, and_true, Nat.reduceAdd, and_self, beq_self_eq_true]; done) | (simp (disch := omega) only [wr64, wr8, wr16, wr32, ofNatE, toNatE, toNatE1, Bool.and_eq_true, Bool.or_eq_true, Bool.not_eq_true', decide_eq_true_eq, decide_eq_false_iff_not, nble, nblt, nbeq, Nat.zero_add, Nat.add_zero, Int.zero_add, Int.add_zero, List.length_cons, List.length_nil, true_and, and_true, Nat.reduceAdd, and_self, beq_self_eq_true]; omega)) ?_) | (refine biff (by first | assumption | (simp (disch := omega) only [wr64, wr8, wr16, wr32, ofNatE, toNatE, toNatE1, Bool.and_eq_true, Bool.or_eq_true, Bool.not_eq_true', decide_eq_true_eq, decide_eq_false_iff_not, nble, nblt, nbeq, Nat.zero_add, Nat.add_zero, Int.zero_add, Int.add_zero, List.length_cons, List.length_nil, true_and, and_true, Nat.reduceAdd, and_self, beq_self_eq_true]; done) | (simp (disch := omega) only [wr64, wr8, wr16, wr32, ofNatE, toNatE, toNatE1, Bool.and_eq_true, Bool.or_eq_true, Bool.not_eq_true', decide_eq_true_eq, decide_eq_false_iff_not, nble, nblt, nbeq, Nat.zero_add, Nat.add_zero, Int.zero_add, Int.add_zero, List.length_cons, List.length_nil, true_and, and_true, Nat.reduceAdd, and_self, beq_self_eq_true]; omega)) ?_)))
            refine bift (weakF_of ⟨rfl, .refl _⟩) ?_
            (repeat (first | (refine bift (by first | assumption | omega | (simp (disch := omega) only [wr64, wr8, wr16, wr32, ofNatE, toNatE, toNatE1, Bool.and_eq_true, Bool.or_eq_true, Bool.not_eq_true', decide_eq_true_eq, decide_eq_false_iff_not, nble, nblt, nbeq, Nat.zero_add, Nat.add_zero, Int.zero_add, Int.add_zero, List.length_cons, List.length_nil, true_and, and_true, Nat.reduceAdd, and_self, beq_self_eq_true]; done) | (simp (disch := omega) only [wr64, wr8, wr16, wr32, ofNatE, toNatE, toNatE1, Bool.and_eq_true, Bool.or_eq_true, Bool.not_eq_true', decide_eq_true_eq, decide_eq_false_iff_not, nble, nblt, nbeq, Nat.zero_add, Nat.add_zero, Int.zero_add, Int.add_zero, List.length_cons, List.length_nil, true_and, and_true, Nat.reduceAdd, and_self, beq_self_eq_true]; omega)) ?_) | (refine biff (by first | assumption | (simp (disch := omega) only [wr64, wr8, wr16, wr32, ofNatE, toNatE, toNatE1, Bool.and_eq_true, Bool.or_eq_true, Bool.not_eq_true', decide_eq_true_eq, decide_eq_false_iff_not, nble, nblt, nbeq, Nat.zero_add, Nat.add_zero, Int.zero_add, Int.add_zero, List.length_cons, List.length_nil, true_and, and_true, Nat.reduceAdd, and_self, beq_self_eq_true]; done) | (simp (disch := omega) only [wr64, wr8, wr16, wr32, ofNatE, toNatE, toNatE1, Bool.and_eq_true, Bool.or_eq_true, Bool.not_eq_true', decide_eq_true_eq, decide_eq_false_iff_not, nble, nblt, nbeq, Nat.zero_add, Nat.add_zero, Int.zero_add, Int.add_zero, List.length_cons, List.length_nil, true_and, and_true, Nat.reduceAdd, and_self, beq_self_eq_true]; omega)) ?_)))
            rfl
        · refine fin 1 (fun j => bif Nat.blt j g then dA j else dA (g + 1 + (j - g))) (g + (len + 1 - (g + 1))) [] [] (by omega) (fun j hj => by
            rw [ed j hj]
            by_cases q : j < g
            · rw [if_pos q, bltT q]; rfl
            · have e2 : g + 1 + (j - g) = j + 1 := by omega
              rw [if_neg q, bltF (show g ≤ j by omega), cond_false, e2]) (Eq.trans tree ?_)
          clear tree la lb fin
          have ef : (fun j => [T.int .i64 ((bif Nat.blt j g then dA j else dA (g + 1 + (j - g)) : Nat) : Int)]) = fun j => bif Nat.blt j g then [T.int .i64 (Int.ofNat (dA j))] else [T.int .i64 (Int.ofNat (dA (g + 1 + (j - g))))] := funext fun j => by cases Nat.blt j g <;> rfl
          have en : nb 1 (g + (len + 1 - (g + 1))) (fun j => bif Nat.blt j g then dA j else dA (g + 1 + (j - g))) = ⟨1, 1, g + (len + 1 - (g + 1)), fun j => bif Nat.blt j g then [T.int .i64 (Int.ofNat (dA j))] else [T.int .i64 (Int.ofNat (dA (g + 1 + (j - g))))], true, false⟩ := by
            unfold nb
            rw [ef]
          rw [en]
          clear ef en
          rcases hcase with ⟨q, rfl, rfl⟩ | ⟨q, rfl, rfl⟩
          all_goals
            (repeat (first | (refine bift (by first | assumption | omega | (simp (disch := omega) only [wr64, wr8, wr16, wr32, ofNatE, toNatE, toNatE1, Bool.and_eq_true, Bool.or_eq_true, Bool.not_eq_true', decide_eq_true_eq, decide_eq_false_iff_not, nble, nblt, nbeq, Nat.zero_add, Nat.add_zero, Int.zero_add, Int.add_zero, List.length_cons, List.length_nil, true_and, and_true, Nat.reduceAdd, and_self, beq_self_eq_true]; done) | (simp (disch := omega) only [wr64, wr8, wr16, wr32, ofNatE, toNatE, toNatE1, Bool.and_eq_true, Bool.or_eq_true, Bool.not_eq_true', decide_eq_true_eq, decide_eq_false_iff_not, nble, nblt, nbeq, Nat.zero_add, Nat.add_zero, Int.zero_add, Int.add_zero, List.length_cons, List.length_nil, true_and, and_true, Nat.reduceAdd, and_self, beq_self_eq_true]; omega)) ?_) | (refine biff (by first | assumption | (simp (disch := omega) only [wr64, wr8, wr16, wr32, ofNatE, toNatE, toNatE1, Bool.and_eq_true, Bool.or_eq_true, Bool.not_eq_true', decide_eq_true_eq, decide_eq_false_iff_not, nble, nblt, nbeq, Nat.zero_add, Nat.add_zero, Int.zero_add, Int.add_zero, List.length_cons, List.length_nil, true_and, and_true, Nat.reduceAdd, and_self, beq_self_eq_true]; done) | (simp (disch := omega) only [wr64, wr8, wr16, wr32, ofNatE, toNatE, toNatE1, Bool.and_eq_true, Bool.or_eq_true, Bool.not_eq_true', decide_eq_true_eq, decide_eq_false_iff_not, nble, nblt, nbeq, Nat.zero_add, Nat.add_zero, Int.zero_add, Int.add_zero, List.length_cons, List.length_nil, true_and, and_true, Nat.reduceAdd, and_self, beq_self_eq_true]; omega)) ?_)))
            refine bift (weakF_of ⟨rfl, .cons ⟨rfl, rfl, rfl, id, fun _ _ => rfl⟩ (.cons ⟨rfl, rfl, rfl, id, fun j hj => ?_⟩ (.refl _))⟩) ?_
            · first
                | exact hset j
                | exact hget j hj
            (repeat (first | (refine bift (by first | assumption | omega | (simp (disch := omega) only [wr64, wr8, wr16, wr32, ofNatE, toNatE, toNatE1, Bool.and_eq_true, Bool.or_eq_true, Bool.not_eq_true', decide_eq_true_eq, decide_eq_false_iff_not, nble, nblt, nbeq, Nat.zero_add, Nat.add_zero, Int.zero_add, Int.add_zero, List.length_cons, List.length_nil, true_and, and_true, Nat.reduceAdd, and_self, beq_self_eq_true]; done) | (simp (disch := omega) only [wr64, wr8, wr16, wr32, ofNatE, toNatE, toNatE1, Bool.and_eq_true, Bool.or_eq_true, Bool.not_eq_true', decide_eq_true_eq, decide_eq_false_iff_not, nble, nblt, nbeq, Nat.zero_add, Nat.add_zero, Int.zero_add, Int.add_zero, List.length_cons, List.length_nil, true_and, and_true, Nat.reduceAdd, and_self, beq_self_eq_true]; omega)) ?_) | (refine biff (by first | assumption | (simp (disch := omega) only [wr64, wr8, wr16, wr32, ofNatE, toNatE, toNatE1, Bool.and_eq_true, Bool.or_eq_true, Bool.not_eq_true', decide_eq_true_eq, decide_eq_false_iff_not, nble, nblt, nbeq, Nat.zero_add, Nat.add_zero, Int.zero_add, Int.add_zero, List.length_cons, List.length_nil, true_and, and_true, Nat.reduceAdd, and_self, beq_self_eq_true]; done) | (simp (disch := omega) only [wr64, wr8, wr16, wr32, ofNatE, toNatE, toNatE1, Bool.and_eq_true, Bool.or_eq_true, Bool.not_eq_true', decide_eq_true_eq, decide_eq_false_iff_not, nble, nblt, nbeq, Nat.zero_add, Nat.add_zero, Int.zero_add, Int.add_zero, List.length_cons, List.length_nil, true_and, and_true, Nat.reduceAdd, and_self, beq_self_eq_true]; omega)) ?_)))
            refine bift (weakF_of ⟨rfl, .refl _⟩) ?_
            (repeat (first | (refine bift (by first | assumption | omega | (simp (disch := omega) only [wr64, wr8, wr16, wr32, ofNatE, toNatE, toNatE1, Bool.and_eq_true, Bool.or_eq_true, Bool.not_eq_true', decide_eq_true_eq, decide_eq_false_iff_not, nble, nblt, nbeq, Nat.zero_add, Nat.add_zero, Int.zero_add, Int.add_zero, List.length_cons, List.length_nil, true_and, and_true, Nat.reduceAdd, and_self, beq_self_eq_true]; done) | (simp (disch := omega) only [wr64, wr8, wr16, wr32, ofNatE, toNatE, toNatE1, Bool.and_eq_true, Bool.or_eq_true, Bool.not_eq_true', decide_eq_true_eq, decide_eq_false_iff_not, nble, nblt, nbeq, Nat.zero_add, Nat.add_zero, Int.zero_add, Int.add_zero, List.length_cons, List.length_nil, true_and, and_true, Nat.reduceAdd, and_self, beq_self_eq_true]; omega)) ?_) | (refine biff (by first | assumption | (simp (disch := omega) only [wr64, wr8, wr16, wr32, ofNatE, toNatE, toNatE1, Bool.and_eq_true, Bool.or_eq_true, Bool.not_eq_true', decide_eq_true_eq, decide_eq_false_iff_not, nble, nblt, nbeq, Nat.zero_add, Nat.add_zero, Int.zero_add, Int.add_zero, List.length_cons, List.length_nil, true_and, and_true, Nat.reduceAdd, and_self, beq_self_eq_true]; done) | (simp (disch := omega) only [wr64, wr8, wr16, wr32, ofNatE, toNatE, toNatE1, Bool.and_eq_true, Bool.or_eq_true, Bool.not_eq_true', decide_eq_true_eq, decide_eq_false_iff_not, nble, nblt, nbeq, Nat.zero_add, Nat.add_zero, Int.zero_add, Int.add_zero, List.length_cons, List.length_nil, true_and, and_true, Nat.reduceAdd, and_self, beq_self_eq_true]; omega)) ?_)))
            rfl
  by_cases q : len + 1 ≤ nd
  · have := core v nd (.inl ⟨q, rfl, rfl⟩) q
    exact ⟨fun h => ⟨v, nd, q, this.1 h⟩, this.2⟩
  · have := core (v + 1) (len + 1) (.inr ⟨by omega, rfl, rfl⟩) (Nat.le_refl _)
    exact ⟨fun h => ⟨v + 1, len + 1, Nat.le_refl _, this.1 h⟩, this.2⟩
end Go.Ab

namespace Go.Ab
open Go.Proofs
/-- What is put aside before step i. -/
def asd (L : JL) (i : Nat) : Nat → Bool := fun e => decide (e ∈ (pst L (oN L) i).2.2)
inductive P8 (L : JL) (i : Nat) : List T → Heap → Prop
  | z (hi : i = 0) : P8 L i (v8 L (oN L) .nils i) [bb 40 (asd L i)]
  | e (h : (pst L (oN L) i).1 = []) : P8 L i (v8 L (oN L) (.own 1 0 0 0 (some 0)) i) [bb 40 (asd L i), nb 0 0 fun _ => 0]
  | a (v nd : Nat) (d : Nat → Nat) (h0 : 0 < (pst L (oN L) i).1.length) (hn : (pst L (oN L) i).1.length ≤ nd) (hd : like d (pst L (oN L) i).1) : P8 L i (v8 L (oN L) (.own 1 v 0 (pst L (oN L) i).1.length none) i) [bb 40 (asd L i), nb v nd d]
inductive E8 (L : JL) : List T → Heap → Prop
  | z (hi : L.n = 0) : E8 L (e8 L .nils) [bb 40 (asd L L.n)]
  | a (v nd : Nat) (d : Nat → Nat) (cap : Option Nat) (hc : cap = none ∨ (cap = some 0 ∧ (pst L (oN L) L.n).1.length = 0 ∧ nd = 0)) (hn : (pst L (oN L) L.n).1.length ≤ nd) (hd : like d (pst L (oN L) L.n).1) : E8 L (e8 L (.own 1 v 0 (pst L (oN L) L.n).1.length cap)) [bb 40 (asd L L.n), nb v nd d]
theorem asd_in (L : JL) (i : Nat) (h : (pst L (oN L) i).2.1 + L.tm (oN L i) ≤ L.du (oN L i)) : (pst L (oN L) (i + 1)).1 = (pst L (oN L) i).1 ++ [oN L i] ∧ asd L (i + 1) = asd L i := by
  have e : pst L (oN L) (i + 1) = pstep L (pst L (oN L) i) (oN L i) := rfl
  unfold asd
  rw [e]
  unfold pstep
  rw [if_pos h]
  exact ⟨rfl, rfl⟩
theorem asd_out (L : JL) (i : Nat) (h : ¬ (pst L (oN L) i).2.1 + L.tm (oN L i) ≤ L.du (oN L i)) (g : Nat) (hg : g = lgst (fun j => L.tm (((pst L (oN L) i).1 ++ [oN L i]).getD j 0)) ((pst L (oN L) i).1.length + 1)) :
    (pst L (oN L) (i + 1)).1 = ((pst L (oN L) i).1 ++ [oN L i]).eraseIdx g ∧ asd L (i + 1) = aU (asd L i) (((pst L (oN L) i).1 ++ [oN L i]).getD g 0) := by
  have e : pst L (oN L) (i + 1) = pstep L (pst L (oN L) i) (oN L i) := rfl
  unfold asd aU
  rw [e]
  unfold pstep
  rw [if_neg h, ← hg]
  refine ⟨rfl, funext fun e => ?_⟩
  dsimp only
  generalize ((pst L (oN L) i).1 ++ [oN L i]).getD g 0 = y
  by_cases q : e = y
  · subst q; simp
  · rw [beq_eq_false_iff_ne.2 q]; simp [q]
theorem step8 (L : JL) (hL : L.Ok) (hn : L.n ≤ 40) (i : Nat) (hi : i < L.n) (vs : List T) (h : Heap) (hp : P8 L i vs h) : ∃ vs' h', Step P41 G41 (A41 5) 5 8 1 vs h vs' h' ∧ P8 L (i + 1) vs' h' := by
  have ho := oN_lt (L := L) hi
  have hm := pst_mok L hL i (by omega)
  have hk := pst_ok (L := L) (o := oN L) i (fun j hj => oN_lt (by omega))
  have hlen := hk.ld
  have htot := hm.t
  have empty : (pst L (oN L) i).1 = [] → ((L.tm (oN L i) ≤ L.du (oN L i)) → (pst L (oN L) (i + 1)).1 = [oN L i] ∧ asd L (i + 1) = asd L i) ∧ (¬ (L.tm (oN L i) ≤ L.du (oN L i)) → (pst L (oN L) (i + 1)).1 = [] ∧ asd L (i + 1) = aU (asd L i) (oN L i)) := by
    intro he
    rw [he] at htot
    have ht0 : (pst L (oN L) i).2.1 = 0 := htot
    constructor
    · intro q
      obtain ⟨q1, q2⟩ := asd_in L i (by rw [ht0]; omega)
      rw [he] at q1
      exact ⟨q1, q2⟩
    · intro q
      obtain ⟨q1, q2⟩ := asd_out L i (by rw [ht0]; omega) 0 (by rw [he]; simp [lgst])
      rw [he] at q1 q2
      exact ⟨q1, q2⟩
  have done1 : (pst L (oN L) (i + 1)).1 = [oN L i] → asd L (i + 1) = asd L i → P8 L (i + 1) (v8 L (oN L) (.own 1 0 0 1 none) (i + 1 : Nat)) [bb 40 (asd L i), nb 0 1 fun _ => oN L i] := by
    intro q1 q2
    have := P8.a (L := L) (i := i + 1) 0 1 (fun _ => oN L i) (by rw [q1]; simp) (by rw [q1]; simp) (by rw [q1]; exact like1 _)
    rw [q1, q2] at this
    exact this
  have done0 : (pst L (oN L) (i + 1)).1 = [] → asd L (i + 1) = aU (asd L i) (oN L i) → P8 L (i + 1) (v8 L (oN L) (.own 1 0 0 0 (some 0)) (i + 1 : Nat)) [bb 40 (aU (asd L i) (oN L i)), nb 0 0 fun _ => 0] := by
    intro q1 q2
    have := P8.e (L := L) (i := i + 1) q1
    rw [q2] at this
    exact this
  cases hp with
  | z hi0 =>
    subst hi0
    have he : (pst L (oN L) 0).1 = [] := rfl
    by_cases q : L.tm (oN L 0) ≤ L.du (oN L 0)
    · obtain ⟨q1, q2⟩ := (empty he).1 q
      exact ⟨_, _, (r5z L hL (oN L) 0 _ hn hi ho).1 q, done1 q1 q2⟩
    · obtain ⟨q1, q2⟩ := (empty he).2 q
      exact ⟨_, _, (r5z L hL (oN L) 0 _ hn hi ho).2 q, done0 q1 q2⟩
  | e he =>
    by_cases q : L.tm (oN L i) ≤ L.du (oN L i)
    · obtain ⟨q1, q2⟩ := (empty he).1 q
      exact ⟨_, _, (r5e L hL (oN L) i _ _ hn hi ho).1 q, done1 q1 q2⟩
    · obtain ⟨q1, q2⟩ := (empty he).2 q
      exact ⟨_, _, (r5e L hL (oN L) i _ _ hn hi ho).2 q, done0 q1 q2⟩
  | a v nd d h0 hnd hd =>
    have hdl : ∀ j, j < (pst L (oN L) i).1.length → d j < L.n := fun j hj => by
      rw [hd j hj]; exact hk.d _ (getD_mem hj)
    have hA := like_app hd (oN L i)
    have hll : ((pst L (oN L) i).1 ++ [oN L i]).length = (pst L (oN L) i).1.length + 1 := by simp
    have hAj : ∀ j, j < (pst L (oN L) i).1.length + 1 → apD d (pst L (oN L) i).1.length (oN L i) j = ((pst L (oN L) i).1 ++ [oN L i]).getD j 0 := fun j hj => hA j (by omega)
    have hg : lgst (fun j => L.tm (((pst L (oN L) i).1 ++ [oN L i]).getD j 0)) ((pst L (oN L) i).1.length + 1) = lgst (fun j => L.tm (apD d (pst L (oN L) i).1.length (oN L i) j)) ((pst L (oN L) i).1.length + 1) :=
      lgst_congr _ fun j hj => by rw [hAj j hj]
    have hgl := lgst_lt (fun j => L.tm (apD d (pst L (oN L) i).1.length (oN L i) j)) ((pst L (oN L) i).1.length + 1) (by omega)
    have r := r5 L hL (oN L) i (asd L i) v (pst L (oN L) i).1.length nd d hn hi ho h0 hnd (by omega) hdl _ rfl
    have htms : tms L (apD d (pst L (oN L) i).1.length (oN L i)) ((pst L (oN L) i).1.length + 1) = (pst L (oN L) i).2.1 + L.tm (oN L i) := by
      have e1 : tms L (fun j => ((pst L (oN L) i).1 ++ [oN L i]).getD j 0) ((pst L (oN L) i).1.length + 1) = tot L.tm ((pst L (oN L) i).1 ++ [oN L i]) := by
        rw [tms_done _ _ _ (by omega), List.take_of_length_le (by omega)]
      have e2 : ∀ k, k ≤ (pst L (oN L) i).1.length + 1 → tms L (apD d (pst L (oN L) i).1.length (oN L i)) k = tms L (fun j => ((pst L (oN L) i).1 ++ [oN L i]).getD j 0) k := by
        intro k
        induction k with
        | zero => intro _; rfl
        | succ k ih => intro hk; simp only [tms]; rw [ih (by omega), hAj k (by omega)]
      rw [e2 _ (Nat.le_refl _), e1, tot_app, tot_one, htot]
    rw [htms] at r
    generalize hG : lgst (fun j => L.tm (apD d (pst L (oN L) i).1.length (oN L i) j)) ((pst L (oN L) i).1.length + 1) = g at *
    by_cases q : (pst L (oN L) i).2.1 + L.tm (oN L i) ≤ L.du (oN L i)
    · obtain ⟨v', nd', q1, q2⟩ := r.1 q
      obtain ⟨c1, c2⟩ := asd_in L i q
      refine ⟨_, _, q2, ?_⟩
      have := P8.a (L := L) (i := i + 1) v' nd' (apD d (pst L (oN L) i).1.length (oN L i)) (by rw [c1]; simp) (by rw [c1]; simpa using q1) (by rw [c1]; exact hA)
      rw [c1, c2] at this
      simpa using this
    · obtain ⟨v', q2⟩ := r.2 q
      obtain ⟨c1, c2⟩ := asd_out L i q g hg.symm
      refine ⟨_, _, q2, ?_⟩
      have hel : (((pst L (oN L) i).1 ++ [oN L i]).eraseIdx g).length = (pst L (oN L) i).1.length := by rw [List.length_eraseIdx_of_lt (by omega), hll]; rfl
      have := P8.a (L := L) (i := i + 1) v' (pst L (oN L) i).1.length (delD (apD d (pst L (oN L) i).1.length (oN L i)) g (pst L (oN L) i).1.length) (by rw [c1, hel]; exact h0) (by rw [c1, hel]; exact Nat.le_refl _) (by rw [c1]; exact like_del hA hll hgl)
      rw [c1, c2, hel] at this
      rw [hAj g hgl]
      exact this
end Go.Ab

namespace Go.Ab
open Go.Proofs
def v25p (L : JL) (x6 x13 : T) (i : Int) : List T := [jv L none, x6, .ptr 0 0 0 0, x13, .int .i64 i]
def e25p (L : JL) (x6 x13 : T) : List T := [jv L none, x6, x13]
noncomputable def K5 (p9 p10 p13 p15 p12 : List T → Prop) (xF x6 a b : T) : Orc :=
  ((((noneO.add 9 (callP p9 (.new xF))).add 10 (callP p10 (.tup [x6, .int .i64 0]))).add 13 (callP p13 (.tup [.new a, .new b, .int .i64 0]))).add 15 (callP p15 (.bool true))).add 12 (callP p12 (.bool true))
end Go.Ab

namespace Go.Ab
open Go.Proofs
def ltS (s : Nat → Bool) (i : Nat) : List Nat := (List.range i).filter s
inductive P25 (L : JL) (s : Nat → Bool) (v len nd : Nat) (cap : Option Nat) (d : Nat → Nat) (i : Nat) : List T → Heap → Prop
  | z (h : ltS s i = []) : P25 L s v len nd cap d i (v25p L (.own 1 v 0 len cap) .nils i) [bb 40 s, nb v nd d]
  | a (u nl : Nat) (e : Nat → Nat) (hn : (ltS s i).length ≤ nl) (he : like e (ltS s i)) : P25 L s v len nd cap d i (v25p L (.own 1 v 0 len cap) (.own 2 u 0 (ltS s i).length none) i) [bb 40 s, nb v nd d, nb u nl e]
inductive E25 (L : JL) (s : Nat → Bool) (v len nd : Nat) (cap : Option Nat) (d : Nat → Nat) : List T → Heap → Prop
  | z (h : ltS s L.n = []) : E25 L s v len nd cap d (e25p L (.own 1 v 0 len cap) .nils) [bb 40 s, nb v nd d]
  | a (u nl : Nat) (e : Nat → Nat) (hn : (ltS s L.n).length ≤ nl) (he : like e (ltS s L.n)) : E25 L s v len nd cap d (e25p L (.own 1 v 0 len cap) (.own 2 u 0 (ltS s L.n).length none)) [bb 40 s, nb v nd d, nb u nl e]
theorem ltS_succ (s : Nat → Bool) (i : Nat) : ltS s (i + 1) = if s i = true then ltS s i ++ [i] else ltS s i := by
  unfold ltS
  rw [List.range_succ, List.filter_append]
  by_cases h : s i = true
  · rw [if_pos h]; simp [h]
  · rw [if_neg h]; simp [h]
theorem ltS_len (s : Nat → Bool) (i : Nat) : (ltS s i).length ≤ i := by
  have := List.length_filter_le s (List.range i)
  simpa [ltS] using this
theorem step25 (L : JL) (s : Nat → Bool) (v len nd : Nat) (cap : Option Nat) (d : Nat → Nat) (i : Nat) (hi : i < L.n) (hn : L.n ≤ 40) (vs : List T) (h : Heap) (hp : P25 L s v len nd cap d i vs h) : ∃ vs' h', Step P41 G41 (A41 5) 5 25 2 vs h vs' h' ∧ P25 L s v len nd cap d (i + 1) vs' h' := by
  have wi : IntKind.i64.wrap (Int.ofNat i + (1 : Int)) = ((i + 1 : Nat) : Int) := by rw [wr64 (by rw [ofNatE]; omega) (by rw [ofNatE]; omega)]; rfl
  have hs := ltS_succ s i
  have hl := ltS_len s i
  cases hp with
  | z h0 =>
    have tree := (show iterR P41 G41 A41 noneO 0 5 [] 25 (v25p L (.own 1 v 0 len cap) .nils i) [bb 40 s, nb v nd d] =
(
 bif decide (Int.ofNat i < Int.ofNat L.n) then
 bif decide ((0 : Int) ≤ Int.ofNat i) && decide (Int.ofNat i < (40 : Int)) then
 bif ((0 : Nat) + i).blt 40 then
 bif s ((0 : Nat) + i) then
 some ((Ex.normal, [jv L
 none, T.own 1 v 0 len cap, T.ptr 0 0 0 0, T.own [bb 40 s, nb v nd d, Blk.mk 0 1 1 (fun j => [[T.int .i64 (Int.ofNat i)]].getD j []) true true].length (0 : Nat) (0 : Nat) (1 : Nat)
 none, T.int .i64 (IntKind.i64.wrap (Int.ofNat i + (1 : Int)))], [bb 40 s, nb v nd d, Blk.mk 0 1 1 (fun j => [[T.int .i64 (Int.ofNat i)]].getD j []) true true, Blk.mk 0 1 1 (fun j => [[T.int .i64 (Int.ofNat i)]].getD ((0 : Nat) + j) []) true false]))
 else
 some ((Ex.normal, [jv L
 none, T.own 1 v 0 len cap, T.ptr 0 0 0 0, T.nils, T.int .i64 (IntKind.i64.wrap (Int.ofNat i + (1 : Int)))], [bb 40 s, nb v nd d]))
 else none else none else
 some ((Ex.exit 6, [jv L
 none, T.own 1 v 0 len cap, T.nils], [bb 40 s, nb v nd d]))) from by kernel_rfl)
    simp only [Nat.zero_add, wi] at tree
    by_cases q : s i = true
    · rw [if_pos q, h0] at hs
      refine ⟨v25p L (.own 1 v 0 len cap) (.own 2 0 0 1 none) (i + 1 : Nat), [bb 40 s, nb v nd d, nb 0 1 fun _ => i], Step.mkC (A := A41) (m := 0) none_ok rfl rfl loops0 [0, 1, 3] (v1 := v25p L (.own 1 v 0 len cap) (.own 3 0 0 1 none) (i + 1 : Nat)) (h1 := [bb 40 s, nb v nd d, tb i, lb1 i]) (v2 := v25p L (.own 1 v 0 len cap) (.own 2 0 0 1 none) (i + 1 : Nat)) (h2 := [bb 40 s, nb v nd d, lb1 i]) (Eq.trans tree ?_) (by rfl) (by rfl) (by rfl) fun nt => .same (.cons ⟨rfl, rfl, rfl, id, fun _ _ => rfl⟩ (.cons ⟨rfl, rfl, rfl, id, fun _ _ => rfl⟩ (.cons ⟨rfl, rfl, rfl, id, fun j hj => by
        have hj' : j < 1 := hj
        obtain rfl : j = 0 := by omega
        rfl⟩ .nil))), ?_⟩
      · clear tree
        (repeat (first | (refine bift (by first | assumption | omega | (simp (disch := omega) only [wr64, wr8, wr16, wr32, ofNatE, toNatE, toNatE1, Bool.and_eq_true, Bool.or_eq_true, Bool.not_eq_true', decide_eq_true_eq, decide_eq_false_iff_not, nble, nblt, nbeq, Nat.zero_add, Nat.add_zero, Int.zero_add, Int.add_zero, List.length_cons, List.length_nil, true_and, and_true, Nat.reduceAdd, and_self]; done) | (simp (disch := omega) only [wr64, wr8, wr16, wr32, ofNatE, toNatE, toNatE1, Bool.and_eq_true, Bool.or_eq_true, Bool.not_eq_true', decide_eq_true_eq, decide_eq_false_iff_not, nble, nblt, nbeq, Nat.zero_add, Nat.add_zero, Int.zero_add, Int.add_zero, List.length_cons, List.length_nil, true_and, and_true, Nat.reduceAdd, and_self]; omega)) ?_) | (refine biff (by first | assumption | (simp (disch := omega) only [wr64, wr8, wr16, wr32, ofNatE, toNatE, toNatE1, Bool.and_eq_true, Bool.or_eq_true, Bool.not_eq_true', decide_eq_true_eq, decide_eq_false_iff_not, nble, nblt, nbeq, Nat.zero_add, Nat.add_zero, Int.zero_add, Int.add_zero, List.length_cons, List.length_nil, true_and, and_true, Nat.reduceAdd, and_self]; done) | (simp (disch := omega) only [wr64, wr8, wr16, wr32, ofNatE, toNatE, toNatE1, Bool.and_eq_true, Bool.or_eq_true, Bool.not_eq_true', decide_eq_true_eq, decide_eq_false_iff_not, nble, nblt, nbeq, Nat.zero_add, Nat.add_zero, Int.zero_add, Int.add_zero, List.length_cons, List.length_nil, true_and, and_true, Nat.reduceAdd, and_self]; omega)) ?_)))
        simp only [lb1, Nat.zero_add]
        rfl
      · have := P25.a (L := L) (s := s) (v := v) (len := len) (nd := nd) (cap := cap) (d := d) (i := i + 1) 0 1 (fun _ => i) (by rw [hs]; simp) (by rw [hs]; exact like1 i)
        rw [hs] at this
        exact this
    · rw [if_neg q, h0] at hs
      refine ⟨_, _, Step.mk0 (A := A41) (m := 0) none_ok rfl rfl loops0 (h1 := [bb 40 s, nb v nd d]) (Eq.trans tree ?_) (.refl _), .z hs⟩
      clear tree
      rw [Bool.not_eq_true] at q
      rw [q]
      (repeat (first | (refine bift (by first | assumption | omega | (simp (disch := omega) only [wr64, wr8, wr16, wr32, ofNatE, toNatE, toNatE1, Bool.and_eq_true, Bool.or_eq_true, Bool.not_eq_true', decide_eq_true_eq, decide_eq_false_iff_not, nble, nblt, nbeq, Nat.zero_add, Nat.add_zero, Int.zero_add, Int.add_zero, List.length_cons, List.length_nil, true_and, and_true, Nat.reduceAdd, and_self]; done) | (simp (disch := omega) only [wr64, wr8, wr16, wr32, ofNatE, toNatE, toNatE1, Bool.and_eq_true, Bool.or_eq_true, Bool.not_eq_true', decide_eq_true_eq, decide_eq_false_iff_not, nble, nblt, nbeq, Nat.zero_add, Nat.add_zero, Int.zero_add, Int.add_zero, List.length_cons, List.length_nil, true_and, and_true, Nat.reduceAdd, and_self]; omega)) ?_) | (refine biff (by first | assumption | (simp (disch := omega) only [wr64, wr8, wr16, wr32, ofNatE, toNatE, toNatE1, Bool.and_eq_true, Bool.or_eq_true, Bool.not_eq_true', decide_eq_true_eq, decide_eq_false_iff_not, nble, nblt, nbeq, Nat.zero_add, Nat.add_zero, Int.zero_add, Int.add_zero, List.length_cons, List.length_nil, true_and, and_true, Nat.reduceAdd, and_self]; done) | (simp (disch := omega) only [wr64, wr8, wr16, wr32, ofNatE, toNatE, toNatE1, Bool.and_eq_true, Bool.or_eq_true, Bool.not_eq_true', decide_eq_true_eq, decide_eq_false_iff_not, nble, nblt, nbeq, Nat.zero_add, Nat.add_zero, Int.zero_add, Int.add_zero, List.length_cons, List.length_nil, true_and, and_true, Nat.reduceAdd, and_self]; omega)) ?_)))
      rfl
  | a u nl e hn' he =>
    generalize hq : (ltS s i).length = q at *
    have tree := (show iterR P41 G41 A41 noneO 0 5 [] 25 (v25p L (.own 1 v 0 len cap) (.own 2 u 0 q none) i) [bb 40 s, nb v nd d, nb u nl e] =
(
 bif decide (Int.ofNat i < Int.ofNat L.n) then
 bif decide ((0 : Int) ≤ Int.ofNat i) && decide (Int.ofNat i < (40 : Int)) then
 bif ((0 : Nat) + i).blt 40 then
 bif s ((0 : Nat) + i) then
 bif u == u then
 bif ((0 : Nat) + q).ble nl then
 bif ((q + (1 : Nat)) * (9 : Nat)).ble 70368744177664 then
 bif ((0 : Nat) + q + (1 : Nat)).ble nl then
 some ((Ex.normal, [jv L
 none, T.own 1 v 0 len cap, T.ptr 0 0 0 0, T.own 2 u 0 (q + (1 : Nat))
 none, T.int .i64 (IntKind.i64.wrap (Int.ofNat i + (1 : Int)))], [bb 40 s, nb v nd d, Blk.mk u 1 nl (fun j =>
 bif ((0 : Nat) + q).ble j && j.blt ((0 : Nat) + q + (1 : Nat)) then [[T.int .i64 (Int.ofNat i)]].getD ((0 : Nat) + (j - ((0 : Nat) + q))) []
 else [T.int .i64 (Int.ofNat (e j))]) true false, Blk.mk 0 1 1 (fun j => [[T.int .i64 (Int.ofNat i)]].getD j []) true true]))
 else
 some ((Ex.normal, [jv L
 none, T.own 1 v 0 len cap, T.ptr 0 0 0 0, T.own 2 (u + (1 : Nat)) (0 : Nat) (q + (1 : Nat))
 none, T.int .i64 (IntKind.i64.wrap (Int.ofNat i + (1 : Int)))], [bb 40 s, nb v nd d, Blk.mk (u + (1 : Nat)) (1 : Nat) (q + (1 : Nat)) (fun j =>
 bif j.blt q then [T.int .i64 (Int.ofNat (e ((0 : Nat) + j)))]
 else [[T.int .i64 (Int.ofNat i)]].getD ((0 : Nat) + (j - q)) []) true false, Blk.mk 0 1 1 (fun j => [[T.int .i64 (Int.ofNat i)]].getD j []) true true]))
 else none else none else none else
 some ((Ex.normal, [jv L
 none, T.own 1 v 0 len cap, T.ptr 0 0 0 0, T.own 2 u 0 q
 none, T.int .i64 (IntKind.i64.wrap (Int.ofNat i + (1 : Int)))], [bb 40 s, nb v nd d, nb u nl e]))
 else none else none else
 some ((Ex.exit 6, [jv L
 none, T.own 1 v 0 len cap, T.own 2 u 0 q
 none], [bb 40 s, nb v nd d, nb u nl e]))) from by kernel_rfl)
    simp only [Nat.zero_add, wi] at tree
    by_cases qs : s i = true
    · rw [if_pos qs] at hs
      have hset := apD_set (d := e) (len := q) (x := i)
      have hget := fun (j : Nat) (hj : j < q + 1) => apD_get (d := e) (x := i) hj
      have hA := like_app he i
      rw [hq] at hA
      have hll : (ltS s i ++ [i]).length = q + 1 := by simp [hq]
      have core : ∀ u2 nl2 (gt : Nat → List T), q + 1 ≤ nl2 → (∀ j, j < nl2 → [T.int .i64 ((apD e q i j : Nat) : Int)] = gt j) → iterR P41 G41 A41 noneO 0 5 [] 25 (v25p L (.own 1 v 0 len cap) (.own 2 u 0 q none) i) [bb 40 s, nb v nd d, nb u nl e] = some (.normal, v25p L (.own 1 v 0 len cap) (.own 2 u2 0 (q + 1) none) (i + 1 : Nat), [bb 40 s, nb v nd d, ⟨u2, 1, nl2, gt, true, false⟩, tb i]) →
          ∃ vs' h', Step P41 G41 (A41 5) 5 25 2 (v25p L (.own 1 v 0 len cap) (.own 2 u 0 q none) i) [bb 40 s, nb v nd d, nb u nl e] vs' h' ∧ P25 L s v len nd cap d (i + 1) vs' h' := by
        intro u2 nl2 gt h1 h2 hr
        refine ⟨v25p L (.own 1 v 0 len cap) (.own 2 u2 0 (q + 1) none) (i + 1 : Nat), [bb 40 s, nb v nd d, nb u2 nl2 (apD e q i)], Step.mkC (A := A41) (m := 0) none_ok rfl rfl loops0 [0, 1, 2] (v2 := v25p L (.own 1 v 0 len cap) (.own 2 u2 0 (q + 1) none) (i + 1 : Nat)) (h2 := [bb 40 s, nb v nd d, ⟨u2, 1, nl2, gt, true, false⟩]) hr (by rfl) (by rfl) (by rfl) fun nt => .same (.cons ⟨rfl, rfl, rfl, id, fun _ _ => rfl⟩ (.cons ⟨rfl, rfl, rfl, id, fun _ _ => rfl⟩ (.cons ⟨rfl, rfl, rfl, id, fun j hj => h2 j hj⟩ .nil))), ?_⟩
        have := P25.a (L := L) (s := s) (v := v) (len := len) (nd := nd) (cap := cap) (d := d) (i := i + 1) u2 nl2 (apD e q i) (by rw [hs, hll]; exact h1) (by rw [hs]; exact hA)
        rw [hs, hll] at this
        exact this
      by_cases qn : q + 1 ≤ nl
      · refine core u nl _ qn (fun j _ => hset j) (Eq.trans tree ?_)
        clear tree core
        (repeat (first | (refine bift (by first | assumption | omega | (simp (disch := omega) only [wr64, wr8, wr16, wr32, ofNatE, toNatE, toNatE1, Bool.and_eq_true, Bool.or_eq_true, Bool.not_eq_true', decide_eq_true_eq, decide_eq_false_iff_not, nble, nblt, nbeq, Nat.zero_add, Nat.add_zero, Int.zero_add, Int.add_zero, List.length_cons, List.length_nil, true_and, and_true, Nat.reduceAdd, and_self, beq_self_eq_true]; done) | (simp (disch := omega) only [wr64, wr8, wr16, wr32, ofNatE, toNatE, toNatE1, Bool.and_eq_true, Bool.or_eq_true, Bool.not_eq_true', decide_eq_true_eq, decide_eq_false_iff_not, nble, nblt, nbeq, Nat.zero_add, Nat.add_zero, Int.zero_add, Int.add_zero, List.length_cons, List.length_nil, true_and, and_true, Nat.reduceAdd, and_self, beq_self_eq_true]; omega)) ?_) | (refine biff (by first | assumption | (simp (disch := omega) only [wr64, wr8, wr16, wr32, ofNatE, toNatE, toNatE1, Bool.and_eq_true, Bool.or_eq_true, Bool.not_eq_true', decide_eq_true_eq, decide_eq_false_iff_not, nble, nblt, nbeq, Nat.zero_add, Nat.add_zero, Int.zero_add, Int.add_zero, List.length_cons, List.length_nil, true_and, and_true, Nat.reduceAdd, and_self, beq_self_eq_true]; done) | (simp (disch := omega) only [wr64, wr8, wr16, wr32, ofNatE, toNatE, toNatE1, Bool.and_eq_true, Bool.or_eq_true, Bool.not_eq_true', decide_eq_true_eq, decide_eq_false_iff_not, nble, nblt, nbeq, Nat.zero_add, Nat.add_zero, Int.zero_add, Int.add_zero, List.length_cons, List.length_nil, true_and, and_true, Nat.reduceAdd, and_self, beq_self_eq_true]; omega)) ?_)))
        rfl
      · refine core (u + 1) (q + 1) _ (Nat.le_refl _) (fun j hj => hget j hj) (Eq.trans tree ?_)
        clear tree core
        (repeat (first | (refine bift (by first | assumption | omega | (simp (disch := omega) only [wr64, wr8, wr16, wr32, ofNatE, toNatE, toNatE1, Bool.and_eq_true, Bool.or_eq_true, Bool.not_eq_true', decide_eq_true_eq, decide_eq_false_iff_not, nble, nblt, nbeq, Nat.zero_add, Nat.add_zero, Int.zero_add, Int.add_zero, List.length_cons, List.length_nil, true_and, and_true, Nat.reduceAdd, and_self, beq_self_eq_true]; done) | (simp (disch := omega) only [wr64, wr8, wr16, wr32, ofNatE, toNatE, toNatE1, Bool.and_eq_true, Bool.or_eq_true, Bool.not_eq_true', decide_eq_true_eq, decide_eq_false_iff_not, nble, nblt, nbeq, Nat.zero_add, Nat.add_zero, Int.zero_add, Int.add_zero, List.length_cons, List.length_nil, true_and, and_true, Nat.reduceAdd, and_self, beq_self_eq_true]; omega)) ?_) | (refine biff (by first | assumption | (simp (disch := omega) only [wr64, wr8, wr16, wr32, ofNatE, toNatE, toNatE1, Bool.and_eq_true, Bool.or_eq_true, Bool.not_eq_true', decide_eq_true_eq, decide_eq_false_iff_not, nble, nblt, nbeq, Nat.zero_add, Nat.add_zero, Int.zero_add, Int.add_zero, List.length_cons, List.length_nil, true_and, and_true, Nat.reduceAdd, and_self, beq_self_eq_true]; done) | (simp (disch := omega) only [wr64, wr8, wr16, wr32, ofNatE, toNatE, toNatE1, Bool.and_eq_true, Bool.or_eq_true, Bool.not_eq_true', decide_eq_true_eq, decide_eq_false_iff_not, nble, nblt, nbeq, Nat.zero_add, Nat.add_zero, Int.zero_add, Int.add_zero, List.length_cons, List.length_nil, true_and, and_true, Nat.reduceAdd, and_self, beq_self_eq_true]; omega)) ?_)))
        rfl
    · rw [if_neg qs] at hs
      have := P25.a (L := L) (s := s) (v := v) (len := len) (nd := nd) (cap := cap) (d := d) (i := i + 1) u nl e (by rw [hs, hq]; exact hn') (by rw [hs]; exact he)
      rw [hs, hq] at this
      refine ⟨_, _, Step.mk0 (A := A41) (m := 0) none_ok rfl rfl loops0 (h1 := [bb 40 s, nb v nd d, nb u nl e]) (Eq.trans tree ?_) (.refl _), this⟩
      clear tree this
      rw [Bool.not_eq_true] at qs
      rw [qs]
      (repeat (first | (refine bift (by first | assumption | omega | (simp (disch := omega) only [wr64, wr8, wr16, wr32, ofNatE, toNatE, toNatE1, Bool.and_eq_true, Bool.or_eq_true, Bool.not_eq_true', decide_eq_true_eq, decide_eq_false_iff_not, nble, nblt, nbeq, Nat.zero_add, Nat.add_zero, Int.zero_add, Int.add_zero, List.length_cons, List.length_nil, true_and, and_true, Nat.reduceAdd, and_self]; done) | (simp (disch := omega) only [wr64, wr8, wr16, wr32, ofNatE, toNatE, toNatE1, Bool.and_eq_true, Bool.or_eq_true, Bool.not_eq_true', decide_eq_true_eq, decide_eq_false_iff_not, nble, nblt, nbeq, Nat.zero_add, Nat.add_zero, Int.zero_add, Int.add_zero, List.length_cons, List.length_nil, true_and, and_true, Nat.reduceAdd, and_self]; omega)) ?_) | (refine biff (by first | assumption | (simp (disch := omega) only [wr64, wr8, wr16, wr32, ofNatE, toNatE, toNatE1, Bool.and_eq_true, Bool.or_eq_true, Bool.not_eq_true', decide_eq_true_eq, decide_eq_false_iff_not, nble, nblt, nbeq, Nat.zero_add, Nat.add_zero, Int.zero_add, Int.add_zero, List.length_cons, List.length_nil, true_and, and_true, Nat.reduceAdd, and_self]; done) | (simp (disch := omega) only [wr64, wr8, wr16, wr32, ofNatE, toNatE, toNatE1, Bool.and_eq_true, Bool.or_eq_true, Bool.not_eq_true', decide_eq_true_eq, decide_eq_false_iff_not, nble, nblt, nbeq, Nat.zero_add, Nat.add_zero, Int.zero_add, Int.add_zero, List.length_cons, List.length_nil, true_and, and_true, Nat.reduceAdd, and_self]; omega)) ?_)))
      rfl
theorem lst25a (L : JL) (v len nd u q nl : Nat) (cap : Option Nat) (d e : Nat → Nat) (s : Nat → Bool) : Last P41 G41 (A41 5) 5 25 2 (v25p L (.own 1 v 0 len cap) (.own 2 u 0 q none) L.n) [bb 40 s, nb v nd d, nb u nl e] (.exit 6) (e25p L (.own 1 v 0 len cap) (.own 2 u 0 q none)) [bb 40 s, nb v nd d, nb u nl e] := by
  refine Last.mk0 (A := A41) (m := 0) none_ok rfl rfl loops0 (by simp) (h1 := [bb 40 s, nb v nd d, nb u nl e]) (Eq.trans (show iterR P41 G41 A41 noneO 0 5 [] 25 (v25p L (.own 1 v 0 len cap) (.own 2 u 0 q none) L.n) [bb 40 s, nb v nd d, nb u nl e] =
(
 bif decide (Int.ofNat L.n < Int.ofNat L.n) then
 bif decide ((0 : Int) ≤ Int.ofNat L.n) && decide (Int.ofNat L.n < (40 : Int)) then
 bif ((0 : Nat) + L.n).blt 40 then
 bif s ((0 : Nat) + L.n) then
 bif u == u then
 bif ((0 : Nat) + q).ble nl then
 bif ((q + (1 : Nat)) * (9 : Nat)).ble 70368744177664 then
 bif ((0 : Nat) + q + (1 : Nat)).ble nl then
 some ((Ex.normal, [jv L
 none, T.own 1 v 0 len cap, T.ptr 0 0 0 0, T.own 2 u 0 (q + (1 : Nat))
 none, T.int .i64 (IntKind.i64.wrap (Int.ofNat L.n + (1 : Int)))], [bb 40 s, nb v nd d, Blk.mk u 1 nl (fun j =>
 bif ((0 : Nat) + q).ble j && j.blt ((0 : Nat) + q + (1 : Nat)) then [[T.int .i64 (Int.ofNat L.n)]].getD ((0 : Nat) + (j - ((0 : Nat) + q))) []
 else [T.int .i64 (Int.ofNat (e j))]) true false, Blk.mk 0 1 1 (fun j => [[T.int .i64 (Int.ofNat L.n)]].getD j []) true true]))
 else
 some ((Ex.normal, [jv L
 none, T.own 1 v 0 len cap, T.ptr 0 0 0 0, T.own 2 (u + (1 : Nat)) (0 : Nat) (q + (1 : Nat))
 none, T.int .i64 (IntKind.i64.wrap (Int.ofNat L.n + (1 : Int)))], [bb 40 s, nb v nd d, Blk.mk (u + (1 : Nat)) (1 : Nat) (q + (1 : Nat)) (fun j =>
 bif j.blt q then [T.int .i64 (Int.ofNat (e ((0 : Nat) + j)))]
 else [[T.int .i64 (Int.ofNat L.n)]].getD ((0 : Nat) + (j - q)) []) true false, Blk.mk 0 1 1 (fun j => [[T.int .i64 (Int.ofNat L.n)]].getD j []) true true]))
 else none else none else none else
 some ((Ex.normal, [jv L
 none, T.own 1 v 0 len cap, T.ptr 0 0 0 0, T.own 2 u 0 q
 none, T.int .i64 (IntKind.i64.wrap (Int.ofNat L.n + (1 : Int)))], [bb 40 s, nb v nd d, nb u nl e]))
 else none else none else
 some ((Ex.exit 6, [jv L
 none, T.own 1 v 0 len cap, T.own 2 u 0 q
 none], [bb 40 s, nb v nd d, nb u nl e]))) from by kernel_rfl) ?_) (.refl _)
  exact biff (by simp) rfl
theorem l25p (L : JL) (s : Nat → Bool) (v len nd : Nat) (cap : Option Nat) (d : Nat → Nat) (hn : L.n ≤ 40) : ∃ vs1 h1, E25 L s v len nd cap d vs1 h1 ∧ LoopOk P41 G41 (A41 5) 5 25 (litS (v25p L (.own 1 v 0 len cap) .nils 0) [bb 40 s, nb v nd d] (.exit 6) vs1 h1) := by
  obtain ⟨e, vs1, h1, ⟨rfl, hE⟩, hl⟩ := loop_exists (P := P41) (Gl := G41) (an := A41 5) hm41 (f := 5) (r := 25) (k := 2) (by kernel_rfl) (fun m vs h => ∃ i, i ≤ L.n ∧ m = L.n - i ∧ P25 L s v len nd cap d i vs h) (fun e vs h => e = .exit 6 ∧ E25 L s v len nd cap d vs h)
    (fun m vs h ⟨i, hi, hm, hp⟩ => by
      rcases Nat.lt_or_ge i L.n with q | q
      · left
        obtain ⟨vs', h', q1, q2⟩ := step25 L s v len nd cap d i q hn vs h hp
        exact ⟨m - 1, vs', h', by omega, q1, i + 1, by omega, by omega, q2⟩
      · right
        obtain rfl : i = L.n := by omega
        cases hp with
        | z h0 =>
          refine ⟨_, _, _, Last.mk0 (A := A41) (m := 0) none_ok rfl rfl loops0 (by simp) (h1 := [bb 40 s, nb v nd d]) (Eq.trans (show iterR P41 G41 A41 noneO 0 5 [] 25 (v25p L (.own 1 v 0 len cap) .nils L.n) [bb 40 s, nb v nd d] =
(
 bif decide (Int.ofNat L.n < Int.ofNat L.n) then
 bif decide ((0 : Int) ≤ Int.ofNat L.n) && decide (Int.ofNat L.n < (40 : Int)) then
 bif ((0 : Nat) + L.n).blt 40 then
 bif s ((0 : Nat) + L.n) then
 some ((Ex.normal, [jv L
 none, T.own 1 v 0 len cap, T.ptr 0 0 0 0, T.own [bb 40 s, nb v nd d, Blk.mk 0 1 1 (fun j => [[T.int .i64 (Int.ofNat L.n)]].getD j []) true true].length (0 : Nat) (0 : Nat) (1 : Nat)
 none, T.int .i64 (IntKind.i64.wrap (Int.ofNat L.n + (1 : Int)))], [bb 40 s, nb v nd d, Blk.mk 0 1 1 (fun j => [[T.int .i64 (Int.ofNat L.n)]].getD j []) true true, Blk.mk 0 1 1 (fun j => [[T.int .i64 (Int.ofNat L.n)]].getD ((0 : Nat) + j) []) true false]))
 else
 some ((Ex.normal, [jv L
 none, T.own 1 v 0 len cap, T.ptr 0 0 0 0, T.nils, T.int .i64 (IntKind.i64.wrap (Int.ofNat L.n + (1 : Int)))], [bb 40 s, nb v nd d]))
 else none else none else
 some ((Ex.exit 6, [jv L
 none, T.own 1 v 0 len cap, T.nils], [bb 40 s, nb v nd d]))) from by kernel_rfl) ?_) (.refl _), rfl, .z h0⟩
          exact biff (by simp) rfl
        | a u nl e hn' he =>
          exact ⟨_, _, _, lst25a L v len nd u _ nl cap d e s, rfl, .a u nl e hn' he⟩)
    (n := L.n) (vs := v25p L (.own 1 v 0 len cap) .nils 0) (h := [bb 40 s, nb v nd d]) rfl ⟨0, by omega, by omega, .z rfl⟩
  exact ⟨vs1, h1, hE, hl⟩
theorem l8p (L : JL) (hL : L.Ok) (hn : L.n ≤ 40) : ∃ vs1 h1, E8 L vs1 h1 ∧ LoopOk P41 G41 (A41 5) 5 8 (litS (v8 L (oN L) .nils 0) [bb 40 (asd L 0)] (.exit 0) vs1 h1) := by
  obtain ⟨e, vs1, h1, ⟨rfl, hE⟩, hl⟩ := loop_exists (P := P41) (Gl := G41) (an := A41 5) hm41 (f := 5) (r := 8) (k := 1) (by kernel_rfl) (fun m vs h => ∃ i, i ≤ L.n ∧ m = L.n - i ∧ P8 L i vs h) (fun e vs h => e = .exit 0 ∧ E8 L vs h)
    (fun m vs h ⟨i, hi, hm, hp⟩ => by
      rcases Nat.lt_or_ge i L.n with q | q
      · left
        obtain ⟨vs', h', q1, q2⟩ := step8 L hL hn i q vs h hp
        exact ⟨m - 1, vs', h', by omega, q1, i + 1, by omega, by omega, q2⟩
      · right
        obtain rfl : i = L.n := by omega
        have genN : ∀ (v len nd : Nat) (d : Nat → Nat) (s : Nat → Bool) (o : Nat → Nat), Last P41 G41 (A41 5) 5 8 1 (v8 L o (.own 1 v 0 len none) L.n) [bb 40 s, nb v nd d] (.exit 0) (e8 L (.own 1 v 0 len none)) [bb 40 s, nb v nd d] := fun v len nd d s o => by
          refine Last.mk0 (A := A41) (m := 0) none_ok rfl rfl loops0 (by simp) (h1 := [bb 40 s, nb v nd d]) (Eq.trans (show iterR P41 G41 A41 noneO 0 5 [] 8 (v8 L o (.own 1 v 0 len none) L.n) [bb 40 s, nb v nd d] =
(
 bif decide (Int.ofNat L.n < Int.ofNat L.n) then
 bif decide ((0 : Int) ≤ Int.ofNat L.n) && decide (Int.ofNat L.n < Int.ofNat L.n) then
 bif v == v then
 bif ((0 : Nat) + len).ble nd then
 bif ((len + (1 : Nat)) * (9 : Nat)).ble 70368744177664 then
 bif ((0 : Nat) + len + (1 : Nat)).ble nd then none else none else none else none else none else none else
 some ((Ex.exit 0, [jv L
 none, T.own 1 v 0 len
 none, T.ptr 0 0 0 0], [bb 40 s, nb v nd d]))) from by kernel_rfl) ?_) (.refl _)
          exact biff (by simp) rfl
        have genO : ∀ (v len nd : Nat) (d : Nat → Nat) (s : Nat → Bool) (o : Nat → Nat), Last P41 G41 (A41 5) 5 8 1 (v8 L o (.own 1 v 0 len (some 0)) L.n) [bb 40 s, nb v nd d] (.exit 0) (e8 L (.own 1 v 0 len (some 0))) [bb 40 s, nb v nd d] := fun v len nd d s o => by
          refine Last.mk0 (A := A41) (m := 0) none_ok rfl rfl loops0 (by simp) (h1 := [bb 40 s, nb v nd d]) (Eq.trans (show iterR P41 G41 A41 noneO 0 5 [] 8 (v8 L o (.own 1 v 0 len (some 0)) L.n) [bb 40 s, nb v nd d] =
(
 bif decide (Int.ofNat L.n < Int.ofNat L.n) then
 bif decide ((0 : Int) ≤ Int.ofNat L.n) && decide (Int.ofNat L.n < Int.ofNat L.n) then
 bif v == v then
 bif ((0 : Nat) + len).ble nd then
 bif ((len + (1 : Nat)) * (9 : Nat)).ble 70368744177664 then none else none else none else none else none else
 some ((Ex.exit 0, [jv L
 none, T.own 1 v 0 len (some 0), T.ptr 0 0 0 0], [bb 40 s, nb v nd d]))) from by kernel_rfl) ?_) (.refl _)
          exact biff (by simp) rfl
        cases hp with
        | z h0 =>
          refine ⟨_, _, _, ?_, rfl, .z h0⟩
          generalize asd L L.n = s
          generalize oN L = o
          refine Last.mk0 (A := A41) (m := 0) none_ok rfl rfl loops0 (by simp) (h1 := [bb 40 s]) (Eq.trans (show iterR P41 G41 A41 noneO 0 5 [] 8 (v8 L o .nils L.n) [bb 40 s] =
(
 bif decide (Int.ofNat L.n < Int.ofNat L.n) then
 bif decide ((0 : Int) ≤ Int.ofNat L.n) && decide (Int.ofNat L.n < Int.ofNat L.n) then none else none else
 some ((Ex.exit 0, [jv L
 none, T.nils, T.ptr 0 0 0 0], [bb 40 s]))) from by kernel_rfl) ?_) (.refl _)
          exact biff (by simp) rfl
        | e he =>
          have := E8.a (L := L) 0 0 (fun _ => 0) (some 0) (.inr ⟨rfl, by rw [he]; rfl, rfl⟩) (by rw [he]; exact Nat.le_refl _) (by rw [he]; exact like0 _)
          have hl0 : (pst L (oN L) L.n).1.length = 0 := by rw [he]; rfl
          rw [hl0] at this
          exact ⟨_, _, _, genO 0 0 0 (fun _ => 0) _ _, rfl, this⟩
        | a v nd d h0 hnd hd => exact ⟨_, _, _, genN v _ nd d _ _, rfl, .a v nd d none (.inl rfl) hnd hd⟩)
    (n := L.n) (vs := v8 L (oN L) .nils 0) (h := [bb 40 (asd L 0)]) rfl ⟨0, by omega, by omega, .z rfl⟩
  exact ⟨vs1, h1, hE, hl⟩
end Go.Ab

namespace Go.Ab
open Go.Proofs
theorem same15 (l : List Nat) (n : Nat) (g : Nat → List T) (c : Option Nat) (hn : n = l.length) (hl : l.length ≤ 1000) (hg : ∀ j, j < n → g j = [.int .i64 (l.getD j 0 : Nat)]) : ToldOk P41 G41 15 [lv l, .view 1 n g c] (.bool true) := by
  subst hn
  exact (sameT l.length (fun j => (l.getD j 0 : Nat)) (fun j => (l.getD j 0 : Nat)) c (by omega) (fun _ _ => rfl)).sim (.cons (.refl _) (.cons (.view (.inl rfl) fun j hj => by rw [hg j hj]; exact .refl _) .nil))
theorem same15n : ToldOk P41 G41 15 [lv [], .nils] (.bool true) :=
  (same15 [] 0 (fun _ => []) none rfl (by simp) (fun j hj => by cases hj)).sim (.cons (.refl _) (.cons (.nilv _ _ (.inl rfl)) .nil))
theorem law5nz (R : JR) (c : Option Nat) (L : JL) (o : Nat → Nat) (s0 s : Nat → Bool) (v len nd : Nat) (d : Nat → Nat) (la lb : List Nat) (h9 : ToldOk P41 G41 9 [R.v c] (.new (jv L none))) (h10 : ToldOk P41 G41 10 [jv L none] (.tup [ov L.n o (some L.n), .int .i64 0])) (h13 : ToldOk P41 G41 13 [jv L none] (.tup [.new (lv la), .new (lv lb), .int .i64 0]))
    (hs0 : ∀ j, s0 j = false) (hla : la.length ≤ 1000) (hlb : lb.length ≤ 1000) (hlen : len = la.length) (hnd : len ≤ nd) (hd : like d la)  (hn0 : lb = [])
    (l8 : LoopOk P41 G41 (A41 5) 5 8 (litS (v8 L o .nils 0) [bb 40 s0] (.exit 0) (e8 L (.own 1 v 0 len none)) [bb 40 s, nb v nd d])) (l25 : LoopOk P41 G41 (A41 5) 5 25 (litS (v25p L (.own 1 v 0 len none) .nils 0) [bb 40 s, nb v nd d] (.exit 6) (e25p L (.own 1 v 0 len none) .nils) [bb 40 s, nb v nd d])) : ToldOk P41 G41 5 [R.v c] (.bool true) := by
  have s1 := same15 la len (fun j => [.int .i64 (d j : Nat)]) (some len) hlen hla (fun j hj => by rw [hd j (by omega)])
  have s2 : ToldOk P41 G41 15 [lv lb, .nils] (.bool true) := by rw [hn0]; exact same15n
  obtain ⟨p9, e9⟩ := told_pred P41 G41 9 (.new (jv L none))
  obtain ⟨p10, e10⟩ := told_pred P41 G41 10 (.tup [ov L.n o (some L.n), .int .i64 0])
  obtain ⟨p13, e13⟩ := told_pred P41 G41 13 (.tup [.new (lv la), .new (lv lb), .int .i64 0])
  obtain ⟨p15, e15⟩ := told_pred P41 G41 15 (.bool true)
  obtain ⟨p12, e12⟩ := told_pred P41 G41 12 (.bool true)
  refine stepL_told hm41 hn41 (K := K5 p9 p10 p13 p15 p12 (jv L none) (ov L.n o (some L.n)) (lv la) (lv lb)) (told_add (told_add (told_add (told_add (told_add none_ok (callP_told (told_predT e9))) (callP_told (told_predT e10))) (callP_told (told_predT e13))) (callP_told (told_predT e15))) (callP_told (told_predT e12))) (A := A41) (m := 0) (by kernel_rfl) (loopsC l8 (loops1 l25)) ?_
  have tree := (show stepL P41 G41 A41 (K5 p9 p10 p13 p15 p12 (jv L none) (ov L.n o (some L.n)) (lv la) (lv lb)) 0 5 [(8, litS (v8 L o .nils 0) [bb 40 s0] (.exit 0) (e8 L (.own 1 v 0 len none)) [bb 40 s, nb v nd d]), (25, litS (v25p L (.own 1 v 0 len none) .nils 0) [bb 40 s, nb v nd d] (.exit 6) (e25p L (.own 1 v 0 len none) .nils) [bb 40 s, nb v nd d])] [R.v c] =
(
 bif propF p9 [T.view 4 R.n (fun j => [T.int .u8 (Int.ofNat (R.t j)), T.int .u8 (Int.ofNat (R.d j)), T.int .u8 (Int.ofNat (R.a j)), T.int .u8 (Int.ofNat (R.o j))]) c] then
 bif propF p10 [jv L
 none] then
 bif weakF [jv L
 none, ov L.n o (some L.n), T.nils, T.ptr 0 0 0 0, T.int .i64 (0 : Int)] [Blk.mk 0 1 40 (fun x => [T.bool false]) true false] [jv L
 none, ov L.n o (some L.n), T.nils, T.ptr 0 0 0 0, T.int .i64 (0 : Int)] [bb 40 s0] then
 bif weakF [jv L
 none, T.own 1 v 0 len
 none, T.ptr 0 0 0 0, T.nils, T.int .i64 (0 : Int)] [bb 40 s, nb v nd d] [jv L
 none, T.own 1 v 0 len
 none, T.ptr 0 0 0 0, T.nils, T.int .i64 (0 : Int)] [bb 40 s, nb v nd d] then
 bif propF p13 [jv L
 none] then
 bif v == v then
 bif v == v then
 bif v == v then
 bif decide ((0 : Int) ≤ Int.ofNat len) && decide (Int.ofNat len ≤ Int.ofNat len) && decide (Int.ofNat len ≤ Int.ofNat (nd - (0 : Nat))) then
 bif propF p15 [T.view 1 la.length (fun j => [T.int .i64 (Int.ofNat (la.getD j (0 : Nat)))]) (some la.length),
 bif v == v && ((0 : Nat) + (len - (0 : Nat))).ble nd then T.view 1 (len - (0 : Nat)) (fun j => [T.int .i64 (Int.ofNat (d ((0 : Nat) + j)))]) (some (len - (0 : Nat)))
 else T.undef] then
 bif propF p15 [T.view 1 lb.length (fun j => [T.int .i64 (Int.ofNat (lb.getD j (0 : Nat)))]) (some lb.length), T.nils] then
 bif propF p12 [] then
 some (T.bool true)
 else none else none else none else none else none else none else none else none else none else none else none else
 none) from by kernel_rfl)
  simp only [Nat.zero_add, Nat.sub_zero] at tree
  refine Eq.trans tree ?_
  clear tree
  refine bift (pred_yes e9 h9) (bift (pred_yes e10 h10) ?_)
  refine bift (weakF_of ⟨rfl, .cons ⟨rfl, rfl, rfl, id, fun j hj => by
    show [T.bool (s0 j)] = [T.bool false]
    rw [hs0 j]⟩ .nil⟩) ?_
  refine bift (weakF_of ⟨rfl, .refl _⟩) ?_
  refine bift (pred_yes e13 h13) ?_
  (repeat (first | (refine bift (beq_self_eq_true _) ?_) | (refine bift (bleT (by omega)) ?_) | (refine bift (by simp only [ofNatE, Bool.and_eq_true, decide_eq_true_eq]; omega) ?_)))
  rw [show (v == v && Nat.ble len nd) = true by rw [bleT hnd, beq_self_eq_true]; rfl, cond_true]
  refine bift (pred_yes e15 s1) ?_
  refine bift (pred_yes e15 s2) ?_
  exact bift (pred_yes e12 livesT) rfl
theorem law5na (R : JR) (c : Option Nat) (L : JL) (o : Nat → Nat) (s0 s : Nat → Bool) (v len nd : Nat) (d : Nat → Nat) (u q nl : Nat) (e : Nat → Nat) (la lb : List Nat) (h9 : ToldOk P41 G41 9 [R.v c] (.new (jv L none))) (h10 : ToldOk P41 G41 10 [jv L none] (.tup [ov L.n o (some L.n), .int .i64 0])) (h13 : ToldOk P41 G41 13 [jv L none] (.tup [.new (lv la), .new (lv lb), .int .i64 0]))
    (hs0 : ∀ j, s0 j = false) (hla : la.length ≤ 1000) (hlb : lb.length ≤ 1000) (hlen : len = la.length) (hnd : len ≤ nd) (hd : like d la)  (hq : q = lb.length) (hnl : q ≤ nl) (he : like e lb)
    (l8 : LoopOk P41 G41 (A41 5) 5 8 (litS (v8 L o .nils 0) [bb 40 s0] (.exit 0) (e8 L (.own 1 v 0 len none)) [bb 40 s, nb v nd d])) (l25 : LoopOk P41 G41 (A41 5) 5 25 (litS (v25p L (.own 1 v 0 len none) .nils 0) [bb 40 s, nb v nd d] (.exit 6) (e25p L (.own 1 v 0 len none) (.own 2 u 0 q none)) [bb 40 s, nb v nd d, nb u nl e])) : ToldOk P41 G41 5 [R.v c] (.bool true) := by
  have s1 := same15 la len (fun j => [.int .i64 (d j : Nat)]) (some len) hlen hla (fun j hj => by rw [hd j (by omega)])
  have s2 := same15 lb q (fun j => [.int .i64 (e j : Nat)]) none hq hlb (fun j hj => by rw [he j (by omega)])
  obtain ⟨p9, e9⟩ := told_pred P41 G41 9 (.new (jv L none))
  obtain ⟨p10, e10⟩ := told_pred P41 G41 10 (.tup [ov L.n o (some L.n), .int .i64 0])
  obtain ⟨p13, e13⟩ := told_pred P41 G41 13 (.tup [.new (lv la), .new (lv lb), .int .i64 0])
  obtain ⟨p15, e15⟩ := told_pred P41 G41 15 (.bool true)
  obtain ⟨p12, e12⟩ := told_pred P41 G41 12 (.bool true)
  refine stepL_told hm41 hn41 (K := K5 p9 p10 p13 p15 p12 (jv L none) (ov L.n o (some L.n)) (lv la) (lv lb)) (told_add (told_add (told_add (told_add (told_add none_ok (callP_told (told_predT e9))) (callP_told (told_predT e10))) (callP_told (told_predT e13))) (callP_told (told_predT e15))) (callP_told (told_predT e12))) (A := A41) (m := 0) (by kernel_rfl) (loopsC l8 (loops1 l25)) ?_
  have tree := (show stepL P41 G41 A41 (K5 p9 p10 p13 p15 p12 (jv L none) (ov L.n o (some L.n)) (lv la) (lv lb)) 0 5 [(8, litS (v8 L o .nils 0) [bb 40 s0] (.exit 0) (e8 L (.own 1 v 0 len none)) [bb 40 s, nb v nd d]), (25, litS (v25p L (.own 1 v 0 len none) .nils 0) [bb 40 s, nb v nd d] (.exit 6) (e25p L (.own 1 v 0 len none) (.own 2 u 0 q none)) [bb 40 s, nb v nd d, nb u nl e])] [R.v c] =
(
 bif propF p9 [T.view 4 R.n (fun j => [T.int .u8 (Int.ofNat (R.t j)), T.int .u8 (Int.ofNat (R.d j)), T.int .u8 (Int.ofNat (R.a j)), T.int .u8 (Int.ofNat (R.o j))]) c] then
 bif propF p10 [jv L
 none] then
 bif weakF [jv L
 none, ov L.n o (some L.n), T.nils, T.ptr 0 0 0 0, T.int .i64 (0 : Int)] [Blk.mk 0 1 40 (fun x => [T.bool false]) true false] [jv L
 none, ov L.n o (some L.n), T.nils, T.ptr 0 0 0 0, T.int .i64 (0 : Int)] [bb 40 s0] then
 bif weakF [jv L
 none, T.own 1 v 0 len
 none, T.ptr 0 0 0 0, T.nils, T.int .i64 (0 : Int)] [bb 40 s, nb v nd d] [jv L
 none, T.own 1 v 0 len
 none, T.ptr 0 0 0 0, T.nils, T.int .i64 (0 : Int)] [bb 40 s, nb v nd d] then
 bif propF p13 [jv L
 none] then
 bif v == v then
 bif v == v then
 bif v == v then
 bif decide ((0 : Int) ≤ Int.ofNat len) && decide (Int.ofNat len ≤ Int.ofNat len) && decide (Int.ofNat len ≤ Int.ofNat (nd - (0 : Nat))) then
 bif propF p15 [T.view 1 la.length (fun j => [T.int .i64 (Int.ofNat (la.getD j (0 : Nat)))]) (some la.length),
 bif v == v && ((0 : Nat) + (len - (0 : Nat))).ble nd then T.view 1 (len - (0 : Nat)) (fun j => [T.int .i64 (Int.ofNat (d ((0 : Nat) + j)))]) (some (len - (0 : Nat)))
 else T.undef] then
 bif propF p15 [T.view 1 lb.length (fun j => [T.int .i64 (Int.ofNat (lb.getD j (0 : Nat)))]) (some lb.length),
 bif u == u && ((0 : Nat) + q).ble nl then T.view 1 q (fun j => [T.int .i64 (Int.ofNat (e ((0 : Nat) + j)))]) none else T.undef] then
 bif propF p12 [] then
 some (T.bool true)
 else none else none else none else none else none else none else none else none else none else none else none else
 none) from by kernel_rfl)
  simp only [Nat.zero_add, Nat.sub_zero] at tree
  refine Eq.trans tree ?_
  clear tree
  refine bift (pred_yes e9 h9) (bift (pred_yes e10 h10) ?_)
  refine bift (weakF_of ⟨rfl, .cons ⟨rfl, rfl, rfl, id, fun j hj => by
    show [T.bool (s0 j)] = [T.bool false]
    rw [hs0 j]⟩ .nil⟩) ?_
  refine bift (weakF_of ⟨rfl, .refl _⟩) ?_
  refine bift (pred_yes e13 h13) ?_
  (repeat (first | (refine bift (beq_self_eq_true _) ?_) | (refine bift (bleT (by omega)) ?_) | (refine bift (by simp only [ofNatE, Bool.and_eq_true, decide_eq_true_eq]; omega) ?_)))
  rw [show (v == v && Nat.ble len nd) = true by rw [bleT hnd, beq_self_eq_true]; rfl, cond_true]
  rw [show (u == u && Nat.ble q nl) = true by rw [bleT hnl, beq_self_eq_true]; rfl, cond_true]
  refine bift (pred_yes e15 s1) ?_
  refine bift (pred_yes e15 s2) ?_
  exact bift (pred_yes e12 livesT) rfl
theorem law5oz (R : JR) (c : Option Nat) (L : JL) (o : Nat → Nat) (s0 s : Nat → Bool) (v len nd : Nat) (d : Nat → Nat) (la lb : List Nat) (h9 : ToldOk P41 G41 9 [R.v c] (.new (jv L none))) (h10 : ToldOk P41 G41 10 [jv L none] (.tup [ov L.n o (some L.n), .int .i64 0])) (h13 : ToldOk P41 G41 13 [jv L none] (.tup [.new (lv la), .new (lv lb), .int .i64 0]))
    (hs0 : ∀ j, s0 j = false) (hla : la.length ≤ 1000) (hlb : lb.length ≤ 1000) (hlen : len = la.length) (hnd : len ≤ nd) (hd : like d la) (hz : len = 0 ∧ nd = 0) (hn0 : lb = [])
    (l8 : LoopOk P41 G41 (A41 5) 5 8 (litS (v8 L o .nils 0) [bb 40 s0] (.exit 0) (e8 L (.own 1 v 0 len (some 0))) [bb 40 s, nb v nd d])) (l25 : LoopOk P41 G41 (A41 5) 5 25 (litS (v25p L (.own 1 v 0 len (some 0)) .nils 0) [bb 40 s, nb v nd d] (.exit 6) (e25p L (.own 1 v 0 len (some 0)) .nils) [bb 40 s, nb v nd d])) : ToldOk P41 G41 5 [R.v c] (.bool true) := by
  have s1 := same15 la len (fun j => [.int .i64 (d j : Nat)]) (some len) hlen hla (fun j hj => by rw [hd j (by omega)])
  have s2 : ToldOk P41 G41 15 [lv lb, .nils] (.bool true) := by rw [hn0]; exact same15n
  obtain ⟨p9, e9⟩ := told_pred P41 G41 9 (.new (jv L none))
  obtain ⟨p10, e10⟩ := told_pred P41 G41 10 (.tup [ov L.n o (some L.n), .int .i64 0])
  obtain ⟨p13, e13⟩ := told_pred P41 G41 13 (.tup [.new (lv la), .new (lv lb), .int .i64 0])
  obtain ⟨p15, e15⟩ := told_pred P41 G41 15 (.bool true)
  obtain ⟨p12, e12⟩ := told_pred P41 G41 12 (.bool true)
  refine stepL_told hm41 hn41 (K := K5 p9 p10 p13 p15 p12 (jv L none) (ov L.n o (some L.n)) (lv la) (lv lb)) (told_add (told_add (told_add (told_add (told_add none_ok (callP_told (told_predT e9))) (callP_told (told_predT e10))) (callP_told (told_predT e13))) (callP_told (told_predT e15))) (callP_told (told_predT e12))) (A := A41) (m := 0) (by kernel_rfl) (loopsC l8 (loops1 l25)) ?_
  have tree := (show stepL P41 G41 A41 (K5 p9 p10 p13 p15 p12 (jv L none) (ov L.n o (some L.n)) (lv la) (lv lb)) 0 5 [(8, litS (v8 L o .nils 0) [bb 40 s0] (.exit 0) (e8 L (.own 1 v 0 len (some 0))) [bb 40 s, nb v nd d]), (25, litS (v25p L (.own 1 v 0 len (some 0)) .nils 0) [bb 40 s, nb v nd d] (.exit 6) (e25p L (.own 1 v 0 len (some 0)) .nils) [bb 40 s, nb v nd d])] [R.v c] =
(
 bif propF p9 [T.view 4 R.n (fun j => [T.int .u8 (Int.ofNat (R.t j)), T.int .u8 (Int.ofNat (R.d j)), T.int .u8 (Int.ofNat (R.a j)), T.int .u8 (Int.ofNat (R.o j))]) c] then
 bif propF p10 [jv L
 none] then
 bif weakF [jv L
 none, ov L.n o (some L.n), T.nils, T.ptr 0 0 0 0, T.int .i64 (0 : Int)] [Blk.mk 0 1 40 (fun x => [T.bool false]) true false] [jv L
 none, ov L.n o (some L.n), T.nils, T.ptr 0 0 0 0, T.int .i64 (0 : Int)] [bb 40 s0] then
 bif weakF [jv L
 none, T.own 1 v 0 len (some 0), T.ptr 0 0 0 0, T.nils, T.int .i64 (0 : Int)] [bb 40 s, nb v nd d] [jv L
 none, T.own 1 v 0 len (some 0), T.ptr 0 0 0 0, T.nils, T.int .i64 (0 : Int)] [bb 40 s, nb v nd d] then
 bif propF p13 [jv L
 none] then
 bif v == v then
 bif v == v then
 bif v == v then
 bif decide ((0 : Int) ≤ Int.ofNat len) && decide (Int.ofNat len ≤ Int.ofNat len) && decide (Int.ofNat len ≤ (0 : Int)) then
 bif propF p15 [T.view 1 la.length (fun j => [T.int .i64 (Int.ofNat (la.getD j (0 : Nat)))]) (some la.length),
 bif v == v && ((0 : Nat) + (len - (0 : Nat))).ble nd then T.view 1 (len - (0 : Nat)) (fun j => [T.int .i64 (Int.ofNat (d ((0 : Nat) + j)))]) (some (len - (0 : Nat)))
 else T.undef] then
 bif propF p15 [T.view 1 lb.length (fun j => [T.int .i64 (Int.ofNat (lb.getD j (0 : Nat)))]) (some lb.length), T.nils] then
 bif propF p12 [] then
 some (T.bool true)
 else none else none else none else none else none else none else none else none else none else none else none else
 none) from by kernel_rfl)
  simp only [Nat.zero_add, Nat.sub_zero] at tree
  refine Eq.trans tree ?_
  clear tree
  refine bift (pred_yes e9 h9) (bift (pred_yes e10 h10) ?_)
  refine bift (weakF_of ⟨rfl, .cons ⟨rfl, rfl, rfl, id, fun j hj => by
    show [T.bool (s0 j)] = [T.bool false]
    rw [hs0 j]⟩ .nil⟩) ?_
  refine bift (weakF_of ⟨rfl, .refl _⟩) ?_
  refine bift (pred_yes e13 h13) ?_
  (repeat (first | (refine bift (beq_self_eq_true _) ?_) | (refine bift (bleT (by omega)) ?_) | (refine bift (by simp only [ofNatE, Bool.and_eq_true, decide_eq_true_eq]; omega) ?_)))
  rw [show (v == v && Nat.ble len nd) = true by rw [bleT hnd, beq_self_eq_true]; rfl, cond_true]
  refine bift (pred_yes e15 s1) ?_
  refine bift (pred_yes e15 s2) ?_
  exact bift (pred_yes e12 livesT) rfl
theorem law5oa (R : JR) (c : Option Nat) (L : JL) (o : Nat → Nat) (s0 s : Nat → Bool) (v len nd : Nat) (d : Nat → Nat) (u q nl : Nat) (e : Nat → Nat) (la lb : List Nat) (h9 : ToldOk P41 G41 9 [R.v c] (.new (jv L none))) (h10 : ToldOk P41 G41 10 [jv L none] (.tup [ov L.n o (some L.n), .int .i64 0])) (h13 : ToldOk P41 G41 13 [jv L none] (.tup [.new (lv la), .new (lv lb), .int .i64 0]))
    (hs0 : ∀ j, s0 j = false) (hla : la.length ≤ 1000) (hlb : lb.length ≤ 1000) (hlen : len = la.length) (hnd : len ≤ nd) (hd : like d la) (hz : len = 0 ∧ nd = 0) (hq : q = lb.length) (hnl : q ≤ nl) (he : like e lb)
    (l8 : LoopOk P41 G41 (A41 5) 5 8 (litS (v8 L o .nils 0) [bb 40 s0] (.exit 0) (e8 L (.own 1 v 0 len (some 0))) [bb 40 s, nb v nd d])) (l25 : LoopOk P41 G41 (A41 5) 5 25 (litS (v25p L (.own 1 v 0 len (some 0)) .nils 0) [bb 40 s, nb v nd d] (.exit 6) (e25p L (.own 1 v 0 len (some 0)) (.own 2 u 0 q none)) [bb 40 s, nb v nd d, nb u nl e])) : ToldOk P41 G41 5 [R.v c] (.bool true) := by
  have s1 := same15 la len (fun j => [.int .i64 (d j : Nat)]) (some len) hlen hla (fun j hj => by rw [hd j (by omega)])
  have s2 := same15 lb q (fun j => [.int .i64 (e j : Nat)]) none hq hlb (fun j hj => by rw [he j (by omega)])
  obtain ⟨p9, e9⟩ := told_pred P41 G41 9 (.new (jv L none))
  obtain ⟨p10, e10⟩ := told_pred P41 G41 10 (.tup [ov L.n o (some L.n), .int .i64 0])
  obtain ⟨p13, e13⟩ := told_pred P41 G41 13 (.tup [.new (lv la), .new (lv lb), .int .i64 0])
  obtain ⟨p15, e15⟩ := told_pred P41 G41 15 (.bool true)
  obtain ⟨p12, e12⟩ := told_pred P41 G41 12 (.bool true)
  refine stepL_told hm41 hn41 (K := K5 p9 p10 p13 p15 p12 (jv L none) (ov L.n o (some L.n)) (lv la) (lv lb)) (told_add (told_add (told_add (told_add (told_add none_ok (callP_told (told_predT e9))) (callP_told (told_predT e10))) (callP_told (told_predT e13))) (callP_told (told_predT e15))) (callP_told (told_predT e12))) (A := A41) (m := 0) (by kernel_rfl) (loopsC l8 (loops1 l25)) ?_
  have tree := (show stepL P41 G41 A41 (K5 p9 p10 p13 p15 p12 (jv L none) (ov L.n o (some L.n)) (lv la) (lv lb)) 0 5 [(8, litS (v8 L o .nils 0) [bb 40 s0] (.exit 0) (e8 L (.own 1 v 0 len (some 0))) [bb 40 s, nb v nd d]), (25, litS (v25p L (.own 1 v 0 len (some 0)) .nils 0) [bb 40 s, nb v nd d] (.exit 6) (e25p L (.own 1 v 0 len (some 0)) (.own 2 u 0 q none)) [bb 40 s, nb v nd d, nb u nl e])] [R.v c] =
(
 bif propF p9 [T.view 4 R.n (fun j => [T.int .u8 (Int.ofNat (R.t j)), T.int .u8 (Int.ofNat (R.d j)), T.int .u8 (Int.ofNat (R.a j)), T.int .u8 (Int.ofNat (R.o j))]) c] then
 bif propF p10 [jv L
 none] then
 bif weakF [jv L
 none, ov L.n o (some L.n), T.nils, T.ptr 0 0 0 0, T.int .i64 (0 : Int)] [Blk.mk 0 1 40 (fun x => [T.bool false]) true false] [jv L
 none, ov L.n o (some L.n), T.nils, T.ptr 0 0 0 0, T.int .i64 (0 : Int)] [bb 40 s0] then
 bif weakF [jv L
 none, T.own 1 v 0 len (some 0), T.ptr 0 0 0 0, T.nils, T.int .i64 (0 : Int)] [bb 40 s, nb v nd d] [jv L
 none, T.own 1 v 0 len (some 0), T.ptr 0 0 0 0, T.nils, T.int .i64 (0 : Int)] [bb 40 s, nb v nd d] then
 bif propF p13 [jv L
 none] then
 bif v == v then
 bif v == v then
 bif v == v then
 bif decide ((0 : Int) ≤ Int.ofNat len) && decide (Int.ofNat len ≤ Int.ofNat len) && decide (Int.ofNat len ≤ (0 : Int)) then
 bif propF p15 [T.view 1 la.length (fun j => [T.int .i64 (Int.ofNat (la.getD j (0 : Nat)))]) (some la.length),
 bif v == v && ((0 : Nat) + (len - (0 : Nat))).ble nd then T.view 1 (len - (0 : Nat)) (fun j => [T.int .i64 (Int.ofNat (d ((0 : Nat) + j)))]) (some (len - (0 : Nat)))
 else T.undef] then
 bif propF p15 [T.view 1 lb.length (fun j => [T.int .i64 (Int.ofNat (lb.getD j (0 : Nat)))]) (some lb.length),
 bif u == u && ((0 : Nat) + q).ble nl then T.view 1 q (fun j => [T.int .i64 (Int.ofNat (e ((0 : Nat) + j)))]) none else T.undef] then
 bif propF p12 [] then
 some (T.bool true)
 else none else none else none else none else none else none else none else none else none else none else none else
 none) from by kernel_rfl)
  simp only [Nat.zero_add, Nat.sub_zero] at tree
  refine Eq.trans tree ?_
  clear tree
  refine bift (pred_yes e9 h9) (bift (pred_yes e10 h10) ?_)
  refine bift (weakF_of ⟨rfl, .cons ⟨rfl, rfl, rfl, id, fun j hj => by
    show [T.bool (s0 j)] = [T.bool false]
    rw [hs0 j]⟩ .nil⟩) ?_
  refine bift (weakF_of ⟨rfl, .refl _⟩) ?_
  refine bift (pred_yes e13 h13) ?_
  (repeat (first | (refine bift (beq_self_eq_true _) ?_) | (refine bift (bleT (by omega)) ?_) | (refine bift (by simp only [ofNatE, Bool.and_eq_true, decide_eq_true_eq]; omega) ?_)))
  rw [show (v == v && Nat.ble len nd) = true by rw [bleT hnd, beq_self_eq_true]; rfl, cond_true]
  rw [show (u == u && Nat.ble q nl) = true by rw [bleT hnl, beq_self_eq_true]; rfl, cond_true]
  refine bift (pred_yes e15 s1) ?_
  refine bift (pred_yes e15 s2) ?_
  exact bift (pred_yes e12 livesT) rfl
theorem law5z (R : JR) (c : Option Nat) (L : JL) (hi : L.n = 0) (h9 : ToldOk P41 G41 9 [R.v c] (.new (jv L none))) (h10 : ToldOk P41 G41 10 [jv L none] (.tup [ov L.n (oN L) (some L.n), .int .i64 0])) (h13 : ToldOk P41 G41 13 [jv L none] (.tup [.new (lv (pst L (oN L) L.n).1), .new (lv (srtN (pst L (oN L) L.n).2.2)), .int .i64 0])) : ToldOk P41 G41 5 [R.v c] (.bool true) := by
  have e0 : pst L (oN L) L.n = ([], 0, []) := by rw [hi]; rfl
  rw [e0] at h13
  have es : srtN [] = [] := by simp [srtN]
  rw [show srtN (([], 0, []) : List Nat × Int × List Nat).2.2 = [] from es] at h13
  unfold jv ov at *
  rw [hi] at *
  generalize (fun j => [T.int .i64 (L.tm j), .int .i64 (L.du j), .int .i64 (L.af j), .int .u32 (L.on j)]) = gj at *
  generalize (fun j => [T.int .i64 ((oN L j : Nat) : Int)]) = go at *
  obtain ⟨p9, e9⟩ := told_pred P41 G41 9 (.new (.view 4 0 gj none))
  obtain ⟨p10, e10⟩ := told_pred P41 G41 10 (.tup [.view 1 0 go (some 0), .int .i64 0])
  obtain ⟨p13, e13⟩ := told_pred P41 G41 13 (.tup [.new (lv []), .new (lv []), .int .i64 0])
  obtain ⟨p15, e15⟩ := told_pred P41 G41 15 (.bool true)
  obtain ⟨p12, e12⟩ := told_pred P41 G41 12 (.bool true)
  refine stepL_told hm41 hn41 (K := K5 p9 p10 p13 p15 p12 (.view 4 0 gj none) (.view 1 0 go (some 0)) (lv []) (lv [])) (told_add (told_add (told_add (told_add (told_add none_ok (callP_told (told_predT e9))) (callP_told (told_predT e10))) (callP_told (told_predT e13))) (callP_told (told_predT e15))) (callP_told (told_predT e12))) (A := A41) (m := 1) (by kernel_rfl) loops0 ?_
  refine Eq.trans (show stepL P41 G41 A41 (K5 p9 p10 p13 p15 p12 (.view 4 0 gj none) (.view 1 0 go (some 0)) (lv []) (lv [])) 1 5 [] [R.v c] =
(
 bif propF p9 [T.view 4 R.n (fun j => [T.int .u8 (Int.ofNat (R.t j)), T.int .u8 (Int.ofNat (R.d j)), T.int .u8 (Int.ofNat (R.a j)), T.int .u8 (Int.ofNat (R.o j))]) c] then
 bif propF p10 [T.view 4 0 gj
 none] then
 bif propF p13 [T.view 4 0 gj
 none] then
 bif propF p15 [T.view 1 0 (fun j => [T.int .i64 (Int.ofNat ([].getD j (0 : Nat)))]) (some 0), T.nils] then
 bif propF p15 [T.view 1 0 (fun j => [T.int .i64 (Int.ofNat ([].getD j (0 : Nat)))]) (some 0), T.nils] then
 bif propF p12 [] then
 some (T.bool true)
 else none else none else none else none else none else
 none) from by kernel_rfl) ?_
  refine bift (pred_yes e9 h9) (bift (pred_yes e10 h10) (bift (pred_yes e13 h13) ?_))
  refine bift (pred_yes e15 same15n) (bift (pred_yes e15 same15n) (bift (pred_yes e12 livesT) rfl))
theorem law5T (R : JR) (c : Option Nat) (hR : R.Ok) : ToldOk P41 G41 5 [R.v c] (.bool true) := by
  have h9 := listT R c hR
  have hL := R.lok hR _ (min40 R.n)
  have hm := min40 R.n
  have hn : (R.L (Nat.min R.n 40)).n = Nat.min R.n 40 := rfl
  generalize R.L (Nat.min R.n 40) = L at *
  generalize Nat.min R.n 40 = n40 at *
  subst hn
  have h10 : ToldOk P41 G41 10 [jv L none] (.tup [ov L.n (oN L) (some L.n), .int .i64 0]) := orderT L none hL
  have h13 := punT L none hL (oN L) (fun j _ => rfl)
  have hk := pst_ok (L := L) (o := oN L) L.n (fun j hj => oN_lt hj)
  have hld := hk.ld
  have hnd := pst_nodup L hL
  rw [List.nodup_append] at hnd
  have hlt : ltS (asd L L.n) L.n = srtN (pst L (oN L) L.n).2.2 := srtN_filter hnd.2.1 hk.e
  have hls := (srtN_perm (pst L (oN L) L.n).2.2).length_eq
  obtain ⟨vs1, h1, hE, l8⟩ := l8p L hL hm
  have hs0 : ∀ j, asd L 0 j = false := fun j => by simp [asd, pst]
  cases hE with
  | z hi =>
    exact law5z R c L hi h9 h10 h13
  | a v nd d cap hc hn' hd =>
    rcases hc with rfl | ⟨rfl, hz1, hz2⟩
    · obtain ⟨vs2, h2, hE2, l25⟩ := l25p L (asd L L.n) v (pst L (oN L) L.n).1.length nd none d hm
      cases hE2 with
      | z h0 => exact law5nz R c L (oN L) (asd L 0) (asd L L.n) v _ nd d _ _ h9 h10 h13 hs0 (by omega) (by omega) rfl hn' hd (by rw [← hlt]; exact h0) l8 l25
      | a u nl e hq he => exact law5na R c L (oN L) (asd L 0) (asd L L.n) v _ nd d u _ nl e _ _ h9 h10 h13 hs0 (by omega) (by omega) rfl hn' hd (by rw [hlt]) hq (by rw [← hlt]; exact he) l8 l25
    · obtain ⟨vs2, h2, hE2, l25⟩ := l25p L (asd L L.n) v (pst L (oN L) L.n).1.length nd (some 0) d hm
      cases hE2 with
      | z h0 => exact law5oz R c L (oN L) (asd L 0) (asd L L.n) v _ nd d _ _ h9 h10 h13 hs0 (by omega) (by omega) rfl hn' hd ⟨hz1, hz2⟩ (by rw [← hlt]; exact h0) l8 l25
      | a u nl e hq he => exact law5oa R c L (oN L) (asd L 0) (asd L L.n) v _ nd d u _ nl e _ _ h9 h10 h13 hs0 (by omega) (by omega) rfl hn' hd ⟨hz1, hz2⟩ (by rw [hlt]) hq (by rw [← hlt]; exact he) l8 l25
end Go.Ab

