/- A part of the proof: nothing is assumed. -/
import Derived.Test.YtlaganadekpcjaaP12
import Derived.Test.YtlaganadekpcjaaP13
set_option linter.all false
namespace Go.Ab
open Go.Proofs
noncomputable def K17 (p1 p2 p3 : List T → Prop) (r2 r3 : T) : Orc := ((noneO.add 25 (callP p1 (.int .i64 0))).add 26 (callP p2 r2)).add 27 (callP p3 r3)
/-- Jobs with one more behind them. -/
def JL.snoc (L : JL) (a b d on : Int) : JL := ⟨fun j => if j < L.n then L.tm j else a, fun j => if j < L.n then L.du j else b, fun j => if j < L.n then L.af j else d, fun j => if j < L.n then L.on j else on, L.n + 1⟩
/-- When a promised job is ready. -/
def prm (L : JL) (mm : Nat) (a d on : Int) : Int := (gvR (plst L (oN L) mm L.n) a d on mm).2.2
theorem snoc_get (L : JL) (a b d on : Int) (j : Nat) : (if j < L.n then jcells (L.tm j) (L.du j) (L.af j) (L.on j) else jcells a b d on) = [.int .i64 ((L.snoc a b d on).tm j), .int .i64 ((L.snoc a b d on).du j), .int .i64 ((L.snoc a b d on).af j), .int .u32 ((L.snoc a b d on).on j)] := by
  unfold JL.snoc
  by_cases q : j < L.n
  · simp [q, jcells]
  · simp [q, jcells]
set_option maxRecDepth 20000 in
theorem PromT (L : JL) (c : Option Nat) (mm : Nat) (a b d on : Int) (hL : L.Ok) (h8 : L.n ≤ 200) (hm : 1 ≤ mm ∧ mm ≤ 16) (hab : ∀ i, i < L.n → 0 < (abL (L.on i) mm).length) (hab2 : 0 < (abL on mm).length)
    (ha : 1 ≤ a ∧ a ≤ 100000) (hb : 0 ≤ b ∧ b ≤ 100000) (hd : 0 ≤ d ∧ d ≤ 100000) (hon : 0 ≤ on ∧ on ≤ 7) :
    ToldOk P41 G41 17 [jv L c, .int .i64 mm, jT a b d on] (.tup [.int .i64 (prm L mm a d on), .int .i64 (if b < prm L mm a d on then 19 else 0)]) := by
  have hn := hL.n
  have hs : (L.snoc a b d on).Ok := by
    refine ⟨by show L.n + 1 ≤ 256; omega, fun j hj => ?_, fun j hj => ?_, fun j hj => ?_, fun j hj => ?_⟩
    all_goals
      show _ ≤ (if j < L.n then _ else _) ∧ (if j < L.n then _ else _) ≤ _
      by_cases q : j < L.n
      · rw [if_pos q]; first | exact hL.tm j q | exact hL.du j q | exact hL.af j q | exact hL.on j q
      · rw [if_neg q]; assumption
  have hcs := fun c' => chkT (L.snoc a b d on) c' mm hs hm fun i _ => by
    show 0 < (abL (if i < L.n then _ else _) mm).length
    by_cases q : i < L.n
    · rw [if_pos q]; exact hab i q
    · rw [if_neg q]; exact hab2
  have hp := planT L c mm hL hm hab
  have hg := giveT a b d on mm (plst L (oN L) mm L.n) (some mm) L.n hm.2 (fun j hj => by
    have := plst_bd hL (o := oN L) (mm := mm) L.n (fun j hj => oN_lt hj) j hj
    omega) (by omega) (by omega)
  have hview : ∀ (m : Nat) (get : Nat → List T) (c' : Option Nat), m = L.n + 1 → (∀ j, j < L.n + 1 → get j = if j < L.n then jcells (L.tm j) (L.du j) (L.af j) (L.on j) else jcells a b d on) → ToldOk P41 G41 25 [.view 4 m get c', .int .i64 mm] (.int .i64 0) := fun m get c' hm' hget => by
    subst hm'
    exact (hcs c').sim (.cons (.view (.inl rfl) fun j hj => by rw [hget j hj, snoc_get]; exact .refl _) (.cons (.refl _) .nil))
  unfold prm svT rvT at *
  generalize scells L (oN L) mm = y at *
  generalize plst L (oN L) mm L.n = rd at *
  generalize (gvR rd a d on mm).1 = x2 at *
  generalize (gvR rd a d on mm).2.1 = x3 at *
  generalize (gvR rd a d on mm).2.2 = x4 at *
  obtain ⟨p1, e1⟩ := told_pred P41 G41 25 (.int .i64 0)
  obtain ⟨p2, e2⟩ := told_pred P41 G41 26 (.tup [.new (.view 4 L.n y (some L.n)), .new (iv mm rd (some mm))])
  obtain ⟨p3, e3⟩ := told_pred P41 G41 27 (.agg [.int .i64 L.n, .int .i64 x2, .int .i64 x3, .int .i64 x4])
  refine stepL_told hm41 hn41 (K := K17 p1 p2 p3 (.tup [.new (.view 4 L.n y (some L.n)), .new (iv mm rd (some mm))]) (.agg [.int .i64 L.n, .int .i64 x2, .int .i64 x3, .int .i64 x4])) (told_add (told_add (told_add none_ok (callP_told (told_predT e1))) (callP_told (told_predT e2))) (callP_told (told_predT e3))) (A := A41) (m := 0) (by kernel_rfl) loops0 ?_
  refine Eq.trans (show stepL P41 G41 A41 (K17 p1 p2 p3 (.tup [.new (.view 4 L.n y (some L.n)), .new (iv mm rd (some mm))]) (.agg [.int .i64 L.n, .int .i64 x2, .int .i64 x3, .int .i64 x4])) 0 17 [] [jv L c, .int .i64 mm, jT a b d on] =
(    bif decide ((0 : Int) ≤ IntKind.i64.wrap (Int.ofNat L.n + (1 : Int))) &&
        decide (IntKind.i64.wrap (Int.ofNat L.n + (1 : Int)) * (32 : Int) ≤ (140737488355328 : Int)) &&
      decide (IntKind.i64.wrap (Int.ofNat L.n + (1 : Int)) ≤ (9223372036854775807 : Int)) then
    bif L.n == (0 : Nat) then
    bif Nat.ble (1 : Nat) (IntKind.i64.wrap (Int.ofNat L.n + (1 : Int))).toNat then
    bif Nat.ble (1 : Nat) (IntKind.i64.wrap (Int.ofNat L.n + (1 : Int))).toNat then
    bif propF p1
      [bif Nat.ble (1 : Nat) (IntKind.i64.wrap (Int.ofNat L.n + (1 : Int))).toNat then
          T.view (4 : Nat) (1 : Nat)
            (fun j =>
              bif Nat.ble (0 : Nat) ((0 : Nat) + j) && ((0 : Nat) + j).blt (1 : Nat) then
                List.map plainOr
                  ([[T.int IntKind.i64 a, T.int IntKind.i64 b, T.int IntKind.i64 d, T.int IntKind.u32 on]].getD
                    ((0 : Nat) + j - (0 : Nat)) [])
              else
                [T.int IntKind.i64 (0 : Int), T.int IntKind.i64 (0 : Int), T.int IntKind.i64 (0 : Int),
                  T.int IntKind.u32 (0 : Int)])
            (some (IntKind.i64.wrap (Int.ofNat L.n + (1 : Int))).toNat)
        else T.undef,
        T.int IntKind.i64 (Int.ofNat mm)] then
    bif propF p2
      [T.view (4 : Nat) L.n
          (fun j =>
            [T.int IntKind.i64 (L.tm j), T.int IntKind.i64 (L.du j), T.int IntKind.i64 (L.af j),
              T.int IntKind.u32 (L.on j)])
          c,
        T.int IntKind.i64 (Int.ofNat mm)] then
    bif propF p3
      [T.agg [T.int IntKind.i64 a, T.int IntKind.i64 b, T.int IntKind.i64 d, T.int IntKind.u32 on],
        T.int IntKind.i64 (Int.ofNat L.n), T.view (1 : Nat) mm (fun j => [T.int IntKind.i64 (rd j)]) (some mm)] then
    bif decide (b < x4) then
    some (T.tup [T.int IntKind.i64 x4, T.int IntKind.i64 (19 : Int)])
    else
    some (T.tup [T.int IntKind.i64 x4, T.int IntKind.i64 (0 : Int)])
    else
    none
    else
    none
    else
    none
    else
    none
    else
    bif propF p1
      [T.view (4 : Nat) (1 : Nat)
          (fun j =>
            bif ((0 : Nat) + j).blt (0 : Nat) then
              [T.int IntKind.i64 (0 : Int), T.int IntKind.i64 (0 : Int), T.int IntKind.i64 (0 : Int),
                T.int IntKind.u32 (0 : Int)]
            else
              List.map plainOr
                ([[T.int IntKind.i64 a, T.int IntKind.i64 b, T.int IntKind.i64 d, T.int IntKind.u32 on]].getD
                  ((0 : Nat) + j - (0 : Nat)) []))
          none,
        T.int IntKind.i64 (Int.ofNat mm)] then
    bif propF p2
      [T.view (4 : Nat) L.n
          (fun j =>
            [T.int IntKind.i64 (L.tm j), T.int IntKind.i64 (L.du j), T.int IntKind.i64 (L.af j),
              T.int IntKind.u32 (L.on j)])
          c,
        T.int IntKind.i64 (Int.ofNat mm)] then
    bif propF p3
      [T.agg [T.int IntKind.i64 a, T.int IntKind.i64 b, T.int IntKind.i64 d, T.int IntKind.u32 on],
        T.int IntKind.i64 (Int.ofNat L.n), T.view (1 : Nat) mm (fun j => [T.int IntKind.i64 (rd j)]) (some mm)] then
    bif decide (b < x4) then
    some (T.tup [T.int IntKind.i64 x4, T.int IntKind.i64 (19 : Int)])
    else
    some (T.tup [T.int IntKind.i64 x4, T.int IntKind.i64 (0 : Int)])
    else
    none
    else
    none
    else
    none
    else
    bif (((0 : Nat) + L.n) * (33 : Nat)).ble (70368744177664 : Nat) then
    bif ((0 : Nat) + L.n).ble (IntKind.i64.wrap (Int.ofNat L.n + (1 : Int))).toNat then
    bif ((0 : Nat) + L.n).ble (IntKind.i64.wrap (Int.ofNat L.n + (1 : Int))).toNat then
    bif ((0 : Nat) + ((0 : Nat) + L.n)).ble (IntKind.i64.wrap (Int.ofNat L.n + (1 : Int))).toNat then
    bif (((0 : Nat) + L.n + (1 : Nat)) * (33 : Nat)).ble (70368744177664 : Nat) then
    bif ((0 : Nat) + L.n + (1 : Nat)).ble (IntKind.i64.wrap (Int.ofNat L.n + (1 : Int))).toNat then
    bif ((0 : Nat) + ((0 : Nat) + L.n) + (1 : Nat)).ble (IntKind.i64.wrap (Int.ofNat L.n + (1 : Int))).toNat then
    bif propF p1
      [bif ((0 : Nat) + ((0 : Nat) + L.n + (1 : Nat))).ble (IntKind.i64.wrap (Int.ofNat L.n + (1 : Int))).toNat then
          T.view (4 : Nat) ((0 : Nat) + L.n + (1 : Nat))
            (fun j =>
              bif
                  ((0 : Nat) + ((0 : Nat) + L.n)).ble ((0 : Nat) + j) &&
                    ((0 : Nat) + j).blt ((0 : Nat) + ((0 : Nat) + L.n) + (1 : Nat)) then
                List.map plainOr
                  ([[T.int IntKind.i64 a, T.int IntKind.i64 b, T.int IntKind.i64 d, T.int IntKind.u32 on]].getD
                    ((0 : Nat) + j - ((0 : Nat) + ((0 : Nat) + L.n))) [])
              else
                bif Nat.ble (0 : Nat) ((0 : Nat) + j) && ((0 : Nat) + j).blt ((0 : Nat) + L.n) then
                  [T.int IntKind.i64 (L.tm ((0 : Nat) + j - (0 : Nat))),
                    T.int IntKind.i64 (L.du ((0 : Nat) + j - (0 : Nat))),
                    T.int IntKind.i64 (L.af ((0 : Nat) + j - (0 : Nat))),
                    T.int IntKind.u32 (L.on ((0 : Nat) + j - (0 : Nat)))]
                else
                  [T.int IntKind.i64 (0 : Int), T.int IntKind.i64 (0 : Int), T.int IntKind.i64 (0 : Int),
                    T.int IntKind.u32 (0 : Int)])
            (some (IntKind.i64.wrap (Int.ofNat L.n + (1 : Int))).toNat)
        else T.undef,
        T.int IntKind.i64 (Int.ofNat mm)] then
    bif propF p2
      [T.view (4 : Nat) L.n
          (fun j =>
            [T.int IntKind.i64 (L.tm j), T.int IntKind.i64 (L.du j), T.int IntKind.i64 (L.af j),
              T.int IntKind.u32 (L.on j)])
          c,
        T.int IntKind.i64 (Int.ofNat mm)] then
    bif propF p3
      [T.agg [T.int IntKind.i64 a, T.int IntKind.i64 b, T.int IntKind.i64 d, T.int IntKind.u32 on],
        T.int IntKind.i64 (Int.ofNat L.n), T.view (1 : Nat) mm (fun j => [T.int IntKind.i64 (rd j)]) (some mm)] then
    bif decide (b < x4) then
    some (T.tup [T.int IntKind.i64 x4, T.int IntKind.i64 (19 : Int)])
    else
    some (T.tup [T.int IntKind.i64 x4, T.int IntKind.i64 (0 : Int)])
    else
    none
    else
    none
    else
    none
    else
    none
    else
    bif propF p1
      [bif ((0 : Nat) + ((0 : Nat) + L.n + (1 : Nat))).ble ((0 : Nat) + L.n + (1 : Nat)) then
          T.view (4 : Nat) ((0 : Nat) + L.n + (1 : Nat))
            (fun j =>
              bif ((0 : Nat) + j).blt ((0 : Nat) + L.n) then
                bif
                    Nat.ble (0 : Nat) ((0 : Nat) + ((0 : Nat) + j)) &&
                      ((0 : Nat) + ((0 : Nat) + j)).blt ((0 : Nat) + L.n) then
                  [T.int IntKind.i64 (L.tm ((0 : Nat) + ((0 : Nat) + j) - (0 : Nat))),
                    T.int IntKind.i64 (L.du ((0 : Nat) + ((0 : Nat) + j) - (0 : Nat))),
                    T.int IntKind.i64 (L.af ((0 : Nat) + ((0 : Nat) + j) - (0 : Nat))),
                    T.int IntKind.u32 (L.on ((0 : Nat) + ((0 : Nat) + j) - (0 : Nat)))]
                else
                  [T.int IntKind.i64 (0 : Int), T.int IntKind.i64 (0 : Int), T.int IntKind.i64 (0 : Int),
                    T.int IntKind.u32 (0 : Int)]
              else
                List.map plainOr
                  ([[T.int IntKind.i64 a, T.int IntKind.i64 b, T.int IntKind.i64 d, T.int IntKind.u32 on]].getD
                    ((0 : Nat) + j - ((0 : Nat) + L.n)) []))
            none
        else T.undef,
        T.int IntKind.i64 (Int.ofNat mm)] then
    bif propF p2
      [T.view (4 : Nat) L.n
          (fun j =>
            [T.int IntKind.i64 (L.tm j), T.int IntKind.i64 (L.du j), T.int IntKind.i64 (L.af j),
              T.int IntKind.u32 (L.on j)])
          c,
        T.int IntKind.i64 (Int.ofNat mm)] then
    bif propF p3
      [T.agg [T.int IntKind.i64 a, T.int IntKind.i64 b, T.int IntKind.i64 d, T.int IntKind.u32 on],
        T.int IntKind.i64 (Int.ofNat L.n), T.view (1 : Nat) mm (fun j => [T.int IntKind.i64 (rd j)]) (some mm)] then
    bif decide (b < x4) then
    some (T.tup [T.int IntKind.i64 x4, T.int IntKind.i64 (19 : Int)])
    else
    some (T.tup [T.int IntKind.i64 x4, T.int IntKind.i64 (0 : Int)])
    else
    none
    else
    none
    else
    none
    else
    none
    else
    none
    else
    none
    else
    bif ((0 : Nat) + ((0 : Nat) + L.n)).ble ((0 : Nat) + L.n) then
    bif (((0 : Nat) + L.n + (1 : Nat)) * (33 : Nat)).ble (70368744177664 : Nat) then
    bif ((0 : Nat) + ((0 : Nat) + L.n) + (1 : Nat)).ble ((0 : Nat) + L.n) then
    bif propF p1
      [bif ((0 : Nat) + ((0 : Nat) + L.n + (1 : Nat))).ble ((0 : Nat) + L.n) then
          T.view (4 : Nat) ((0 : Nat) + L.n + (1 : Nat))
            (fun j =>
              bif
                  ((0 : Nat) + ((0 : Nat) + L.n)).ble ((0 : Nat) + j) &&
                    ((0 : Nat) + j).blt ((0 : Nat) + ((0 : Nat) + L.n) + (1 : Nat)) then
                List.map plainOr
                  ([[T.int IntKind.i64 a, T.int IntKind.i64 b, T.int IntKind.i64 d, T.int IntKind.u32 on]].getD
                    ((0 : Nat) + j - ((0 : Nat) + ((0 : Nat) + L.n))) [])
              else
                [T.int IntKind.i64 (L.tm ((0 : Nat) + j - (0 : Nat))), T.int IntKind.i64 (L.du ((0 : Nat) + j - (0 : Nat))),
                  T.int IntKind.i64 (L.af ((0 : Nat) + j - (0 : Nat))),
                  T.int IntKind.u32 (L.on ((0 : Nat) + j - (0 : Nat)))])
            none
        else T.undef,
        T.int IntKind.i64 (Int.ofNat mm)] then
    bif propF p2
      [T.view (4 : Nat) L.n
          (fun j =>
            [T.int IntKind.i64 (L.tm j), T.int IntKind.i64 (L.du j), T.int IntKind.i64 (L.af j),
              T.int IntKind.u32 (L.on j)])
          c,
        T.int IntKind.i64 (Int.ofNat mm)] then
    bif propF p3
      [T.agg [T.int IntKind.i64 a, T.int IntKind.i64 b, T.int IntKind.i64 d, T.int IntKind.u32 on],
        T.int IntKind.i64 (Int.ofNat L.n), T.view (1 : Nat) mm (fun j => [T.int IntKind.i64 (rd j)]) (some mm)] then
    bif decide (b < x4) then
    some (T.tup [T.int IntKind.i64 x4, T.int IntKind.i64 (19 : Int)])
    else
    some (T.tup [T.int IntKind.i64 x4, T.int IntKind.i64 (0 : Int)])
    else
    none
    else
    none
    else
    none
    else
    bif propF p1
      [bif ((0 : Nat) + ((0 : Nat) + L.n + (1 : Nat))).ble ((0 : Nat) + L.n + (1 : Nat)) then
          T.view (4 : Nat) ((0 : Nat) + L.n + (1 : Nat))
            (fun j =>
              bif ((0 : Nat) + j).blt ((0 : Nat) + L.n) then
                [T.int IntKind.i64 (L.tm ((0 : Nat) + ((0 : Nat) + j) - (0 : Nat))),
                  T.int IntKind.i64 (L.du ((0 : Nat) + ((0 : Nat) + j) - (0 : Nat))),
                  T.int IntKind.i64 (L.af ((0 : Nat) + ((0 : Nat) + j) - (0 : Nat))),
                  T.int IntKind.u32 (L.on ((0 : Nat) + ((0 : Nat) + j) - (0 : Nat)))]
              else
                List.map plainOr
                  ([[T.int IntKind.i64 a, T.int IntKind.i64 b, T.int IntKind.i64 d, T.int IntKind.u32 on]].getD
                    ((0 : Nat) + j - ((0 : Nat) + L.n)) []))
            none
        else T.undef,
        T.int IntKind.i64 (Int.ofNat mm)] then
    bif propF p2
      [T.view (4 : Nat) L.n
          (fun j =>
            [T.int IntKind.i64 (L.tm j), T.int IntKind.i64 (L.du j), T.int IntKind.i64 (L.af j),
              T.int IntKind.u32 (L.on j)])
          c,
        T.int IntKind.i64 (Int.ofNat mm)] then
    bif propF p3
      [T.agg [T.int IntKind.i64 a, T.int IntKind.i64 b, T.int IntKind.i64 d, T.int IntKind.u32 on],
        T.int IntKind.i64 (Int.ofNat L.n), T.view (1 : Nat) mm (fun j => [T.int IntKind.i64 (rd j)]) (some mm)] then
    bif decide (b < x4) then
    some (T.tup [T.int IntKind.i64 x4, T.int IntKind.i64 (19 : Int)])
    else
    some (T.tup [T.int IntKind.i64 x4, T.int IntKind.i64 (0 : Int)])
    else
    none
    else
    none
    else
    none
    else
    none
    else
    none
    else
    none
    else
    none) from by kernel_rfl) ?_
  have fin : True → (bif propF p2 [jv L c, .int .i64 mm] then bif propF p3 [jT a b d on, .int .i64 L.n, iv mm rd (some mm)] then bif decide (b < x4) then some (T.tup [T.int IntKind.i64 x4, T.int IntKind.i64 (19 : Int)]) else some (T.tup [T.int IntKind.i64 x4, T.int IntKind.i64 (0 : Int)]) else none else none) = some (T.tup [.int .i64 x4, .int .i64 (if b < x4 then 19 else 0)]) := by
    intro _
    refine bift (pred_yes e2 hp) (bift (pred_yes e3 hg) ?_)
    exact bifd (fun q => by rw [if_pos q]) fun q => by rw [if_neg q]
  rw [show IntKind.i64.wrap (Int.ofNat L.n + (1 : Int)) = (L.n : Int) + 1 from wr64 (by rw [ofNatE]; omega) (by rw [ofNatE]; omega), toNatE1]
  by_cases q0 : L.n = 0
  · (repeat (first | (refine bift (by (simp (disch := omega) only [nbeq, nble, nblt, Bool.and_eq_true, decide_eq_true_eq, Nat.zero_add]; omega)) ?_) | (refine biff (by (simp (disch := omega) only [nbeq, nble, nblt, Nat.zero_add]; omega)) ?_)))
    refine bift (pred_yes e1 ?_) (fin trivial)
    rw [show Nat.ble 1 (L.n + 1) = true from bleT (by omega), cond_true]
    refine hview _ _ _ (by omega) fun j hj => ?_
    obtain rfl : j = 0 := by omega
    rw [if_neg (by omega)]
    rfl
  · (repeat (first | (refine bift (by (simp (disch := omega) only [nbeq, nble, nblt, Bool.and_eq_true, decide_eq_true_eq, Nat.zero_add]; omega)) ?_) | (refine biff (by (simp (disch := omega) only [nbeq, nble, nblt, Nat.zero_add]; omega)) ?_)))
    refine bift (pred_yes e1 ?_) (fin trivial)
    rw [show Nat.ble (0 + (0 + L.n + 1)) (L.n + 1) = true from bleT (by omega), cond_true]
    refine hview _ _ _ (by omega) fun j hj => ?_
    simp only [Nat.zero_add, Nat.sub_zero]
    by_cases q : j < L.n
    · rw [show Nat.ble L.n j = false from bleF (by omega), Bool.false_and, cond_false, show Nat.ble 0 j = true from bleT (by omega), bltT q, Bool.and_self, cond_true, if_pos q]
      rfl
    · obtain rfl : j = L.n := by omega
      rw [show Nat.ble L.n L.n = true from bleT (by omega), bltT (show L.n < L.n + 1 by omega), Bool.and_self, cond_true, if_neg q, Nat.sub_self]
      rfl
end Go.Ab

namespace Go.Ab
open Go.Proofs
/-- The machines of a job of the laws. -/
def onV (o : Nat) : Nat := if 1 < o % 4 then 1 + o % 3 + 4 * (o % 2) else 0
def exL : JL := ⟨fun j => [4, 2, 3, 1].getD j 0, fun j => [4, 3, 8, 6].getD j 0, fun _ => 0, fun _ => 0, 4⟩
def uJ (t d a o : Nat) : List T := [.int .u8 t, .int .u8 d, .int .u8 a, .int .u8 o]
theorem onV_le (o : Nat) : onV o ≤ 7 := by
  unfold onV
  split <;> omega
theorem ofT (t d a o : Nat) (ht : t < 256) (hd : d < 256) (ha : a < 256) (ho : o < 256) : ToldOk P41 G41 18 [.agg (uJ t d a o)] (jT (1 + t : Nat) d a (onV o : Nat)) := by
  refine stepL_told hm41 hn41 none_ok (K := noneO) (A := A41) (m := 0) (by kernel_rfl) loops0 ?_
  refine Eq.trans (show stepL P41 G41 A41 noneO 0 18 [] [.agg (uJ t d a o)] =
(    bif decide ((1 : Int) < (Int.ofNat o).tmod (4 : Int)) then
    some (T.agg
      [T.int IntKind.i64 (IntKind.i64.wrap ((1 : Int) + IntKind.i64.wrap (Int.ofNat t))),
        T.int IntKind.i64 (IntKind.i64.wrap (Int.ofNat d)), T.int IntKind.i64 (IntKind.i64.wrap (Int.ofNat a)),
        T.int IntKind.u32
          (IntKind.u32.wrap
            (IntKind.u8.wrap
              (IntKind.u8.wrap ((1 : Int) + (Int.ofNat o).tmod (3 : Int)) +
                IntKind.u8.wrap ((4 : Int) * (Int.ofNat o).tmod (2 : Int)))))])
    else
    some (T.agg
      [T.int IntKind.i64 (IntKind.i64.wrap ((1 : Int) + IntKind.i64.wrap (Int.ofNat t))),
        T.int IntKind.i64 (IntKind.i64.wrap (Int.ofNat d)), T.int IntKind.i64 (IntKind.i64.wrap (Int.ofNat a)),
        T.int IntKind.u32 (0 : Int)])) from by kernel_rfl) ?_
  have e4 : (Int.ofNat o).tmod (4 : Int) = ((o % 4 : Nat) : Int) := rfl
  have e3 : (Int.ofNat o).tmod (3 : Int) = ((o % 3 : Nat) : Int) := rfl
  have e2 : (Int.ofNat o).tmod (2 : Int) = ((o % 2 : Nat) : Int) := rfl
  rw [e4, e3, e2]
  have w1 : IntKind.i64.wrap (Int.ofNat t) = (t : Int) := wr64 (by rw [ofNatE]; omega) (by rw [ofNatE]; omega)
  have w2 : IntKind.i64.wrap (Int.ofNat d) = (d : Int) := wr64 (by rw [ofNatE]; omega) (by rw [ofNatE]; omega)
  have w3 : IntKind.i64.wrap (Int.ofNat a) = (a : Int) := wr64 (by rw [ofNatE]; omega) (by rw [ofNatE]; omega)
  have w4 : IntKind.i64.wrap ((1 : Int) + (t : Int)) = ((1 + t : Nat) : Int) := by rw [wr64 (by omega) (by omega)]; omega
  rw [w1, w2, w3, w4]
  unfold onV
  refine bifd (fun q => ?_) fun q => ?_
  · rw [if_pos (by omega)]
    rw [show IntKind.u8.wrap ((1 : Int) + ((o % 3 : Nat) : Int)) = (1 : Int) + ((o % 3 : Nat) : Int) from wr8 (by omega) (by omega),
      show IntKind.u8.wrap ((4 : Int) * ((o % 2 : Nat) : Int)) = (4 : Int) * ((o % 2 : Nat) : Int) from wr8 (by omega) (by omega),
      show IntKind.u8.wrap ((1 : Int) + ((o % 3 : Nat) : Int) + (4 : Int) * ((o % 2 : Nat) : Int)) = (1 : Int) + ((o % 3 : Nat) : Int) + (4 : Int) * ((o % 2 : Nat) : Int) from wr8 (by omega) (by omega),
      show IntKind.u32.wrap ((1 : Int) + ((o % 3 : Nat) : Int) + (4 : Int) * ((o % 2 : Nat) : Int)) = ((1 + o % 3 + 4 * (o % 2) : Nat) : Int) by rw [wr32 (by omega) (by omega)]; omega]
    rfl
  · rw [if_neg (by omega)]
    rfl
theorem exOk : exL.Ok := by
  refine ⟨by decide, fun j hj => ?_, fun j hj => ?_, fun j hj => ⟨Int.le_refl 0, show (0 : Int) ≤ 100000 by decide⟩, fun j hj => ⟨Int.le_refl 0, show (0 : Int) ≤ 7 by decide⟩⟩
  all_goals
    have hj : j < 4 := hj
    obtain rfl | rfl | rfl | rfl : j = 0 ∨ j = 1 ∨ j = 2 ∨ j = 3 := by omega
    all_goals decide
theorem exT : ToldOk P41 G41 21 [] (.new (jv exL (some 4))) := by
  have := (stepL_told (args := []) hm41 hn41 none_ok (K := noneO) (A := A41) (m := 0) (f := 21) (by kernel_rfl) loops0 (show stepL P41 G41 A41 noneO 0 21 [] [] = some (.fresh true 4 4 (fun j => [jcells 4 4 0 0, jcells 2 3 0 0, jcells 3 8 0 0, jcells 1 6 0 0].getD (0 + j) []) 4 (some 4)) from by kernel_rfl)).frz
  refine this.resTo (.new (.view (.inl rfl) fun j hj => ?_))
  obtain rfl | rfl | rfl | rfl : j = 0 ∨ j = 1 ∨ j = 2 ∨ j = 3 := by omega
  all_goals exact .refl _
end Go.Ab

namespace Go.Ab
open Go.Proofs
def v15 (n : Nat) (x y : Nat → Int) (c : Option Nat) (i : Int) : List T := [iv n x (some n), iv n y c, .int .i64 i]
theorem l15 (n : Nat) (x y : Nat → Int) (c : Option Nat) (hn : n ≤ 100000) (hxy : ∀ j, j < n → x j = y j) : LoopOk P41 G41 (A41 15) 15 4 (litS (v15 n x y c 0) [] (.exit 0) [.undef] []) := by
  refine loop_steps hm41 (by kernel_rfl) (fun i => v15 n x y c i) (fun _ => []) (n := n) (fun i hi => ?_) ?_
  · refine Step.mk0 (A := A41) (m := 0) none_ok rfl rfl loops0 (h1 := []) ?_ .nil
    refine Eq.trans (show iterR P41 G41 A41 noneO 0 15 [] 4 (v15 n x y c i) [] =
(    bif decide (Int.ofNat i < Int.ofNat n) then
    bif decide ((0 : Int) ≤ Int.ofNat i) && decide (Int.ofNat i < Int.ofNat n) then
    bif decide ((0 : Int) ≤ Int.ofNat i) && decide (Int.ofNat i < Int.ofNat n) then
    bif !decide (x i = y i) then
    some ((Ex.ret, [T.bool false], []))
    else
    some ((Ex.normal,
      [T.view (1 : Nat) n (fun j => [T.int IntKind.i64 (x j)]) (some n),
        T.view (1 : Nat) n (fun j => [T.int IntKind.i64 (y j)]) c,
        T.int IntKind.i64 (IntKind.i64.wrap (Int.ofNat i + (1 : Int)))],
      []))
    else
    none
    else
    none
    else
    some ((Ex.exit (0 : Nat), [T.undef], []))) from by kernel_rfl) ?_
    rw [dT (hxy i hi)]
    (repeat (first | (refine bift (by first | assumption | omega | (simp (disch := omega) only [wr64, wr8, wr16, wr32, ofNatE, toNatE, toNatE1, Bool.and_eq_true, Bool.or_eq_true, Bool.not_eq_true', decide_eq_true_eq, decide_eq_false_iff_not, nble, nblt, nbeq, Nat.zero_add, Nat.add_zero, Int.zero_add, Int.add_zero, List.length_cons, List.length_nil, true_and, and_true, Nat.reduceAdd, and_self]; done) | (simp (disch := omega) only [wr64, wr8, wr16, wr32, ofNatE, toNatE, toNatE1, Bool.and_eq_true, Bool.or_eq_true, Bool.not_eq_true', decide_eq_true_eq, decide_eq_false_iff_not, nble, nblt, nbeq, Nat.zero_add, Nat.add_zero, Int.zero_add, Int.add_zero, List.length_cons, List.length_nil, true_and, and_true, Nat.reduceAdd, and_self]; omega)) ?_) | (refine biff (by first | assumption | (simp (disch := omega) only [wr64, wr8, wr16, wr32, ofNatE, toNatE, toNatE1, Bool.and_eq_true, Bool.or_eq_true, Bool.not_eq_true', decide_eq_true_eq, decide_eq_false_iff_not, nble, nblt, nbeq, Nat.zero_add, Nat.add_zero, Int.zero_add, Int.add_zero, List.length_cons, List.length_nil, true_and, and_true, Nat.reduceAdd, and_self]; done) | (simp (disch := omega) only [wr64, wr8, wr16, wr32, ofNatE, toNatE, toNatE1, Bool.and_eq_true, Bool.or_eq_true, Bool.not_eq_true', decide_eq_true_eq, decide_eq_false_iff_not, nble, nblt, nbeq, Nat.zero_add, Nat.add_zero, Int.zero_add, Int.add_zero, List.length_cons, List.length_nil, true_and, and_true, Nat.reduceAdd, and_self]; omega)) ?_)))
    first | rfl | (simp (disch := omega) only [wr64, wr8, wr16, wr32, ofNatE, Nat.zero_add, bleT, bltT, dT, dF, Bool.true_and, Bool.and_true, Bool.and_self, cond_true, cond_false, Nat.sub_zero, beq_self_eq_true, Bool.not_true]; done) | (simp (disch := omega) only [wr64, wr8, wr16, wr32, ofNatE, Nat.zero_add, bleT, bltT, dT, dF, Bool.true_and, Bool.and_true, Bool.and_self, cond_true, cond_false, Nat.sub_zero, beq_self_eq_true, Bool.not_true]; rfl)
  · refine Last.mk0 (A := A41) (m := 0) none_ok rfl rfl loops0 (h1 := []) (by simp) ?_ .nil
    refine Eq.trans (show iterR P41 G41 A41 noneO 0 15 [] 4 (v15 n x y c (n : Int)) [] =
(    bif decide (Int.ofNat n < Int.ofNat n) then
    bif decide ((0 : Int) ≤ Int.ofNat n) && decide (Int.ofNat n < Int.ofNat n) then
    bif decide ((0 : Int) ≤ Int.ofNat n) && decide (Int.ofNat n < Int.ofNat n) then
    bif !decide (x n = y n) then
    some ((Ex.ret, [T.bool false], []))
    else
    some ((Ex.normal,
      [T.view (1 : Nat) n (fun j => [T.int IntKind.i64 (x j)]) (some n),
        T.view (1 : Nat) n (fun j => [T.int IntKind.i64 (y j)]) c,
        T.int IntKind.i64 (IntKind.i64.wrap (Int.ofNat n + (1 : Int)))],
      []))
    else
    none
    else
    none
    else
    some ((Ex.exit (0 : Nat), [T.undef], []))) from by kernel_rfl) ?_
    (repeat (first | (refine bift (by first | assumption | omega | (simp (disch := omega) only [wr64, wr8, wr16, wr32, ofNatE, toNatE, toNatE1, Bool.and_eq_true, Bool.or_eq_true, Bool.not_eq_true', decide_eq_true_eq, decide_eq_false_iff_not, nble, nblt, nbeq, Nat.zero_add, Nat.add_zero, Int.zero_add, Int.add_zero, List.length_cons, List.length_nil, true_and, and_true, Nat.reduceAdd, and_self]; done) | (simp (disch := omega) only [wr64, wr8, wr16, wr32, ofNatE, toNatE, toNatE1, Bool.and_eq_true, Bool.or_eq_true, Bool.not_eq_true', decide_eq_true_eq, decide_eq_false_iff_not, nble, nblt, nbeq, Nat.zero_add, Nat.add_zero, Int.zero_add, Int.add_zero, List.length_cons, List.length_nil, true_and, and_true, Nat.reduceAdd, and_self]; omega)) ?_) | (refine biff (by first | assumption | (simp (disch := omega) only [wr64, wr8, wr16, wr32, ofNatE, toNatE, toNatE1, Bool.and_eq_true, Bool.or_eq_true, Bool.not_eq_true', decide_eq_true_eq, decide_eq_false_iff_not, nble, nblt, nbeq, Nat.zero_add, Nat.add_zero, Int.zero_add, Int.add_zero, List.length_cons, List.length_nil, true_and, and_true, Nat.reduceAdd, and_self]; done) | (simp (disch := omega) only [wr64, wr8, wr16, wr32, ofNatE, toNatE, toNatE1, Bool.and_eq_true, Bool.or_eq_true, Bool.not_eq_true', decide_eq_true_eq, decide_eq_false_iff_not, nble, nblt, nbeq, Nat.zero_add, Nat.add_zero, Int.zero_add, Int.add_zero, List.length_cons, List.length_nil, true_and, and_true, Nat.reduceAdd, and_self]; omega)) ?_)))
    first | rfl | (simp (disch := omega) only [wr64, wr8, wr16, wr32, ofNatE, Nat.zero_add, bleT, bltT, dT, dF, Bool.true_and, Bool.and_true, Bool.and_self, cond_true, cond_false, Nat.sub_zero, beq_self_eq_true]; done) | (simp (disch := omega) only [wr64, wr8, wr16, wr32, ofNatE, Nat.zero_add, bleT, bltT, dT, dF, Bool.true_and, Bool.and_true, Bool.and_self, cond_true, cond_false, Nat.sub_zero, beq_self_eq_true]; rfl)
theorem sameT (n : Nat) (x y : Nat → Int) (c : Option Nat) (hn : n ≤ 100000) (hxy : ∀ j, j < n → x j = y j) : ToldOk P41 G41 15 [iv n x (some n), iv n y c] (.bool true) := by
  have hl := l15 n x y c hn hxy
  refine stepL_told hm41 hn41 none_ok (K := noneO) (A := A41) (m := 0) (by kernel_rfl) (loops1 hl) ?_
  refine Eq.trans (show stepL P41 G41 A41 noneO 0 15 [(4, litS (v15 n x y c 0) [] (.exit 0) [.undef] [])] [iv n x (some n), iv n y c] =
(    bif !decide (Int.ofNat n = Int.ofNat n) then
    some (T.bool false)
    else
    bif !decide (Int.ofNat n = Int.ofNat n) then
    some (T.bool false)
    else
    bif weakF
      [T.view (1 : Nat) n (fun j => [T.int IntKind.i64 (x j)]) (some n),
        T.view (1 : Nat) n (fun j => [T.int IntKind.i64 (y j)]) c, T.int IntKind.i64 (0 : Int)]
      []
      [T.view (1 : Nat) n (fun j => [T.int IntKind.i64 (x j)]) (some n),
        T.view (1 : Nat) n (fun j => [T.int IntKind.i64 (y j)]) c, T.int IntKind.i64 (0 : Int)]
      [] then
    some (T.bool true)
    else
    none) from by kernel_rfl) ?_
  rw [dT (rfl : Int.ofNat n = Int.ofNat n)]
  simp only [Bool.not_true, cond_false]
  exact bift (weakF_of ⟨rfl, .refl _⟩) rfl
end Go.Ab

namespace Go.Ab
open Go.Proofs
/-- Jobs of the laws, as they are given. -/
structure JR where
  t : Nat → Nat
  d : Nat → Nat
  a : Nat → Nat
  o : Nat → Nat
  n : Nat
def JR.v (R : JR) (c : Option Nat) : T := .view 4 R.n (fun j => uJ (R.t j) (R.d j) (R.a j) (R.o j)) c
def JR.L (R : JR) (m : Nat) : JL := ⟨fun j => (1 + R.t j : Nat), fun j => (R.d j : Nat), fun j => (R.a j : Nat), fun j => (onV (R.o j) : Nat), m⟩
def v9 (R : JR) (c : Option Nat) (x : T) (i : Int) : List T := [R.v c, x, .int .i64 i]
def jb (v nd : Nat) (get : Nat → List T) : Blk := ⟨v, 4, nd, get, true, false⟩
noncomputable def K9 (p : List T → Prop) (r : T) : Orc := noneO.add 18 (callP p r)
def gc (R : JR) (j : Nat) : List T := jcells (1 + R.t j : Nat) (R.d j : Nat) (R.a j : Nat) (onV (R.o j) : Nat)
structure JR.Ok (R : JR) : Prop where
  t : ∀ j, R.t j < 256
  d : ∀ j, R.d j < 256
  a : ∀ j, R.a j < 256
  o : ∀ j, R.o j < 256
def tb9 (x : List T) : Blk := ⟨0, 4, 1, fun j => [x].getD j [], true, true⟩
theorem s9z (R : JR) (c : Option Nat) (hR : R.Ok) (hn : 0 < R.n) : Step P41 G41 (A41 9) 9 3 0 (v9 R c .nils 0) [] (v9 R c (.own 0 0 0 1 none) 1) [jb 0 1 (fun j => [gc R 0].getD (0 + j) [])] := by
  have ht := ofT _ _ _ _ (hR.t 0) (hR.d 0) (hR.a 0) (hR.o 0)
  unfold gc
  generalize ((1 + R.t 0 : Nat) : Int) = a at *
  generalize ((R.d 0 : Nat) : Int) = b at *
  generalize ((R.a 0 : Nat) : Int) = d at *
  generalize ((onV (R.o 0) : Nat) : Int) = on at *
  obtain ⟨p, e⟩ := told_pred P41 G41 18 (jT a b d on)
  refine Step.mkC (A := A41) (m := 0) (told_add none_ok (callP_told (told_predT e))) rfl rfl loops0 [1] (K := K9 p (jT a b d on)) (v2 := v9 R c (.own 0 0 0 1 none) 1) (h2 := [jb 0 1 (fun j => [jcells a b d on].getD (0 + j) [])])
    (v1 := v9 R c (.own 1 0 0 1 none) 1) (h1 := [tb9 (jcells a b d on), jb 0 1 (fun j => [jcells a b d on].getD (0 + j) [])]) (Eq.trans (show iterR P41 G41 A41 (K9 p (jT a b d on)) 0 9 [] 3 (v9 R c .nils 0) [] =
(    bif decide ((0 : Int) < Int.ofNat R.n) then
    bif decide ((0 : Int) < Int.ofNat R.n) then
    bif propF p
      [T.agg
          [T.int IntKind.u8 (Int.ofNat (R.t (0 : Nat))), T.int IntKind.u8 (Int.ofNat (R.d (0 : Nat))),
            T.int IntKind.u8 (Int.ofNat (R.a (0 : Nat))), T.int IntKind.u8 (Int.ofNat (R.o (0 : Nat)))]] then
    some ((Ex.normal,
      [T.view (4 : Nat) R.n
          (fun j =>
            [T.int IntKind.u8 (Int.ofNat (R.t j)), T.int IntKind.u8 (Int.ofNat (R.d j)),
              T.int IntKind.u8 (Int.ofNat (R.a j)), T.int IntKind.u8 (Int.ofNat (R.o j))])
          c,
        T.own
          [Blk.mk (0 : Nat) (4 : Nat) (1 : Nat)
                (fun j => [[T.int IntKind.i64 a, T.int IntKind.i64 b, T.int IntKind.i64 d, T.int IntKind.u32 on]].getD j [])
                true true].length
          (0 : Nat) (0 : Nat) (1 : Nat) none,
        T.int IntKind.i64 (1 : Int)],
      [Blk.mk (0 : Nat) (4 : Nat) (1 : Nat)
          (fun j => [[T.int IntKind.i64 a, T.int IntKind.i64 b, T.int IntKind.i64 d, T.int IntKind.u32 on]].getD j []) true
          true,
        Blk.mk (0 : Nat) (4 : Nat) (1 : Nat)
          (fun j =>
            [[T.int IntKind.i64 a, T.int IntKind.i64 b, T.int IntKind.i64 d, T.int IntKind.u32 on]].getD ((0 : Nat) + j) [])
          true false]))
    else
    none
    else
    none
    else
    some ((Ex.exit (0 : Nat), [T.nils], []))) from by kernel_rfl) ?_) (by rfl) (by rfl) (by rfl) fun nt => .same (.refl _)
  refine bift (by simp only [ofNatE, decide_eq_true_eq]; omega) ?_
  refine bift (by simp only [ofNatE, decide_eq_true_eq]; omega) ?_
  refine bift (pred_yes e ht) ?_
  first | rfl | (simp (disch := omega) only [wr64, wr8, wr16, wr32, ofNatE]; done) | (simp (disch := omega) only [wr64, wr8, wr16, wr32, ofNatE]; rfl)
def ap9 (get : Nat → List T) (i : Nat) (x : List T) : Nat → List T := fun j => if j = i then x else get j
theorem s9a (R : JR) (c : Option Nat) (hR : R.Ok) (i v nd : Nat) (get : Nat → List T) (hn : i < R.n) (h40 : i < 40) (hnd : i ≤ nd) :
    ∃ v' nd' get', i + 1 ≤ nd' ∧ (∀ j, j < i + 1 → get' j = ap9 get i (gc R i) j) ∧ Step P41 G41 (A41 9) 9 3 0 (v9 R c (.own 0 v 0 i none) i) [jb v nd get] (v9 R c (.own 0 v' 0 (i + 1) none) (i + 1 : Nat)) [jb v' nd' get'] := by
  have ht := ofT _ _ _ _ (hR.t i) (hR.d i) (hR.a i) (hR.o i)
  unfold gc
  generalize ((1 + R.t i : Nat) : Int) = a at *
  generalize ((R.d i : Nat) : Int) = b at *
  generalize ((R.a i : Nat) : Int) = d at *
  generalize ((onV (R.o i) : Nat) : Int) = on at *
  obtain ⟨p, e⟩ := told_pred P41 G41 18 (jT a b d on)
  by_cases q : i + 1 ≤ nd
  · refine ⟨v, nd, fun j => bif Nat.ble (0 + i) j && Nat.blt j (0 + i + 1) then [jcells a b d on].getD (0 + (j - (0 + i))) [] else get j, q, fun j hj => ?_, Step.mkC (A := A41) (m := 0) (told_add none_ok (callP_told (told_predT e))) rfl rfl loops0 [0] (K := K9 p (jT a b d on)) (v2 := v9 R c (.own 0 v 0 (i + 1) none) (i + 1 : Nat)) (h2 := [jb v nd (fun j => bif Nat.ble (0 + i) j && Nat.blt j (0 + i + 1) then [jcells a b d on].getD (0 + (j - (0 + i))) [] else get j)])
      (v1 := v9 R c (.own 0 v 0 (i + 1) none) (i + 1 : Nat)) (h1 := [jb v nd (fun j => bif Nat.ble (0 + i) j && Nat.blt j (0 + i + 1) then [jcells a b d on].getD (0 + (j - (0 + i))) [] else get j), tb9 (jcells a b d on)]) (Eq.trans (show iterR P41 G41 A41 (K9 p (jT a b d on)) 0 9 [] 3 (v9 R c (.own 0 v 0 i none) i) [jb v nd get] =
(    bif decide (Int.ofNat i < Int.ofNat R.n) then
    bif decide (Int.ofNat i < (40 : Int)) then
    bif decide ((0 : Int) ≤ Int.ofNat i) && decide (Int.ofNat i < Int.ofNat R.n) then
    bif propF p
      [T.agg
          [T.int IntKind.u8 (Int.ofNat (R.t i)), T.int IntKind.u8 (Int.ofNat (R.d i)), T.int IntKind.u8 (Int.ofNat (R.a i)),
            T.int IntKind.u8 (Int.ofNat (R.o i))]] then
    bif v == v then
    bif ((0 : Nat) + i).ble nd then
    bif ((i + (1 : Nat)) * (33 : Nat)).ble (70368744177664 : Nat) then
    bif ((0 : Nat) + i + (1 : Nat)).ble nd then
    some ((Ex.normal,
      [T.view (4 : Nat) R.n
          (fun j =>
            [T.int IntKind.u8 (Int.ofNat (R.t j)), T.int IntKind.u8 (Int.ofNat (R.d j)),
              T.int IntKind.u8 (Int.ofNat (R.a j)), T.int IntKind.u8 (Int.ofNat (R.o j))])
          c,
        T.own (0 : Nat) v (0 : Nat) (i + (1 : Nat)) none, T.int IntKind.i64 (IntKind.i64.wrap (Int.ofNat i + (1 : Int)))],
      [Blk.mk v (4 : Nat) nd
          (fun j =>
            bif ((0 : Nat) + i).ble j && j.blt ((0 : Nat) + i + (1 : Nat)) then
              [[T.int IntKind.i64 a, T.int IntKind.i64 b, T.int IntKind.i64 d, T.int IntKind.u32 on]].getD
                ((0 : Nat) + (j - ((0 : Nat) + i))) []
            else get j)
          true false,
        Blk.mk (0 : Nat) (4 : Nat) (1 : Nat)
          (fun j => [[T.int IntKind.i64 a, T.int IntKind.i64 b, T.int IntKind.i64 d, T.int IntKind.u32 on]].getD j []) true
          true]))
    else
    some ((Ex.normal,
      [T.view (4 : Nat) R.n
          (fun j =>
            [T.int IntKind.u8 (Int.ofNat (R.t j)), T.int IntKind.u8 (Int.ofNat (R.d j)),
              T.int IntKind.u8 (Int.ofNat (R.a j)), T.int IntKind.u8 (Int.ofNat (R.o j))])
          c,
        T.own (0 : Nat) (v + (1 : Nat)) (0 : Nat) (i + (1 : Nat)) none,
        T.int IntKind.i64 (IntKind.i64.wrap (Int.ofNat i + (1 : Int)))],
      [Blk.mk (v + (1 : Nat)) (4 : Nat) (i + (1 : Nat))
          (fun j =>
            bif j.blt i then get ((0 : Nat) + j)
            else
              [[T.int IntKind.i64 a, T.int IntKind.i64 b, T.int IntKind.i64 d, T.int IntKind.u32 on]].getD
                ((0 : Nat) + (j - i)) [])
          true false,
        Blk.mk (0 : Nat) (4 : Nat) (1 : Nat)
          (fun j => [[T.int IntKind.i64 a, T.int IntKind.i64 b, T.int IntKind.i64 d, T.int IntKind.u32 on]].getD j []) true
          true]))
    else
    none
    else
    none
    else
    none
    else
    none
    else
    none
    else
    some ((Ex.exit (0 : Nat), [T.own (0 : Nat) v (0 : Nat) i none], [Blk.mk v (4 : Nat) nd get true false]))
    else
    some ((Ex.exit (0 : Nat), [T.own (0 : Nat) v (0 : Nat) i none], [Blk.mk v (4 : Nat) nd get true false]))) from by kernel_rfl) ?_) (by rfl) (by rfl) (by rfl) fun nt => .same (.refl _)⟩
    · unfold ap9
      simp only
      by_cases qj : j = i
      · subst qj
        rw [if_pos rfl, Nat.zero_add, show Nat.ble j j = true from bleT (by omega), bltT (show j < j + 1 by omega), Nat.sub_self]
        rfl
      · rw [if_neg qj, Nat.zero_add, show Nat.ble i j = false from bleF (by omega)]
        rfl
    · refine bift (by simp only [ofNatE, decide_eq_true_eq]; omega) ?_
      refine bift (by simp only [ofNatE, decide_eq_true_eq]; omega) ?_
      refine bift (by simp only [ofNatE, Bool.and_eq_true, decide_eq_true_eq]; omega) ?_
      refine bift (pred_yes e ht) ?_
      refine bift (beq_self_eq_true _) ?_
      refine bift (bleT (by omega)) ?_
      refine bift (bleT (by omega)) ?_
      refine bift (bleT (by omega)) ?_
      first | rfl | (simp (disch := omega) only [wr64, wr8, wr16, wr32, ofNatE]; done) | (simp (disch := omega) only [wr64, wr8, wr16, wr32, ofNatE]; rfl)
  · refine ⟨v + 1, i + 1, fun j => bif Nat.blt j i then get (0 + j) else [jcells a b d on].getD (0 + (j - i)) [], Nat.le_refl _, fun j hj => ?_, Step.mkC (A := A41) (m := 0) (told_add none_ok (callP_told (told_predT e))) rfl rfl loops0 [0] (K := K9 p (jT a b d on)) (v2 := v9 R c (.own 0 (v + 1) 0 (i + 1) none) (i + 1 : Nat)) (h2 := [jb (v + 1) (i + 1) (fun j => bif Nat.blt j i then get (0 + j) else [jcells a b d on].getD (0 + (j - i)) [])])
      (v1 := v9 R c (.own 0 (v + 1) 0 (i + 1) none) (i + 1 : Nat)) (h1 := [jb (v + 1) (i + 1) (fun j => bif Nat.blt j i then get (0 + j) else [jcells a b d on].getD (0 + (j - i)) []), tb9 (jcells a b d on)]) (Eq.trans (show iterR P41 G41 A41 (K9 p (jT a b d on)) 0 9 [] 3 (v9 R c (.own 0 v 0 i none) i) [jb v nd get] =
(    bif decide (Int.ofNat i < Int.ofNat R.n) then
    bif decide (Int.ofNat i < (40 : Int)) then
    bif decide ((0 : Int) ≤ Int.ofNat i) && decide (Int.ofNat i < Int.ofNat R.n) then
    bif propF p
      [T.agg
          [T.int IntKind.u8 (Int.ofNat (R.t i)), T.int IntKind.u8 (Int.ofNat (R.d i)), T.int IntKind.u8 (Int.ofNat (R.a i)),
            T.int IntKind.u8 (Int.ofNat (R.o i))]] then
    bif v == v then
    bif ((0 : Nat) + i).ble nd then
    bif ((i + (1 : Nat)) * (33 : Nat)).ble (70368744177664 : Nat) then
    bif ((0 : Nat) + i + (1 : Nat)).ble nd then
    some ((Ex.normal,
      [T.view (4 : Nat) R.n
          (fun j =>
            [T.int IntKind.u8 (Int.ofNat (R.t j)), T.int IntKind.u8 (Int.ofNat (R.d j)),
              T.int IntKind.u8 (Int.ofNat (R.a j)), T.int IntKind.u8 (Int.ofNat (R.o j))])
          c,
        T.own (0 : Nat) v (0 : Nat) (i + (1 : Nat)) none, T.int IntKind.i64 (IntKind.i64.wrap (Int.ofNat i + (1 : Int)))],
      [Blk.mk v (4 : Nat) nd
          (fun j =>
            bif ((0 : Nat) + i).ble j && j.blt ((0 : Nat) + i + (1 : Nat)) then
              [[T.int IntKind.i64 a, T.int IntKind.i64 b, T.int IntKind.i64 d, T.int IntKind.u32 on]].getD
                ((0 : Nat) + (j - ((0 : Nat) + i))) []
            else get j)
          true false,
        Blk.mk (0 : Nat) (4 : Nat) (1 : Nat)
          (fun j => [[T.int IntKind.i64 a, T.int IntKind.i64 b, T.int IntKind.i64 d, T.int IntKind.u32 on]].getD j []) true
          true]))
    else
    some ((Ex.normal,
      [T.view (4 : Nat) R.n
          (fun j =>
            [T.int IntKind.u8 (Int.ofNat (R.t j)), T.int IntKind.u8 (Int.ofNat (R.d j)),
              T.int IntKind.u8 (Int.ofNat (R.a j)), T.int IntKind.u8 (Int.ofNat (R.o j))])
          c,
        T.own (0 : Nat) (v + (1 : Nat)) (0 : Nat) (i + (1 : Nat)) none,
        T.int IntKind.i64 (IntKind.i64.wrap (Int.ofNat i + (1 : Int)))],
      [Blk.mk (v + (1 : Nat)) (4 : Nat) (i + (1 : Nat))
          (fun j =>
            bif j.blt i then get ((0 : Nat) + j)
            else
              [[T.int IntKind.i64 a, T.int IntKind.i64 b, T.int IntKind.i64 d, T.int IntKind.u32 on]].getD
                ((0 : Nat) + (j - i)) [])
          true false,
        Blk.mk (0 : Nat) (4 : Nat) (1 : Nat)
          (fun j => [[T.int IntKind.i64 a, T.int IntKind.i64 b, T.int IntKind.i64 d, T.int IntKind.u32 on]].getD j []) true
          true]))
    else
    none
    else
    none
    else
    none
    else
    none
    else
    none
    else
    some ((Ex.exit (0 : Nat), [T.own (0 : Nat) v (0 : Nat) i none], [Blk.mk v (4 : Nat) nd get true false]))
    else
    some ((Ex.exit (0 : Nat), [T.own (0 : Nat) v (0 : Nat) i none], [Blk.mk v (4 : Nat) nd get true false]))) from by kernel_rfl) ?_) (by rfl) (by rfl) (by rfl) fun nt => .same (.refl _)⟩
    · unfold ap9
      simp only
      by_cases qj : j = i
      · subst qj
        rw [if_pos rfl, bltF (show j ≤ j by omega), Nat.sub_self]
        rfl
      · rw [if_neg qj, bltT (show j < i by omega), Nat.zero_add]
        rfl
    · refine bift (by simp only [ofNatE, decide_eq_true_eq]; omega) ?_
      refine bift (by simp only [ofNatE, decide_eq_true_eq]; omega) ?_
      refine bift (by simp only [ofNatE, Bool.and_eq_true, decide_eq_true_eq]; omega) ?_
      refine bift (pred_yes e ht) ?_
      refine bift (beq_self_eq_true _) ?_
      refine bift (bleT (by omega)) ?_
      refine bift (bleT (by omega)) ?_
      refine biff (by rw [nble]; omega) ?_
      first | rfl | (simp (disch := omega) only [wr64, wr8, wr16, wr32, ofNatE]; done) | (simp (disch := omega) only [wr64, wr8, wr16, wr32, ofNatE]; rfl)
end Go.Ab

namespace Go.Ab
open Go.Proofs
/-- Where the loop of list stands. -/
inductive P9 (R : JR) (c : Option Nat) (i : Nat) : List T → Heap → Prop
  | z (hi : i = 0) : P9 R c i (v9 R c .nils (i : Nat)) []
  | a (hi : 0 < i) (v nd : Nat) (get : Nat → List T) (hn : i ≤ nd) (hg : ∀ j, j < i → get j = gc R j) : P9 R c i (v9 R c (.own 0 v 0 i none) (i : Nat)) [jb v nd get]
inductive E9 (R : JR) (m : Nat) : List T → Heap → Prop
  | z (hi : m = 0) : E9 R m [.nils] []
  | a (v nd : Nat) (get : Nat → List T) (hn : m ≤ nd) (hg : ∀ j, j < m → get j = gc R j) : E9 R m [.own 0 v 0 m none] [jb v nd get]
theorem x9z (R : JR) (c : Option Nat) (i : Nat) (hi : R.n ≤ i ∨ 40 ≤ i) : Last P41 G41 (A41 9) 9 3 0 (v9 R c .nils i) [] (.exit 0) [.nils] [] := by
  refine Last.mk0 (A := A41) (m := 0) none_ok rfl rfl loops0 (by simp) (Eq.trans (show iterR P41 G41 A41 noneO 0 9 [] 3 (v9 R c .nils i) [] =
(    bif decide (Int.ofNat i < Int.ofNat R.n) then
    bif decide (Int.ofNat i < (40 : Int)) then
    bif decide ((0 : Int) ≤ Int.ofNat i) && decide (Int.ofNat i < Int.ofNat R.n) then
    none
    else
    none
    else
    some ((Ex.exit (0 : Nat), [T.nils], []))
    else
    some ((Ex.exit (0 : Nat), [T.nils], []))) from by kernel_rfl) ?_) (.refl _)
  refine bifd (fun q => ?_) fun q => rfl
  rw [ofNatE, ofNatE] at q
  refine biff (by simp only [ofNatE, decide_eq_true_eq]; omega) rfl
theorem x9a (R : JR) (c : Option Nat) (i v nd : Nat) (get : Nat → List T) (hi : R.n ≤ i ∨ 40 ≤ i) : Last P41 G41 (A41 9) 9 3 0 (v9 R c (.own 0 v 0 i none) i) [jb v nd get] (.exit 0) [.own 0 v 0 i none] [jb v nd get] := by
  refine Last.mk0 (A := A41) (m := 0) none_ok rfl rfl loops0 (by simp) (Eq.trans (show iterR P41 G41 A41 noneO 0 9 [] 3 (v9 R c (.own 0 v 0 i none) i) [jb v nd get] =
(    bif decide (Int.ofNat i < Int.ofNat R.n) then
    bif decide (Int.ofNat i < (40 : Int)) then
    bif decide ((0 : Int) ≤ Int.ofNat i) && decide (Int.ofNat i < Int.ofNat R.n) then
    none
    else
    none
    else
    some ((Ex.exit (0 : Nat), [T.own (0 : Nat) v (0 : Nat) i none], [Blk.mk v (4 : Nat) nd get true false]))
    else
    some ((Ex.exit (0 : Nat), [T.own (0 : Nat) v (0 : Nat) i none], [Blk.mk v (4 : Nat) nd get true false]))) from by kernel_rfl) ?_) (.refl _)
  refine bifd (fun q => ?_) fun q => rfl
  rw [ofNatE, ofNatE] at q
  refine biff (by simp only [ofNatE, decide_eq_true_eq]; omega) rfl
theorem l9 (R : JR) (c : Option Nat) (hR : R.Ok) : ∃ vs1 h1, E9 R (Nat.min R.n 40) vs1 h1 ∧ LoopOk P41 G41 (A41 9) 9 3 (litS (v9 R c .nils 0) [] (.exit 0) vs1 h1) := by
  have hmin : Nat.min R.n 40 ≤ R.n ∧ Nat.min R.n 40 ≤ 40 ∧ (Nat.min R.n 40 = R.n ∨ Nat.min R.n 40 = 40) := by
    have : Nat.min R.n 40 = min R.n 40 := rfl
    omega
  generalize Nat.min R.n 40 = m at *
  obtain ⟨e, vs1, h1, ⟨rfl, hE⟩, hl⟩ := loop_exists (P := P41) (Gl := G41) (an := A41 9) hm41 (f := 9) (r := 3) (k := 0) (by kernel_rfl) (fun n vs h => ∃ i, i ≤ m ∧ n = m - i ∧ P9 R c i vs h) (fun e vs h => e = .exit 0 ∧ E9 R m vs h)
    (fun n vs h ⟨i, hi, hn, hp⟩ => by
      rcases Nat.lt_or_ge i m with q | q
      · left
        cases hp with
        | z hz =>
          subst hz
          exact ⟨m - 1, _, _, by omega, s9z R c hR (by omega), 1, by omega, rfl, .a (by omega) _ _ _ (Nat.le_refl _) fun j hj => by
            obtain rfl : j = 0 := by omega
            rfl⟩
        | a h0 v nd get hnd hg =>
          obtain ⟨v', nd', get', q1, q2, q3⟩ := s9a R c hR i v nd get (by omega) (by omega) hnd
          refine ⟨m - (i + 1), _, _, by omega, q3, i + 1, by omega, rfl, .a (by omega) _ _ _ q1 fun j hj => ?_⟩
          rw [q2 j hj]
          unfold ap9
          by_cases qj : j = i
          · rw [if_pos qj, qj]
          · rw [if_neg qj, hg j (by omega)]
      · right
        obtain rfl : i = m := by omega
        cases hp with
        | z hz => exact ⟨_, _, _, x9z R c i (by omega), rfl, .z hz⟩
        | a _ v nd get hnd hg => exact ⟨_, _, _, x9a R c i v nd get (by omega), rfl, .a v nd get hnd hg⟩)
    (n := m) (vs := v9 R c .nils 0) (h := []) rfl ⟨0, by omega, by omega, .z rfl⟩
  exact ⟨vs1, h1, hE, hl⟩
theorem listT (R : JR) (c : Option Nat) (hR : R.Ok) : ToldOk P41 G41 9 [R.v c] (.new (jv (R.L (Nat.min R.n 40)) none)) := by
  obtain ⟨vs1, h1, hE, hl⟩ := l9 R c hR
  generalize Nat.min R.n 40 = m at *
  cases hE with
  | z hz =>
    subst hz
    have := stepL_told (args := [R.v c]) (r := .nils) hm41 hn41 none_ok (K := noneO) (A := A41) (m := 0) (by kernel_rfl) (loops1 hl) (Eq.trans (show stepL P41 G41 A41 noneO 0 9 [(3, litS (v9 R c .nils 0) [] (.exit 0) [.nils] [])] [R.v c] =
(    bif weakF
      [T.view (4 : Nat) R.n
          (fun j =>
            [T.int IntKind.u8 (Int.ofNat (R.t j)), T.int IntKind.u8 (Int.ofNat (R.d j)),
              T.int IntKind.u8 (Int.ofNat (R.a j)), T.int IntKind.u8 (Int.ofNat (R.o j))])
          c,
        T.nils, T.int IntKind.i64 (0 : Int)]
      []
      [T.view (4 : Nat) R.n
          (fun j =>
            [T.int IntKind.u8 (Int.ofNat (R.t j)), T.int IntKind.u8 (Int.ofNat (R.d j)),
              T.int IntKind.u8 (Int.ofNat (R.a j)), T.int IntKind.u8 (Int.ofNat (R.o j))])
          c,
        T.nils, T.int IntKind.i64 (0 : Int)]
      [] then
    some (T.nils)
    else
    none) from by kernel_rfl) (bift (weakF_of ⟨rfl, .refl _⟩) rfl))
    exact this.resTo (.niln _ _ _ (.inl rfl))
  | a v nd get hn hg =>
    have := (stepL_told (args := [R.v c]) (r := .fresh true 4 nd (fun j => get (0 + j)) m none) hm41 hn41 none_ok (K := noneO) (A := A41) (m := 0) (by kernel_rfl) (loops1 hl) (Eq.trans (show stepL P41 G41 A41 noneO 0 9 [(3, litS (v9 R c .nils 0) [] (.exit 0) [.own 0 v 0 m none] [jb v nd get])] [R.v c] =
(    bif weakF
      [T.view (4 : Nat) R.n
          (fun j =>
            [T.int IntKind.u8 (Int.ofNat (R.t j)), T.int IntKind.u8 (Int.ofNat (R.d j)),
              T.int IntKind.u8 (Int.ofNat (R.a j)), T.int IntKind.u8 (Int.ofNat (R.o j))])
          c,
        T.nils, T.int IntKind.i64 (0 : Int)]
      []
      [T.view (4 : Nat) R.n
          (fun j =>
            [T.int IntKind.u8 (Int.ofNat (R.t j)), T.int IntKind.u8 (Int.ofNat (R.d j)),
              T.int IntKind.u8 (Int.ofNat (R.a j)), T.int IntKind.u8 (Int.ofNat (R.o j))])
          c,
        T.nils, T.int IntKind.i64 (0 : Int)]
      [] then
    some (bif v == v && ((0 : Nat) + m).ble nd then
      T.fresh true (4 : Nat) (nd - (0 : Nat)) (fun j => get ((0 : Nat) + j)) m none
    else T.undef)
    else
    none) from by kernel_rfl) (by
      refine bift (weakF_of ⟨rfl, .refl _⟩) ?_
      (repeat (first | (refine bift (by first | assumption | omega | (simp (disch := omega) only [wr64, wr8, wr16, wr32, ofNatE, toNatE, toNatE1, Bool.and_eq_true, Bool.or_eq_true, Bool.not_eq_true', decide_eq_true_eq, decide_eq_false_iff_not, nble, nblt, nbeq, Nat.zero_add, Nat.add_zero, Int.zero_add, Int.add_zero, List.length_cons, List.length_nil, true_and, and_true, Nat.reduceAdd, and_self]; done) | (simp (disch := omega) only [wr64, wr8, wr16, wr32, ofNatE, toNatE, toNatE1, Bool.and_eq_true, Bool.or_eq_true, Bool.not_eq_true', decide_eq_true_eq, decide_eq_false_iff_not, nble, nblt, nbeq, Nat.zero_add, Nat.add_zero, Int.zero_add, Int.add_zero, List.length_cons, List.length_nil, true_and, and_true, Nat.reduceAdd, and_self]; omega)) ?_) | (refine biff (by first | assumption | (simp (disch := omega) only [wr64, wr8, wr16, wr32, ofNatE, toNatE, toNatE1, Bool.and_eq_true, Bool.or_eq_true, Bool.not_eq_true', decide_eq_true_eq, decide_eq_false_iff_not, nble, nblt, nbeq, Nat.zero_add, Nat.add_zero, Int.zero_add, Int.add_zero, List.length_cons, List.length_nil, true_and, and_true, Nat.reduceAdd, and_self]; done) | (simp (disch := omega) only [wr64, wr8, wr16, wr32, ofNatE, toNatE, toNatE1, Bool.and_eq_true, Bool.or_eq_true, Bool.not_eq_true', decide_eq_true_eq, decide_eq_false_iff_not, nble, nblt, nbeq, Nat.zero_add, Nat.add_zero, Int.zero_add, Int.add_zero, List.length_cons, List.length_nil, true_and, and_true, Nat.reduceAdd, and_self]; omega)) ?_)))
      first | rfl | (simp (disch := omega) only [wr64, wr8, wr16, wr32, ofNatE, Nat.zero_add, bleT, bltT, dT, dF, Bool.true_and, Bool.and_true, Bool.and_self, cond_true, cond_false, Nat.sub_zero, beq_self_eq_true]; done) | (simp (disch := omega) only [wr64, wr8, wr16, wr32, ofNatE, Nat.zero_add, bleT, bltT, dT, dF, Bool.true_and, Bool.and_true, Bool.and_self, cond_true, cond_false, Nat.sub_zero, beq_self_eq_true]; rfl)))).frz
    refine this.resTo (.new (.view (.inl rfl) fun j hj => ?_))
    rw [Nat.zero_add, hg j hj]
    exact .refl _
end Go.Ab

namespace Go.Ab
theorem ordEx : ordL exL.du 4 = [1, 0, 3, 2] := by
  have e : List.range 4 = [0, 1, 2, 3] := rfl
  unfold ordL
  rw [e]
  simp [List.mergeSort, List.MergeSort.Internal.splitInTwo, List.merge, dueLt, exL]
theorem wstEx1 : wst exL (fun j => [1, 0, 3, 2].getD j 0) 4 = 2 := by decide +kernel
theorem wstEx2 : wst exL (fun j => j) 4 = 4 := by decide +kernel
theorem pstEx : pst exL (fun j => [1, 0, 3, 2].getD j 0) 4 = ([1, 3, 2], 6, [0]) := by decide +kernel
theorem srtEx : srtN [0] = [0] := by decide +kernel
theorem abEx : abL 0 2 = [0, 1] := by decide +kernel
theorem sltEx : (List.range 4).map (slt exL (fun j => [1, 0, 3, 2].getD j 0) 2) = [(0, 0, 2), (1, 0, 4), (0, 2, 3), (0, 3, 6)] := by decide +kernel
theorem prmEx : (gvR (plst exL (fun j => [1, 0, 3, 2].getD j 0) 2 4) 2 0 0 2).2.2 = 6 := by decide +kernel
end Go.Ab

namespace Go.Ab
open Go.Proofs
def o4 : T := .view 1 4 (fun j => [.int .i64 ([1, 0, 3, 2].getD j 0)]) (some 4)
def d3 : T := .view 1 3 (fun j => [.int .i64 ([1, 3, 2].getD j 0)]) (some 3)
def e1' : T := .view 1 1 (fun j => [.int .i64 ([0].getD j 0)]) (some 1)
def s4 : T := .view 4 4 (fun j => [[T.int .i64 1, .int .i64 0, .int .i64 0, .int .i64 2], [T.int .i64 0, .int .i64 1, .int .i64 0, .int .i64 4], [T.int .i64 3, .int .i64 0, .int .i64 2, .int .i64 3], [T.int .i64 2, .int .i64 0, .int .i64 3, .int .i64 6]].getD j []) (some 4)
/-- The lateness of the arguments. -/
def cellN : List T → Nat
  | [.int _ z] => z.toNat
  | _ => 0
def lateVF (L : JL) : List T → Int
  | [_, .view _ m g _] => wst L (fun j => cellN (g j)) m
  | _ => 0
def gE : Nat → List T := fun j => [.int .i64 (exL.tm j), .int .i64 (exL.du j), .int .i64 (exL.af j), .int .u32 (exL.on j)]
noncomputable def callI (p : List T → Prop) (vF : List T → Int) (args : List T) : Tree := .ite (propF p args) (.ret (.tup [.int .i64 (vF args), .int .i64 0])) .none
noncomputable def K12 (xF : T) (vF : List T → Int) (p21 p10 p11 p13 p16 p17 p15 : List T → Prop) : Orc :=
  ((((((noneO.add 21 (callP p21 (.new xF))).add 10 (callP p10 (.tup [o4, .int .i64 0]))).add 11 (callI p11 vF)).add 13 (callP p13 (.tup [.new d3, .new e1', .int .i64 0]))).add 16 (callP p16 (.tup [s4, .int .i64 0]))).add 17 (callP p17 (.tup [.int .i64 6, .int .i64 0]))).add 15 (callP p15 (.bool true))
theorem callI_told {P : Program} {Gl : Nat → Option (List T)} {f : FuncId} {p : List T → Prop} {vF : List T → Int} (h : ∀ a, p a → ToldOk P Gl f a (.tup [.int .i64 (vF a), .int .i64 0])) : ∀ args r, (callI p vF args).run some = some r → ToldOk P Gl f args r := by
  intro args r hr
  unfold callI at hr
  simp only [Tree.run] at hr
  obtain ⟨hc, hr⟩ := bif_none hr
  obtain rfl := Option.some.inj hr
  exact h _ (propF_iff.1 hc)
theorem told_predI (P : Program) (Gl : Nat → Option (List T)) (f : FuncId) (vF : List T → Int) : ∃ p : List T → Prop, p = fun z => ToldOk P Gl f z (.tup [.int .i64 (vF z), .int .i64 0]) := ⟨_, rfl⟩
theorem predI_yes {P : Program} {Gl : Nat → Option (List T)} {f : FuncId} {vF : List T → Int} {p : List T → Prop} (h : p = fun z => ToldOk P Gl f z (.tup [.int .i64 (vF z), .int .i64 0])) {a : List T} {v : Int} (t : ToldOk P Gl f a (.tup [.int .i64 v, .int .i64 0])) (hv : vF a = v) : propF p a = true := propF_iff.2 (by subst hv; rw [h]; exact t)
theorem predI_told {P : Program} {Gl : Nat → Option (List T)} {f : FuncId} {vF : List T → Int} {p : List T → Prop} (h : p = fun z => ToldOk P Gl f z (.tup [.int .i64 (vF z), .int .i64 0])) : ∀ a, p a → ToldOk P Gl f a (.tup [.int .i64 (vF a), .int .i64 0]) := fun a ha => by rw [h] at ha; exact ha
theorem c4 {p : Nat → Prop} (h0 : p 0) (h1 : p 1) (h2 : p 2) (h3 : p 3) : ∀ j, j < 4 → p j := fun j hj => by
  obtain rfl | rfl | rfl | rfl : j = 0 ∨ j = 1 ∨ j = 2 ∨ j = 3 := by omega
  all_goals assumption
theorem c3 {p : Nat → Prop} (h0 : p 0) (h1 : p 1) (h2 : p 2) : ∀ j, j < 3 → p j := fun j hj => by
  obtain rfl | rfl | rfl : j = 0 ∨ j = 1 ∨ j = 2 := by omega
  all_goals assumption
theorem c1 {p : Nat → Prop} (h0 : p 0) : ∀ j, j < 1 → p j := fun j hj => by
  obtain rfl : j = 0 := by omega
  assumption
theorem oNEx : oN exL = fun j => [1, 0, 3, 2].getD j 0 := by
  unfold oN
  rw [show exL.n = 4 from rfl, ordEx]
theorem ex10 : ToldOk P41 G41 10 [.view 4 4 gE (some 4)] (.tup [o4, .int .i64 0]) := by
  have h : ToldOk P41 G41 10 [.view 4 4 gE (some 4)] (.tup [iv 4 (ordI exL) (some 4), .int .i64 0]) := orderT exL (some 4) exOk
  have e : ordI exL = fun j => (([1, 0, 3, 2].getD j 0 : Nat) : Int) := by
    unfold ordI
    rw [show exL.n = 4 from rfl, ordEx]
  rw [e] at h
  exact h.tupTo (.cons (.view (.view (.inl rfl) (c4 (.refl _) (.refl _) (.refl _) (.refl _)))) (.cons (.refl _) .nil))
theorem ex11 (m : Nat) (o : Nat → Nat) (c2 : Option Nat) (hm : m ≤ 4) (ho : ∀ j, j < m → o j < 4) (hd : ∀ i j, i < j → j < m → o i ≠ o j) (g : Nat → List T) (hg : ∀ j, j < m → g j = [.int .i64 (o j : Nat)]) : ToldOk P41 G41 11 [.view 4 4 gE (some 4), .view 1 m g c2] (.tup [.int .i64 (wst exL o m), .int .i64 0]) := by
  have h : ToldOk P41 G41 11 [.view 4 4 gE (some 4), ov m o c2] (.tup [.int .i64 (wst exL o m), .int .i64 0]) := lateT exL (some 4) m o c2 exOk (by omega) ho hd
  exact h.sim (.cons (.refl _) (.cons (.view (.inl rfl) fun j hj => by rw [hg j hj]; exact .refl _) .nil))
theorem ex13 : ToldOk P41 G41 13 [.view 4 4 gE (some 4)] (.tup [.new d3, .new e1', .int .i64 0]) := by
  have h := punT exL (some 4) exOk (fun j => [1, 0, 3, 2].getD j 0) (fun j _ => by rw [show exL.n = 4 from rfl, ordEx])
  rw [show exL.n = 4 from rfl, pstEx, srtEx] at h
  have h : ToldOk P41 G41 13 [.view 4 4 gE (some 4)] (.tup [.new (lv [1, 3, 2]), .new (lv [0]), .int .i64 0]) := h
  refine h.tupTo (.cons (.new (.view (.inl rfl) fun j hj => ?_)) (.cons (.new (.view (.inl rfl) fun j hj => ?_)) (.cons (.refl _) .nil)))
  · have hj : j < 3 := hj
    obtain rfl | rfl | rfl : j = 0 ∨ j = 1 ∨ j = 2 := by omega
    all_goals exact .refl _
  · have hj : j < 1 := hj
    obtain rfl : j = 0 := by omega
    exact .refl _
theorem exAb : ∀ i, i < exL.n → 0 < (abL (exL.on i) 2).length := fun i _ => by
  show 0 < (abL 0 2).length
  rw [abEx]; decide
theorem ex16 : ToldOk P41 G41 16 [.view 4 4 gE (some 4), .int .i64 2] (.tup [s4, .int .i64 0]) := by
  have h := PlanT exL (some 4) 2 exOk (by omega) exAb
  unfold svT scells at h
  rw [oNEx] at h
  have hs := sltEx
  have e : ∀ j, j < 4 → slt exL (fun j => [1, 0, 3, 2].getD j 0) 2 j = [((0 : Int), (0 : Int), (2 : Int)), (1, 0, 4), (0, 2, 3), (0, 3, 6)].getD j (0, 0, 0) := fun j hj => by
    rw [← hs, List.getD_eq_getElem?_getD, List.getElem?_map, List.getElem?_range hj]
    rfl
  refine h.tupTo (.cons (.view (.view (.inl rfl) (c4 ?_ ?_ ?_ ?_))) (.cons (.refl _) .nil))
  · rw [e 0 (by omega)]; exact .refl _
  · rw [e 1 (by omega)]; exact .refl _
  · rw [e 2 (by omega)]; exact .refl _
  · rw [e 3 (by omega)]; exact .refl _
theorem ex17 : ToldOk P41 G41 17 [.view 4 4 gE (some 4), .int .i64 2, .agg [.int .i64 2, .int .i64 9, .int .i64 0, .int .u32 0]] (.tup [.int .i64 6, .int .i64 0]) := by
  have h := PromT exL (some 4) 2 2 9 0 0 exOk (by decide) (by omega) exAb (by rw [abEx]; decide) (by omega) (by omega) (by omega) (by omega)
  have e : prm exL 2 2 0 0 = 6 := by
    unfold prm
    rw [oNEx]
    exact prmEx
  rw [e] at h
  exact h
theorem ex15 (n : Nat) (x : Nat → List T) (y : Nat → List T) (z : Nat → Int) (c : Option Nat) (hn : n ≤ 4) (hx : ∀ j, j < n → x j = [.int .i64 (z j)]) (hy : ∀ j, j < n → y j = [.int .i64 (z j)]) : ToldOk P41 G41 15 [.view 1 n x (some n), .view 1 n y c] (.bool true) :=
  (sameT n z z c (by omega) (fun _ _ => rfl)).sim (.cons (.view (.inl rfl) fun j hj => by rw [hx j hj]; exact .refl _) (.cons (.view (.inl rfl) fun j hj => by rw [hy j hj]; exact .refl _) .nil))
theorem livesT : ToldOk P41 G41 12 [] (.bool true) := by
  have h21 : ToldOk P41 G41 21 [] (.new (.view 4 4 gE (some 4))) := exT
  have h10 := ex10
  have h11 := ex11
  have h13 := ex13
  have h16 := ex16
  have h17 := ex17
  generalize gE = g at *
  obtain ⟨p21, e21⟩ := told_pred P41 G41 21 (.new (.view 4 4 g (some 4)))
  obtain ⟨p10, e10⟩ := told_pred P41 G41 10 (.tup [o4, .int .i64 0])
  obtain ⟨p11, e11⟩ := told_predI P41 G41 11 (lateVF exL)
  obtain ⟨p13, e13⟩ := told_pred P41 G41 13 (.tup [.new d3, .new e1', .int .i64 0])
  obtain ⟨p16, e16⟩ := told_pred P41 G41 16 (.tup [s4, .int .i64 0])
  obtain ⟨p17, e17⟩ := told_pred P41 G41 17 (.tup [.int .i64 6, .int .i64 0])
  obtain ⟨p15, e15⟩ := told_pred P41 G41 15 (.bool true)
  refine stepL_told hm41 hn41 (K := K12 (.view 4 4 g (some 4)) (lateVF exL) p21 p10 p11 p13 p16 p17 p15) (told_add (told_add (told_add (told_add (told_add (told_add (told_add none_ok (callP_told (told_predT e21))) (callP_told (told_predT e10))) (callI_told (predI_told e11))) (callP_told (told_predT e13))) (callP_told (told_predT e16))) (callP_told (told_predT e17))) (callP_told (told_predT e15))) (A := A41) (m := 0) (by kernel_rfl) loops0 ?_
  have v1 : lateVF exL [.view 4 4 g (some 4), o4] = 2 := wstEx1
  have v2 : lateVF exL [.view 4 4 g (some 4), .view 1 4 (fun j => [[T.int .i64 (0 : Int)], [T.int .i64 (1 : Int)], [T.int .i64 (2 : Int)], [T.int .i64 (3 : Int)]].getD (0 + j) []) (some 4)] = 4 := by
    show wst exL _ 4 = 4
    decide +kernel
  unfold o4 at v1
  have t1 := h11 4 (fun j => [1, 0, 3, 2].getD j 0) (some 4) (by omega) (c4 (by decide) (by decide) (by decide) (by decide)) (fun i j hi hj => (by decide : ∀ j, j < 4 → ∀ i, i < j → [1, 0, 3, 2].getD i 0 ≠ [1, 0, 3, 2].getD j 0) j hj i hi) (fun j => [.int .i64 ([1, 0, 3, 2].getD j 0)]) (c4 rfl rfl rfl rfl)
  have t2 := h11 4 (fun j => j) (some 4) (by omega) (fun j hj => hj) (fun i j hi _ e => by omega) (fun j => [[T.int .i64 (0 : Int)], [T.int .i64 (1 : Int)], [T.int .i64 (2 : Int)], [T.int .i64 (3 : Int)]].getD (0 + j) []) (c4 rfl rfl rfl rfl)
  rw [wstEx1] at t1
  rw [wstEx2] at t2
  have y1 := predI_yes e11 t1 v1
  have y2 := predI_yes e11 t2 v2
  generalize lateVF exL = vF at *
  refine Eq.trans (show stepL P41 G41 A41 (K12 (.view 4 4 g (some 4)) vF p21 p10 p11 p13 p16 p17 p15) 0 12 [] [] =
(    bif propF p21 [] then
    bif propF p10 [T.view (4 : Nat) (4 : Nat) g (some (4 : Nat))] then
    bif propF p11
      [T.view (4 : Nat) (4 : Nat) g (some (4 : Nat)),
        T.view (1 : Nat) (4 : Nat)
          (fun j => [T.int IntKind.i64 ([(1 : Int), (0 : Int), (3 : Int), (2 : Int)].getD j (0 : Int))])
          (some (4 : Nat))] then
    bif propF p11
      [T.view (4 : Nat) (4 : Nat) g (some (4 : Nat)),
        T.view (1 : Nat) (4 : Nat)
          (fun j =>
            [[T.int IntKind.i64 (0 : Int)], [T.int IntKind.i64 (1 : Int)], [T.int IntKind.i64 (2 : Int)],
                  [T.int IntKind.i64 (3 : Int)]].getD
              ((0 : Nat) + j) [])
          (some (4 : Nat))] then
    bif propF p13 [T.view (4 : Nat) (4 : Nat) g (some (4 : Nat))] then
    bif propF p16 [T.view (4 : Nat) (4 : Nat) g (some (4 : Nat)), T.int IntKind.i64 (2 : Int)] then
    bif propF p17
      [T.view (4 : Nat) (4 : Nat) g (some (4 : Nat)), T.int IntKind.i64 (2 : Int),
        T.agg
          [T.int IntKind.i64 (2 : Int), T.int IntKind.i64 (9 : Int), T.int IntKind.i64 (0 : Int),
            T.int IntKind.u32 (0 : Int)]] then
    bif propF p15
      [T.view (1 : Nat) (4 : Nat)
          (fun j => [T.int IntKind.i64 ([(1 : Int), (0 : Int), (3 : Int), (2 : Int)].getD j (0 : Int))]) (some (4 : Nat)),
        T.view (1 : Nat) (4 : Nat)
          (fun j =>
            [[T.int IntKind.i64 (1 : Int)], [T.int IntKind.i64 (0 : Int)], [T.int IntKind.i64 (3 : Int)],
                  [T.int IntKind.i64 (2 : Int)]].getD
              ((0 : Nat) + j) [])
          (some (4 : Nat))] then
    bif decide
      (vF
          [T.view (4 : Nat) (4 : Nat) g (some (4 : Nat)),
            T.view (1 : Nat) (4 : Nat)
              (fun j => [T.int IntKind.i64 ([(1 : Int), (0 : Int), (3 : Int), (2 : Int)].getD j (0 : Int))])
              (some (4 : Nat))] =
        (2 : Int)) then
    bif decide
      (vF
          [T.view (4 : Nat) (4 : Nat) g (some (4 : Nat)),
            T.view (1 : Nat) (4 : Nat)
              (fun j =>
                [[T.int IntKind.i64 (0 : Int)], [T.int IntKind.i64 (1 : Int)], [T.int IntKind.i64 (2 : Int)],
                      [T.int IntKind.i64 (3 : Int)]].getD
                  ((0 : Nat) + j) [])
              (some (4 : Nat))] =
        (4 : Int)) then
    bif propF p15
      [T.view (1 : Nat) (3 : Nat) (fun j => [T.int IntKind.i64 ([(1 : Int), (3 : Int), (2 : Int)].getD j (0 : Int))])
          (some (3 : Nat)),
        T.view (1 : Nat) (3 : Nat)
          (fun j =>
            [[T.int IntKind.i64 (1 : Int)], [T.int IntKind.i64 (3 : Int)], [T.int IntKind.i64 (2 : Int)]].getD
              ((0 : Nat) + j) [])
          (some (3 : Nat))] then
    bif propF p15
      [T.view (1 : Nat) (1 : Nat) (fun j => [T.int IntKind.i64 ([(0 : Int)].getD j (0 : Int))]) (some (1 : Nat)),
        T.view (1 : Nat) (1 : Nat) (fun j => [[T.int IntKind.i64 (0 : Int)]].getD ((0 : Nat) + j) []) (some (1 : Nat))] then
    some (T.bool true)
    else
    none
    else
    none
    else
    some (T.bool false)
    else
    some (T.bool false)
    else
    none
    else
    none
    else
    none
    else
    none
    else
    none
    else
    none
    else
    none
    else
    none) from by kernel_rfl) ?_
  refine bift (pred_yes e21 h21) ?_
  refine bift (pred_yes e10 h10) ?_
  refine bift y1 ?_
  refine bift y2 ?_
  refine bift (pred_yes e13 h13) ?_
  refine bift (pred_yes e16 h16) ?_
  refine bift (pred_yes e17 h17) ?_
  refine bift (pred_yes e15 (ex15 4 _ _ (fun j => [1, 0, 3, 2].getD j 0) _ (by omega) (c4 rfl rfl rfl rfl) (c4 rfl rfl rfl rfl))) ?_
  refine bift (dT v1) ?_
  refine bift (dT v2) ?_
  refine bift (pred_yes e15 (ex15 3 _ _ (fun j => [1, 3, 2].getD j 0) _ (by omega) (c3 rfl rfl rfl) (c3 rfl rfl rfl))) ?_
  refine bift (pred_yes e15 (ex15 1 _ _ (fun j => [0].getD j 0) _ (by omega) (c1 rfl) (c1 rfl))) ?_
  rfl
end Go.Ab

/- Orders of jobs: plain laws. -/
namespace Go.Ab
def tot (tm : Nat → Int) : List Nat → Int
  | [] => 0
  | x :: l => tm x + tot tm l
theorem tot_app (tm : Nat → Int) (l m : List Nat) : tot tm (l ++ m) = tot tm l + tot tm m := by
  induction l with
  | nil => simp [tot]
  | cons x l ih => simp only [List.cons_append, tot, ih]; omega
theorem tot_one (tm : Nat → Int) (x : Nat) : tot tm [x] = tm x := by simp [tot]
theorem tot_perm {tm : Nat → Int} {l m : List Nat} (h : l.Perm m) : tot tm l = tot tm m := by
  induction h with
  | nil => rfl
  | cons x _ ih => simp only [tot, ih]
  | swap x y l => simp only [tot]; omega
  | trans _ _ h1 h2 => omega
theorem tot_nonneg {tm : Nat → Int} {l : List Nat} (h : ∀ x ∈ l, 0 ≤ tm x) : 0 ≤ tot tm l := by
  induction l with
  | nil => exact Int.le_refl 0
  | cons x l ih =>
    have h1 := h x (by simp)
    have h2 := ih fun y hy => h y (by simp [hy])
    simp only [tot]; omega
theorem tot_erase {tm : Nat → Int} {l : List Nat} {x : Nat} (h : x ∈ l) : tot tm (l.erase x) = tot tm l - tm x := by
  have := tot_perm (tm := tm) (List.perm_cons_erase h)
  simp only [tot] at this
  omega
/-- The last one of some jobs is done behind all of them. -/
theorem last_of {tm : Nat → Int} {A : Nat → Bool} : ∀ {l : List Nat}, (∀ x ∈ l, 0 ≤ tm x) → (∃ x ∈ l, A x = true) → ∃ i, ∃ hi : i < l.length, A l[i] = true ∧ tot tm (l.filter A) ≤ tot tm (l.take (i + 1)) := by
  intro l
  induction l with
  | nil => intro _ ⟨x, hx, _⟩; cases hx
  | cons x l ih =>
    intro hp hA
    have hx := hp x (by simp)
    by_cases q : ∃ y ∈ l, A y = true
    · obtain ⟨i, hi, h1, h2⟩ := ih (fun y hy => hp y (by simp [hy])) q
      refine ⟨i + 1, by simpa using hi, by simpa using h1, ?_⟩
      rw [List.take_succ_cons, List.filter_cons]
      split
      · simp only [tot]; omega
      · simp only [tot]; omega
    · obtain ⟨y, hy, ha⟩ := hA
      rcases List.mem_cons.1 hy with rfl | hy
      · refine ⟨0, by simp, ha, ?_⟩
        rw [List.filter_cons, if_pos ha]
        have : l.filter A = [] := by
          rw [List.filter_eq_nil_iff]
          intro z hz hza
          exact q ⟨z, hz, hza⟩
        rw [this]
        simp [tot]
      · exact absurd ⟨y, hy, ha⟩ q
/-- What is done in time: each job of the list, in this order. -/
def Feas (tm du : Nat → Int) (l : List Nat) : Prop := ∀ i, ∀ hi : i < l.length, tot tm (l.take (i + 1)) ≤ du l[i]
theorem Feas.nil (tm du : Nat → Int) : Feas tm du [] := fun i hi => by simp at hi
theorem feas_snoc {tm du : Nat → Int} {l : List Nat} {x : Nat} : Feas tm du (l ++ [x]) ↔ Feas tm du l ∧ tot tm l + tm x ≤ du x := by
  constructor
  · intro h
    refine ⟨fun i hi => ?_, ?_⟩
    · have := h i (by simp; omega)
      rw [List.take_append_of_le_length (by omega), List.getElem_append_left hi] at this
      exact this
    · have := h l.length (by simp)
      rw [List.getElem_append_right (Nat.le_refl _)] at this
      simp only [Nat.sub_self, List.getElem_singleton] at this
      rw [List.take_of_length_le (by simp), tot_app, tot_one] at this
      exact this
  · intro ⟨h1, h2⟩ i hi
    simp only [List.length_append, List.length_singleton] at hi
    rcases Nat.lt_or_ge i l.length with q | q
    · rw [List.take_append_of_le_length (by omega), List.getElem_append_left q]
      exact h1 i q
    · obtain rfl : i = l.length := by omega
      rw [List.getElem_append_right (Nat.le_refl _), List.take_of_length_le (by simp), tot_app, tot_one]
      simpa using h2
theorem mem_take_lt {l : List Nat} {i : Nat} {x : Nat} (h : x ∈ l.take (i + 1)) : ∃ k, k ≤ i ∧ ∃ hk : k < l.length, l[k] = x := by
  obtain ⟨k, hk, e⟩ := List.mem_iff_getElem.1 h
  rw [List.length_take] at hk
  refine ⟨k, by omega, by omega, ?_⟩
  rw [← e, List.getElem_take]
/-- The jobs of a set, in an order by due time: their sum is not above the time at which the last of them is done in any order. -/
theorem late_of {tm du : Nat → Int} {l s : List Nat} (hp : ∀ x ∈ l, 0 ≤ tm x) (hn : l.Nodup) (hs : s.Nodup) (hsub : ∀ x ∈ s, x ∈ l) (hso : s.Pairwise fun x y => du x ≤ du y) {i : Nat} (hi : i < s.length) :
    ∃ k, ∃ hk : k < l.length, l[k] ∈ s ∧ tot tm (s.take (i + 1)) ≤ tot tm (l.take (k + 1)) ∧ du l[k] ≤ du s[i] := by
  have hin : ∀ x, x ∈ s.take (i + 1) → x ∈ s := fun x hx => List.mem_of_mem_take hx
  obtain ⟨k, hk, h1, h2⟩ := last_of (tm := tm) (A := fun x => decide (x ∈ s.take (i + 1))) hp ⟨s[i], hsub _ (List.getElem_mem _), by
    rw [decide_eq_true_eq]
    exact List.mem_iff_getElem.2 ⟨i, by rw [List.length_take]; omega, by rw [List.getElem_take]⟩⟩
  rw [decide_eq_true_eq] at h1
  refine ⟨k, hk, hin _ h1, ?_, ?_⟩
  · have hpm : (l.filter fun x => decide (x ∈ s.take (i + 1))).Perm (s.take (i + 1)) := by
      refine (List.perm_ext_iff_of_nodup (hn.sublist List.filter_sublist) (hs.sublist (List.take_sublist _ _))).2 fun x => ?_
      rw [List.mem_filter, decide_eq_true_eq]
      exact ⟨fun h => h.2, fun h => ⟨hsub x (hin x h), h⟩⟩
    rw [tot_perm hpm] at h2
    exact h2
  · obtain ⟨j, hj, hjl, e⟩ := mem_take_lt h1
    rw [← e]
    rcases Nat.lt_or_ge j i with q | q
    · exact List.pairwise_iff_getElem.1 hso j i hjl hi q
    · obtain rfl : j = i := by omega
      exact Int.le_refl _
/-- Moore and Hodgson's procedure. -/
structure MH (tm du : Nat → Int) (done p : List Nat) : Prop where
  sub : done.Sublist p
  feas : Feas tm du done
  opt : ∀ s, s.Sublist p → Feas tm du s → ∃ E : List Nat, E.Nodup ∧ (∀ x ∈ E, x ∈ done) ∧ E.length = s.length ∧ tot tm E ≤ tot tm s
theorem MH.nil (tm du : Nat → Int) : MH tm du [] [] := ⟨.slnil, .nil _ _, fun s hs _ => by
  obtain rfl := List.sublist_nil.1 hs
  exact ⟨[], by simp, by simp, rfl, Int.le_refl _⟩⟩
theorem sublist_snoc {s p : List Nat} {j : Nat} (h : s.Sublist (p ++ [j])) : s.Sublist p ∨ ∃ t, s = t ++ [j] ∧ t.Sublist p := by
  obtain ⟨l1, l2, rfl, h1, h2⟩ := List.sublist_append_iff.1 h
  match l2, h2 with
  | [], _ => exact .inl (by simpa using h1)
  | [x], h2 =>
    have : x = j := by
      have := h2.subset (List.mem_singleton_self x)
      simpa using this
    subst this
    exact .inr ⟨l1, rfl, h1⟩
  | x :: y :: r, h2 => have := h2.length_le; simp at this
theorem MH.step_in {tm du : Nat → Int} {done p : List Nat} {j : Nat} (h : MH tm du done p) (hn : (p ++ [j]).Nodup) (ht : tot tm done + tm j ≤ du j) : MH tm du (done ++ [j]) (p ++ [j]) := by
  have hj : j ∉ done := fun hm => by
    have := h.sub.subset hm
    rw [List.nodup_append] at hn
    exact hn.2.2 j this j (by simp) rfl
  refine ⟨h.sub.append (List.Sublist.refl _), feas_snoc.2 ⟨h.feas, ht⟩, fun s hs hf => ?_⟩
  rcases sublist_snoc hs with q | ⟨t, rfl, q⟩
  · obtain ⟨E, e1, e2, e3, e4⟩ := h.opt s q hf
    exact ⟨E, e1, fun x hx => by simp [e2 x hx], e3, e4⟩
  · obtain ⟨f1, f2⟩ := feas_snoc.1 hf
    obtain ⟨E, e1, e2, e3, e4⟩ := h.opt t q f1
    refine ⟨E ++ [j], ?_, ?_, by simp [e3], by rw [tot_app, tot_app]; omega⟩
    · rw [List.nodup_append]
      refine ⟨e1, by simp, fun a ha b hb => ?_⟩
      obtain rfl := List.mem_singleton.1 hb
      exact fun e => hj (e2 _ (e ▸ ha))
    · intro x hx
      rw [List.mem_append] at hx ⊢
      exact hx.imp (e2 x) id
theorem getD_eq {l : List Nat} {i : Nat} (h : i < l.length) : l.getD i 0 = l[i] := by
  rw [List.getD_eq_getElem?_getD, List.getElem?_eq_getElem h]; rfl
theorem mem_eraseIdx_of {l : List Nat} {g x : Nat} (hg : g < l.length) (hx : x ∈ l) (hne : x ≠ l[g]) : x ∈ l.eraseIdx g := by
  obtain ⟨k, hk, e⟩ := List.mem_iff_getElem.1 hx
  rw [List.mem_eraseIdx_iff_getElem]
  refine ⟨k, hk, ?_, e⟩
  intro ek
  subst ek
  exact hne e.symm
theorem eraseIdx_perm {l : List Nat} {g : Nat} (hg : g < l.length) : l.Perm (l[g] :: l.eraseIdx g) := by
  induction l generalizing g with
  | nil => simp at hg
  | cons x l ih =>
    cases g with
    | zero => exact .refl _
    | succ g =>
      have := ih (g := g) (by simpa using hg)
      exact (this.cons x).trans (.swap _ _ _)
theorem tot_eraseIdx {tm : Nat → Int} {l : List Nat} {g : Nat} (hg : g < l.length) : tot tm (l.eraseIdx g) = tot tm l - tm l[g] := by
  have := tot_perm (tm := tm) (eraseIdx_perm hg)
  simp only [tot] at this
  omega
theorem feas_eraseIdx {tm du : Nat → Int} {l : List Nat} {j g : Nat} (hp : ∀ x ∈ l ++ [j], 0 ≤ tm x) (hf : Feas tm du l) (hdu : ∀ x ∈ l, du x ≤ du j) (hg : g < (l ++ [j]).length) (hmax : ∀ x ∈ l ++ [j], tm x ≤ tm ((l ++ [j])[g])) : Feas tm du ((l ++ [j]).eraseIdx g) := by
  intro i hi
  rw [List.length_eraseIdx, if_pos hg] at hi
  have hll : (l ++ [j]).length = l.length + 1 := by simp
  have hil : i < l.length := by omega
  rcases Nat.lt_or_ge i g with q | q
  · have e1 : ((l ++ [j]).eraseIdx g).take (i + 1) = l.take (i + 1) := by
      rw [List.eraseIdx_eq_take_drop_succ, List.take_append_of_le_length (by rw [List.length_take]; omega), List.take_take, show min (i + 1) g = i + 1 by omega, List.take_append_of_le_length (by omega)]
    rw [e1, List.getElem_eraseIdx_of_lt (by rw [List.length_eraseIdx, if_pos hg]; omega) q, List.getElem_append_left hil]
    exact hf i hil
  · have e1 : tot tm (((l ++ [j]).eraseIdx g).take (i + 1)) = tot tm ((l ++ [j]).take (i + 2)) - tm ((l ++ [j])[g]) := by
      have : ((l ++ [j]).eraseIdx g).take (i + 1) = ((l ++ [j]).take (i + 2)).eraseIdx g := by
        rw [List.eraseIdx_eq_take_drop_succ, List.eraseIdx_eq_take_drop_succ, List.take_append, List.take_take, List.take_take, List.length_take, show min (i + 1) g = g by omega, show min g (i + 2) = g by omega, List.take_drop, List.length_append, List.length_singleton, show g + 1 + (i + 1 - min g (l.length + 1)) = i + 2 by rw [hll] at hg; omega]
      rw [this, tot_eraseIdx (by rw [List.length_take]; omega), List.getElem_take]
    rw [e1, List.getElem_eraseIdx_of_ge (by rw [List.length_eraseIdx, if_pos hg]; omega) q]
    have hg0 : 0 ≤ tm ((l ++ [j])[g]) := hp _ (List.getElem_mem _)
    generalize tm ((l ++ [j])[g]) = tg at *
    rcases Nat.lt_or_ge (i + 1) l.length with q1 | q1
    · rw [List.take_append_of_le_length (by omega), List.getElem_append_left q1]
      have : tot tm (l.take (i + 2)) ≤ du l[i + 1] := hf (i + 1) q1
      omega
    · obtain e : i + 1 = l.length := by omega
      have h1 := hmax j (by simp)
      have h2 := hf i hil
      have h3 := hdu l[i] (List.getElem_mem _)
      rw [show l.take (i + 1) = l from by rw [e]; exact List.take_length] at h2
      rw [List.take_of_length_le (by omega), tot_app, tot_one, List.getElem_append_right (by omega)]
      simp only [List.getElem_singleton]
      omega
theorem exists_not_mem {E m : List Nat} (hE : E.Nodup) (hm : m.Nodup) (hs : ∀ x ∈ E, x ∈ m) (hne : ¬ E.Perm m) : ∃ x ∈ m, x ∉ E := by
  by_cases q : ∃ x ∈ m, x ∉ E
  · exact q
  · exfalso
    refine hne ((List.perm_ext_iff_of_nodup hE hm).2 fun x => ⟨hs x, fun hx => ?_⟩)
    by_cases hxe : x ∈ E
    · exact hxe
    · exact absurd ⟨x, hx, hxe⟩ q
theorem MH.step_out {tm du : Nat → Int} {done p : List Nat} {j g : Nat} (h : MH tm du done p) (hn : (p ++ [j]).Nodup) (hp : ∀ x ∈ p ++ [j], 0 ≤ tm x) (hdu : ∀ x ∈ p, du x ≤ du j) (ht : ¬ tot tm done + tm j ≤ du j)
    (hg : g < (done ++ [j]).length) (hmax : ∀ x ∈ done ++ [j], tm x ≤ tm ((done ++ [j])[g])) : MH tm du ((done ++ [j]).eraseIdx g) (p ++ [j]) := by
  have hsubJ : (done ++ [j]).Sublist (p ++ [j]) := h.sub.append (List.Sublist.refl _)
  have hnd : (done ++ [j]).Nodup := hn.sublist hsubJ
  have hj : j ∉ done := fun hm => by
    rw [List.nodup_append] at hnd
    exact hnd.2.2 j hm j (by simp) rfl
  -- a list below done ++ [j] that is not all of it may be brought below what is kept
  have key : ∀ E : List Nat, E.Nodup → (∀ x ∈ E, x ∈ done ++ [j]) → ¬ E.Perm (done ++ [j]) → ∃ F : List Nat, F.Nodup ∧ (∀ x ∈ F, x ∈ (done ++ [j]).eraseIdx g) ∧ F.length = E.length ∧ tot tm F ≤ tot tm E := by
    intro E hE hs hne
    by_cases q : (done ++ [j])[g] ∈ E
    · obtain ⟨x, hx, hxE⟩ := exists_not_mem hE hnd hs hne
      refine ⟨x :: E.erase (done ++ [j])[g], ?_, ?_, ?_, ?_⟩
      · rw [List.nodup_cons]
        exact ⟨fun hm => hxE (List.mem_of_mem_erase hm), hE.erase _⟩
      · intro y hy
        rcases List.mem_cons.1 hy with rfl | hy
        · exact mem_eraseIdx_of hg hx fun e => hxE (e ▸ q)
        · obtain ⟨y1, y2⟩ := hE.mem_erase_iff.1 hy
          exact mem_eraseIdx_of hg (hs y y2) y1
      · rw [List.length_cons, List.length_erase_of_mem q]
        have := List.length_pos_of_mem q
        omega
      · simp only [tot]
        rw [tot_erase q]
        have := hmax x hx
        omega
    · exact ⟨E, hE, fun x hx => mem_eraseIdx_of hg (hs x hx) fun e => q (e ▸ hx), rfl, Int.le_refl _⟩
  refine ⟨(List.eraseIdx_sublist _ _).trans hsubJ, feas_eraseIdx (fun x hx => hp x (hsubJ.subset hx)) h.feas (fun x hx => hdu x (h.sub.subset hx)) hg hmax, fun s hs hf => ?_⟩
  rcases sublist_snoc hs with q | ⟨t, rfl, q⟩
  · obtain ⟨E, e1, e2, e3, e4⟩ := h.opt s q hf
    obtain ⟨F, f1, f2, f3, f4⟩ := key E e1 (fun x hx => by simp [e2 x hx]) fun hpm => hj (e2 j (hpm.mem_iff.2 (by simp)))
    exact ⟨F, f1, f2, by omega, by omega⟩
  · obtain ⟨c1, c2⟩ := feas_snoc.1 hf
    obtain ⟨E, e1, e2, e3, e4⟩ := h.opt t q c1
    have e5 : (E ++ [j]).Nodup := by
      rw [List.nodup_append]
      refine ⟨e1, by simp, fun a ha b hb => ?_⟩
      obtain rfl := List.mem_singleton.1 hb
      exact fun e => hj (e2 _ (e ▸ ha))
    obtain ⟨F, f1, f2, f3, f4⟩ := key (E ++ [j]) e5 (fun x hx => by
      rw [List.mem_append] at hx ⊢
      exact hx.imp (e2 x) id) fun hpm => by
        have := tot_perm (tm := tm) hpm
        rw [tot_app, tot_app, tot_one] at this
        omega
    refine ⟨F, f1, f2, by rw [f3]; simp [e3], ?_⟩
    rw [tot_app, tot_one] at f4 ⊢
    omega
theorem MH.best {tm du : Nat → Int} {done p s : List Nat} (h : MH tm du done p) (hs : s.Sublist p) (hf : Feas tm du s) : s.length ≤ done.length := by
  obtain ⟨E, e1, e2, e3, _⟩ := h.opt s hs hf
  rw [← e3]
  exact e1.length_le_of_subset e2
/-- What is in time in an order, put into the order by due time, is done in time. -/
theorem feas_ontime {tm du : Nat → Int} {l p : List Nat} (hp : ∀ x ∈ l, 0 ≤ tm x) (hl : l.Perm p) (hn : p.Nodup) (hso : p.Pairwise fun x y => du x ≤ du y) (A : Nat → Bool) (hA : ∀ k, ∀ hk : k < l.length, A l[k] = true → tot tm (l.take (k + 1)) ≤ du l[k]) : Feas tm du (p.filter A) := by
  intro i hi
  obtain ⟨k, hk, h1, h2, h3⟩ := late_of (tm := tm) (du := du) hp (hl.nodup_iff.2 hn) (hn.sublist List.filter_sublist) (s := p.filter A) (fun x hx => hl.mem_iff.2 (List.mem_filter.1 hx).1) (hso.sublist List.filter_sublist) hi
  have := hA k hk (List.mem_filter.1 h1).2
  omega
end Go.Ab

namespace Go.Ab
open Go.Proofs
def v7 (mv : T) (L : JL) (o : Nat → Nat) (i : Int) : List T := [mv, jv L none, ov L.n o (some L.n), .ptr 0 0 0 0, .int .i64 i]
def e7 (mv : T) (L : JL) (o : Nat → Nat) : List T := [mv, .undef, jv L none, ov L.n o (some L.n)]
def mvT (nm : Nat) (mm : Nat → Nat) (cm : Option Nat) : T := .view 1 nm (fun j => [.int .u8 (mm j)]) cm
def v16 (mv x5 x6 : T) (n : Nat) (i : Int) : List T := [mv, x5, x6, .own 2 0 0 n none, .int .i64 i]
def e16 (x5 x6 : T) (n : Nat) : List T := [x5, x6, .own 2 0 0 n none]
def v22 (L : JL) (x6 : T) (a b i : Int) : List T := [jv L none, x6, .own 2 0 0 L.n none, .int .i64 a, .int .i64 b, .int .i64 i]
def e22 (L : JL) (x6 : T) (b : Int) : List T := [jv L none, x6, .own 2 0 0 L.n none, .int .i64 b]
def eb (v : Nat) : Blk := ⟨v, 1, 0, fun _ => [], true, true⟩
/-- An order of the first numbers. -/
structure Ordr (n : Nat) (d : Nat → Nat) : Prop where
  lt : ∀ j, j < n → d j < n
  ne : ∀ i j, i < j → j < n → d i ≠ d j
def tra (a b j : Nat) : Nat := if j = b then a else if j = a then b else j
def swp (d : Nat → Nat) (a b : Nat) : Nat → Nat := fun j => d (tra a b j)
theorem Ordr.swp {n a b : Nat} {d : Nat → Nat} (h : Ordr n d) (ha : a < n) (hb : b < n) : Ordr n (swp d a b) := by
  have tl : ∀ j, j < n → tra a b j < n := fun j hj => by unfold tra; split; exact ha; split; exact hb; exact hj
  refine ⟨fun j hj => h.lt _ (tl j hj), fun i j hij hj e => ?_⟩
  have ti : tra a b i ≠ tra a b j := by unfold tra; split <;> split <;> (try split) <;> (try split) <;> omega
  have e : d (tra a b i) = d (tra a b j) := e
  rcases Nat.lt_trichotomy (tra a b i) (tra a b j) with q | q | q
  · exact h.ne _ _ q (tl j hj) e
  · exact ti q
  · exact h.ne _ _ q (tl i (by omega)) e.symm
noncomputable def K3 (p9 p10 p11 p12 : List T → Prop) (xF : T) (x6 : T) (vF : List T → Int) : Orc :=
  (((noneO.add 9 (callP p9 (.new xF))).add 10 (callP p10 (.tup [x6, .int .i64 0]))).add 11 (callI p11 vF)).add 12 (callP p12 (.bool true))
end Go.Ab

namespace Go.Ab
open Go.Proofs
theorem l3a (mv : T) (L : JL) (hn : L.n ≤ 40) (o : Nat → Nat) (ho : Ordr L.n o) (hs : ∀ i, i + 1 < L.n → L.du (o i) < L.du (o (i + 1)) ∨ (L.du (o i) = L.du (o (i + 1)) ∧ o i < o (i + 1))) :
    LoopOk P41 G41 (A41 3) 3 7 (litS (v7 mv L o 0) [bb 40 fun _ => false] (.exit 0) (e7 mv L o) [bb 40 (seenF o L.n)]) := by
  refine loop_steps hm41 (by kernel_rfl) (fun i => v7 mv L o i) (fun i => [bb 40 (seenF o i)]) (n := L.n) (fun i hi => ?_) ?_
  · have hoi := ho.lt i hi
    have hseen : seenF o i (o i) = false := by
      rw [Bool.eq_false_iff]
      intro h
      obtain ⟨k, k1, k2⟩ := seenF_iff.1 h
      exact ho.ne k i k1 hi k2
    have sb : ∀ j, seenF o (i + 1) j = (bif j == o i then true else seenF o i j) := by
      intro j
      unfold seenF
      rw [List.range_succ, List.any_append]
      by_cases q : j = o i
      · subst q; simp
      · rw [beq_eq_false_iff_ne.2 q]; simp [show o i ≠ j from fun e => q e.symm]
    generalize hx : seenF o i = x at *
    refine Step.mk0 (A := A41) (m := 0) none_ok rfl rfl loops0 (h1 := [⟨0, 1, 40, fun j => [.bool (bif j == o i then true else x j)], true, false⟩]) (Eq.trans (show iterR P41 G41 A41 noneO 0 3 [] 7 (v7 mv L o i) [bb 40 x] =
(    bif decide (Int.ofNat i < Int.ofNat L.n) then
    bif decide ((0 : Int) ≤ Int.ofNat i) && decide (Int.ofNat i < Int.ofNat L.n) then
    bif decide ((0 : Int) ≤ Int.ofNat i) && decide (Int.ofNat i < Int.ofNat L.n) then
    bif decide (Int.ofNat L.n ≤ Int.ofNat (o i)) then
    some ((Ex.ret,
      [mv, T.bool false,
        T.view (4 : Nat) L.n
          (fun j =>
            [T.int IntKind.i64 (L.tm j), T.int IntKind.i64 (L.du j), T.int IntKind.i64 (L.af j),
              T.int IntKind.u32 (L.on j)])
          none,
        T.view (1 : Nat) L.n (fun j => [T.int IntKind.i64 (Int.ofNat (o j))]) (some L.n)],
      [Blk.mk (0 : Nat) (1 : Nat) (40 : Nat) (fun j => [T.bool (x j)]) true false]))
    else
    bif decide ((0 : Int) ≤ Int.ofNat i) && decide (Int.ofNat i < Int.ofNat L.n) then
    bif decide ((0 : Int) ≤ Int.ofNat (o i)) && decide (Int.ofNat (o i) < (40 : Int)) then
    bif ((0 : Nat) + o i).blt (40 : Nat) then
    bif x ((0 : Nat) + o i) then
    some ((Ex.ret,
      [mv, T.bool false,
        T.view (4 : Nat) L.n
          (fun j =>
            [T.int IntKind.i64 (L.tm j), T.int IntKind.i64 (L.du j), T.int IntKind.i64 (L.af j),
              T.int IntKind.u32 (L.on j)])
          none,
        T.view (1 : Nat) L.n (fun j => [T.int IntKind.i64 (Int.ofNat (o j))]) (some L.n)],
      [Blk.mk (0 : Nat) (1 : Nat) (40 : Nat) (fun j => [T.bool (x j)]) true false]))
    else
    bif decide ((0 : Int) ≤ Int.ofNat i) && decide (Int.ofNat i < Int.ofNat L.n) then
    bif decide ((0 : Int) ≤ Int.ofNat (o i)) && decide (Int.ofNat (o i) < (40 : Int)) then
    bif ((0 : Nat) + o i).blt (40 : Nat) && true && true && true then
    bif decide ((0 : Int) < Int.ofNat i) then
    bif decide ((0 : Int) ≤ IntKind.i64.wrap (Int.ofNat i - (1 : Int))) &&
      decide (IntKind.i64.wrap (Int.ofNat i - (1 : Int)) < Int.ofNat L.n) then
    bif decide ((0 : Int) ≤ Int.ofNat (o (IntKind.i64.wrap (Int.ofNat i - (1 : Int))).toNat)) &&
      decide (Int.ofNat (o (IntKind.i64.wrap (Int.ofNat i - (1 : Int))).toNat) < Int.ofNat L.n) then
    bif decide ((0 : Int) ≤ Int.ofNat i) && decide (Int.ofNat i < Int.ofNat L.n) then
    bif decide ((0 : Int) ≤ Int.ofNat (o i)) && decide (Int.ofNat (o i) < Int.ofNat L.n) then
    bif decide (L.du (o i) < L.du (o (IntKind.i64.wrap (Int.ofNat i - (1 : Int))).toNat)) then
    some ((Ex.ret,
      [mv, T.bool false,
        T.view (4 : Nat) L.n
          (fun j =>
            [T.int IntKind.i64 (L.tm j), T.int IntKind.i64 (L.du j), T.int IntKind.i64 (L.af j),
              T.int IntKind.u32 (L.on j)])
          none,
        T.view (1 : Nat) L.n (fun j => [T.int IntKind.i64 (Int.ofNat (o j))]) (some L.n)],
      [Blk.mk (0 : Nat) (1 : Nat) (40 : Nat) (fun e => [T.bool (bif e == (0 : Nat) + o i then true else x e)]) true false]))
    else
    bif decide ((0 : Int) ≤ IntKind.i64.wrap (Int.ofNat i - (1 : Int))) &&
      decide (IntKind.i64.wrap (Int.ofNat i - (1 : Int)) < Int.ofNat L.n) then
    bif decide ((0 : Int) ≤ Int.ofNat (o (IntKind.i64.wrap (Int.ofNat i - (1 : Int))).toNat)) &&
      decide (Int.ofNat (o (IntKind.i64.wrap (Int.ofNat i - (1 : Int))).toNat) < Int.ofNat L.n) then
    bif decide ((0 : Int) ≤ Int.ofNat i) && decide (Int.ofNat i < Int.ofNat L.n) then
    bif decide ((0 : Int) ≤ Int.ofNat (o i)) && decide (Int.ofNat (o i) < Int.ofNat L.n) then
    bif decide (L.du (o (IntKind.i64.wrap (Int.ofNat i - (1 : Int))).toNat) = L.du (o i)) then
    bif decide ((0 : Int) ≤ IntKind.i64.wrap (Int.ofNat i - (1 : Int))) &&
      decide (IntKind.i64.wrap (Int.ofNat i - (1 : Int)) < Int.ofNat L.n) then
    bif decide ((0 : Int) ≤ Int.ofNat i) && decide (Int.ofNat i < Int.ofNat L.n) then
    bif decide (Int.ofNat (o i) < Int.ofNat (o (IntKind.i64.wrap (Int.ofNat i - (1 : Int))).toNat)) then
    some ((Ex.ret,
      [mv, T.bool false,
        T.view (4 : Nat) L.n
          (fun j =>
            [T.int IntKind.i64 (L.tm j), T.int IntKind.i64 (L.du j), T.int IntKind.i64 (L.af j),
              T.int IntKind.u32 (L.on j)])
          none,
        T.view (1 : Nat) L.n (fun j => [T.int IntKind.i64 (Int.ofNat (o j))]) (some L.n)],
      [Blk.mk (0 : Nat) (1 : Nat) (40 : Nat) (fun e => [T.bool (bif e == (0 : Nat) + o i then true else x e)]) true false]))
    else
    some ((Ex.normal,
      [mv,
        T.view (4 : Nat) L.n
          (fun j =>
            [T.int IntKind.i64 (L.tm j), T.int IntKind.i64 (L.du j), T.int IntKind.i64 (L.af j),
              T.int IntKind.u32 (L.on j)])
          none,
        T.view (1 : Nat) L.n (fun j => [T.int IntKind.i64 (Int.ofNat (o j))]) (some L.n),
        T.ptr (0 : Nat) (0 : Nat) (0 : Nat) (0 : Nat), T.int IntKind.i64 (IntKind.i64.wrap (Int.ofNat i + (1 : Int)))],
      [Blk.mk (0 : Nat) (1 : Nat) (40 : Nat) (fun e => [T.bool (bif e == (0 : Nat) + o i then true else x e)]) true false]))
    else
    none
    else
    none
    else
    some ((Ex.normal,
      [mv,
        T.view (4 : Nat) L.n
          (fun j =>
            [T.int IntKind.i64 (L.tm j), T.int IntKind.i64 (L.du j), T.int IntKind.i64 (L.af j),
              T.int IntKind.u32 (L.on j)])
          none,
        T.view (1 : Nat) L.n (fun j => [T.int IntKind.i64 (Int.ofNat (o j))]) (some L.n),
        T.ptr (0 : Nat) (0 : Nat) (0 : Nat) (0 : Nat), T.int IntKind.i64 (IntKind.i64.wrap (Int.ofNat i + (1 : Int)))],
      [Blk.mk (0 : Nat) (1 : Nat) (40 : Nat) (fun e => [T.bool (bif e == (0 : Nat) + o i then true else x e)]) true false]))
    else
    none
    else
    none
    else
    none
    else
    none
    else
    none
    else
    none
    else
    none
    else
    none
    else
    some ((Ex.normal,
      [mv,
        T.view (4 : Nat) L.n
          (fun j =>
            [T.int IntKind.i64 (L.tm j), T.int IntKind.i64 (L.du j), T.int IntKind.i64 (L.af j),
              T.int IntKind.u32 (L.on j)])
          none,
        T.view (1 : Nat) L.n (fun j => [T.int IntKind.i64 (Int.ofNat (o j))]) (some L.n),
        T.ptr (0 : Nat) (0 : Nat) (0 : Nat) (0 : Nat), T.int IntKind.i64 (IntKind.i64.wrap (Int.ofNat i + (1 : Int)))],
      [Blk.mk (0 : Nat) (1 : Nat) (40 : Nat) (fun e => [T.bool (bif e == (0 : Nat) + o i then true else x e)]) true false]))
    else
    none
    else
    none
    else
    none
    else
    none
    else
    none
    else
    none
    else
    none
    else
    none
    else
    some ((Ex.exit (0 : Nat),
      [mv, T.undef,
        T.view (4 : Nat) L.n
          (fun j =>
            [T.int IntKind.i64 (L.tm j), T.int IntKind.i64 (L.du j), T.int IntKind.i64 (L.af j),
              T.int IntKind.u32 (L.on j)])
          none,
        T.view (1 : Nat) L.n (fun j => [T.int IntKind.i64 (Int.ofNat (o j))]) (some L.n)],
      [Blk.mk (0 : Nat) (1 : Nat) (40 : Nat) (fun j => [T.bool (x j)]) true false]))) from by kernel_rfl) ?_) ?_
    · cases i with
      | zero =>
        (repeat (first | (refine bift (by first | assumption | omega | (simp (disch := omega) only [wr64, wr8, wr16, wr32, ofNatE, toNatE, toNatE1, Bool.and_eq_true, Bool.or_eq_true, Bool.not_eq_true', decide_eq_true_eq, decide_eq_false_iff_not, nble, nblt, nbeq, Nat.zero_add, Nat.add_zero, Int.zero_add, Int.add_zero, List.length_cons, List.length_nil, true_and, and_true, Nat.reduceAdd, and_self, hseen, Bool.false_eq_true, not_false_eq_true]; done) | (simp (disch := omega) only [wr64, wr8, wr16, wr32, ofNatE, toNatE, toNatE1, Bool.and_eq_true, Bool.or_eq_true, Bool.not_eq_true', decide_eq_true_eq, decide_eq_false_iff_not, nble, nblt, nbeq, Nat.zero_add, Nat.add_zero, Int.zero_add, Int.add_zero, List.length_cons, List.length_nil, true_and, and_true, Nat.reduceAdd, and_self, hseen, Bool.false_eq_true, not_false_eq_true]; omega)) ?_) | (refine biff (by first | assumption | (simp (disch := omega) only [wr64, wr8, wr16, wr32, ofNatE, toNatE, toNatE1, Bool.and_eq_true, Bool.or_eq_true, Bool.not_eq_true', decide_eq_true_eq, decide_eq_false_iff_not, nble, nblt, nbeq, Nat.zero_add, Nat.add_zero, Int.zero_add, Int.add_zero, List.length_cons, List.length_nil, true_and, and_true, Nat.reduceAdd, and_self, hseen, Bool.false_eq_true, not_false_eq_true]; done) | (simp (disch := omega) only [wr64, wr8, wr16, wr32, ofNatE, toNatE, toNatE1, Bool.and_eq_true, Bool.or_eq_true, Bool.not_eq_true', decide_eq_true_eq, decide_eq_false_iff_not, nble, nblt, nbeq, Nat.zero_add, Nat.add_zero, Int.zero_add, Int.add_zero, List.length_cons, List.length_nil, true_and, and_true, Nat.reduceAdd, and_self, hseen, Bool.false_eq_true, not_false_eq_true]; omega)) ?_)))
        first | rfl | (simp (disch := omega) only [wr64, wr8, wr16, wr32, ofNatE, Nat.zero_add, bleT, bltT, dT, dF, Bool.true_and, Bool.and_true, Bool.and_self, cond_true, cond_false, Nat.sub_zero, beq_self_eq_true]; done) | (simp (disch := omega) only [wr64, wr8, wr16, wr32, ofNatE, Nat.zero_add, bleT, bltT, dT, dF, Bool.true_and, Bool.and_true, Bool.and_self, cond_true, cond_false, Nat.sub_zero, beq_self_eq_true]; rfl)
      | succ k =>
        have hk := ho.lt k (by omega)
        have hsk := hs k (by omega)
        rw [show IntKind.i64.wrap (Int.ofNat (k + 1) - (1 : Int)) = (k : Int) by rw [wr64 (by rw [ofNatE]; omega) (by rw [ofNatE]; omega), ofNatE]; omega]
        simp only [toNatE]
        rcases hsk with q | ⟨q, q'⟩
        · (repeat (first | (refine bift (by first | assumption | omega | (simp (disch := omega) only [wr64, wr8, wr16, wr32, ofNatE, toNatE, toNatE1, Bool.and_eq_true, Bool.or_eq_true, Bool.not_eq_true', decide_eq_true_eq, decide_eq_false_iff_not, nble, nblt, nbeq, Nat.zero_add, Nat.add_zero, Int.zero_add, Int.add_zero, List.length_cons, List.length_nil, true_and, and_true, Nat.reduceAdd, and_self, hseen, Bool.false_eq_true, not_false_eq_true]; done) | (simp (disch := omega) only [wr64, wr8, wr16, wr32, ofNatE, toNatE, toNatE1, Bool.and_eq_true, Bool.or_eq_true, Bool.not_eq_true', decide_eq_true_eq, decide_eq_false_iff_not, nble, nblt, nbeq, Nat.zero_add, Nat.add_zero, Int.zero_add, Int.add_zero, List.length_cons, List.length_nil, true_and, and_true, Nat.reduceAdd, and_self, hseen, Bool.false_eq_true, not_false_eq_true]; omega)) ?_) | (refine biff (by first | assumption | (simp (disch := omega) only [wr64, wr8, wr16, wr32, ofNatE, toNatE, toNatE1, Bool.and_eq_true, Bool.or_eq_true, Bool.not_eq_true', decide_eq_true_eq, decide_eq_false_iff_not, nble, nblt, nbeq, Nat.zero_add, Nat.add_zero, Int.zero_add, Int.add_zero, List.length_cons, List.length_nil, true_and, and_true, Nat.reduceAdd, and_self, hseen, Bool.false_eq_true, not_false_eq_true]; done) | (simp (disch := omega) only [wr64, wr8, wr16, wr32, ofNatE, toNatE, toNatE1, Bool.and_eq_true, Bool.or_eq_true, Bool.not_eq_true', decide_eq_true_eq, decide_eq_false_iff_not, nble, nblt, nbeq, Nat.zero_add, Nat.add_zero, Int.zero_add, Int.add_zero, List.length_cons, List.length_nil, true_and, and_true, Nat.reduceAdd, and_self, hseen, Bool.false_eq_true, not_false_eq_true]; omega)) ?_)))
          first | rfl | (simp (disch := omega) only [wr64, wr8, wr16, wr32, ofNatE, Nat.zero_add, bleT, bltT, dT, dF, Bool.true_and, Bool.and_true, Bool.and_self, cond_true, cond_false, Nat.sub_zero, beq_self_eq_true]; done) | (simp (disch := omega) only [wr64, wr8, wr16, wr32, ofNatE, Nat.zero_add, bleT, bltT, dT, dF, Bool.true_and, Bool.and_true, Bool.and_self, cond_true, cond_false, Nat.sub_zero, beq_self_eq_true]; rfl)
        · (repeat (first | (refine bift (by first | assumption | omega | (simp (disch := omega) only [wr64, wr8, wr16, wr32, ofNatE, toNatE, toNatE1, Bool.and_eq_true, Bool.or_eq_true, Bool.not_eq_true', decide_eq_true_eq, decide_eq_false_iff_not, nble, nblt, nbeq, Nat.zero_add, Nat.add_zero, Int.zero_add, Int.add_zero, List.length_cons, List.length_nil, true_and, and_true, Nat.reduceAdd, and_self, hseen, Bool.false_eq_true, not_false_eq_true]; done) | (simp (disch := omega) only [wr64, wr8, wr16, wr32, ofNatE, toNatE, toNatE1, Bool.and_eq_true, Bool.or_eq_true, Bool.not_eq_true', decide_eq_true_eq, decide_eq_false_iff_not, nble, nblt, nbeq, Nat.zero_add, Nat.add_zero, Int.zero_add, Int.add_zero, List.length_cons, List.length_nil, true_and, and_true, Nat.reduceAdd, and_self, hseen, Bool.false_eq_true, not_false_eq_true]; omega)) ?_) | (refine biff (by first | assumption | (simp (disch := omega) only [wr64, wr8, wr16, wr32, ofNatE, toNatE, toNatE1, Bool.and_eq_true, Bool.or_eq_true, Bool.not_eq_true', decide_eq_true_eq, decide_eq_false_iff_not, nble, nblt, nbeq, Nat.zero_add, Nat.add_zero, Int.zero_add, Int.add_zero, List.length_cons, List.length_nil, true_and, and_true, Nat.reduceAdd, and_self, hseen, Bool.false_eq_true, not_false_eq_true]; done) | (simp (disch := omega) only [wr64, wr8, wr16, wr32, ofNatE, toNatE, toNatE1, Bool.and_eq_true, Bool.or_eq_true, Bool.not_eq_true', decide_eq_true_eq, decide_eq_false_iff_not, nble, nblt, nbeq, Nat.zero_add, Nat.add_zero, Int.zero_add, Int.add_zero, List.length_cons, List.length_nil, true_and, and_true, Nat.reduceAdd, and_self, hseen, Bool.false_eq_true, not_false_eq_true]; omega)) ?_)))
          first | rfl | (simp (disch := omega) only [wr64, wr8, wr16, wr32, ofNatE, Nat.zero_add, bleT, bltT, dT, dF, Bool.true_and, Bool.and_true, Bool.and_self, cond_true, cond_false, Nat.sub_zero, beq_self_eq_true]; done) | (simp (disch := omega) only [wr64, wr8, wr16, wr32, ofNatE, Nat.zero_add, bleT, bltT, dT, dF, Bool.true_and, Bool.and_true, Bool.and_self, cond_true, cond_false, Nat.sub_zero, beq_self_eq_true]; rfl)
    · refine .cons ⟨rfl, rfl, rfl, id, fun j hj => ?_⟩ .nil
      show [T.bool (seenF o (i + 1) j)] = [.bool (bif j == o i then true else x j)]
      rw [sb j]
  · generalize seenF o L.n = x at *
    refine Last.mk0 (A := A41) (m := 0) none_ok rfl rfl loops0 (by simp) (h1 := [bb 40 x]) (Eq.trans (show iterR P41 G41 A41 noneO 0 3 [] 7 (v7 mv L o L.n) [bb 40 x] =
(    bif decide (Int.ofNat L.n < Int.ofNat L.n) then
    bif decide ((0 : Int) ≤ Int.ofNat L.n) && decide (Int.ofNat L.n < Int.ofNat L.n) then
    bif decide ((0 : Int) ≤ Int.ofNat L.n) && decide (Int.ofNat L.n < Int.ofNat L.n) then
    bif decide (Int.ofNat L.n ≤ Int.ofNat (o L.n)) then
    some ((Ex.ret,
      [mv, T.bool false,
        T.view (4 : Nat) L.n
          (fun j =>
            [T.int IntKind.i64 (L.tm j), T.int IntKind.i64 (L.du j), T.int IntKind.i64 (L.af j),
              T.int IntKind.u32 (L.on j)])
          none,
        T.view (1 : Nat) L.n (fun j => [T.int IntKind.i64 (Int.ofNat (o j))]) (some L.n)],
      [Blk.mk (0 : Nat) (1 : Nat) (40 : Nat) (fun j => [T.bool (x j)]) true false]))
    else
    bif decide ((0 : Int) ≤ Int.ofNat L.n) && decide (Int.ofNat L.n < Int.ofNat L.n) then
    bif decide ((0 : Int) ≤ Int.ofNat (o L.n)) && decide (Int.ofNat (o L.n) < (40 : Int)) then
    bif ((0 : Nat) + o L.n).blt (40 : Nat) then
    bif x ((0 : Nat) + o L.n) then
    some ((Ex.ret,
      [mv, T.bool false,
        T.view (4 : Nat) L.n
          (fun j =>
            [T.int IntKind.i64 (L.tm j), T.int IntKind.i64 (L.du j), T.int IntKind.i64 (L.af j),
              T.int IntKind.u32 (L.on j)])
          none,
        T.view (1 : Nat) L.n (fun j => [T.int IntKind.i64 (Int.ofNat (o j))]) (some L.n)],
      [Blk.mk (0 : Nat) (1 : Nat) (40 : Nat) (fun j => [T.bool (x j)]) true false]))
    else
    bif decide ((0 : Int) ≤ Int.ofNat L.n) && decide (Int.ofNat L.n < Int.ofNat L.n) then
    bif decide ((0 : Int) ≤ Int.ofNat (o L.n)) && decide (Int.ofNat (o L.n) < (40 : Int)) then
    bif ((0 : Nat) + o L.n).blt (40 : Nat) && true && true && true then
    bif decide ((0 : Int) < Int.ofNat L.n) then
    bif decide ((0 : Int) ≤ IntKind.i64.wrap (Int.ofNat L.n - (1 : Int))) &&
      decide (IntKind.i64.wrap (Int.ofNat L.n - (1 : Int)) < Int.ofNat L.n) then
    bif decide ((0 : Int) ≤ Int.ofNat (o (IntKind.i64.wrap (Int.ofNat L.n - (1 : Int))).toNat)) &&
      decide (Int.ofNat (o (IntKind.i64.wrap (Int.ofNat L.n - (1 : Int))).toNat) < Int.ofNat L.n) then
    bif decide ((0 : Int) ≤ Int.ofNat L.n) && decide (Int.ofNat L.n < Int.ofNat L.n) then
    bif decide ((0 : Int) ≤ Int.ofNat (o L.n)) && decide (Int.ofNat (o L.n) < Int.ofNat L.n) then
    bif decide (L.du (o L.n) < L.du (o (IntKind.i64.wrap (Int.ofNat L.n - (1 : Int))).toNat)) then
    some ((Ex.ret,
      [mv, T.bool false,
        T.view (4 : Nat) L.n
          (fun j =>
            [T.int IntKind.i64 (L.tm j), T.int IntKind.i64 (L.du j), T.int IntKind.i64 (L.af j),
              T.int IntKind.u32 (L.on j)])
          none,
        T.view (1 : Nat) L.n (fun j => [T.int IntKind.i64 (Int.ofNat (o j))]) (some L.n)],
      [Blk.mk (0 : Nat) (1 : Nat) (40 : Nat) (fun e => [T.bool (bif e == (0 : Nat) + o L.n then true else x e)]) true
          false]))
    else
    bif decide ((0 : Int) ≤ IntKind.i64.wrap (Int.ofNat L.n - (1 : Int))) &&
      decide (IntKind.i64.wrap (Int.ofNat L.n - (1 : Int)) < Int.ofNat L.n) then
    bif decide ((0 : Int) ≤ Int.ofNat (o (IntKind.i64.wrap (Int.ofNat L.n - (1 : Int))).toNat)) &&
      decide (Int.ofNat (o (IntKind.i64.wrap (Int.ofNat L.n - (1 : Int))).toNat) < Int.ofNat L.n) then
    bif decide ((0 : Int) ≤ Int.ofNat L.n) && decide (Int.ofNat L.n < Int.ofNat L.n) then
    bif decide ((0 : Int) ≤ Int.ofNat (o L.n)) && decide (Int.ofNat (o L.n) < Int.ofNat L.n) then
    bif decide (L.du (o (IntKind.i64.wrap (Int.ofNat L.n - (1 : Int))).toNat) = L.du (o L.n)) then
    bif decide ((0 : Int) ≤ IntKind.i64.wrap (Int.ofNat L.n - (1 : Int))) &&
      decide (IntKind.i64.wrap (Int.ofNat L.n - (1 : Int)) < Int.ofNat L.n) then
    bif decide ((0 : Int) ≤ Int.ofNat L.n) && decide (Int.ofNat L.n < Int.ofNat L.n) then
    bif decide (Int.ofNat (o L.n) < Int.ofNat (o (IntKind.i64.wrap (Int.ofNat L.n - (1 : Int))).toNat)) then
    some ((Ex.ret,
      [mv, T.bool false,
        T.view (4 : Nat) L.n
          (fun j =>
            [T.int IntKind.i64 (L.tm j), T.int IntKind.i64 (L.du j), T.int IntKind.i64 (L.af j),
              T.int IntKind.u32 (L.on j)])
          none,
        T.view (1 : Nat) L.n (fun j => [T.int IntKind.i64 (Int.ofNat (o j))]) (some L.n)],
      [Blk.mk (0 : Nat) (1 : Nat) (40 : Nat) (fun e => [T.bool (bif e == (0 : Nat) + o L.n then true else x e)]) true
          false]))
    else
    some ((Ex.normal,
      [mv,
        T.view (4 : Nat) L.n
          (fun j =>
            [T.int IntKind.i64 (L.tm j), T.int IntKind.i64 (L.du j), T.int IntKind.i64 (L.af j),
              T.int IntKind.u32 (L.on j)])
          none,
        T.view (1 : Nat) L.n (fun j => [T.int IntKind.i64 (Int.ofNat (o j))]) (some L.n),
        T.ptr (0 : Nat) (0 : Nat) (0 : Nat) (0 : Nat), T.int IntKind.i64 (IntKind.i64.wrap (Int.ofNat L.n + (1 : Int)))],
      [Blk.mk (0 : Nat) (1 : Nat) (40 : Nat) (fun e => [T.bool (bif e == (0 : Nat) + o L.n then true else x e)]) true
          false]))
    else
    none
    else
    none
    else
    some ((Ex.normal,
      [mv,
        T.view (4 : Nat) L.n
          (fun j =>
            [T.int IntKind.i64 (L.tm j), T.int IntKind.i64 (L.du j), T.int IntKind.i64 (L.af j),
              T.int IntKind.u32 (L.on j)])
          none,
        T.view (1 : Nat) L.n (fun j => [T.int IntKind.i64 (Int.ofNat (o j))]) (some L.n),
        T.ptr (0 : Nat) (0 : Nat) (0 : Nat) (0 : Nat), T.int IntKind.i64 (IntKind.i64.wrap (Int.ofNat L.n + (1 : Int)))],
      [Blk.mk (0 : Nat) (1 : Nat) (40 : Nat) (fun e => [T.bool (bif e == (0 : Nat) + o L.n then true else x e)]) true
          false]))
    else
    none
    else
    none
    else
    none
    else
    none
    else
    none
    else
    none
    else
    none
    else
    none
    else
    some ((Ex.normal,
      [mv,
        T.view (4 : Nat) L.n
          (fun j =>
            [T.int IntKind.i64 (L.tm j), T.int IntKind.i64 (L.du j), T.int IntKind.i64 (L.af j),
              T.int IntKind.u32 (L.on j)])
          none,
        T.view (1 : Nat) L.n (fun j => [T.int IntKind.i64 (Int.ofNat (o j))]) (some L.n),
        T.ptr (0 : Nat) (0 : Nat) (0 : Nat) (0 : Nat), T.int IntKind.i64 (IntKind.i64.wrap (Int.ofNat L.n + (1 : Int)))],
      [Blk.mk (0 : Nat) (1 : Nat) (40 : Nat) (fun e => [T.bool (bif e == (0 : Nat) + o L.n then true else x e)]) true
          false]))
    else
    none
    else
    none
    else
    none
    else
    none
    else
    none
    else
    none
    else
    none
    else
    none
    else
    some ((Ex.exit (0 : Nat),
      [mv, T.undef,
        T.view (4 : Nat) L.n
          (fun j =>
            [T.int IntKind.i64 (L.tm j), T.int IntKind.i64 (L.du j), T.int IntKind.i64 (L.af j),
              T.int IntKind.u32 (L.on j)])
          none,
        T.view (1 : Nat) L.n (fun j => [T.int IntKind.i64 (Int.ofNat (o j))]) (some L.n)],
      [Blk.mk (0 : Nat) (1 : Nat) (40 : Nat) (fun j => [T.bool (x j)]) true false]))) from by kernel_rfl) ?_) (.refl _)
    (repeat (first | (refine bift (by first | assumption | omega | (simp (disch := omega) only [wr64, wr8, wr16, wr32, ofNatE, toNatE, toNatE1, Bool.and_eq_true, Bool.or_eq_true, Bool.not_eq_true', decide_eq_true_eq, decide_eq_false_iff_not, nble, nblt, nbeq, Nat.zero_add, Nat.add_zero, Int.zero_add, Int.add_zero, List.length_cons, List.length_nil, true_and, and_true, Nat.reduceAdd, and_self]; done) | (simp (disch := omega) only [wr64, wr8, wr16, wr32, ofNatE, toNatE, toNatE1, Bool.and_eq_true, Bool.or_eq_true, Bool.not_eq_true', decide_eq_true_eq, decide_eq_false_iff_not, nble, nblt, nbeq, Nat.zero_add, Nat.add_zero, Int.zero_add, Int.add_zero, List.length_cons, List.length_nil, true_and, and_true, Nat.reduceAdd, and_self]; omega)) ?_) | (refine biff (by first | assumption | (simp (disch := omega) only [wr64, wr8, wr16, wr32, ofNatE, toNatE, toNatE1, Bool.and_eq_true, Bool.or_eq_true, Bool.not_eq_true', decide_eq_true_eq, decide_eq_false_iff_not, nble, nblt, nbeq, Nat.zero_add, Nat.add_zero, Int.zero_add, Int.add_zero, List.length_cons, List.length_nil, true_and, and_true, Nat.reduceAdd, and_self]; done) | (simp (disch := omega) only [wr64, wr8, wr16, wr32, ofNatE, toNatE, toNatE1, Bool.and_eq_true, Bool.or_eq_true, Bool.not_eq_true', decide_eq_true_eq, decide_eq_false_iff_not, nble, nblt, nbeq, Nat.zero_add, Nat.add_zero, Int.zero_add, Int.add_zero, List.length_cons, List.length_nil, true_and, and_true, Nat.reduceAdd, and_self]; omega)) ?_)))
    first | rfl | (simp (disch := omega) only [wr64, wr8, wr16, wr32, ofNatE, Nat.zero_add, bleT, bltT, dT, dF, Bool.true_and, Bool.and_true, Bool.and_self, cond_true, cond_false, Nat.sub_zero, beq_self_eq_true]; done) | (simp (disch := omega) only [wr64, wr8, wr16, wr32, ofNatE, Nat.zero_add, bleT, bltT, dT, dF, Bool.true_and, Bool.and_true, Bool.and_self, cond_true, cond_false, Nat.sub_zero, beq_self_eq_true]; rfl)
theorem l3b (x5 x6 : T) (nm : Nat) (mm : Nat → Nat) (cm : Option Nat) (hmm : ∀ j, mm j < 256) (n : Nat) (h0 : 0 < n) (hn : n ≤ 40) (b : Nat → Bool) (o : Nat → Nat) (ho : Ordr n o) :
    ∃ d, Ordr n d ∧ LoopOk P41 G41 (A41 3) 3 16 (litS (v16 (mvT nm mm cm) x5 x6 n 0) [bb 40 b, eb 0, nb 0 n o] (.exit 2) (e16 x5 x6 n) [bb 40 b, eb 0, nb 0 n d]) := by
  obtain ⟨e, vs1, h1, ⟨rfl, rfl, d, hd, rfl⟩, hl⟩ := loop_exists (P := P41) (Gl := G41) (an := A41 3) hm41 (f := 3) (r := 16) (k := 3) (by kernel_rfl) (fun m vs h => ∃ (i : Nat) (d : Nat → Nat), i ≤ 60 ∧ m = 60 - i ∧ Ordr n d ∧ vs = v16 (mvT nm mm cm) x5 x6 n i ∧ h = [bb 40 b, eb 0, nb 0 n d]) (fun e vs h => e = .exit 2 ∧ vs = e16 x5 x6 n ∧ ∃ d, Ordr n d ∧ h = [bb 40 b, eb 0, nb 0 n d])
    (fun m vs h ⟨i, d, hi, hm, hd, hv, hh⟩ => by
      subst hv hh
      by_cases q : i + 1 < nm ∧ i < 60
      · left
        refine ⟨m - 1, v16 (mvT nm mm cm) x5 x6 n (i + 1 : Nat), [bb 40 b, eb 0, nb 0 n (swp d (mm i % n) (mm (i + 1) % n))], by omega, ?_, i + 1, _, by omega, by omega, hd.swp (Nat.mod_lt _ h0) (Nat.mod_lt _ h0), rfl, rfl⟩
        have ha := Nat.mod_lt (mm i) h0
        have hb := Nat.mod_lt (mm (i + 1)) h0
        have w0 := hmm i
        have w1 := hmm (i + 1)
        refine Step.mk0 (A := A41) (m := 0) none_ok rfl rfl loops0 (h1 := [bb 40 b, eb 0, ⟨0, 1, n, fun e => [.int .i64 (bif e == mm (i + 1) % n then ((d (mm i % n) : Nat) : Int) else bif e == mm i % n then ((d (mm (i + 1) % n) : Nat) : Int) else ((d e : Nat) : Int))], true, false⟩]) (Eq.trans (show iterR P41 G41 A41 noneO 0 3 [] 16 (v16 (mvT nm mm cm) x5 x6 n i) [bb 40 b, eb 0, nb 0 n d] =
(    bif decide (IntKind.i64.wrap (Int.ofNat i + (1 : Int)) < Int.ofNat nm) then
    bif decide (Int.ofNat i < (60 : Int)) then
    bif decide ((0 : Int) < Int.ofNat n) then
    bif decide ((0 : Int) ≤ Int.ofNat i) && decide (Int.ofNat i < Int.ofNat nm) then
    bif decide (Int.ofNat n = (0 : Int)) then
    none
    else
    bif decide ((0 : Int) ≤ IntKind.i64.wrap (Int.ofNat i + (1 : Int))) &&
      decide (IntKind.i64.wrap (Int.ofNat i + (1 : Int)) < Int.ofNat nm) then
    bif decide (Int.ofNat n = (0 : Int)) then
    none
    else
    bif decide
        ((0 : Int) ≤
          (IntKind.i64.wrap (Int.ofNat (mm (IntKind.i64.wrap (Int.ofNat i + (1 : Int))).toNat))).tmod (Int.ofNat n)) &&
      decide
        ((IntKind.i64.wrap (Int.ofNat (mm (IntKind.i64.wrap (Int.ofNat i + (1 : Int))).toNat))).tmod (Int.ofNat n) <
          Int.ofNat n) then
    bif ((0 : Nat) +
          ((IntKind.i64.wrap (Int.ofNat (mm (IntKind.i64.wrap (Int.ofNat i + (1 : Int))).toNat))).tmod
              (Int.ofNat n)).toNat).blt
      n then
    bif decide ((0 : Int) ≤ (IntKind.i64.wrap (Int.ofNat (mm i))).tmod (Int.ofNat n)) &&
      decide ((IntKind.i64.wrap (Int.ofNat (mm i))).tmod (Int.ofNat n) < Int.ofNat n) then
    bif ((0 : Nat) + ((IntKind.i64.wrap (Int.ofNat (mm i))).tmod (Int.ofNat n)).toNat).blt n then
    bif decide ((0 : Int) ≤ (IntKind.i64.wrap (Int.ofNat (mm i))).tmod (Int.ofNat n)) &&
      decide ((IntKind.i64.wrap (Int.ofNat (mm i))).tmod (Int.ofNat n) < Int.ofNat n) then
    bif ((0 : Nat) + ((IntKind.i64.wrap (Int.ofNat (mm i))).tmod (Int.ofNat n)).toNat).blt n &&
          [T.int IntKind.i64
                  (Int.ofNat
                    (d
                      ((0 : Nat) +
                        ((IntKind.i64.wrap (Int.ofNat (mm (IntKind.i64.wrap (Int.ofNat i + (1 : Int))).toNat))).tmod
                            (Int.ofNat n)).toNat)))].length ==
            (1 : Nat) &&
        true &&
      true then
    bif decide
        ((0 : Int) ≤
          (IntKind.i64.wrap (Int.ofNat (mm (IntKind.i64.wrap (Int.ofNat i + (1 : Int))).toNat))).tmod (Int.ofNat n)) &&
      decide
        ((IntKind.i64.wrap (Int.ofNat (mm (IntKind.i64.wrap (Int.ofNat i + (1 : Int))).toNat))).tmod (Int.ofNat n) <
          Int.ofNat n) then
    bif ((0 : Nat) +
                ((IntKind.i64.wrap (Int.ofNat (mm (IntKind.i64.wrap (Int.ofNat i + (1 : Int))).toNat))).tmod
                    (Int.ofNat n)).toNat).blt
            n &&
          [T.int IntKind.i64
                  (Int.ofNat (d ((0 : Nat) + ((IntKind.i64.wrap (Int.ofNat (mm i))).tmod (Int.ofNat n)).toNat)))].length ==
            (1 : Nat) &&
        true &&
      true then
    some ((Ex.normal,
      [T.view (1 : Nat) nm (fun j => [T.int IntKind.u8 (Int.ofNat (mm j))]) cm, x5, x6,
        T.own (2 : Nat) (0 : Nat) (0 : Nat) n none, T.int IntKind.i64 (IntKind.i64.wrap (Int.ofNat i + (1 : Int)))],
      [Blk.mk (0 : Nat) (1 : Nat) (40 : Nat) (fun j => [T.bool (b j)]) true false,
        Blk.mk (0 : Nat) (1 : Nat) (0 : Nat) (fun x => []) true true,
        Blk.mk (0 : Nat) (1 : Nat) n
          (fun e =>
            [T.int IntKind.i64
                (bif
                    e ==
                      (0 : Nat) +
                        ((IntKind.i64.wrap (Int.ofNat (mm (IntKind.i64.wrap (Int.ofNat i + (1 : Int))).toNat))).tmod
                            (Int.ofNat n)).toNat then
                  Int.ofNat (d ((0 : Nat) + ((IntKind.i64.wrap (Int.ofNat (mm i))).tmod (Int.ofNat n)).toNat))
                else
                  bif e == (0 : Nat) + ((IntKind.i64.wrap (Int.ofNat (mm i))).tmod (Int.ofNat n)).toNat then
                    Int.ofNat
                      (d
                        ((0 : Nat) +
                          ((IntKind.i64.wrap (Int.ofNat (mm (IntKind.i64.wrap (Int.ofNat i + (1 : Int))).toNat))).tmod
                              (Int.ofNat n)).toNat))
                  else Int.ofNat (d e))])
          true false]))
    else
    none
    else
    none
    else
    none
    else
    none
    else
    none
    else
    none
    else
    none
    else
    none
    else
    none
    else
    none
    else
    some ((Ex.exit (2 : Nat), [x5, x6, T.own (2 : Nat) (0 : Nat) (0 : Nat) n none],
      [Blk.mk (0 : Nat) (1 : Nat) (40 : Nat) (fun j => [T.bool (b j)]) true false,
        Blk.mk (0 : Nat) (1 : Nat) (0 : Nat) (fun x => []) true true,
        Blk.mk (0 : Nat) (1 : Nat) n (fun j => [T.int IntKind.i64 (Int.ofNat (d j))]) true false]))
    else
    some ((Ex.exit (2 : Nat), [x5, x6, T.own (2 : Nat) (0 : Nat) (0 : Nat) n none],
      [Blk.mk (0 : Nat) (1 : Nat) (40 : Nat) (fun j => [T.bool (b j)]) true false,
        Blk.mk (0 : Nat) (1 : Nat) (0 : Nat) (fun x => []) true true,
        Blk.mk (0 : Nat) (1 : Nat) n (fun j => [T.int IntKind.i64 (Int.ofNat (d j))]) true false]))
    else
    some ((Ex.exit (2 : Nat), [x5, x6, T.own (2 : Nat) (0 : Nat) (0 : Nat) n none],
      [Blk.mk (0 : Nat) (1 : Nat) (40 : Nat) (fun j => [T.bool (b j)]) true false,
        Blk.mk (0 : Nat) (1 : Nat) (0 : Nat) (fun x => []) true true,
        Blk.mk (0 : Nat) (1 : Nat) n (fun j => [T.int IntKind.i64 (Int.ofNat (d j))]) true false]))) from by kernel_rfl) ?_) ?_
        · rw [show IntKind.i64.wrap (Int.ofNat i + (1 : Int)) = ((i + 1 : Nat) : Int) by rw [wr64 (by rw [ofNatE]; omega) (by rw [ofNatE]; omega)]; rfl]
          simp only [toNatE]
          simp only [show IntKind.i64.wrap (Int.ofNat (mm i)) = ((mm i : Nat) : Int) from wr64 (by rw [ofNatE]; omega) (by rw [ofNatE]; omega), show IntKind.i64.wrap (Int.ofNat (mm (i + 1))) = ((mm (i + 1) : Nat) : Int) from wr64 (by rw [ofNatE]; omega) (by rw [ofNatE]; omega),
            show ((mm i : Nat) : Int).tmod (Int.ofNat n) = ((mm i % n : Nat) : Int) from rfl, show ((mm (i + 1) : Nat) : Int).tmod (Int.ofNat n) = ((mm (i + 1) % n : Nat) : Int) from rfl, toNatE]
          generalize mm i % n = a at *
          generalize mm (i + 1) % n = c at *
          (repeat (first | (refine bift (by first | assumption | omega | (simp (disch := omega) only [wr64, wr8, wr16, wr32, ofNatE, toNatE, toNatE1, Bool.and_eq_true, Bool.or_eq_true, Bool.not_eq_true', decide_eq_true_eq, decide_eq_false_iff_not, nble, nblt, nbeq, Nat.zero_add, Nat.add_zero, Int.zero_add, Int.add_zero, List.length_cons, List.length_nil, true_and, and_true, Nat.reduceAdd, and_self]; done) | (simp (disch := omega) only [wr64, wr8, wr16, wr32, ofNatE, toNatE, toNatE1, Bool.and_eq_true, Bool.or_eq_true, Bool.not_eq_true', decide_eq_true_eq, decide_eq_false_iff_not, nble, nblt, nbeq, Nat.zero_add, Nat.add_zero, Int.zero_add, Int.add_zero, List.length_cons, List.length_nil, true_and, and_true, Nat.reduceAdd, and_self]; omega)) ?_) | (refine biff (by first | assumption | (simp (disch := omega) only [wr64, wr8, wr16, wr32, ofNatE, toNatE, toNatE1, Bool.and_eq_true, Bool.or_eq_true, Bool.not_eq_true', decide_eq_true_eq, decide_eq_false_iff_not, nble, nblt, nbeq, Nat.zero_add, Nat.add_zero, Int.zero_add, Int.add_zero, List.length_cons, List.length_nil, true_and, and_true, Nat.reduceAdd, and_self]; done) | (simp (disch := omega) only [wr64, wr8, wr16, wr32, ofNatE, toNatE, toNatE1, Bool.and_eq_true, Bool.or_eq_true, Bool.not_eq_true', decide_eq_true_eq, decide_eq_false_iff_not, nble, nblt, nbeq, Nat.zero_add, Nat.add_zero, Int.zero_add, Int.add_zero, List.length_cons, List.length_nil, true_and, and_true, Nat.reduceAdd, and_self]; omega)) ?_)))
          first | rfl | (simp (disch := omega) only [wr64, wr8, wr16, wr32, ofNatE, Nat.zero_add, bleT, bltT, dT, dF, Bool.true_and, Bool.and_true, Bool.and_self, cond_true, cond_false, Nat.sub_zero, beq_self_eq_true]; done) | (simp (disch := omega) only [wr64, wr8, wr16, wr32, ofNatE, Nat.zero_add, bleT, bltT, dT, dF, Bool.true_and, Bool.and_true, Bool.and_self, cond_true, cond_false, Nat.sub_zero, beq_self_eq_true]; rfl)
        · refine .cons ⟨rfl, rfl, rfl, id, fun _ _ => rfl⟩ (.cons ⟨rfl, rfl, rfl, id, fun _ _ => rfl⟩ (.cons ⟨rfl, rfl, rfl, id, fun j hj => ?_⟩ .nil))
          show [T.int .i64 (d (tra (mm i % n) (mm (i + 1) % n) j) : Nat)] = [.int .i64 (bif j == mm (i + 1) % n then ((d (mm i % n) : Nat) : Int) else bif j == mm i % n then ((d (mm (i + 1) % n) : Nat) : Int) else ((d j : Nat) : Int))]
          unfold tra
          by_cases q1 : j = mm (i + 1) % n
          · rw [if_pos q1, q1]; simp
          · rw [if_neg q1, beq_eq_false_iff_ne.2 q1, cond_false]
            by_cases q2 : j = mm i % n
            · rw [if_pos q2, q2]; simp
            · rw [if_neg q2, beq_eq_false_iff_ne.2 q2, cond_false]
      · right
        refine ⟨_, _, _, ?_, rfl, rfl, d, hd, rfl⟩
        refine Last.mk0 (A := A41) (m := 0) none_ok rfl rfl loops0 (by simp) (h1 := [bb 40 b, eb 0, nb 0 n d]) (Eq.trans (show iterR P41 G41 A41 noneO 0 3 [] 16 (v16 (mvT nm mm cm) x5 x6 n i) [bb 40 b, eb 0, nb 0 n d] =
(    bif decide (IntKind.i64.wrap (Int.ofNat i + (1 : Int)) < Int.ofNat nm) then
    bif decide (Int.ofNat i < (60 : Int)) then
    bif decide ((0 : Int) < Int.ofNat n) then
    bif decide ((0 : Int) ≤ Int.ofNat i) && decide (Int.ofNat i < Int.ofNat nm) then
    bif decide (Int.ofNat n = (0 : Int)) then
    none
    else
    bif decide ((0 : Int) ≤ IntKind.i64.wrap (Int.ofNat i + (1 : Int))) &&
      decide (IntKind.i64.wrap (Int.ofNat i + (1 : Int)) < Int.ofNat nm) then
    bif decide (Int.ofNat n = (0 : Int)) then
    none
    else
    bif decide
        ((0 : Int) ≤
          (IntKind.i64.wrap (Int.ofNat (mm (IntKind.i64.wrap (Int.ofNat i + (1 : Int))).toNat))).tmod (Int.ofNat n)) &&
      decide
        ((IntKind.i64.wrap (Int.ofNat (mm (IntKind.i64.wrap (Int.ofNat i + (1 : Int))).toNat))).tmod (Int.ofNat n) <
          Int.ofNat n) then
    bif ((0 : Nat) +
          ((IntKind.i64.wrap (Int.ofNat (mm (IntKind.i64.wrap (Int.ofNat i + (1 : Int))).toNat))).tmod
              (Int.ofNat n)).toNat).blt
      n then
    bif decide ((0 : Int) ≤ (IntKind.i64.wrap (Int.ofNat (mm i))).tmod (Int.ofNat n)) &&
      decide ((IntKind.i64.wrap (Int.ofNat (mm i))).tmod (Int.ofNat n) < Int.ofNat n) then
    bif ((0 : Nat) + ((IntKind.i64.wrap (Int.ofNat (mm i))).tmod (Int.ofNat n)).toNat).blt n then
    bif decide ((0 : Int) ≤ (IntKind.i64.wrap (Int.ofNat (mm i))).tmod (Int.ofNat n)) &&
      decide ((IntKind.i64.wrap (Int.ofNat (mm i))).tmod (Int.ofNat n) < Int.ofNat n) then
    bif ((0 : Nat) + ((IntKind.i64.wrap (Int.ofNat (mm i))).tmod (Int.ofNat n)).toNat).blt n &&
          [T.int IntKind.i64
                  (Int.ofNat
                    (d
                      ((0 : Nat) +
                        ((IntKind.i64.wrap (Int.ofNat (mm (IntKind.i64.wrap (Int.ofNat i + (1 : Int))).toNat))).tmod
                            (Int.ofNat n)).toNat)))].length ==
            (1 : Nat) &&
        true &&
      true then
    bif decide
        ((0 : Int) ≤
          (IntKind.i64.wrap (Int.ofNat (mm (IntKind.i64.wrap (Int.ofNat i + (1 : Int))).toNat))).tmod (Int.ofNat n)) &&
      decide
        ((IntKind.i64.wrap (Int.ofNat (mm (IntKind.i64.wrap (Int.ofNat i + (1 : Int))).toNat))).tmod (Int.ofNat n) <
          Int.ofNat n) then
    bif ((0 : Nat) +
                ((IntKind.i64.wrap (Int.ofNat (mm (IntKind.i64.wrap (Int.ofNat i + (1 : Int))).toNat))).tmod
                    (Int.ofNat n)).toNat).blt
            n &&
          [T.int IntKind.i64
                  (Int.ofNat (d ((0 : Nat) + ((IntKind.i64.wrap (Int.ofNat (mm i))).tmod (Int.ofNat n)).toNat)))].length ==
            (1 : Nat) &&
        true &&
      true then
    some ((Ex.normal,
      [T.view (1 : Nat) nm (fun j => [T.int IntKind.u8 (Int.ofNat (mm j))]) cm, x5, x6,
        T.own (2 : Nat) (0 : Nat) (0 : Nat) n none, T.int IntKind.i64 (IntKind.i64.wrap (Int.ofNat i + (1 : Int)))],
      [Blk.mk (0 : Nat) (1 : Nat) (40 : Nat) (fun j => [T.bool (b j)]) true false,
        Blk.mk (0 : Nat) (1 : Nat) (0 : Nat) (fun x => []) true true,
        Blk.mk (0 : Nat) (1 : Nat) n
          (fun e =>
            [T.int IntKind.i64
                (bif
                    e ==
                      (0 : Nat) +
                        ((IntKind.i64.wrap (Int.ofNat (mm (IntKind.i64.wrap (Int.ofNat i + (1 : Int))).toNat))).tmod
                            (Int.ofNat n)).toNat then
                  Int.ofNat (d ((0 : Nat) + ((IntKind.i64.wrap (Int.ofNat (mm i))).tmod (Int.ofNat n)).toNat))
                else
                  bif e == (0 : Nat) + ((IntKind.i64.wrap (Int.ofNat (mm i))).tmod (Int.ofNat n)).toNat then
                    Int.ofNat
                      (d
                        ((0 : Nat) +
                          ((IntKind.i64.wrap (Int.ofNat (mm (IntKind.i64.wrap (Int.ofNat i + (1 : Int))).toNat))).tmod
                              (Int.ofNat n)).toNat))
                  else Int.ofNat (d e))])
          true false]))
    else
    none
    else
    none
    else
    none
    else
    none
    else
    none
    else
    none
    else
    none
    else
    none
    else
    none
    else
    none
    else
    some ((Ex.exit (2 : Nat), [x5, x6, T.own (2 : Nat) (0 : Nat) (0 : Nat) n none],
      [Blk.mk (0 : Nat) (1 : Nat) (40 : Nat) (fun j => [T.bool (b j)]) true false,
        Blk.mk (0 : Nat) (1 : Nat) (0 : Nat) (fun x => []) true true,
        Blk.mk (0 : Nat) (1 : Nat) n (fun j => [T.int IntKind.i64 (Int.ofNat (d j))]) true false]))
    else
    some ((Ex.exit (2 : Nat), [x5, x6, T.own (2 : Nat) (0 : Nat) (0 : Nat) n none],
      [Blk.mk (0 : Nat) (1 : Nat) (40 : Nat) (fun j => [T.bool (b j)]) true false,
        Blk.mk (0 : Nat) (1 : Nat) (0 : Nat) (fun x => []) true true,
        Blk.mk (0 : Nat) (1 : Nat) n (fun j => [T.int IntKind.i64 (Int.ofNat (d j))]) true false]))
    else
    some ((Ex.exit (2 : Nat), [x5, x6, T.own (2 : Nat) (0 : Nat) (0 : Nat) n none],
      [Blk.mk (0 : Nat) (1 : Nat) (40 : Nat) (fun j => [T.bool (b j)]) true false,
        Blk.mk (0 : Nat) (1 : Nat) (0 : Nat) (fun x => []) true true,
        Blk.mk (0 : Nat) (1 : Nat) n (fun j => [T.int IntKind.i64 (Int.ofNat (d j))]) true false]))) from by kernel_rfl) ?_) (.refl _)
        rw [show IntKind.i64.wrap (Int.ofNat i + (1 : Int)) = ((i + 1 : Nat) : Int) by rw [wr64 (by rw [ofNatE]; omega) (by rw [ofNatE]; omega)]; rfl]
        by_cases q1 : i + 1 < nm
        · (repeat (first | (refine bift (by first | assumption | omega | (simp (disch := omega) only [wr64, wr8, wr16, wr32, ofNatE, toNatE, toNatE1, Bool.and_eq_true, Bool.or_eq_true, Bool.not_eq_true', decide_eq_true_eq, decide_eq_false_iff_not, nble, nblt, nbeq, Nat.zero_add, Nat.add_zero, Int.zero_add, Int.add_zero, List.length_cons, List.length_nil, true_and, and_true, Nat.reduceAdd, and_self]; done) | (simp (disch := omega) only [wr64, wr8, wr16, wr32, ofNatE, toNatE, toNatE1, Bool.and_eq_true, Bool.or_eq_true, Bool.not_eq_true', decide_eq_true_eq, decide_eq_false_iff_not, nble, nblt, nbeq, Nat.zero_add, Nat.add_zero, Int.zero_add, Int.add_zero, List.length_cons, List.length_nil, true_and, and_true, Nat.reduceAdd, and_self]; omega)) ?_) | (refine biff (by first | assumption | (simp (disch := omega) only [wr64, wr8, wr16, wr32, ofNatE, toNatE, toNatE1, Bool.and_eq_true, Bool.or_eq_true, Bool.not_eq_true', decide_eq_true_eq, decide_eq_false_iff_not, nble, nblt, nbeq, Nat.zero_add, Nat.add_zero, Int.zero_add, Int.add_zero, List.length_cons, List.length_nil, true_and, and_true, Nat.reduceAdd, and_self]; done) | (simp (disch := omega) only [wr64, wr8, wr16, wr32, ofNatE, toNatE, toNatE1, Bool.and_eq_true, Bool.or_eq_true, Bool.not_eq_true', decide_eq_true_eq, decide_eq_false_iff_not, nble, nblt, nbeq, Nat.zero_add, Nat.add_zero, Int.zero_add, Int.add_zero, List.length_cons, List.length_nil, true_and, and_true, Nat.reduceAdd, and_self]; omega)) ?_)))
          first | rfl | (simp (disch := omega) only [wr64, wr8, wr16, wr32, ofNatE, Nat.zero_add, bleT, bltT, dT, dF, Bool.true_and, Bool.and_true, Bool.and_self, cond_true, cond_false, Nat.sub_zero, beq_self_eq_true]; done) | (simp (disch := omega) only [wr64, wr8, wr16, wr32, ofNatE, Nat.zero_add, bleT, bltT, dT, dF, Bool.true_and, Bool.and_true, Bool.and_self, cond_true, cond_false, Nat.sub_zero, beq_self_eq_true]; rfl)
        · (repeat (first | (refine bift (by first | assumption | omega | (simp (disch := omega) only [wr64, wr8, wr16, wr32, ofNatE, toNatE, toNatE1, Bool.and_eq_true, Bool.or_eq_true, Bool.not_eq_true', decide_eq_true_eq, decide_eq_false_iff_not, nble, nblt, nbeq, Nat.zero_add, Nat.add_zero, Int.zero_add, Int.add_zero, List.length_cons, List.length_nil, true_and, and_true, Nat.reduceAdd, and_self]; done) | (simp (disch := omega) only [wr64, wr8, wr16, wr32, ofNatE, toNatE, toNatE1, Bool.and_eq_true, Bool.or_eq_true, Bool.not_eq_true', decide_eq_true_eq, decide_eq_false_iff_not, nble, nblt, nbeq, Nat.zero_add, Nat.add_zero, Int.zero_add, Int.add_zero, List.length_cons, List.length_nil, true_and, and_true, Nat.reduceAdd, and_self]; omega)) ?_) | (refine biff (by first | assumption | (simp (disch := omega) only [wr64, wr8, wr16, wr32, ofNatE, toNatE, toNatE1, Bool.and_eq_true, Bool.or_eq_true, Bool.not_eq_true', decide_eq_true_eq, decide_eq_false_iff_not, nble, nblt, nbeq, Nat.zero_add, Nat.add_zero, Int.zero_add, Int.add_zero, List.length_cons, List.length_nil, true_and, and_true, Nat.reduceAdd, and_self]; done) | (simp (disch := omega) only [wr64, wr8, wr16, wr32, ofNatE, toNatE, toNatE1, Bool.and_eq_true, Bool.or_eq_true, Bool.not_eq_true', decide_eq_true_eq, decide_eq_false_iff_not, nble, nblt, nbeq, Nat.zero_add, Nat.add_zero, Int.zero_add, Int.add_zero, List.length_cons, List.length_nil, true_and, and_true, Nat.reduceAdd, and_self]; omega)) ?_)))
          first | rfl | (simp (disch := omega) only [wr64, wr8, wr16, wr32, ofNatE, Nat.zero_add, bleT, bltT, dT, dF, Bool.true_and, Bool.and_true, Bool.and_self, cond_true, cond_false, Nat.sub_zero, beq_self_eq_true]; done) | (simp (disch := omega) only [wr64, wr8, wr16, wr32, ofNatE, Nat.zero_add, bleT, bltT, dT, dF, Bool.true_and, Bool.and_true, Bool.and_self, cond_true, cond_false, Nat.sub_zero, beq_self_eq_true]; rfl))
    (n := 60) (vs := v16 (mvT nm mm cm) x5 x6 n 0) (h := [bb 40 b, eb 0, nb 0 n o]) rfl ⟨0, o, by omega, by omega, ho, rfl, rfl⟩
  exact ⟨d, hd, hl⟩
theorem l3c (L : JL) (hL : L.Ok) (x6 : T) (b : Nat → Bool) (d : Nat → Nat) (hd : Ordr L.n d) :
    LoopOk P41 G41 (A41 3) 3 22 (litS (v22 L x6 0 0 0) [bb 40 b, eb 0, nb 0 L.n d] (.exit 4) (e22 L x6 (wst L d L.n)) [bb 40 b, eb 0, nb 0 L.n d]) := by
  have hn := hL.n
  refine loop_steps hm41 (by kernel_rfl) (fun i => v22 L x6 (tms L d i) (wst L d i) i) (fun i => [bb 40 b, eb 0, nb 0 L.n d]) (n := L.n) (fun i hi => ?_) ?_
  · have hb := tms_bd hL hd.lt i (by omega)
    have hb1 := tms_bd hL hd.lt (i + 1) (by omega)
    have hdi := hd.lt i hi
    have ht := hL.tm (d i) hdi
    have hu := hL.du (d i) hdi
    have es : tms L d (i + 1) = tms L d i + L.tm (d i) := rfl
    have ew : wst L d (i + 1) = if i = 0 ∨ wst L d i < tms L d i + L.tm (d i) - L.du (d i) then tms L d i + L.tm (d i) - L.du (d i) else wst L d i := rfl
    rw [es, ew]
    generalize wst L d i = w at *
    generalize tms L d i = t at *
    refine Step.mk0 (A := A41) (m := 0) none_ok rfl rfl loops0 (h1 := [bb 40 b, eb 0, nb 0 L.n d]) (Eq.trans (show iterR P41 G41 A41 noneO 0 3 [] 22 (v22 L x6 t w i) [bb 40 b, eb 0, nb 0 L.n d] =
(    bif decide (Int.ofNat i < Int.ofNat L.n) then
    bif decide ((0 : Int) ≤ Int.ofNat i) && decide (Int.ofNat i < Int.ofNat L.n) then
    bif ((0 : Nat) + i).blt L.n then
    bif decide ((0 : Int) ≤ Int.ofNat (d ((0 : Nat) + i))) && decide (Int.ofNat (d ((0 : Nat) + i)) < Int.ofNat L.n) then
    bif decide ((0 : Int) ≤ Int.ofNat i) && decide (Int.ofNat i < Int.ofNat L.n) then
    bif ((0 : Nat) + i).blt L.n then
    bif decide ((0 : Int) ≤ Int.ofNat (d ((0 : Nat) + i))) && decide (Int.ofNat (d ((0 : Nat) + i)) < Int.ofNat L.n) then
    bif decide (Int.ofNat i = (0 : Int)) then
    some ((Ex.normal,
      [T.view (4 : Nat) L.n
          (fun j =>
            [T.int IntKind.i64 (L.tm j), T.int IntKind.i64 (L.du j), T.int IntKind.i64 (L.af j),
              T.int IntKind.u32 (L.on j)])
          none,
        x6, T.own (2 : Nat) (0 : Nat) (0 : Nat) L.n none,
        T.int IntKind.i64 (IntKind.i64.wrap (t + L.tm (d ((0 : Nat) + i)))),
        T.int IntKind.i64 (IntKind.i64.wrap (IntKind.i64.wrap (t + L.tm (d ((0 : Nat) + i))) - L.du (d ((0 : Nat) + i)))),
        T.int IntKind.i64 (IntKind.i64.wrap (Int.ofNat i + (1 : Int)))],
      [Blk.mk (0 : Nat) (1 : Nat) (40 : Nat) (fun j => [T.bool (b j)]) true false,
        Blk.mk (0 : Nat) (1 : Nat) (0 : Nat) (fun x => []) true true,
        Blk.mk (0 : Nat) (1 : Nat) L.n (fun j => [T.int IntKind.i64 (Int.ofNat (d j))]) true false]))
    else
    bif decide (w < IntKind.i64.wrap (IntKind.i64.wrap (t + L.tm (d ((0 : Nat) + i))) - L.du (d ((0 : Nat) + i)))) then
    some ((Ex.normal,
      [T.view (4 : Nat) L.n
          (fun j =>
            [T.int IntKind.i64 (L.tm j), T.int IntKind.i64 (L.du j), T.int IntKind.i64 (L.af j),
              T.int IntKind.u32 (L.on j)])
          none,
        x6, T.own (2 : Nat) (0 : Nat) (0 : Nat) L.n none,
        T.int IntKind.i64 (IntKind.i64.wrap (t + L.tm (d ((0 : Nat) + i)))),
        T.int IntKind.i64 (IntKind.i64.wrap (IntKind.i64.wrap (t + L.tm (d ((0 : Nat) + i))) - L.du (d ((0 : Nat) + i)))),
        T.int IntKind.i64 (IntKind.i64.wrap (Int.ofNat i + (1 : Int)))],
      [Blk.mk (0 : Nat) (1 : Nat) (40 : Nat) (fun j => [T.bool (b j)]) true false,
        Blk.mk (0 : Nat) (1 : Nat) (0 : Nat) (fun x => []) true true,
        Blk.mk (0 : Nat) (1 : Nat) L.n (fun j => [T.int IntKind.i64 (Int.ofNat (d j))]) true false]))
    else
    some ((Ex.normal,
      [T.view (4 : Nat) L.n
          (fun j =>
            [T.int IntKind.i64 (L.tm j), T.int IntKind.i64 (L.du j), T.int IntKind.i64 (L.af j),
              T.int IntKind.u32 (L.on j)])
          none,
        x6, T.own (2 : Nat) (0 : Nat) (0 : Nat) L.n none,
        T.int IntKind.i64 (IntKind.i64.wrap (t + L.tm (d ((0 : Nat) + i)))), T.int IntKind.i64 w,
        T.int IntKind.i64 (IntKind.i64.wrap (Int.ofNat i + (1 : Int)))],
      [Blk.mk (0 : Nat) (1 : Nat) (40 : Nat) (fun j => [T.bool (b j)]) true false,
        Blk.mk (0 : Nat) (1 : Nat) (0 : Nat) (fun x => []) true true,
        Blk.mk (0 : Nat) (1 : Nat) L.n (fun j => [T.int IntKind.i64 (Int.ofNat (d j))]) true false]))
    else
    none
    else
    none
    else
    none
    else
    none
    else
    none
    else
    none
    else
    some ((Ex.exit (4 : Nat),
      [T.view (4 : Nat) L.n
          (fun j =>
            [T.int IntKind.i64 (L.tm j), T.int IntKind.i64 (L.du j), T.int IntKind.i64 (L.af j),
              T.int IntKind.u32 (L.on j)])
          none,
        x6, T.own (2 : Nat) (0 : Nat) (0 : Nat) L.n none, T.int IntKind.i64 w],
      [Blk.mk (0 : Nat) (1 : Nat) (40 : Nat) (fun j => [T.bool (b j)]) true false,
        Blk.mk (0 : Nat) (1 : Nat) (0 : Nat) (fun x => []) true true,
        Blk.mk (0 : Nat) (1 : Nat) L.n (fun j => [T.int IntKind.i64 (Int.ofNat (d j))]) true false]))) from by kernel_rfl) ?_) (.refl _)
    (repeat (first | (refine bift (by first | assumption | omega | (simp (disch := omega) only [wr64, wr8, wr16, wr32, ofNatE, toNatE, toNatE1, Bool.and_eq_true, Bool.or_eq_true, Bool.not_eq_true', decide_eq_true_eq, decide_eq_false_iff_not, nble, nblt, nbeq, Nat.zero_add, Nat.add_zero, Int.zero_add, Int.add_zero, List.length_cons, List.length_nil, true_and, and_true, Nat.reduceAdd, and_self]; done) | (simp (disch := omega) only [wr64, wr8, wr16, wr32, ofNatE, toNatE, toNatE1, Bool.and_eq_true, Bool.or_eq_true, Bool.not_eq_true', decide_eq_true_eq, decide_eq_false_iff_not, nble, nblt, nbeq, Nat.zero_add, Nat.add_zero, Int.zero_add, Int.add_zero, List.length_cons, List.length_nil, true_and, and_true, Nat.reduceAdd, and_self]; omega)) ?_) | (refine biff (by first | assumption | (simp (disch := omega) only [wr64, wr8, wr16, wr32, ofNatE, toNatE, toNatE1, Bool.and_eq_true, Bool.or_eq_true, Bool.not_eq_true', decide_eq_true_eq, decide_eq_false_iff_not, nble, nblt, nbeq, Nat.zero_add, Nat.add_zero, Int.zero_add, Int.add_zero, List.length_cons, List.length_nil, true_and, and_true, Nat.reduceAdd, and_self]; done) | (simp (disch := omega) only [wr64, wr8, wr16, wr32, ofNatE, toNatE, toNatE1, Bool.and_eq_true, Bool.or_eq_true, Bool.not_eq_true', decide_eq_true_eq, decide_eq_false_iff_not, nble, nblt, nbeq, Nat.zero_add, Nat.add_zero, Int.zero_add, Int.add_zero, List.length_cons, List.length_nil, true_and, and_true, Nat.reduceAdd, and_self]; omega)) ?_)))
    by_cases q : i = 0
    · rw [if_pos (.inl q)]
      (repeat (first | (refine bift (by first | assumption | omega | (simp (disch := omega) only [wr64, wr8, wr16, wr32, ofNatE, toNatE, toNatE1, Bool.and_eq_true, Bool.or_eq_true, Bool.not_eq_true', decide_eq_true_eq, decide_eq_false_iff_not, nble, nblt, nbeq, Nat.zero_add, Nat.add_zero, Int.zero_add, Int.add_zero, List.length_cons, List.length_nil, true_and, and_true, Nat.reduceAdd, and_self]; done) | (simp (disch := omega) only [wr64, wr8, wr16, wr32, ofNatE, toNatE, toNatE1, Bool.and_eq_true, Bool.or_eq_true, Bool.not_eq_true', decide_eq_true_eq, decide_eq_false_iff_not, nble, nblt, nbeq, Nat.zero_add, Nat.add_zero, Int.zero_add, Int.add_zero, List.length_cons, List.length_nil, true_and, and_true, Nat.reduceAdd, and_self]; omega)) ?_) | (refine biff (by first | assumption | (simp (disch := omega) only [wr64, wr8, wr16, wr32, ofNatE, toNatE, toNatE1, Bool.and_eq_true, Bool.or_eq_true, Bool.not_eq_true', decide_eq_true_eq, decide_eq_false_iff_not, nble, nblt, nbeq, Nat.zero_add, Nat.add_zero, Int.zero_add, Int.add_zero, List.length_cons, List.length_nil, true_and, and_true, Nat.reduceAdd, and_self]; done) | (simp (disch := omega) only [wr64, wr8, wr16, wr32, ofNatE, toNatE, toNatE1, Bool.and_eq_true, Bool.or_eq_true, Bool.not_eq_true', decide_eq_true_eq, decide_eq_false_iff_not, nble, nblt, nbeq, Nat.zero_add, Nat.add_zero, Int.zero_add, Int.add_zero, List.length_cons, List.length_nil, true_and, and_true, Nat.reduceAdd, and_self]; omega)) ?_)))
      first | rfl | (simp (disch := omega) only [wr64, wr8, wr16, wr32, ofNatE, Nat.zero_add, bleT, bltT, dT, dF, Bool.true_and, Bool.and_true, Bool.and_self, cond_true, cond_false, Nat.sub_zero, beq_self_eq_true]; done) | (simp (disch := omega) only [wr64, wr8, wr16, wr32, ofNatE, Nat.zero_add, bleT, bltT, dT, dF, Bool.true_and, Bool.and_true, Bool.and_self, cond_true, cond_false, Nat.sub_zero, beq_self_eq_true]; rfl)
    · refine biff (by first | assumption | (simp (disch := omega) only [wr64, wr8, wr16, wr32, ofNatE, toNatE, toNatE1, Bool.and_eq_true, Bool.or_eq_true, Bool.not_eq_true', decide_eq_true_eq, decide_eq_false_iff_not, nble, nblt, nbeq, Nat.zero_add, Nat.add_zero, Int.zero_add, Int.add_zero, List.length_cons, List.length_nil, true_and, and_true, Nat.reduceAdd, and_self]; done) | (simp (disch := omega) only [wr64, wr8, wr16, wr32, ofNatE, toNatE, toNatE1, Bool.and_eq_true, Bool.or_eq_true, Bool.not_eq_true', decide_eq_true_eq, decide_eq_false_iff_not, nble, nblt, nbeq, Nat.zero_add, Nat.add_zero, Int.zero_add, Int.add_zero, List.length_cons, List.length_nil, true_and, and_true, Nat.reduceAdd, and_self]; omega)) ?_
      by_cases q2 : w < t + L.tm (d i) - L.du (d i)
      · rw [if_pos (.inr q2)]
        (repeat (first | (refine bift (by first | assumption | omega | (simp (disch := omega) only [wr64, wr8, wr16, wr32, ofNatE, toNatE, toNatE1, Bool.and_eq_true, Bool.or_eq_true, Bool.not_eq_true', decide_eq_true_eq, decide_eq_false_iff_not, nble, nblt, nbeq, Nat.zero_add, Nat.add_zero, Int.zero_add, Int.add_zero, List.length_cons, List.length_nil, true_and, and_true, Nat.reduceAdd, and_self]; done) | (simp (disch := omega) only [wr64, wr8, wr16, wr32, ofNatE, toNatE, toNatE1, Bool.and_eq_true, Bool.or_eq_true, Bool.not_eq_true', decide_eq_true_eq, decide_eq_false_iff_not, nble, nblt, nbeq, Nat.zero_add, Nat.add_zero, Int.zero_add, Int.add_zero, List.length_cons, List.length_nil, true_and, and_true, Nat.reduceAdd, and_self]; omega)) ?_) | (refine biff (by first | assumption | (simp (disch := omega) only [wr64, wr8, wr16, wr32, ofNatE, toNatE, toNatE1, Bool.and_eq_true, Bool.or_eq_true, Bool.not_eq_true', decide_eq_true_eq, decide_eq_false_iff_not, nble, nblt, nbeq, Nat.zero_add, Nat.add_zero, Int.zero_add, Int.add_zero, List.length_cons, List.length_nil, true_and, and_true, Nat.reduceAdd, and_self]; done) | (simp (disch := omega) only [wr64, wr8, wr16, wr32, ofNatE, toNatE, toNatE1, Bool.and_eq_true, Bool.or_eq_true, Bool.not_eq_true', decide_eq_true_eq, decide_eq_false_iff_not, nble, nblt, nbeq, Nat.zero_add, Nat.add_zero, Int.zero_add, Int.add_zero, List.length_cons, List.length_nil, true_and, and_true, Nat.reduceAdd, and_self]; omega)) ?_)))
        first | rfl | (simp (disch := omega) only [wr64, wr8, wr16, wr32, ofNatE, Nat.zero_add, bleT, bltT, dT, dF, Bool.true_and, Bool.and_true, Bool.and_self, cond_true, cond_false, Nat.sub_zero, beq_self_eq_true]; done) | (simp (disch := omega) only [wr64, wr8, wr16, wr32, ofNatE, Nat.zero_add, bleT, bltT, dT, dF, Bool.true_and, Bool.and_true, Bool.and_self, cond_true, cond_false, Nat.sub_zero, beq_self_eq_true]; rfl)
      · rw [if_neg (by omega)]
        (repeat (first | (refine bift (by first | assumption | omega | (simp (disch := omega) only [wr64, wr8, wr16, wr32, ofNatE, toNatE, toNatE1, Bool.and_eq_true, Bool.or_eq_true, Bool.not_eq_true', decide_eq_true_eq, decide_eq_false_iff_not, nble, nblt, nbeq, Nat.zero_add, Nat.add_zero, Int.zero_add, Int.add_zero, List.length_cons, List.length_nil, true_and, and_true, Nat.reduceAdd, and_self]; done) | (simp (disch := omega) only [wr64, wr8, wr16, wr32, ofNatE, toNatE, toNatE1, Bool.and_eq_true, Bool.or_eq_true, Bool.not_eq_true', decide_eq_true_eq, decide_eq_false_iff_not, nble, nblt, nbeq, Nat.zero_add, Nat.add_zero, Int.zero_add, Int.add_zero, List.length_cons, List.length_nil, true_and, and_true, Nat.reduceAdd, and_self]; omega)) ?_) | (refine biff (by first | assumption | (simp (disch := omega) only [wr64, wr8, wr16, wr32, ofNatE, toNatE, toNatE1, Bool.and_eq_true, Bool.or_eq_true, Bool.not_eq_true', decide_eq_true_eq, decide_eq_false_iff_not, nble, nblt, nbeq, Nat.zero_add, Nat.add_zero, Int.zero_add, Int.add_zero, List.length_cons, List.length_nil, true_and, and_true, Nat.reduceAdd, and_self]; done) | (simp (disch := omega) only [wr64, wr8, wr16, wr32, ofNatE, toNatE, toNatE1, Bool.and_eq_true, Bool.or_eq_true, Bool.not_eq_true', decide_eq_true_eq, decide_eq_false_iff_not, nble, nblt, nbeq, Nat.zero_add, Nat.add_zero, Int.zero_add, Int.add_zero, List.length_cons, List.length_nil, true_and, and_true, Nat.reduceAdd, and_self]; omega)) ?_)))
        first | rfl | (simp (disch := omega) only [wr64, wr8, wr16, wr32, ofNatE, Nat.zero_add, bleT, bltT, dT, dF, Bool.true_and, Bool.and_true, Bool.and_self, cond_true, cond_false, Nat.sub_zero, beq_self_eq_true]; done) | (simp (disch := omega) only [wr64, wr8, wr16, wr32, ofNatE, Nat.zero_add, bleT, bltT, dT, dF, Bool.true_and, Bool.and_true, Bool.and_self, cond_true, cond_false, Nat.sub_zero, beq_self_eq_true]; rfl)
  · generalize wst L d L.n = w at *
    generalize tms L d L.n = t at *
    refine Last.mk0 (A := A41) (m := 0) none_ok rfl rfl loops0 (by simp) (h1 := [bb 40 b, eb 0, nb 0 L.n d]) (Eq.trans (show iterR P41 G41 A41 noneO 0 3 [] 22 (v22 L x6 t w L.n) [bb 40 b, eb 0, nb 0 L.n d] =
(    bif decide (Int.ofNat L.n < Int.ofNat L.n) then
    bif decide ((0 : Int) ≤ Int.ofNat L.n) && decide (Int.ofNat L.n < Int.ofNat L.n) then
    bif ((0 : Nat) + L.n).blt L.n then
    bif decide ((0 : Int) ≤ Int.ofNat (d ((0 : Nat) + L.n))) &&
      decide (Int.ofNat (d ((0 : Nat) + L.n)) < Int.ofNat L.n) then
    bif decide ((0 : Int) ≤ Int.ofNat L.n) && decide (Int.ofNat L.n < Int.ofNat L.n) then
    bif ((0 : Nat) + L.n).blt L.n then
    bif decide ((0 : Int) ≤ Int.ofNat (d ((0 : Nat) + L.n))) &&
      decide (Int.ofNat (d ((0 : Nat) + L.n)) < Int.ofNat L.n) then
    bif decide (Int.ofNat L.n = (0 : Int)) then
    some ((Ex.normal,
      [T.view (4 : Nat) L.n
          (fun j =>
            [T.int IntKind.i64 (L.tm j), T.int IntKind.i64 (L.du j), T.int IntKind.i64 (L.af j),
              T.int IntKind.u32 (L.on j)])
          none,
        x6, T.own (2 : Nat) (0 : Nat) (0 : Nat) L.n none,
        T.int IntKind.i64 (IntKind.i64.wrap (t + L.tm (d ((0 : Nat) + L.n)))),
        T.int IntKind.i64
          (IntKind.i64.wrap (IntKind.i64.wrap (t + L.tm (d ((0 : Nat) + L.n))) - L.du (d ((0 : Nat) + L.n)))),
        T.int IntKind.i64 (IntKind.i64.wrap (Int.ofNat L.n + (1 : Int)))],
      [Blk.mk (0 : Nat) (1 : Nat) (40 : Nat) (fun j => [T.bool (b j)]) true false,
        Blk.mk (0 : Nat) (1 : Nat) (0 : Nat) (fun x => []) true true,
        Blk.mk (0 : Nat) (1 : Nat) L.n (fun j => [T.int IntKind.i64 (Int.ofNat (d j))]) true false]))
    else
    bif decide (w < IntKind.i64.wrap (IntKind.i64.wrap (t + L.tm (d ((0 : Nat) + L.n))) - L.du (d ((0 : Nat) + L.n)))) then
    some ((Ex.normal,
      [T.view (4 : Nat) L.n
          (fun j =>
            [T.int IntKind.i64 (L.tm j), T.int IntKind.i64 (L.du j), T.int IntKind.i64 (L.af j),
              T.int IntKind.u32 (L.on j)])
          none,
        x6, T.own (2 : Nat) (0 : Nat) (0 : Nat) L.n none,
        T.int IntKind.i64 (IntKind.i64.wrap (t + L.tm (d ((0 : Nat) + L.n)))),
        T.int IntKind.i64
          (IntKind.i64.wrap (IntKind.i64.wrap (t + L.tm (d ((0 : Nat) + L.n))) - L.du (d ((0 : Nat) + L.n)))),
        T.int IntKind.i64 (IntKind.i64.wrap (Int.ofNat L.n + (1 : Int)))],
      [Blk.mk (0 : Nat) (1 : Nat) (40 : Nat) (fun j => [T.bool (b j)]) true false,
        Blk.mk (0 : Nat) (1 : Nat) (0 : Nat) (fun x => []) true true,
        Blk.mk (0 : Nat) (1 : Nat) L.n (fun j => [T.int IntKind.i64 (Int.ofNat (d j))]) true false]))
    else
    some ((Ex.normal,
      [T.view (4 : Nat) L.n
          (fun j =>
            [T.int IntKind.i64 (L.tm j), T.int IntKind.i64 (L.du j), T.int IntKind.i64 (L.af j),
              T.int IntKind.u32 (L.on j)])
          none,
        x6, T.own (2 : Nat) (0 : Nat) (0 : Nat) L.n none,
        T.int IntKind.i64 (IntKind.i64.wrap (t + L.tm (d ((0 : Nat) + L.n)))), T.int IntKind.i64 w,
        T.int IntKind.i64 (IntKind.i64.wrap (Int.ofNat L.n + (1 : Int)))],
      [Blk.mk (0 : Nat) (1 : Nat) (40 : Nat) (fun j => [T.bool (b j)]) true false,
        Blk.mk (0 : Nat) (1 : Nat) (0 : Nat) (fun x => []) true true,
        Blk.mk (0 : Nat) (1 : Nat) L.n (fun j => [T.int IntKind.i64 (Int.ofNat (d j))]) true false]))
    else
    none
    else
    none
    else
    none
    else
    none
    else
    none
    else
    none
    else
    some ((Ex.exit (4 : Nat),
      [T.view (4 : Nat) L.n
          (fun j =>
            [T.int IntKind.i64 (L.tm j), T.int IntKind.i64 (L.du j), T.int IntKind.i64 (L.af j),
              T.int IntKind.u32 (L.on j)])
          none,
        x6, T.own (2 : Nat) (0 : Nat) (0 : Nat) L.n none, T.int IntKind.i64 w],
      [Blk.mk (0 : Nat) (1 : Nat) (40 : Nat) (fun j => [T.bool (b j)]) true false,
        Blk.mk (0 : Nat) (1 : Nat) (0 : Nat) (fun x => []) true true,
        Blk.mk (0 : Nat) (1 : Nat) L.n (fun j => [T.int IntKind.i64 (Int.ofNat (d j))]) true false]))) from by kernel_rfl) ?_) (.refl _)
    (repeat (first | (refine bift (by first | assumption | omega | (simp (disch := omega) only [wr64, wr8, wr16, wr32, ofNatE, toNatE, toNatE1, Bool.and_eq_true, Bool.or_eq_true, Bool.not_eq_true', decide_eq_true_eq, decide_eq_false_iff_not, nble, nblt, nbeq, Nat.zero_add, Nat.add_zero, Int.zero_add, Int.add_zero, List.length_cons, List.length_nil, true_and, and_true, Nat.reduceAdd, and_self]; done) | (simp (disch := omega) only [wr64, wr8, wr16, wr32, ofNatE, toNatE, toNatE1, Bool.and_eq_true, Bool.or_eq_true, Bool.not_eq_true', decide_eq_true_eq, decide_eq_false_iff_not, nble, nblt, nbeq, Nat.zero_add, Nat.add_zero, Int.zero_add, Int.add_zero, List.length_cons, List.length_nil, true_and, and_true, Nat.reduceAdd, and_self]; omega)) ?_) | (refine biff (by first | assumption | (simp (disch := omega) only [wr64, wr8, wr16, wr32, ofNatE, toNatE, toNatE1, Bool.and_eq_true, Bool.or_eq_true, Bool.not_eq_true', decide_eq_true_eq, decide_eq_false_iff_not, nble, nblt, nbeq, Nat.zero_add, Nat.add_zero, Int.zero_add, Int.add_zero, List.length_cons, List.length_nil, true_and, and_true, Nat.reduceAdd, and_self]; done) | (simp (disch := omega) only [wr64, wr8, wr16, wr32, ofNatE, toNatE, toNatE1, Bool.and_eq_true, Bool.or_eq_true, Bool.not_eq_true', decide_eq_true_eq, decide_eq_false_iff_not, nble, nblt, nbeq, Nat.zero_add, Nat.add_zero, Int.zero_add, Int.add_zero, List.length_cons, List.length_nil, true_and, and_true, Nat.reduceAdd, and_self]; omega)) ?_)))
    first | rfl | (simp (disch := omega) only [wr64, wr8, wr16, wr32, ofNatE, Nat.zero_add, bleT, bltT, dT, dF, Bool.true_and, Bool.and_true, Bool.and_self, cond_true, cond_false, Nat.sub_zero, beq_self_eq_true]; done) | (simp (disch := omega) only [wr64, wr8, wr16, wr32, ofNatE, Nat.zero_add, bleT, bltT, dT, dF, Bool.true_and, Bool.and_true, Bool.and_self, cond_true, cond_false, Nat.sub_zero, beq_self_eq_true]; rfl)
end Go.Ab

/- Orders of jobs: what the program's numbers are. -/
namespace Go.Ab
open Go.Proofs
def oL (o : Nat → Nat) (n : Nat) : List Nat := (List.range n).map o
theorem oL_len (o : Nat → Nat) (n : Nat) : (oL o n).length = n := by simp [oL]
theorem oL_get (o : Nat → Nat) (n : Nat) {i : Nat} (hi : i < (oL o n).length) : (oL o n)[i] = o i := by simp [oL]
theorem oL_take (o : Nat → Nat) {n i : Nat} (hi : i ≤ n) : (oL o n).take i = oL o i := by
  unfold oL
  rw [← List.map_take, List.take_range, Nat.min_eq_left hi]
theorem tms_tot (L : JL) (o : Nat → Nat) : ∀ i, tms L o i = tot L.tm (oL o i) := by
  intro i
  induction i with
  | zero => rfl
  | succ i ih => simp only [tms, ih, oL, List.range_succ, List.map_append, tot_app, List.map_cons, List.map_nil, tot_one]
theorem Ordr.nodup {n : Nat} {d : Nat → Nat} (h : Ordr n d) : (oL d n).Nodup := by
  rw [List.nodup_iff_pairwise_ne, List.pairwise_iff_getElem]
  intro i j hi hj hij
  rw [oL_get, oL_get]
  exact h.ne i j hij (by simpa [oL] using hj)
theorem nodup_perm_range {l : List Nat} {n : Nat} (hl : l.Nodup) (hn : l.length = n) (hb : ∀ x ∈ l, x < n) : l.Perm (List.range n) := by
  refine (List.perm_ext_iff_of_nodup hl List.nodup_range).2 fun x => ⟨fun h => List.mem_range.2 (hb x h), fun h => ?_⟩
  by_cases q : x ∈ l
  · exact q
  · exfalso
    have h1 : (x :: l).Nodup := List.nodup_cons.2 ⟨q, hl⟩
    have h2 := h1.length_le_of_subset (l₂ := List.range n) fun y hy => by
      rcases List.mem_cons.1 hy with rfl | hy
      · exact h
      · exact List.mem_range.2 (hb y hy)
    simp at h2
    omega
theorem Ordr.perm {n : Nat} {d : Nat → Nat} (h : Ordr n d) : (oL d n).Perm (List.range n) :=
  nodup_perm_range h.nodup (oL_len d n) fun x hx => by
    obtain ⟨j, hj, rfl⟩ := List.mem_map.1 hx
    exact h.lt j (List.mem_range.1 hj)
theorem oL_oN (L : JL) : oL (oN L) L.n = ordL L.du L.n := by
  have hl := ordL_len L.du L.n
  refine List.ext_getElem (by rw [oL_len, hl]) fun i h1 h2 => ?_
  rw [oL_get]
  unfold oN
  rw [getD_eq h2]
theorem oN_ordr (L : JL) : Ordr L.n (oN L) := by
  refine ⟨fun j hj => oN_lt hj, fun i j hij hj e => ?_⟩
  have hl := ordL_len L.du L.n
  have hp := List.nodup_iff_pairwise_ne.1 (ordL_nodup L.du L.n)
  have := List.pairwise_iff_getElem.1 hp i j (by omega) (by omega) hij
  unfold oN at e
  rw [getD_eq (by omega), getD_eq (by omega)] at e
  exact this e
theorem ordL_due (du : Nat → Int) (n : Nat) : (ordL du n).Pairwise fun x y => du x ≤ du y :=
  List.Pairwise.imp (fun {a b} h => by unfold dueLt at h; omega) (ordL_sorted du n)
theorem oN_next (L : JL) (i : Nat) (hi : i + 1 < L.n) : L.du (oN L i) < L.du (oN L (i + 1)) ∨ (L.du (oN L i) = L.du (oN L (i + 1)) ∧ oN L i < oN L (i + 1)) := by
  have hl := ordL_len L.du L.n
  have h1 := (oN_ordr L).ne i (i + 1) (by omega) hi
  have h2 := List.pairwise_iff_getElem.1 (ordL_sorted L.du L.n) i (i + 1) (by omega) (by omega) (by omega)
  rw [← getD_eq, ← getD_eq] at h2
  unfold oN at *
  unfold dueLt at h2
  omega
theorem wst_ge (L : JL) (o : Nat → Nat) : ∀ m i, i < m → tms L o (i + 1) - L.du (o i) ≤ wst L o m := by
  intro m
  induction m with
  | zero => intro i hi; omega
  | succ m ih =>
    intro i hi
    simp only [wst]
    rcases Nat.lt_or_ge i m with q | q
    · have := ih i q
      split <;> omega
    · obtain rfl : i = m := by omega
      split <;> omega
theorem wst_mem (L : JL) (o : Nat → Nat) : ∀ m, 0 < m → ∃ i, i < m ∧ wst L o m = tms L o (i + 1) - L.du (o i) := by
  intro m
  induction m with
  | zero => intro h; omega
  | succ m ih =>
    intro _
    simp only [wst]
    split
    · exact ⟨m, by omega, rfl⟩
    · rename_i h
      obtain ⟨i, hi, e⟩ := ih (by omega)
      exact ⟨i, by omega, e⟩
/-- No order has a lesser lateness than that by due time. -/
theorem wst_least (L : JL) (hL : L.Ok) (d : Nat → Nat) (hd : Ordr L.n d) : wst L (oN L) L.n ≤ wst L d L.n := by
  rcases Nat.eq_zero_or_pos L.n with h0 | h0
  · rw [h0]; exact Int.le_refl _
  · obtain ⟨i, hi, e⟩ := wst_mem L (oN L) L.n h0
    rw [e]
    have hp : ∀ x ∈ oL d L.n, 0 ≤ L.tm x := fun x hx => by
      have := hL.tm x (List.mem_range.1 (hd.perm.mem_iff.1 hx)); omega
    have hpm := ordL_perm L.du L.n
    have hi' : i < (ordL L.du L.n).length := by rw [ordL_len]; exact hi
    obtain ⟨k, hk, h1, h2, h3⟩ := late_of (tm := L.tm) (du := L.du) hp hd.nodup (ordL_nodup L.du L.n) (fun x hx => hd.perm.mem_iff.2 (hpm.mem_iff.1 hx)) (ordL_due L.du L.n) hi'
    rw [oL_get] at h3
    rw [oL_len] at hk
    have hw := wst_ge L d L.n k hk
    rw [oL_take d (by omega), ← tms_tot] at h2
    rw [← oL_oN, oL_take _ (by omega), ← tms_tot] at h2
    have e2 : (ordL L.du L.n)[i] = oN L i := by unfold oN; rw [getD_eq hi']
    rw [e2] at h3
    omega
end Go.Ab

namespace Go.Ab
open Go.Proofs
theorem JR.lok (R : JR) (hR : R.Ok) (m : Nat) (hm : m ≤ 40) : (R.L m).Ok := by
  refine ⟨by show m ≤ 256; omega, fun j _ => ?_, fun j _ => ?_, fun j _ => ?_, fun j _ => ?_⟩
  · have := hR.t j
    show _ ≤ ((1 + R.t j : Nat) : Int) ∧ ((1 + R.t j : Nat) : Int) ≤ _
    omega
  · have := hR.d j
    show _ ≤ ((R.d j : Nat) : Int) ∧ ((R.d j : Nat) : Int) ≤ _
    omega
  · have := hR.a j
    show _ ≤ ((R.a j : Nat) : Int) ∧ ((R.a j : Nat) : Int) ≤ _
    omega
  · have := onV_le (R.o j)
    show _ ≤ ((onV (R.o j) : Nat) : Int) ∧ ((onV (R.o j) : Nat) : Int) ≤ _
    omega
theorem min40 (n : Nat) : Nat.min n 40 ≤ 40 := Nat.min_le_right _ _
theorem lateV_eq (L : JL) (x : T) (m : Nat) (o : Nat → Nat) (g : Nat → List T) (c : Option Nat) (hg : ∀ j, j < m → g j = [.int .i64 (o j : Nat)]) : lateVF L [x, .view 1 m g c] = wst L o m := by
  show wst L (fun j => cellN (g j)) m = wst L o m
  have hc : ∀ j, j < m → cellN (g j) = o j := fun j hj => by rw [hg j hj]; rfl
  have e : ∀ i, i ≤ m → tms L (fun j => cellN (g j)) i = tms L o i := by
    intro i
    induction i with
    | zero => intro _; rfl
    | succ i ih => intro hi; simp only [tms, ih (by omega), hc i (by omega)]
  have key : ∀ i, i ≤ m → wst L (fun j => cellN (g j)) i = wst L o i := by
    intro i
    induction i with
    | zero => intro _; rfl
    | succ i ih => intro hi; simp only [wst, ih (by omega), e (i + 1) (by omega), hc i (by omega)]
  exact key m (Nat.le_refl _)
theorem lateG (L : JL) (hL : L.Ok) (cj : Option Nat) (m : Nat) (o : Nat → Nat) (g : Nat → List T) (c : Option Nat) (hm : m ≤ 256) (ho : ∀ j, j < m → o j < L.n) (hd : ∀ i j, i < j → j < m → o i ≠ o j) (hg : ∀ j, j < m → g j = [.int .i64 (o j : Nat)]) : ToldOk P41 G41 11 [jv L cj, .view 1 m g c] (.tup [.int .i64 (wst L o m), .int .i64 0]) :=
  (lateT L cj m o c hL hm ho hd).sim (.cons (.refl _) (.cons (.view (.inl rfl) fun j hj => by rw [hg j hj]; exact .refl _) .nil))
theorem law3z (R : JR) (c : Option Nat) (hR : R.Ok) (nm : Nat) (mm : Nat → Nat) (cm : Option Nat) (h0 : Nat.min R.n 40 = 0) : ToldOk P41 G41 3 [R.v c, mvT nm mm cm] (.bool true) := by
  have h9 := listT R c hR
  have hL := R.lok hR _ (min40 R.n)
  have h10 := orderT (R.L (Nat.min R.n 40)) none hL
  have h11 := fun (g : Nat → List T) (c : Option Nat) => lateG (R.L (Nat.min R.n 40)) hL none 0 (fun j => j) g c (by omega) (fun j hj => by omega) (fun i j _ hj => by omega) (fun j hj => by omega)
  have hv := fun (x : T) (g : Nat → List T) (c : Option Nat) => lateV_eq (R.L (Nat.min R.n 40)) x 0 (fun j => j) g c (fun j hj => by omega)
  unfold jv iv at *
  rw [show (R.L (Nat.min R.n 40)).n = Nat.min R.n 40 from rfl] at *
  generalize (fun j => [T.int .i64 ((R.L (Nat.min R.n 40)).tm j), .int .i64 ((R.L (Nat.min R.n 40)).du j), .int .i64 ((R.L (Nat.min R.n 40)).af j), .int .u32 ((R.L (Nat.min R.n 40)).on j)]) = gj at *
  generalize (fun j => [T.int .i64 (ordI (R.L (Nat.min R.n 40)) j)]) = go at *
  rw [h0] at *
  generalize R.L 0 = L at *
  obtain ⟨p9, e9⟩ := told_pred P41 G41 9 (.new (.view 4 0 gj none))
  obtain ⟨p10, e10⟩ := told_pred P41 G41 10 (.tup [.view 1 0 go (some 0), .int .i64 0])
  obtain ⟨p11, e11⟩ := told_predI P41 G41 11 (lateVF L)
  obtain ⟨p12, e12⟩ := told_pred P41 G41 12 (.bool true)
  have y := fun (g : Nat → List T) (c : Option Nat) => predI_yes e11 (h11 g c) (hv _ g c)
  have w : ∀ (x : T) (g : Nat → List T) (c : Option Nat), lateVF L [x, .view 1 0 g c] = 0 := fun x g c => hv x g c
  refine stepL_told hm41 hn41 (K := K3 p9 p10 p11 p12 (.view 4 0 gj none) (.view 1 0 go (some 0)) (lateVF L)) (told_add (told_add (told_add (told_add none_ok (callP_told (told_predT e9))) (callP_told (told_predT e10))) (callI_told (predI_told e11))) (callP_told (told_predT e12))) (A := A41) (m := 1) (by kernel_rfl) loops0 ?_
  generalize lateVF L = vF at *
  refine Eq.trans (show stepL P41 G41 A41 (K3 p9 p10 p11 p12 (.view 4 0 gj none) (.view 1 0 go (some 0)) vF) 1 3 [] [R.v c, mvT nm mm cm] =
(    bif propF p9
      [T.view (4 : Nat) R.n
          (fun j =>
            [T.int IntKind.u8 (Int.ofNat (R.t j)), T.int IntKind.u8 (Int.ofNat (R.d j)),
              T.int IntKind.u8 (Int.ofNat (R.a j)), T.int IntKind.u8 (Int.ofNat (R.o j))])
          c] then
    bif propF p10 [T.view (4 : Nat) (0 : Nat) gj none] then
    bif decide ((1 : Int) < Int.ofNat nm) then
    bif propF p11 [T.view (4 : Nat) (0 : Nat) gj none, T.view (1 : Nat) (0 : Nat) (fun j => []) (some (0 : Nat))] then
    bif propF p11 [T.view (4 : Nat) (0 : Nat) gj none, T.view (1 : Nat) (0 : Nat) go (some (0 : Nat))] then
    bif decide
      (vF [T.view (4 : Nat) (0 : Nat) gj none, T.view (1 : Nat) (0 : Nat) (fun j => []) (some (0 : Nat))] = (0 : Int)) then
    bif decide
      (vF [T.view (4 : Nat) (0 : Nat) gj none, T.view (1 : Nat) (0 : Nat) go (some (0 : Nat))] ≤
        vF [T.view (4 : Nat) (0 : Nat) gj none, T.view (1 : Nat) (0 : Nat) (fun j => []) (some (0 : Nat))]) then
    bif propF p12 [] then
    some (T.bool true)
    else
    none
    else
    some (T.bool false)
    else
    some (T.bool false)
    else
    none
    else
    none
    else
    bif propF p11 [T.view (4 : Nat) (0 : Nat) gj none, T.view (1 : Nat) (0 : Nat) (fun j => []) (some (0 : Nat))] then
    bif propF p11 [T.view (4 : Nat) (0 : Nat) gj none, T.view (1 : Nat) (0 : Nat) go (some (0 : Nat))] then
    bif decide
      (vF [T.view (4 : Nat) (0 : Nat) gj none, T.view (1 : Nat) (0 : Nat) (fun j => []) (some (0 : Nat))] = (0 : Int)) then
    bif decide
      (vF [T.view (4 : Nat) (0 : Nat) gj none, T.view (1 : Nat) (0 : Nat) go (some (0 : Nat))] ≤
        vF [T.view (4 : Nat) (0 : Nat) gj none, T.view (1 : Nat) (0 : Nat) (fun j => []) (some (0 : Nat))]) then
    bif propF p12 [] then
    some (T.bool true)
    else
    none
    else
    some (T.bool false)
    else
    some (T.bool false)
    else
    none
    else
    none
    else
    none
    else
    none) from by kernel_rfl) ?_
  have fin : (bif propF p11 [T.view 4 0 gj none, T.view 1 0 (fun j => []) (some 0)] then bif propF p11 [T.view 4 0 gj none, T.view 1 0 go (some 0)] then
      bif decide (vF [T.view 4 0 gj none, T.view 1 0 (fun j => []) (some 0)] = 0) then bif decide (vF [T.view 4 0 gj none, T.view 1 0 go (some 0)] ≤ vF [T.view 4 0 gj none, T.view 1 0 (fun j => []) (some 0)]) then
      bif propF p12 [] then some (T.bool true) else none else some (T.bool false) else some (T.bool false) else none else none) = some (T.bool true) :=
    bift (y _ _) (bift (y _ _) (bift (dT (w _ _ _)) (bift (dT (by rw [w, w]; exact Int.le_refl _)) (bift (pred_yes e12 livesT) rfl))))
  refine bift (pred_yes e9 h9) (bift (pred_yes e10 h10) ?_)
  exact bifd (fun _ => fin) fun _ => fin
theorem le2 {a b x y : Int} (h1 : a = x) (h2 : b = y) (h : x ≤ y) : a ≤ b := by rw [h1, h2]; exact h
theorem law3p (R : JR) (c : Option Nat) (hR : R.Ok) (nm : Nat) (mm : Nat → Nat) (cm : Option Nat) (hmm : ∀ j, mm j < 256) (h0 : 0 < Nat.min R.n 40) : ToldOk P41 G41 3 [R.v c, mvT nm mm cm] (.bool true) := by
  have h9 := listT R c hR
  have hL := R.lok hR _ (min40 R.n)
  have h10 : ToldOk P41 G41 10 [jv (R.L (Nat.min R.n 40)) none] (.tup [ov (Nat.min R.n 40) (oN (R.L (Nat.min R.n 40))) (some (Nat.min R.n 40)), .int .i64 0]) := orderT (R.L (Nat.min R.n 40)) none hL
  have hm := min40 R.n
  have hn : (R.L (Nat.min R.n 40)).n = Nat.min R.n 40 := rfl
  generalize Nat.min R.n 40 = n at *
  generalize R.L n = L at *
  subst hn
  have ho := oN_ordr L
  have la := l3a (mvT nm mm cm) L hm (oN L) ho (oN_next L)
  obtain ⟨d, hd, lb⟩ := l3b (jv L none) (ov L.n (oN L) (some L.n)) nm mm cm hmm L.n h0 hm (seenF (oN L) L.n) (oN L) ho
  have lc := l3c L hL (ov L.n (oN L) (some L.n)) (seenF (oN L) L.n) d hd
  have hw := wst_least L hL d hd
  obtain ⟨p9, e9⟩ := told_pred P41 G41 9 (.new (jv L none))
  obtain ⟨p10, e10⟩ := told_pred P41 G41 10 (.tup [ov L.n (oN L) (some L.n), .int .i64 0])
  obtain ⟨p11, e11⟩ := told_predI P41 G41 11 (lateVF L)
  obtain ⟨p12, e12⟩ := told_pred P41 G41 12 (.bool true)
  have y1 := predI_yes e11 (lateG L hL none L.n d (fun j => [.int .i64 (d (0 + j) : Nat)]) none (by omega) hd.lt hd.ne (fun j _ => by rw [Nat.zero_add])) (lateV_eq L _ L.n d _ _ (fun j _ => by rw [Nat.zero_add]))
  have y2 := predI_yes e11 (lateG L hL none L.n (oN L) (fun j => [.int .i64 (oN L j : Nat)]) (some L.n) (by omega) ho.lt ho.ne (fun j _ => rfl)) (lateV_eq L _ L.n (oN L) _ _ (fun j _ => rfl))
  have v1 := lateV_eq L (jv L none) L.n d (fun j => [.int .i64 (d (0 + j) : Nat)]) none (fun j _ => by rw [Nat.zero_add])
  have v2 := lateV_eq L (jv L none) L.n (oN L) (fun j => [.int .i64 (oN L j : Nat)]) (some L.n) (fun j _ => rfl)
  generalize oN L = o at *
  generalize seenF o L.n = sn at *
  refine stepL_told hm41 hn41 (K := K3 p9 p10 p11 p12 (jv L none) (ov L.n o (some L.n)) (lateVF L)) (told_add (told_add (told_add (told_add none_ok (callP_told (told_predT e9))) (callP_told (told_predT e10))) (callI_told (predI_told e11))) (callP_told (told_predT e12))) (A := A41) (m := 0) (by kernel_rfl) (loopsC la (loopsC lb (loops1 lc))) ?_
  generalize lateVF L = vF at *
  generalize wst L d L.n = wd at *
  refine Eq.trans (show stepL P41 G41 A41 (K3 p9 p10 p11 p12 (jv L none) (ov L.n o (some L.n)) vF) 0 3 [(7, litS (v7 (mvT nm mm cm) L o 0) [bb 40 fun _ => false] (.exit 0) (e7 (mvT nm mm cm) L o) [bb 40 sn]), (16, litS (v16 (mvT nm mm cm) (jv L none) (ov L.n o (some L.n)) L.n 0) [bb 40 sn, eb 0, nb 0 L.n o] (.exit 2) (e16 (jv L none) (ov L.n o (some L.n)) L.n) [bb 40 sn, eb 0, nb 0 L.n d]), (22, litS (v22 L (ov L.n o (some L.n)) 0 0 0) [bb 40 sn, eb 0, nb 0 L.n d] (.exit 4) (e22 L (ov L.n o (some L.n)) wd) [bb 40 sn, eb 0, nb 0 L.n d])] [R.v c, mvT nm mm cm] =
(    bif propF p9
      [T.view (4 : Nat) R.n
          (fun j =>
            [T.int IntKind.u8 (Int.ofNat (R.t j)), T.int IntKind.u8 (Int.ofNat (R.d j)),
              T.int IntKind.u8 (Int.ofNat (R.a j)), T.int IntKind.u8 (Int.ofNat (R.o j))])
          c] then
    bif propF p10
      [T.view (4 : Nat) L.n
          (fun j =>
            [T.int IntKind.i64 (L.tm j), T.int IntKind.i64 (L.du j), T.int IntKind.i64 (L.af j),
              T.int IntKind.u32 (L.on j)])
          none] then
    bif !decide (Int.ofNat L.n = Int.ofNat L.n) then
    some (T.bool false)
    else
    bif !decide (Int.ofNat L.n = Int.ofNat L.n) then
    some (T.bool false)
    else
    bif weakF
      [T.view (1 : Nat) nm (fun j => [T.int IntKind.u8 (Int.ofNat (mm j))]) cm,
        T.view (4 : Nat) L.n
          (fun j =>
            [T.int IntKind.i64 (L.tm j), T.int IntKind.i64 (L.du j), T.int IntKind.i64 (L.af j),
              T.int IntKind.u32 (L.on j)])
          none,
        T.view (1 : Nat) L.n (fun j => [T.int IntKind.i64 (Int.ofNat (o j))]) (some L.n),
        T.ptr (0 : Nat) (0 : Nat) (0 : Nat) (0 : Nat), T.int IntKind.i64 (0 : Int)]
      [Blk.mk (0 : Nat) (1 : Nat) (40 : Nat) (fun x => [T.bool false]) true false]
      [T.view (1 : Nat) nm (fun j => [T.int IntKind.u8 (Int.ofNat (mm j))]) cm,
        T.view (4 : Nat) L.n
          (fun j =>
            [T.int IntKind.i64 (L.tm j), T.int IntKind.i64 (L.du j), T.int IntKind.i64 (L.af j),
              T.int IntKind.u32 (L.on j)])
          none,
        T.view (1 : Nat) L.n (fun j => [T.int IntKind.i64 (Int.ofNat (o j))]) (some L.n),
        T.ptr (0 : Nat) (0 : Nat) (0 : Nat) (0 : Nat), T.int IntKind.i64 (0 : Int)]
      [Blk.mk (0 : Nat) (1 : Nat) (40 : Nat) (fun j => [T.bool false]) true false] then
    bif L.n == (0 : Nat) then
    bif weakF
      [T.view (1 : Nat) nm (fun j => [T.int IntKind.u8 (Int.ofNat (mm j))]) cm,
        T.view (4 : Nat) L.n
          (fun j =>
            [T.int IntKind.i64 (L.tm j), T.int IntKind.i64 (L.du j), T.int IntKind.i64 (L.af j),
              T.int IntKind.u32 (L.on j)])
          none,
        T.view (1 : Nat) L.n (fun j => [T.int IntKind.i64 (Int.ofNat (o j))]) (some L.n),
        T.own [Blk.mk (0 : Nat) (1 : Nat) (40 : Nat) (fun j => [T.bool (sn j)]) true false].length (0 : Nat) (0 : Nat)
          (0 : Nat) (some (0 : Nat)),
        T.int IntKind.i64 (0 : Int)]
      [Blk.mk (0 : Nat) (1 : Nat) (40 : Nat) (fun j => [T.bool (sn j)]) true false,
        Blk.mk (0 : Nat) (1 : Nat) (0 : Nat) (fun j => []) true true]
      [T.view (1 : Nat) nm (fun j => [T.int IntKind.u8 (Int.ofNat (mm j))]) cm,
        T.view (4 : Nat) L.n
          (fun j =>
            [T.int IntKind.i64 (L.tm j), T.int IntKind.i64 (L.du j), T.int IntKind.i64 (L.af j),
              T.int IntKind.u32 (L.on j)])
          none,
        T.view (1 : Nat) L.n (fun j => [T.int IntKind.i64 (Int.ofNat (o j))]) (some L.n),
        T.own (2 : Nat) (0 : Nat) (0 : Nat) L.n none, T.int IntKind.i64 (0 : Int)]
      [Blk.mk (0 : Nat) (1 : Nat) (40 : Nat) (fun j => [T.bool (sn j)]) true false,
        Blk.mk (0 : Nat) (1 : Nat) (0 : Nat) (fun x => []) true true,
        Blk.mk (0 : Nat) (1 : Nat) L.n (fun j => [T.int IntKind.i64 (Int.ofNat (o j))]) true false] then
    bif weakF
      [T.view (4 : Nat) L.n
          (fun j =>
            [T.int IntKind.i64 (L.tm j), T.int IntKind.i64 (L.du j), T.int IntKind.i64 (L.af j),
              T.int IntKind.u32 (L.on j)])
          none,
        T.view (1 : Nat) L.n (fun j => [T.int IntKind.i64 (Int.ofNat (o j))]) (some L.n),
        T.own (2 : Nat) (0 : Nat) (0 : Nat) L.n none, T.int IntKind.i64 (0 : Int), T.int IntKind.i64 (0 : Int),
        T.int IntKind.i64 (0 : Int)]
      [Blk.mk (0 : Nat) (1 : Nat) (40 : Nat) (fun j => [T.bool (sn j)]) true false,
        Blk.mk (0 : Nat) (1 : Nat) (0 : Nat) (fun x => []) true true,
        Blk.mk (0 : Nat) (1 : Nat) L.n (fun j => [T.int IntKind.i64 (Int.ofNat (d j))]) true false]
      [T.view (4 : Nat) L.n
          (fun j =>
            [T.int IntKind.i64 (L.tm j), T.int IntKind.i64 (L.du j), T.int IntKind.i64 (L.af j),
              T.int IntKind.u32 (L.on j)])
          none,
        T.view (1 : Nat) L.n (fun j => [T.int IntKind.i64 (Int.ofNat (o j))]) (some L.n),
        T.own (2 : Nat) (0 : Nat) (0 : Nat) L.n none, T.int IntKind.i64 (0 : Int), T.int IntKind.i64 (0 : Int),
        T.int IntKind.i64 (0 : Int)]
      [Blk.mk (0 : Nat) (1 : Nat) (40 : Nat) (fun j => [T.bool (sn j)]) true false,
        Blk.mk (0 : Nat) (1 : Nat) (0 : Nat) (fun x => []) true true,
        Blk.mk (0 : Nat) (1 : Nat) L.n (fun j => [T.int IntKind.i64 (Int.ofNat (d j))]) true false] then
    bif propF p11
      [T.view (4 : Nat) L.n
          (fun j =>
            [T.int IntKind.i64 (L.tm j), T.int IntKind.i64 (L.du j), T.int IntKind.i64 (L.af j),
              T.int IntKind.u32 (L.on j)])
          none,
        bif ((0 : Nat) + L.n).ble L.n then
          T.view (1 : Nat) L.n (fun j => [T.int IntKind.i64 (Int.ofNat (d ((0 : Nat) + j)))]) none
        else T.undef] then
    bif propF p11
      [T.view (4 : Nat) L.n
          (fun j =>
            [T.int IntKind.i64 (L.tm j), T.int IntKind.i64 (L.du j), T.int IntKind.i64 (L.af j),
              T.int IntKind.u32 (L.on j)])
          none,
        T.view (1 : Nat) L.n (fun j => [T.int IntKind.i64 (Int.ofNat (o j))]) (some L.n)] then
    bif decide
      (vF
          [T.view (4 : Nat) L.n
              (fun j =>
                [T.int IntKind.i64 (L.tm j), T.int IntKind.i64 (L.du j), T.int IntKind.i64 (L.af j),
                  T.int IntKind.u32 (L.on j)])
              none,
            bif ((0 : Nat) + L.n).ble L.n then
              T.view (1 : Nat) L.n (fun j => [T.int IntKind.i64 (Int.ofNat (d ((0 : Nat) + j)))]) none
            else T.undef] =
        wd) then
    bif decide
      (vF
          [T.view (4 : Nat) L.n
              (fun j =>
                [T.int IntKind.i64 (L.tm j), T.int IntKind.i64 (L.du j), T.int IntKind.i64 (L.af j),
                  T.int IntKind.u32 (L.on j)])
              none,
            T.view (1 : Nat) L.n (fun j => [T.int IntKind.i64 (Int.ofNat (o j))]) (some L.n)] ≤
        vF
          [T.view (4 : Nat) L.n
              (fun j =>
                [T.int IntKind.i64 (L.tm j), T.int IntKind.i64 (L.du j), T.int IntKind.i64 (L.af j),
                  T.int IntKind.u32 (L.on j)])
              none,
            bif ((0 : Nat) + L.n).ble L.n then
              T.view (1 : Nat) L.n (fun j => [T.int IntKind.i64 (Int.ofNat (d ((0 : Nat) + j)))]) none
            else T.undef]) then
    bif propF p12 [] then
    some (T.bool true)
    else
    none
    else
    some (T.bool false)
    else
    some (T.bool false)
    else
    none
    else
    none
    else
    none
    else
    none
    else
    bif (((0 : Nat) + L.n) * (9 : Nat)).ble (70368744177664 : Nat) then
    bif ((0 : Nat) + L.n).ble (0 : Nat) then
    bif ((0 : Nat) + L.n).ble (0 : Nat) then
    bif weakF
      [T.view (1 : Nat) nm (fun j => [T.int IntKind.u8 (Int.ofNat (mm j))]) cm,
        T.view (4 : Nat) L.n
          (fun j =>
            [T.int IntKind.i64 (L.tm j), T.int IntKind.i64 (L.du j), T.int IntKind.i64 (L.af j),
              T.int IntKind.u32 (L.on j)])
          none,
        T.view (1 : Nat) L.n (fun j => [T.int IntKind.i64 (Int.ofNat (o j))]) (some L.n),
        T.own [Blk.mk (0 : Nat) (1 : Nat) (40 : Nat) (fun j => [T.bool (sn j)]) true false].length (0 : Nat) (0 : Nat)
          ((0 : Nat) + L.n) (some (0 : Nat)),
        T.int IntKind.i64 (0 : Int)]
      [Blk.mk (0 : Nat) (1 : Nat) (40 : Nat) (fun j => [T.bool (sn j)]) true false,
        Blk.mk (0 : Nat) (1 : Nat) (0 : Nat)
          (fun j =>
            bif Nat.ble (0 : Nat) j && j.blt ((0 : Nat) + L.n) then [T.int IntKind.i64 (Int.ofNat (o (j - (0 : Nat))))]
            else [])
          true true]
      [T.view (1 : Nat) nm (fun j => [T.int IntKind.u8 (Int.ofNat (mm j))]) cm,
        T.view (4 : Nat) L.n
          (fun j =>
            [T.int IntKind.i64 (L.tm j), T.int IntKind.i64 (L.du j), T.int IntKind.i64 (L.af j),
              T.int IntKind.u32 (L.on j)])
          none,
        T.view (1 : Nat) L.n (fun j => [T.int IntKind.i64 (Int.ofNat (o j))]) (some L.n),
        T.own (2 : Nat) (0 : Nat) (0 : Nat) L.n none, T.int IntKind.i64 (0 : Int)]
      [Blk.mk (0 : Nat) (1 : Nat) (40 : Nat) (fun j => [T.bool (sn j)]) true false,
        Blk.mk (0 : Nat) (1 : Nat) (0 : Nat) (fun x => []) true true,
        Blk.mk (0 : Nat) (1 : Nat) L.n (fun j => [T.int IntKind.i64 (Int.ofNat (o j))]) true false] then
    bif weakF
      [T.view (4 : Nat) L.n
          (fun j =>
            [T.int IntKind.i64 (L.tm j), T.int IntKind.i64 (L.du j), T.int IntKind.i64 (L.af j),
              T.int IntKind.u32 (L.on j)])
          none,
        T.view (1 : Nat) L.n (fun j => [T.int IntKind.i64 (Int.ofNat (o j))]) (some L.n),
        T.own (2 : Nat) (0 : Nat) (0 : Nat) L.n none, T.int IntKind.i64 (0 : Int), T.int IntKind.i64 (0 : Int),
        T.int IntKind.i64 (0 : Int)]
      [Blk.mk (0 : Nat) (1 : Nat) (40 : Nat) (fun j => [T.bool (sn j)]) true false,
        Blk.mk (0 : Nat) (1 : Nat) (0 : Nat) (fun x => []) true true,
        Blk.mk (0 : Nat) (1 : Nat) L.n (fun j => [T.int IntKind.i64 (Int.ofNat (d j))]) true false]
      [T.view (4 : Nat) L.n
          (fun j =>
            [T.int IntKind.i64 (L.tm j), T.int IntKind.i64 (L.du j), T.int IntKind.i64 (L.af j),
              T.int IntKind.u32 (L.on j)])
          none,
        T.view (1 : Nat) L.n (fun j => [T.int IntKind.i64 (Int.ofNat (o j))]) (some L.n),
        T.own (2 : Nat) (0 : Nat) (0 : Nat) L.n none, T.int IntKind.i64 (0 : Int), T.int IntKind.i64 (0 : Int),
        T.int IntKind.i64 (0 : Int)]
      [Blk.mk (0 : Nat) (1 : Nat) (40 : Nat) (fun j => [T.bool (sn j)]) true false,
        Blk.mk (0 : Nat) (1 : Nat) (0 : Nat) (fun x => []) true true,
        Blk.mk (0 : Nat) (1 : Nat) L.n (fun j => [T.int IntKind.i64 (Int.ofNat (d j))]) true false] then
    bif propF p11
      [T.view (4 : Nat) L.n
          (fun j =>
            [T.int IntKind.i64 (L.tm j), T.int IntKind.i64 (L.du j), T.int IntKind.i64 (L.af j),
              T.int IntKind.u32 (L.on j)])
          none,
        bif ((0 : Nat) + L.n).ble L.n then
          T.view (1 : Nat) L.n (fun j => [T.int IntKind.i64 (Int.ofNat (d ((0 : Nat) + j)))]) none
        else T.undef] then
    bif propF p11
      [T.view (4 : Nat) L.n
          (fun j =>
            [T.int IntKind.i64 (L.tm j), T.int IntKind.i64 (L.du j), T.int IntKind.i64 (L.af j),
              T.int IntKind.u32 (L.on j)])
          none,
        T.view (1 : Nat) L.n (fun j => [T.int IntKind.i64 (Int.ofNat (o j))]) (some L.n)] then
    bif decide
      (vF
          [T.view (4 : Nat) L.n
              (fun j =>
                [T.int IntKind.i64 (L.tm j), T.int IntKind.i64 (L.du j), T.int IntKind.i64 (L.af j),
                  T.int IntKind.u32 (L.on j)])
              none,
            bif ((0 : Nat) + L.n).ble L.n then
              T.view (1 : Nat) L.n (fun j => [T.int IntKind.i64 (Int.ofNat (d ((0 : Nat) + j)))]) none
            else T.undef] =
        wd) then
    bif decide
      (vF
          [T.view (4 : Nat) L.n
              (fun j =>
                [T.int IntKind.i64 (L.tm j), T.int IntKind.i64 (L.du j), T.int IntKind.i64 (L.af j),
                  T.int IntKind.u32 (L.on j)])
              none,
            T.view (1 : Nat) L.n (fun j => [T.int IntKind.i64 (Int.ofNat (o j))]) (some L.n)] ≤
        vF
          [T.view (4 : Nat) L.n
              (fun j =>
                [T.int IntKind.i64 (L.tm j), T.int IntKind.i64 (L.du j), T.int IntKind.i64 (L.af j),
                  T.int IntKind.u32 (L.on j)])
              none,
            bif ((0 : Nat) + L.n).ble L.n then
              T.view (1 : Nat) L.n (fun j => [T.int IntKind.i64 (Int.ofNat (d ((0 : Nat) + j)))]) none
            else T.undef]) then
    bif propF p12 [] then
    some (T.bool true)
    else
    none
    else
    some (T.bool false)
    else
    some (T.bool false)
    else
    none
    else
    none
    else
    none
    else
    none
    else
    none
    else
    bif weakF
      [T.view (1 : Nat) nm (fun j => [T.int IntKind.u8 (Int.ofNat (mm j))]) cm,
        T.view (4 : Nat) L.n
          (fun j =>
            [T.int IntKind.i64 (L.tm j), T.int IntKind.i64 (L.du j), T.int IntKind.i64 (L.af j),
              T.int IntKind.u32 (L.on j)])
          none,
        T.view (1 : Nat) L.n (fun j => [T.int IntKind.i64 (Int.ofNat (o j))]) (some L.n),
        T.own
          [Blk.mk (0 : Nat) (1 : Nat) (40 : Nat) (fun j => [T.bool (sn j)]) true false,
              Blk.mk (0 : Nat) (1 : Nat) (0 : Nat) (fun j => []) true true].length
          (0 : Nat) (0 : Nat) ((0 : Nat) + L.n) none,
        T.int IntKind.i64 (0 : Int)]
      [Blk.mk (0 : Nat) (1 : Nat) (40 : Nat) (fun j => [T.bool (sn j)]) true false,
        Blk.mk (0 : Nat) (1 : Nat) (0 : Nat) (fun j => []) true true,
        Blk.mk (0 : Nat) (1 : Nat) ((0 : Nat) + L.n) (fun j => [T.int IntKind.i64 (Int.ofNat (o (j - (0 : Nat))))]) true
          false]
      [T.view (1 : Nat) nm (fun j => [T.int IntKind.u8 (Int.ofNat (mm j))]) cm,
        T.view (4 : Nat) L.n
          (fun j =>
            [T.int IntKind.i64 (L.tm j), T.int IntKind.i64 (L.du j), T.int IntKind.i64 (L.af j),
              T.int IntKind.u32 (L.on j)])
          none,
        T.view (1 : Nat) L.n (fun j => [T.int IntKind.i64 (Int.ofNat (o j))]) (some L.n),
        T.own (2 : Nat) (0 : Nat) (0 : Nat) L.n none, T.int IntKind.i64 (0 : Int)]
      [Blk.mk (0 : Nat) (1 : Nat) (40 : Nat) (fun j => [T.bool (sn j)]) true false,
        Blk.mk (0 : Nat) (1 : Nat) (0 : Nat) (fun x => []) true true,
        Blk.mk (0 : Nat) (1 : Nat) L.n (fun j => [T.int IntKind.i64 (Int.ofNat (o j))]) true false] then
    bif weakF
      [T.view (4 : Nat) L.n
          (fun j =>
            [T.int IntKind.i64 (L.tm j), T.int IntKind.i64 (L.du j), T.int IntKind.i64 (L.af j),
              T.int IntKind.u32 (L.on j)])
          none,
        T.view (1 : Nat) L.n (fun j => [T.int IntKind.i64 (Int.ofNat (o j))]) (some L.n),
        T.own (2 : Nat) (0 : Nat) (0 : Nat) L.n none, T.int IntKind.i64 (0 : Int), T.int IntKind.i64 (0 : Int),
        T.int IntKind.i64 (0 : Int)]
      [Blk.mk (0 : Nat) (1 : Nat) (40 : Nat) (fun j => [T.bool (sn j)]) true false,
        Blk.mk (0 : Nat) (1 : Nat) (0 : Nat) (fun x => []) true true,
        Blk.mk (0 : Nat) (1 : Nat) L.n (fun j => [T.int IntKind.i64 (Int.ofNat (d j))]) true false]
      [T.view (4 : Nat) L.n
          (fun j =>
            [T.int IntKind.i64 (L.tm j), T.int IntKind.i64 (L.du j), T.int IntKind.i64 (L.af j),
              T.int IntKind.u32 (L.on j)])
          none,
        T.view (1 : Nat) L.n (fun j => [T.int IntKind.i64 (Int.ofNat (o j))]) (some L.n),
        T.own (2 : Nat) (0 : Nat) (0 : Nat) L.n none, T.int IntKind.i64 (0 : Int), T.int IntKind.i64 (0 : Int),
        T.int IntKind.i64 (0 : Int)]
      [Blk.mk (0 : Nat) (1 : Nat) (40 : Nat) (fun j => [T.bool (sn j)]) true false,
        Blk.mk (0 : Nat) (1 : Nat) (0 : Nat) (fun x => []) true true,
        Blk.mk (0 : Nat) (1 : Nat) L.n (fun j => [T.int IntKind.i64 (Int.ofNat (d j))]) true false] then
    bif propF p11
      [T.view (4 : Nat) L.n
          (fun j =>
            [T.int IntKind.i64 (L.tm j), T.int IntKind.i64 (L.du j), T.int IntKind.i64 (L.af j),
              T.int IntKind.u32 (L.on j)])
          none,
        bif ((0 : Nat) + L.n).ble L.n then
          T.view (1 : Nat) L.n (fun j => [T.int IntKind.i64 (Int.ofNat (d ((0 : Nat) + j)))]) none
        else T.undef] then
    bif propF p11
      [T.view (4 : Nat) L.n
          (fun j =>
            [T.int IntKind.i64 (L.tm j), T.int IntKind.i64 (L.du j), T.int IntKind.i64 (L.af j),
              T.int IntKind.u32 (L.on j)])
          none,
        T.view (1 : Nat) L.n (fun j => [T.int IntKind.i64 (Int.ofNat (o j))]) (some L.n)] then
    bif decide
      (vF
          [T.view (4 : Nat) L.n
              (fun j =>
                [T.int IntKind.i64 (L.tm j), T.int IntKind.i64 (L.du j), T.int IntKind.i64 (L.af j),
                  T.int IntKind.u32 (L.on j)])
              none,
            bif ((0 : Nat) + L.n).ble L.n then
              T.view (1 : Nat) L.n (fun j => [T.int IntKind.i64 (Int.ofNat (d ((0 : Nat) + j)))]) none
            else T.undef] =
        wd) then
    bif decide
      (vF
          [T.view (4 : Nat) L.n
              (fun j =>
                [T.int IntKind.i64 (L.tm j), T.int IntKind.i64 (L.du j), T.int IntKind.i64 (L.af j),
                  T.int IntKind.u32 (L.on j)])
              none,
            T.view (1 : Nat) L.n (fun j => [T.int IntKind.i64 (Int.ofNat (o j))]) (some L.n)] ≤
        vF
          [T.view (4 : Nat) L.n
              (fun j =>
                [T.int IntKind.i64 (L.tm j), T.int IntKind.i64 (L.du j), T.int IntKind.i64 (L.af j),
                  T.int IntKind.u32 (L.on j)])
              none,
            bif ((0 : Nat) + L.n).ble L.n then
              T.view (1 : Nat) L.n (fun j => [T.int IntKind.i64 (Int.ofNat (d ((0 : Nat) + j)))]) none
            else T.undef]) then
    bif propF p12 [] then
    some (T.bool true)
    else
    none
    else
    some (T.bool false)
    else
    some (T.bool false)
    else
    none
    else
    none
    else
    none
    else
    none
    else
    none
    else
    none
    else
    none
    else
    none) from by kernel_rfl) ?_
  rw [Nat.zero_add L.n]
  refine bift (pred_yes e9 h9) (bift (pred_yes e10 h10) ?_)
  refine biff (by simp) ?_
  refine biff (by simp) ?_
  refine bift (weakF_of ⟨rfl, .refl _⟩) ?_
  refine biff (by simp only [nbeq]; omega) ?_
  refine bift (bleT (by omega)) ?_
  refine biff (by rw [nble]; omega) ?_
  refine bift (weakF_of ⟨rfl, .refl _⟩) ?_
  refine bift (weakF_of ⟨rfl, .refl _⟩) ?_
  rw [show Nat.ble L.n L.n = true from bleT (Nat.le_refl _), cond_true]
  refine bift y1 (bift y2 ?_)
  refine bift (dT v1) ?_
  refine bift (dT (le2 v2 v1 hw)) ?_
  exact bift (pred_yes e12 livesT) rfl
theorem law3T (R : JR) (c : Option Nat) (hR : R.Ok) (nm : Nat) (mm : Nat → Nat) (cm : Option Nat) (hmm : ∀ j, mm j < 256) : ToldOk P41 G41 3 [R.v c, mvT nm mm cm] (.bool true) := by
  rcases Nat.eq_zero_or_pos (Nat.min R.n 40) with h | h
  · exact law3z R c hR nm mm cm h
  · exact law3p R c hR nm mm cm hmm h
end Go.Ab

namespace Go.Ab
open Go.Proofs
theorem abV (o m : Nat) (hm : 2 ≤ m) : 0 < (abL (onV o : Nat) m).length := by
  refine Nat.lt_of_lt_of_le ?_ (abL_le hm)
  have h : onV o = 0 ∨ onV o = 1 ∨ onV o = 2 ∨ onV o = 3 ∨ onV o = 5 ∨ onV o = 6 ∨ onV o = 7 := by unfold onV; split <;> omega
  rcases h with h | h | h | h | h | h | h <;> rw [h] <;> decide +kernel
/-- The order by due time, with one more job that is due last. -/
theorem ordL_snoc (du du2 : Nat → Int) (n : Nat) (h1 : ∀ j, j < n → du2 j = du j) (h2 : ∀ j, j < n → du j < du2 n) : ordL du2 (n + 1) = ordL du n ++ [n] := by
  have hp : (ordL du2 (n + 1)).Perm (ordL du n ++ [n]) := by
    refine (ordL_perm du2 (n + 1)).trans ?_
    rw [List.range_succ]
    exact ((ordL_perm du n).symm.append_right [n])
  refine List.Perm.eq_of_pairwise (le := fun x y => ¬ dueLt du2 y x) (fun a b _ _ q1 q2 => ?_) (ordL_sorted du2 (n + 1)) ?_ hp
  · unfold dueLt at q1 q2; omega
  · rw [List.pairwise_append]
    refine ⟨(ordL_sorted du n).imp_of_mem fun {a b} ha hb h => ?_, by simp, fun a ha b hb => ?_⟩
    · unfold dueLt at h ⊢
      rw [h1 a (ordL_mem.1 ha), h1 b (ordL_mem.1 hb)]
      exact h
    · obtain rfl := List.mem_singleton.1 hb
      have ha := ordL_mem.1 ha
      have := h2 a ha
      unfold dueLt
      rw [h1 a ha]
      omega
theorem oN_snoc {L : JL} {a b d on : Int} (hb : ∀ j, j < L.n → L.du j < b) : (∀ j, j < L.n → oN (L.snoc a b d on) j = oN L j) ∧ oN (L.snoc a b d on) L.n = L.n := by
  have e : ordL (L.snoc a b d on).du (L.n + 1) = ordL L.du L.n ++ [L.n] := ordL_snoc _ _ _ (fun j hj => by show (if j < L.n then _ else _) = _; rw [if_pos hj]) fun j hj => by
    show _ < (if L.n < L.n then _ else _)
    rw [if_neg (by omega)]
    exact hb j hj
  have hl := ordL_len L.du L.n
  constructor
  · intro j hj
    show (ordL (L.snoc a b d on).du (L.n + 1)).getD j 0 = _
    rw [e, getD_app_l (by omega)]
    rfl
  · show (ordL (L.snoc a b d on).du (L.n + 1)).getD L.n 0 = _
    rw [e]
    have := getD_app_r (d := 0) (x := L.n) (l := ordL L.du L.n)
    rw [hl] at this
    exact this
theorem plst_snoc {L : JL} {a b d on : Int} {mm : Nat} {o o2 : Nat → Nat} (ho : ∀ j, j < L.n → o2 j = o j) (hl : ∀ j, j < L.n → o j < L.n) : ∀ i, i ≤ L.n → plst (L.snoc a b d on) o2 mm i = plst L o mm i := by
  intro i
  induction i with
  | zero => intro _; rfl
  | succ i ih =>
    intro hi
    have e := ih (by omega)
    have h1 := ho i (by omega)
    have h2 := hl i (by omega)
    simp only [plst, slt, e, h1]
    have t1 : (L.snoc a b d on).tm (o i) = L.tm (o i) := by show (if _ then _ else _) = _; rw [if_pos h2]
    have t2 : (L.snoc a b d on).af (o i) = L.af (o i) := by show (if _ then _ else _) = _; rw [if_pos h2]
    have t3 : (L.snoc a b d on).on (o i) = L.on (o i) := by show (if _ then _ else _) = _; rw [if_pos h2]
    rw [t1, t2, t3]
theorem slt_snoc {L : JL} {a b d on : Int} {mm : Nat} (hb : ∀ j, j < L.n → L.du j < b) : (slt (L.snoc a b d on) (oN (L.snoc a b d on)) mm L.n).2.2 = prm L mm a d on := by
  obtain ⟨h1, h2⟩ := oN_snoc (a := a) (d := d) (on := on) hb
  unfold slt prm
  rw [plst_snoc h1 (fun j hj => oN_lt hj) L.n (Nat.le_refl _), h2]
  have t1 : (L.snoc a b d on).tm L.n = a := by show (if _ then _ else _) = _; rw [if_neg (by omega)]
  have t2 : (L.snoc a b d on).af L.n = d := by show (if _ then _ else _) = _; rw [if_neg (by omega)]
  have t3 : (L.snoc a b d on).on L.n = on := by show (if _ then _ else _) = _; rw [if_neg (by omega)]
  rw [t1, t2, t3]
end Go.Ab

namespace Go.Ab
open Go.Proofs
theorem planF (L : JL) (c : Option Nat) (mm : Nat) (hL : L.Ok) (hm : 1 ≤ mm ∧ mm ≤ 16) (hab : ∀ i, i < L.n → 0 < (abL (L.on i) mm).length) : ∃ (y : Nat → List T) (rd : Nat → Int), (∀ j, j < L.n → y j = scells L (oN L) mm j) ∧ ToldOk P41 G41 26 [jv L c, .int .i64 mm] (.tup [.fresh true 4 L.n y L.n (some L.n), .fresh true 1 mm (fun j => [.int .i64 (rd j)]) mm (some mm)]) := by
  have hn := hL.n
  have hl := l26 L c (oN L) mm hL hm (fun j hj => oN_lt hj) hab
  have hxs : ∀ j, j < L.n → xs26 L (oN L) mm L.n j = scells L (oN L) mm j := fun j hj => by unfold xs26; rw [bltT hj]; rfl
  have hx0 : xs26 L (oN L) mm 0 = fun _ => [.int .i64 0, .int .i64 0, .int .i64 0, .int .i64 0] := by
    funext j; unfold xs26; rw [bltF (Nat.zero_le _)]; rfl
  generalize plst L (oN L) mm L.n = rd at *
  generalize hy : scells L (oN L) mm = y at *
  generalize xs26 L (oN L) mm L.n = x at *
  rw [hx0] at hl
  have k1 : ∀ z ∈ [[jv L c]], ToldOk P41 G41 20 z (.new (iv L.n (ordI L) (some L.n))) := fun z h => by obtain rfl := List.mem_singleton.1 h; exact byDueT L c hL
  have m1 := List.mem_singleton.2 (rfl : [jv L c] = _)
  generalize [[jv L c]] = l1 at k1 m1
  refine ⟨fun j => x (0 + j), fun j => rd (0 + j), fun j hj => by dsimp only; rw [Nat.zero_add, hxs j hj], stepL_told hm41 hn41 (K := K26b (.new (iv L.n (ordI L) (some L.n))) l1) (told_add none_ok (callS_told k1)) (A := A41) (m := 0) (by kernel_rfl) (loops1 hl) ?_⟩
  refine Eq.trans (show stepL P41 G41 A41 (K26b (.new (iv L.n (ordI L) (some L.n))) l1) 0 26 [(4, litS (v26 L c 0 0 (oN L) mm) [rblk mm (fun _ => 0), sblk 0 L.n (fun _ => [.int .i64 0, .int .i64 0, .int .i64 0, .int .i64 0])] (.exit 0) [.own 1 0 0 L.n (some L.n), .own 0 0 0 mm (some mm)] [rblk mm rd, sblk 0 L.n x])] [jv L c, .int .i64 mm] =
(    bif decide ((0 : Int) ≤ Int.ofNat mm) && decide (Int.ofNat mm ≤ Int.ofNat mm) &&
        decide (Int.ofNat mm * (8 : Int) ≤ (140737488355328 : Int)) &&
      decide (Int.ofNat mm ≤ (9223372036854775807 : Int)) then
    bif decide ((0 : Int) ≤ Int.ofNat L.n) && decide (Int.ofNat L.n * (32 : Int) ≤ (140737488355328 : Int)) &&
      decide (Int.ofNat L.n ≤ (9223372036854775807 : Int)) then
    bif sameArgsF
      [T.view (4 : Nat) L.n
          (fun j =>
            [T.int IntKind.i64 (L.tm j), T.int IntKind.i64 (L.du j), T.int IntKind.i64 (L.af j),
              T.int IntKind.u32 (L.on j)])
          c]
      l1 then
    bif weakF
      [T.view (4 : Nat) L.n
          (fun j =>
            [T.int IntKind.i64 (L.tm j), T.int IntKind.i64 (L.du j), T.int IntKind.i64 (L.af j),
              T.int IntKind.u32 (L.on j)])
          c,
        T.own [Blk.mk (0 : Nat) (1 : Nat) mm (fun x => [T.int IntKind.i64 (0 : Int)]) true false].length (0 : Nat) (0 : Nat)
          (0 : Nat) (some L.n),
        T.own (0 : Nat) (0 : Nat) (0 : Nat) mm (some mm),
        T.view (1 : Nat) L.n
          (fun j =>
            [T.int IntKind.i64
                (Int.ofNat (((List.range L.n).mergeSort fun x y => !decide (dueLt L.du y x)).getD j (0 : Nat)))])
          (some L.n),
        T.int IntKind.i64 (Int.ofNat L.n), T.int IntKind.i64 (0 : Int)]
      [Blk.mk (0 : Nat) (1 : Nat) mm (fun x => [T.int IntKind.i64 (0 : Int)]) true false,
        Blk.mk (0 : Nat) (4 : Nat) L.n
          (fun x =>
            [T.int IntKind.i64 (0 : Int), T.int IntKind.i64 (0 : Int), T.int IntKind.i64 (0 : Int),
              T.int IntKind.i64 (0 : Int)])
          true false]
      [T.view (4 : Nat) L.n
          (fun j =>
            [T.int IntKind.i64 (L.tm j), T.int IntKind.i64 (L.du j), T.int IntKind.i64 (L.af j),
              T.int IntKind.u32 (L.on j)])
          c,
        T.own (1 : Nat) (0 : Nat) (0 : Nat) (0 : Nat) (some L.n), T.own (0 : Nat) (0 : Nat) (0 : Nat) mm (some mm),
        T.view (1 : Nat) L.n
          (fun j =>
            [T.int IntKind.i64
                (Int.ofNat (((List.range L.n).mergeSort fun x y => !decide (dueLt L.du y x)).getD j (0 : Nat)))])
          (some L.n),
        T.int IntKind.i64 (Int.ofNat L.n), T.int IntKind.i64 (0 : Int)]
      [Blk.mk (0 : Nat) (1 : Nat) mm (fun j => [T.int IntKind.i64 (0 : Int)]) true false,
        Blk.mk (0 : Nat) (4 : Nat) L.n
          (fun x =>
            [T.int IntKind.i64 (0 : Int), T.int IntKind.i64 (0 : Int), T.int IntKind.i64 (0 : Int),
              T.int IntKind.i64 (0 : Int)])
          true false] then
    some (T.tup
      [bif ((0 : Nat) + L.n).ble L.n then
          T.fresh true (4 : Nat) (L.n - (0 : Nat)) (fun j => x ((0 : Nat) + j)) L.n (some L.n)
        else T.undef,
        bif ((0 : Nat) + mm).ble mm then
          T.fresh true (1 : Nat) (mm - (0 : Nat)) (fun j => [T.int IntKind.i64 (rd ((0 : Nat) + j))]) mm (some mm)
        else T.undef])
    else
    none
    else
    none
    else
    none
    else
    none) from by kernel_rfl) ?_
  (repeat (first | (refine bift (by first | assumption | omega | (simp (disch := omega) only [wr64, wr8, wr16, wr32, ofNatE, toNatE, toNatE1, Bool.and_eq_true, Bool.or_eq_true, Bool.not_eq_true', decide_eq_true_eq, decide_eq_false_iff_not, nble, nblt, nbeq, Nat.zero_add, Nat.add_zero, Int.zero_add, Int.add_zero, List.length_cons, List.length_nil, true_and, and_true, Nat.reduceAdd, and_self]; done) | (simp (disch := omega) only [wr64, wr8, wr16, wr32, ofNatE, toNatE, toNatE1, Bool.and_eq_true, Bool.or_eq_true, Bool.not_eq_true', decide_eq_true_eq, decide_eq_false_iff_not, nble, nblt, nbeq, Nat.zero_add, Nat.add_zero, Int.zero_add, Int.add_zero, List.length_cons, List.length_nil, true_and, and_true, Nat.reduceAdd, and_self]; omega)) ?_) | (refine biff (by first | assumption | (simp (disch := omega) only [wr64, wr8, wr16, wr32, ofNatE, toNatE, toNatE1, Bool.and_eq_true, Bool.or_eq_true, Bool.not_eq_true', decide_eq_true_eq, decide_eq_false_iff_not, nble, nblt, nbeq, Nat.zero_add, Nat.add_zero, Int.zero_add, Int.add_zero, List.length_cons, List.length_nil, true_and, and_true, Nat.reduceAdd, and_self]; done) | (simp (disch := omega) only [wr64, wr8, wr16, wr32, ofNatE, toNatE, toNatE1, Bool.and_eq_true, Bool.or_eq_true, Bool.not_eq_true', decide_eq_true_eq, decide_eq_false_iff_not, nble, nblt, nbeq, Nat.zero_add, Nat.add_zero, Int.zero_add, Int.add_zero, List.length_cons, List.length_nil, true_and, and_true, Nat.reduceAdd, and_self]; omega)) ?_)))
  refine bift (sameArgsF_iff.2 m1) ?_
  refine bift (weakF_of ⟨rfl, .refl _⟩) ?_
  rw [show (Nat.ble (0 + L.n) L.n) = true from bleT (by omega), show (Nat.ble (0 + mm) mm) = true from bleT (by omega)]
  first | rfl | (simp (disch := omega) only [wr64, wr8, wr16, wr32, ofNatE]; done) | (simp (disch := omega) only [wr64, wr8, wr16, wr32, ofNatE]; rfl)
theorem PlanN (L : JL) (c : Option Nat) (mm : Nat) (hL : L.Ok) (hm : 1 ≤ mm ∧ mm ≤ 16) (hab : ∀ i, i < L.n → 0 < (abL (L.on i) mm).length) : ToldOk P41 G41 16 [jv L c, .int .i64 mm] (.tup [.new (svT L mm), .int .i64 0]) := by
  have hn := hL.n
  obtain ⟨y, rd, hy, hp⟩ := planF L c mm hL hm hab
  have k1 : ∀ z ∈ [[jv L c, .int .i64 mm]], ToldOk P41 G41 25 z (.int .i64 0) := fun z h => by obtain rfl := List.mem_singleton.1 h; exact chkT L c mm hL hm hab
  have k2 : ∀ z ∈ [[jv L c, .int .i64 mm]], ToldOk P41 G41 26 z (.tup [.fresh true 4 L.n y L.n (some L.n), .fresh true 1 mm (fun j => [.int .i64 (rd j)]) mm (some mm)]) := fun z h => by obtain rfl := List.mem_singleton.1 h; exact hp
  have m1 := List.mem_singleton.2 (rfl : [jv L c, .int .i64 mm] = _)
  generalize [[jv L c, .int .i64 mm]] = l1 at k1 k2 m1
  have := (stepL_told (args := [jv L c, .int .i64 mm]) (f := 16) (r := .tup [.fresh true 4 L.n (fun j => y (0 + j)) L.n (some L.n), .int .i64 0]) hm41 hn41 (K := K16 l1 l1 (.tup [.fresh true 4 L.n y L.n (some L.n), .fresh true 1 mm (fun j => [.int .i64 (rd j)]) mm (some mm)])) (told_add (told_add none_ok (callS_told k1)) (callS_told k2)) (A := A41) (m := 0) (by kernel_rfl) loops0 ?_).frz
  · refine this.tupTo (.cons (.new (.view (.inl rfl) fun j hj => ?_)) (.cons (.refl _) .nil))
    rw [Nat.zero_add, hy j hj]; exact .refl _
  · refine Eq.trans (show stepL P41 G41 A41 (K16 l1 l1 (.tup [.fresh true 4 L.n y L.n (some L.n), .fresh true 1 mm (fun j => [.int .i64 (rd j)]) mm (some mm)])) 0 16 [] [jv L c, .int .i64 mm] =
(    bif sameArgsF
      [T.view (4 : Nat) L.n
          (fun j =>
            [T.int IntKind.i64 (L.tm j), T.int IntKind.i64 (L.du j), T.int IntKind.i64 (L.af j),
              T.int IntKind.u32 (L.on j)])
          c,
        T.int IntKind.i64 (Int.ofNat mm)]
      l1 then
    bif sameArgsF
      [T.view (4 : Nat) L.n
          (fun j =>
            [T.int IntKind.i64 (L.tm j), T.int IntKind.i64 (L.du j), T.int IntKind.i64 (L.af j),
              T.int IntKind.u32 (L.on j)])
          c,
        T.int IntKind.i64 (Int.ofNat mm)]
      l1 then
    some (T.tup
      [bif ((0 : Nat) + L.n).ble L.n then
          T.fresh true (4 : Nat) (L.n - (0 : Nat)) (fun j => y ((0 : Nat) + j)) L.n (some L.n)
        else T.undef,
        T.int IntKind.i64 (0 : Int)])
    else
    none
    else
    none) from by kernel_rfl) ?_
    refine bift (sameArgsF_iff.2 m1) ?_
    refine bift (sameArgsF_iff.2 m1) ?_
    rw [show (Nat.ble (0 + L.n) L.n) = true from bleT (by omega)]
    first | rfl | (simp (disch := omega) only [wr64, wr8, wr16, wr32, ofNatE]; done) | (simp (disch := omega) only [wr64, wr8, wr16, wr32, ofNatE]; rfl)
end Go.Ab

namespace Go.Ab
open Go.Proofs
noncomputable def K7 (p9 p12 p18 p17 p16 : List T → Prop) (xF : T) (j : T) (v e : Int) (n : Nat) (sF : Nat → List T) : Orc :=
  ((((noneO.add 9 (callP p9 (.new xF))).add 12 (callP p12 (.bool true))).add 18 (callP p18 j)).add 17 (callP p17 (.tup [.int .i64 v, .int .i64 e]))).add 16 (callP p16 (.tup [.new (.view 4 n sF (some n)), .int .i64 0]))
def sv4 (x0 x1 x2 x3 : Nat → Int) : Nat → List T := fun j => [.int .i64 (x0 j), .int .i64 (x1 j), .int .i64 (x2 j), .int .i64 (x3 j)]
theorem lv7 (R : JR) (c : Option Nat) (p12 : List T → Prop) (e12 : p12 = fun z => ToldOk P41 G41 12 z (.bool true)) (n : Nat) (pv : Int) (y3 : Nat → Int) (hy : y3 n = pv) (b : Nat) (hb : b < 256) (hn : n ≤ 40) :
    (bif decide ((0 : Int) ≤ IntKind.i64.wrap (Int.ofNat (n + 1) - (1 : Int))) && decide (IntKind.i64.wrap (Int.ofNat (n + 1) - (1 : Int)) < Int.ofNat (n + 1)) then
    bif decide (pv = y3 (IntKind.i64.wrap (Int.ofNat (n + 1) - (1 : Int))).toNat) then
    bif decide ((if (b : Int) < pv then (19 : Int) else 0) = (0 : Int)) then
    bif decide (y3 (IntKind.i64.wrap (Int.ofNat (n + 1) - (1 : Int))).toNat ≤ IntKind.i64.wrap (Int.ofNat b)) then
    bif decide ((if (b : Int) < pv then (19 : Int) else 0) = (0 : Int)) then
    bif propF p12 [] then some (T.bool true) else none
    else
    bif decide ((if (b : Int) < pv then (19 : Int) else 0) = (19 : Int)) then
    bif propF p12 [] then some (T.bool true) else none
    else some (T.bool false)
    else some (T.bool false)
    else
    bif decide (y3 (IntKind.i64.wrap (Int.ofNat (n + 1) - (1 : Int))).toNat ≤ IntKind.i64.wrap (Int.ofNat b)) then some (T.bool false)
    else
    bif decide ((if (b : Int) < pv then (19 : Int) else 0) = (0 : Int)) then
    bif propF p12 [] then some (T.bool true) else none
    else
    bif decide ((if (b : Int) < pv then (19 : Int) else 0) = (19 : Int)) then
    bif propF p12 [] then some (T.bool true) else none
    else some (T.bool false)
    else some (T.bool false)
    else none) = some (T.bool true) := by
  rw [show IntKind.i64.wrap (Int.ofNat (n + 1) - (1 : Int)) = (n : Int) by rw [wr64 (by rw [ofNatE]; omega) (by rw [ofNatE]; omega), ofNatE]; omega, toNatE, hy, show IntKind.i64.wrap (Int.ofNat b) = (b : Int) from wr64 (by rw [ofNatE]; omega) (by rw [ofNatE]; omega), pred_yes e12 livesT]
  refine bift (by simp only [ofNatE, Bool.and_eq_true, decide_eq_true_eq]; omega) ?_
  refine bift (dT rfl) ?_
  by_cases q : (b : Int) < pv
  · rw [if_pos q]
    refine biff (by simp) (biff (by simp only [decide_eq_true_eq]; omega) (biff (by simp) (bift (by simp) rfl)))
  · rw [if_neg q]
    exact bift (by simp) (bift (by simp only [decide_eq_true_eq]; omega) (bift (by simp) rfl))
set_option maxRecDepth 20000 in
theorem law7T (R : JR) (c : Option Nat) (hR : R.Ok) (u : Nat) (hu : u < 256) (a b d e : Nat) (ha : a < 256) (hb : b < 256) (hd : d < 256) (he : e < 256) : ToldOk P41 G41 7 [R.v c, .int .u8 u, .agg (uJ a b d e)] (.bool true) := by
  have h9 := listT R c hR
  have hL := R.lok hR _ (min40 R.n)
  have hn : (R.L (Nat.min R.n 40)).n = Nat.min R.n 40 := rfl
  have hm := min40 R.n
  have h18 := ofT a b d e ha hb hd he
  have hab : ∀ i, i < (R.L (Nat.min R.n 40)).n → 0 < (abL ((R.L (Nat.min R.n 40)).on i) (2 + u % 15)).length := fun i _ => abV (R.o i) _ (by omega)
  have hdu : ∀ j, j < (R.L (Nat.min R.n 40)).n → (R.L (Nat.min R.n 40)).du j < 100000 := fun j _ => by
    show ((R.d j : Nat) : Int) < _
    have := hR.d j
    omega
  generalize R.L (Nat.min R.n 40) = L at *
  generalize Nat.min R.n 40 = n40 at *
  subst hn
  have hab2 := abV e (2 + u % 15) (by omega)
  have ho7 := onV_le e
  generalize onV e = on at *
  have h17 := PromT L none (2 + u % 15) ((1 + a : Nat) : Int) b d on hL (by omega) (by omega) hab hab2 (by omega) (by omega) (by omega) (by omega)
  have hs : (L.snoc ((1 + a : Nat) : Int) 100000 d on).Ok := by
    refine ⟨by show L.n + 1 ≤ 256; omega, fun j hj => ?_, fun j hj => ?_, fun j hj => ?_, fun j hj => ?_⟩
    all_goals
      show _ ≤ (if j < L.n then _ else _) ∧ (if j < L.n then _ else _) ≤ _
      by_cases q : j < L.n
      · rw [if_pos q]; first | exact hL.tm j q | exact hL.du j q | exact hL.af j q | exact hL.on j q
      · rw [if_neg q]; omega
  have h16 := fun c' => PlanN (L.snoc ((1 + a : Nat) : Int) 100000 d on) c' (2 + u % 15) hs (by omega) fun i _ => by
    show 0 < (abL (if i < L.n then _ else _) _).length
    by_cases q : i < L.n
    · rw [if_pos q]; exact hab i q
    · rw [if_neg q]; exact hab2
  have hsl := slt_snoc (L := L) (a := ((1 + a : Nat) : Int)) (b := 100000) (d := d) (on := on) (mm := 2 + u % 15) hdu
  unfold svT scells at h16
  rw [show (L.snoc ((1 + a : Nat) : Int) 100000 d on).n = L.n + 1 from rfl] at h16
  have hview : ∀ (m : Nat) (get : Nat → List T) (c' : Option Nat), m = L.n + 1 → (∀ j, j < L.n + 1 → get j = if j < L.n then jcells (L.tm j) (L.du j) (L.af j) (L.on j) else jcells ((1 + a : Nat) : Int) 100000 d on) → ToldOk P41 G41 16 [.view 4 m get c', .int .i64 (2 + u % 15 : Nat)] (.tup [.new (.view 4 (L.n + 1) (sv4 (fun j => (oN (L.snoc ((1 + a : Nat) : Int) 100000 d on) j : Nat)) (fun j => (slt (L.snoc ((1 + a : Nat) : Int) 100000 d on) (oN (L.snoc ((1 + a : Nat) : Int) 100000 d on)) (2 + u % 15) j).1) (fun j => (slt (L.snoc ((1 + a : Nat) : Int) 100000 d on) (oN (L.snoc ((1 + a : Nat) : Int) 100000 d on)) (2 + u % 15) j).2.1) (fun j => (slt (L.snoc ((1 + a : Nat) : Int) 100000 d on) (oN (L.snoc ((1 + a : Nat) : Int) 100000 d on)) (2 + u % 15) j).2.2)) (some (L.n + 1))), .int .i64 0]) := fun m get c' hm' hget => by
    subst hm'
    exact (h16 c').sim (.cons (.view (.inl rfl) fun j hj => by rw [hget j hj, snoc_get]; exact .refl _) (.cons (.refl _) .nil))
  clear h16
  generalize prm L (2 + u % 15) ((1 + a : Nat) : Int) d on = pv at *
  generalize (fun j => ((oN (L.snoc ((1 + a : Nat) : Int) 100000 d on) j : Nat) : Int)) = y0 at *
  generalize (fun j => (slt (L.snoc ((1 + a : Nat) : Int) 100000 d on) (oN (L.snoc ((1 + a : Nat) : Int) 100000 d on)) (2 + u % 15) j).1) = y1 at *
  generalize (fun j => (slt (L.snoc ((1 + a : Nat) : Int) 100000 d on) (oN (L.snoc ((1 + a : Nat) : Int) 100000 d on)) (2 + u % 15) j).2.1) = y2 at *
  generalize hy3 : (fun j => (slt (L.snoc ((1 + a : Nat) : Int) 100000 d on) (oN (L.snoc ((1 + a : Nat) : Int) 100000 d on)) (2 + u % 15) j).2.2) = y3 at *
  have hy : y3 L.n = pv := by rw [← hy3]; exact hsl
  generalize ((1 + a : Nat) : Int) = x0 at *
  obtain ⟨p9, e9⟩ := told_pred P41 G41 9 (.new (jv L none))
  obtain ⟨p12, e12⟩ := told_pred P41 G41 12 (.bool true)
  obtain ⟨p18, e18⟩ := told_pred P41 G41 18 (jT x0 b d on)
  obtain ⟨p17, e17⟩ := told_pred P41 G41 17 (.tup [.int .i64 pv, .int .i64 (if (b : Int) < pv then 19 else 0)])
  obtain ⟨p16, e16⟩ := told_pred P41 G41 16 (.tup [.new (.view 4 (L.n + 1) (sv4 y0 y1 y2 y3) (some (L.n + 1))), .int .i64 0])
  refine stepL_told hm41 hn41 (K := K7 p9 p12 p18 p17 p16 (jv L none) (jT x0 b d on) pv (if (b : Int) < pv then 19 else 0) (L.n + 1) (sv4 y0 y1 y2 y3)) (told_add (told_add (told_add (told_add (told_add none_ok (callP_told (told_predT e9))) (callP_told (told_predT e12))) (callP_told (told_predT e18))) (callP_told (told_predT e17))) (callP_told (told_predT e16))) (A := A41) (m := 0) (by kernel_rfl) loops0 ?_
  have fin := lv7 R c p12 e12 L.n pv y3 hy b hb hm
  generalize ((b : Nat) : Int) = bi at h17 e18 e17 h18 fin ⊢
  generalize ((d : Nat) : Int) = di at *
  generalize ((on : Nat) : Int) = oi at *
  generalize (if bi < pv then (19 : Int) else 0) = er at *
  refine Eq.trans (show stepL P41 G41 A41 (K7 p9 p12 p18 p17 p16 (jv L none) (jT x0 bi di oi) pv er (L.n + 1) (sv4 y0 y1 y2 y3)) 0 7 [] [R.v c, .int .u8 u, .agg (uJ a b d e)] =
(    bif decide ((20 : Int) < Int.ofNat R.n) then
    bif propF p12 [] then
    some (T.bool true)
    else
    none
    else
    bif propF p9
      [T.view (4 : Nat) R.n
          (fun j =>
            [T.int IntKind.u8 (Int.ofNat (R.t j)), T.int IntKind.u8 (Int.ofNat (R.d j)),
              T.int IntKind.u8 (Int.ofNat (R.a j)), T.int IntKind.u8 (Int.ofNat (R.o j))])
          c] then
    bif propF p18
      [T.agg
          [T.int IntKind.u8 (Int.ofNat a), T.int IntKind.u8 (Int.ofNat b), T.int IntKind.u8 (Int.ofNat d),
            T.int IntKind.u8 (Int.ofNat e)]] then
    bif propF p17
      [T.view (4 : Nat) L.n
          (fun j =>
            [T.int IntKind.i64 (L.tm j), T.int IntKind.i64 (L.du j), T.int IntKind.i64 (L.af j),
              T.int IntKind.u32 (L.on j)])
          none,
        T.int IntKind.i64 (IntKind.i64.wrap ((2 : Int) + IntKind.i64.wrap ((Int.ofNat u).tmod (15 : Int)))),
        T.agg [T.int IntKind.i64 x0, T.int IntKind.i64 bi, T.int IntKind.i64 di, T.int IntKind.u32 oi]] then
    bif propF p18
      [T.agg
          [T.int IntKind.u8 (Int.ofNat a), T.int IntKind.u8 (Int.ofNat b), T.int IntKind.u8 (Int.ofNat d),
            T.int IntKind.u8 (Int.ofNat e)]] then
    bif L.n == (0 : Nat) then
    bif propF p16
      [T.view (4 : Nat) (1 : Nat)
          (fun j =>
            bif ((0 : Nat) + j).blt (0 : Nat) then []
            else
              List.map plainOr
                ([[T.int IntKind.i64 x0, T.int IntKind.i64 (100000 : Int), T.int IntKind.i64 di, T.int IntKind.u32 oi]].getD
                  ((0 : Nat) + j - (0 : Nat)) []))
          none,
        T.int IntKind.i64 (IntKind.i64.wrap ((2 : Int) + IntKind.i64.wrap ((Int.ofNat u).tmod (15 : Int))))] then
    bif decide ((0 : Int) ≤ IntKind.i64.wrap (Int.ofNat (L.n + (1 : Nat)) - (1 : Int))) &&
      decide (IntKind.i64.wrap (Int.ofNat (L.n + (1 : Nat)) - (1 : Int)) < Int.ofNat (L.n + (1 : Nat))) then
    bif decide (pv = y3 (IntKind.i64.wrap (Int.ofNat (L.n + (1 : Nat)) - (1 : Int))).toNat) then
    bif decide (er = (0 : Int)) then
    bif decide (y3 (IntKind.i64.wrap (Int.ofNat (L.n + (1 : Nat)) - (1 : Int))).toNat ≤ IntKind.i64.wrap (Int.ofNat b)) then
    bif decide (er = (0 : Int)) then
    bif propF p12 [] then
    some (T.bool true)
    else
    none
    else
    bif decide (er = (19 : Int)) then
    bif propF p12 [] then
    some (T.bool true)
    else
    none
    else
    some (T.bool false)
    else
    some (T.bool false)
    else
    bif decide (y3 (IntKind.i64.wrap (Int.ofNat (L.n + (1 : Nat)) - (1 : Int))).toNat ≤ IntKind.i64.wrap (Int.ofNat b)) then
    some (T.bool false)
    else
    bif decide (er = (0 : Int)) then
    bif propF p12 [] then
    some (T.bool true)
    else
    none
    else
    bif decide (er = (19 : Int)) then
    bif propF p12 [] then
    some (T.bool true)
    else
    none
    else
    some (T.bool false)
    else
    some (T.bool false)
    else
    none
    else
    none
    else
    bif (((0 : Nat) + L.n) * (33 : Nat)).ble (70368744177664 : Nat) then
    bif ((0 : Nat) + L.n).ble (0 : Nat) then
    bif ((0 : Nat) + L.n).ble (0 : Nat) then
    bif ((0 : Nat) + ((0 : Nat) + L.n)).ble (0 : Nat) then
    bif (((0 : Nat) + L.n + (1 : Nat)) * (33 : Nat)).ble (70368744177664 : Nat) then
    bif propF p16
      [bif ((0 : Nat) + ((0 : Nat) + L.n + (1 : Nat))).ble ((0 : Nat) + L.n + (1 : Nat)) then
          T.view (4 : Nat) ((0 : Nat) + L.n + (1 : Nat))
            (fun j =>
              bif ((0 : Nat) + j).blt ((0 : Nat) + L.n) then
                bif
                    Nat.ble (0 : Nat) ((0 : Nat) + ((0 : Nat) + j)) &&
                      ((0 : Nat) + ((0 : Nat) + j)).blt ((0 : Nat) + L.n) then
                  [T.int IntKind.i64 (L.tm ((0 : Nat) + ((0 : Nat) + j) - (0 : Nat))),
                    T.int IntKind.i64 (L.du ((0 : Nat) + ((0 : Nat) + j) - (0 : Nat))),
                    T.int IntKind.i64 (L.af ((0 : Nat) + ((0 : Nat) + j) - (0 : Nat))),
                    T.int IntKind.u32 (L.on ((0 : Nat) + ((0 : Nat) + j) - (0 : Nat)))]
                else []
              else
                List.map plainOr
                  ([[T.int IntKind.i64 x0, T.int IntKind.i64 (100000 : Int), T.int IntKind.i64 di,
                          T.int IntKind.u32 oi]].getD
                    ((0 : Nat) + j - ((0 : Nat) + L.n)) []))
            none
        else T.undef,
        T.int IntKind.i64 (IntKind.i64.wrap ((2 : Int) + IntKind.i64.wrap ((Int.ofNat u).tmod (15 : Int))))] then
    bif decide ((0 : Int) ≤ IntKind.i64.wrap (Int.ofNat (L.n + (1 : Nat)) - (1 : Int))) &&
      decide (IntKind.i64.wrap (Int.ofNat (L.n + (1 : Nat)) - (1 : Int)) < Int.ofNat (L.n + (1 : Nat))) then
    bif decide (pv = y3 (IntKind.i64.wrap (Int.ofNat (L.n + (1 : Nat)) - (1 : Int))).toNat) then
    bif decide (er = (0 : Int)) then
    bif decide (y3 (IntKind.i64.wrap (Int.ofNat (L.n + (1 : Nat)) - (1 : Int))).toNat ≤ IntKind.i64.wrap (Int.ofNat b)) then
    bif decide (er = (0 : Int)) then
    bif propF p12 [] then
    some (T.bool true)
    else
    none
    else
    bif decide (er = (19 : Int)) then
    bif propF p12 [] then
    some (T.bool true)
    else
    none
    else
    some (T.bool false)
    else
    some (T.bool false)
    else
    bif decide (y3 (IntKind.i64.wrap (Int.ofNat (L.n + (1 : Nat)) - (1 : Int))).toNat ≤ IntKind.i64.wrap (Int.ofNat b)) then
    some (T.bool false)
    else
    bif decide (er = (0 : Int)) then
    bif propF p12 [] then
    some (T.bool true)
    else
    none
    else
    bif decide (er = (19 : Int)) then
    bif propF p12 [] then
    some (T.bool true)
    else
    none
    else
    some (T.bool false)
    else
    some (T.bool false)
    else
    none
    else
    none
    else
    none
    else
    none
    else
    none
    else
    bif ((0 : Nat) + ((0 : Nat) + L.n)).ble ((0 : Nat) + L.n) then
    bif (((0 : Nat) + L.n + (1 : Nat)) * (33 : Nat)).ble (70368744177664 : Nat) then
    bif ((0 : Nat) + ((0 : Nat) + L.n) + (1 : Nat)).ble ((0 : Nat) + L.n) then
    bif propF p16
      [bif ((0 : Nat) + ((0 : Nat) + L.n + (1 : Nat))).ble ((0 : Nat) + L.n) then
          T.view (4 : Nat) ((0 : Nat) + L.n + (1 : Nat))
            (fun j =>
              bif
                  ((0 : Nat) + ((0 : Nat) + L.n)).ble ((0 : Nat) + j) &&
                    ((0 : Nat) + j).blt ((0 : Nat) + ((0 : Nat) + L.n) + (1 : Nat)) then
                List.map plainOr
                  ([[T.int IntKind.i64 x0, T.int IntKind.i64 (100000 : Int), T.int IntKind.i64 di,
                          T.int IntKind.u32 oi]].getD
                    ((0 : Nat) + j - ((0 : Nat) + ((0 : Nat) + L.n))) [])
              else
                [T.int IntKind.i64 (L.tm ((0 : Nat) + j - (0 : Nat))), T.int IntKind.i64 (L.du ((0 : Nat) + j - (0 : Nat))),
                  T.int IntKind.i64 (L.af ((0 : Nat) + j - (0 : Nat))),
                  T.int IntKind.u32 (L.on ((0 : Nat) + j - (0 : Nat)))])
            none
        else T.undef,
        T.int IntKind.i64 (IntKind.i64.wrap ((2 : Int) + IntKind.i64.wrap ((Int.ofNat u).tmod (15 : Int))))] then
    bif decide ((0 : Int) ≤ IntKind.i64.wrap (Int.ofNat (L.n + (1 : Nat)) - (1 : Int))) &&
      decide (IntKind.i64.wrap (Int.ofNat (L.n + (1 : Nat)) - (1 : Int)) < Int.ofNat (L.n + (1 : Nat))) then
    bif decide (pv = y3 (IntKind.i64.wrap (Int.ofNat (L.n + (1 : Nat)) - (1 : Int))).toNat) then
    bif decide (er = (0 : Int)) then
    bif decide (y3 (IntKind.i64.wrap (Int.ofNat (L.n + (1 : Nat)) - (1 : Int))).toNat ≤ IntKind.i64.wrap (Int.ofNat b)) then
    bif decide (er = (0 : Int)) then
    bif propF p12 [] then
    some (T.bool true)
    else
    none
    else
    bif decide (er = (19 : Int)) then
    bif propF p12 [] then
    some (T.bool true)
    else
    none
    else
    some (T.bool false)
    else
    some (T.bool false)
    else
    bif decide (y3 (IntKind.i64.wrap (Int.ofNat (L.n + (1 : Nat)) - (1 : Int))).toNat ≤ IntKind.i64.wrap (Int.ofNat b)) then
    some (T.bool false)
    else
    bif decide (er = (0 : Int)) then
    bif propF p12 [] then
    some (T.bool true)
    else
    none
    else
    bif decide (er = (19 : Int)) then
    bif propF p12 [] then
    some (T.bool true)
    else
    none
    else
    some (T.bool false)
    else
    some (T.bool false)
    else
    none
    else
    none
    else
    bif propF p16
      [bif ((0 : Nat) + ((0 : Nat) + L.n + (1 : Nat))).ble ((0 : Nat) + L.n + (1 : Nat)) then
          T.view (4 : Nat) ((0 : Nat) + L.n + (1 : Nat))
            (fun j =>
              bif ((0 : Nat) + j).blt ((0 : Nat) + L.n) then
                [T.int IntKind.i64 (L.tm ((0 : Nat) + ((0 : Nat) + j) - (0 : Nat))),
                  T.int IntKind.i64 (L.du ((0 : Nat) + ((0 : Nat) + j) - (0 : Nat))),
                  T.int IntKind.i64 (L.af ((0 : Nat) + ((0 : Nat) + j) - (0 : Nat))),
                  T.int IntKind.u32 (L.on ((0 : Nat) + ((0 : Nat) + j) - (0 : Nat)))]
              else
                List.map plainOr
                  ([[T.int IntKind.i64 x0, T.int IntKind.i64 (100000 : Int), T.int IntKind.i64 di,
                          T.int IntKind.u32 oi]].getD
                    ((0 : Nat) + j - ((0 : Nat) + L.n)) []))
            none
        else T.undef,
        T.int IntKind.i64 (IntKind.i64.wrap ((2 : Int) + IntKind.i64.wrap ((Int.ofNat u).tmod (15 : Int))))] then
    bif decide ((0 : Int) ≤ IntKind.i64.wrap (Int.ofNat (L.n + (1 : Nat)) - (1 : Int))) &&
      decide (IntKind.i64.wrap (Int.ofNat (L.n + (1 : Nat)) - (1 : Int)) < Int.ofNat (L.n + (1 : Nat))) then
    bif decide (pv = y3 (IntKind.i64.wrap (Int.ofNat (L.n + (1 : Nat)) - (1 : Int))).toNat) then
    bif decide (er = (0 : Int)) then
    bif decide (y3 (IntKind.i64.wrap (Int.ofNat (L.n + (1 : Nat)) - (1 : Int))).toNat ≤ IntKind.i64.wrap (Int.ofNat b)) then
    bif decide (er = (0 : Int)) then
    bif propF p12 [] then
    some (T.bool true)
    else
    none
    else
    bif decide (er = (19 : Int)) then
    bif propF p12 [] then
    some (T.bool true)
    else
    none
    else
    some (T.bool false)
    else
    some (T.bool false)
    else
    bif decide (y3 (IntKind.i64.wrap (Int.ofNat (L.n + (1 : Nat)) - (1 : Int))).toNat ≤ IntKind.i64.wrap (Int.ofNat b)) then
    some (T.bool false)
    else
    bif decide (er = (0 : Int)) then
    bif propF p12 [] then
    some (T.bool true)
    else
    none
    else
    bif decide (er = (19 : Int)) then
    bif propF p12 [] then
    some (T.bool true)
    else
    none
    else
    some (T.bool false)
    else
    some (T.bool false)
    else
    none
    else
    none
    else
    none
    else
    none
    else
    none
    else
    none
    else
    none
    else
    none
    else
    none) from by kernel_rfl) ?_
  have em : IntKind.i64.wrap ((2 : Int) + IntKind.i64.wrap ((Int.ofNat u).tmod (15 : Int))) = ((2 + u % 15 : Nat) : Int) := by
    rw [show (Int.ofNat u).tmod (15 : Int) = ((u % 15 : Nat) : Int) from rfl, show IntKind.i64.wrap ((u % 15 : Nat) : Int) = ((u % 15 : Nat) : Int) from wr64 (by omega) (by omega), wr64 (by omega) (by omega)]
    omega
  rw [em]
  by_cases q20 : 20 < R.n
  · exact bift (by simp only [ofNatE, decide_eq_true_eq]; omega) (bift (pred_yes e12 livesT) rfl)
  refine biff (by simp only [ofNatE, decide_eq_true_eq]; omega) ?_
  refine bift (pred_yes e9 h9) ?_
  refine bift (pred_yes e18 h18) ?_
  refine bift (pred_yes e17 h17) ?_
  refine bift (pred_yes e18 h18) ?_
  simp only [Nat.zero_add, Nat.sub_zero]
  by_cases q0 : L.n = 0
  · refine bift (by rw [nbeq]; exact q0) ?_
    refine bift (pred_yes e16 (hview _ _ _ (by omega) fun j hj => ?_)) fin
    obtain rfl : j = 0 := by omega
    rw [if_neg (by omega)]
    rfl
  · refine biff (by rw [nbeq]; exact q0) ?_
    refine bift (bleT (by omega)) ?_
    refine biff (by rw [nble]; omega) ?_
    refine bift (bleT (by omega)) ?_
    refine bift (bleT (by omega)) ?_
    refine biff (by rw [nble]; omega) ?_
    rw [show Nat.ble (L.n + 1) (L.n + 1) = true from bleT (by omega), cond_true]
    refine bift (pred_yes e16 (hview _ _ _ (by omega) fun j hj => ?_)) fin
    by_cases q : j < L.n
    · rw [bltT q, cond_true, if_pos q]
      rfl
    · obtain rfl : j = L.n := by omega
      rw [bltF (show L.n ≤ L.n by omega), cond_false, if_neg q, Nat.sub_self]
      rfl
end Go.Ab

/- Plans of jobs: plain laws. -/
namespace Go.Ab
open Go.Proofs
theorem gvR_succ (rd : Nat → Int) (tm af on : Int) (k : Nat) : gvR rd tm af on (k + 1) = if ableB on k = true then gvst rd tm af (gvR rd tm af on k) k else gvR rd tm af on k := by
  unfold gvR
  rw [abL_succ]
  split
  · unfold gvn
    rw [List.length_append, List.length_singleton, List.take_of_length_le (by simp), List.foldl_append, List.take_length]
    rfl
  · rfl
theorem gvR_zero (rd : Nat → Int) (tm af on : Int) : gvR rd tm af on 0 = (-1, 0, 0) := rfl
theorem maxB_ge (a b : Int) : a ≤ maxB a b ∧ b ≤ maxB a b ∧ (maxB a b = a ∨ maxB a b = b) := by
  unfold maxB
  by_cases q : a < b
  · rw [dT q]; simp; omega
  · rw [dF q]; simp; omega
theorem gvR_spec (rd : Nat → Int) (tm af on : Int) : ∀ m, (∀ k, k < m → ableB on k = true → (gvR rd tm af on m).2.1 ≤ maxB (rd k) af ∧ 0 ≤ (gvR rd tm af on m).1) ∧
    ((gvR rd tm af on m).1 < 0 ∨ ∃ g : Nat, g < m ∧ ableB on g = true ∧ gvR rd tm af on m = ((g : Int), maxB (rd g) af, maxB (rd g) af + tm)) := by
  intro m
  induction m with
  | zero => exact ⟨fun k hk => by omega, .inl (by rw [gvR_zero]; decide)⟩
  | succ m ih =>
    obtain ⟨h1, h2⟩ := ih
    rw [gvR_succ]
    by_cases qa : ableB on m = true
    · rw [if_pos qa]
      unfold gvst
      by_cases q : (gvR rd tm af on m).1 < 0 ∨ maxB (rd m) af < (gvR rd tm af on m).2.1
      · rw [if_pos q]
        refine ⟨fun k hk hka => ?_, .inr ⟨m, by omega, qa, rfl⟩⟩
        refine ⟨?_, by dsimp only; omega⟩
        dsimp only
        rcases Nat.lt_or_ge k m with q1 | q1
        · have := h1 k q1 hka; omega
        · obtain rfl : k = m := by omega
          exact Int.le_refl _
      · rw [if_neg q]
        refine ⟨fun k hk hka => ?_, ?_⟩
        · rcases Nat.lt_or_ge k m with q1 | q1
          · exact h1 k q1 hka
          · obtain rfl : k = m := by omega
            omega
        · rcases h2 with h2 | ⟨g, g1, g2, g3⟩
          · exact .inl h2
          · exact .inr ⟨g, by omega, g2, g3⟩
    · rw [if_neg qa]
      refine ⟨fun k hk hka => ?_, ?_⟩
      · rcases Nat.lt_or_ge k m with q1 | q1
        · exact h1 k q1 hka
        · obtain rfl : k = m := by omega
          exact absurd hka qa
      · rcases h2 with h2 | ⟨g, g1, g2, g3⟩
        · exact .inl h2
        · exact .inr ⟨g, by omega, g2, g3⟩
theorem gvR_some (rd : Nat → Int) (tm af on : Int) (m : Nat) (h : 0 < (abL on m).length) : ∃ g : Nat, g < m ∧ ableB on g = true ∧ gvR rd tm af on m = ((g : Int), maxB (rd g) af, maxB (rd g) af + tm) := by
  obtain ⟨g, g1, g2⟩ := gvR_lt rd tm af on m h
  rcases (gvR_spec rd tm af on m).2 with q | q
  · rw [g2] at q; omega
  · exact q
/-- The law's test of a machine. -/
theorem able_iff {on : Int} (h : 0 ≤ on ∧ on ≤ 7) (k : Nat) (hk : k < 16) : ableB on k = true ↔ ¬ (on ≠ 0 ∧ (on.fdiv (2 ^ min k 32)).tmod 2 = 0) := by
  have key : ∀ a, a < 8 → ∀ k, k < 16 → (ableB ((a : Nat) : Int) k = true ↔ ¬ (((a : Nat) : Int) ≠ 0 ∧ (((a : Nat) : Int).fdiv (2 ^ min k 32)).tmod 2 = 0)) := by decide +kernel
  have := key on.toNat (by omega) k hk
  rw [Int.toNat_of_nonneg h.1] at this
  exact this
/-- Sums over the machines. -/
def psum (rd : Nat → Int) : Nat → Int
  | 0 => 0
  | m + 1 => psum rd m + rd m
theorem psum_congr {f g : Nat → Int} : ∀ m, (∀ k, k < m → f k = g k) → psum f m = psum g m
  | 0, _ => rfl
  | m + 1, h => by simp only [psum, psum_congr m fun k hk => h k (by omega), h m (by omega)]
theorem psum_upd {f g : Nat → Int} {i : Nat} {v : Int} (hi : f i = v) (ho : ∀ k, k ≠ i → f k = g k) : ∀ m, i < m → psum f m = psum g m - g i + v := by
  intro m
  induction m with
  | zero => intro h; omega
  | succ m ih =>
    intro h
    simp only [psum]
    rcases Nat.lt_or_ge i m with q | q
    · rw [ih q, ho m (by omega)]; omega
    · obtain rfl : i = m := by omega
      rw [psum_congr (f := f) (g := g) i fun k hk => ho k (by omega), hi]; omega
theorem psum_min {f : Nat → Int} {x : Int} : ∀ m : Nat, (∀ k, k < m → x ≤ f k) → x * (m : Int) ≤ psum f m := by
  intro m
  induction m with
  | zero => intro _; simp [psum]
  | succ m ih =>
    intro h
    have h1 := ih fun k hk => h k (by omega)
    have h2 := h m (by omega)
    simp only [psum]
    rw [show ((m + 1 : Nat) : Int) = (m : Int) + 1 by omega, Int.mul_add, Int.mul_one]
    omega
/-- The sum of the times, and the longest one, job by job. -/
def totU (L : JL) : Nat → Int
  | 0 => 0
  | i + 1 => totU L i + L.tm i
def mxU (L : JL) : Nat → Int
  | 0 => 0
  | i + 1 => maxB (mxU L i) (L.tm i)
/-- When the last one is ready. -/
def lstU (L : JL) (o : Nat → Nat) (m : Nat) : Nat → Int
  | 0 => 0
  | i + 1 => maxB (lstU L o m i) ((slt L o m i).2.1 + L.tm (o i))
theorem totU_tot (L : JL) : ∀ i, totU L i = tot L.tm (List.range i) := by
  intro i
  induction i with
  | zero => rfl
  | succ i ih => rw [List.range_succ, tot_app, tot_one, ← ih]; rfl
theorem mxU_ge (L : JL) : ∀ i j, j < i → L.tm j ≤ mxU L i := by
  intro i
  induction i with
  | zero => intro j hj; omega
  | succ i ih =>
    intro j hj
    have := maxB_ge (mxU L i) (L.tm i)
    simp only [mxU]
    rcases Nat.lt_or_ge j i with q | q
    · have := ih j q; omega
    · obtain rfl : j = i := by omega
      omega
theorem mxU_nonneg (L : JL) (hL : L.Ok) : ∀ i, i ≤ L.n → 0 ≤ mxU L i ∧ mxU L i ≤ 100000 := by
  intro i
  induction i with
  | zero => intro _; simp [mxU]
  | succ i ih =>
    intro hi
    have h1 := ih (by omega)
    have h2 := maxB_ge (mxU L i) (L.tm i)
    have h3 := hL.tm i (by omega)
    simp only [mxU]
    rcases h2.2.2 with q | q <;> rw [q] <;> omega
theorem totU_bd (L : JL) (hL : L.Ok) : ∀ i, i ≤ L.n → 0 ≤ totU L i ∧ totU L i ≤ i * 100000 := by
  intro i
  induction i with
  | zero => intro _; simp [totU]
  | succ i ih =>
    intro hi
    have h1 := ih (by omega)
    have h3 := hL.tm i (by omega)
    simp only [totU]
    omega
theorem lstU_le (L : JL) (o : Nat → Nat) (m : Nat) (B : Int) (h0 : 0 ≤ B) : ∀ i, (∀ j, j < i → (slt L o m j).2.1 + L.tm (o j) ≤ B) → 0 ≤ lstU L o m i ∧ lstU L o m i ≤ B := by
  intro i
  induction i with
  | zero => intro _; exact ⟨Int.le_refl 0, h0⟩
  | succ i ih =>
    intro h
    have h1 := ih fun j hj => h j (by omega)
    have h2 := h i (by omega)
    have h3 := maxB_ge (lstU L o m i) ((slt L o m i).2.1 + L.tm (o i))
    simp only [lstU]
    rcases h3.2.2 with q | q <;> rw [q] <;> omega
theorem ableB_zero (k : Nat) : ableB 0 k = true := by simp [ableB]
/-- If all machines can do all from the beginning on, the machines are busy without a gap. -/
theorem plan_free (L : JL) (hL : L.Ok) (m : Nat) (hm : 1 ≤ m) (haf : ∀ j, j < L.n → L.af j = 0) (hon : ∀ j, j < L.n → L.on j = 0) : ∀ i, i ≤ L.n → psum (plst L (oN L) m i) m = tms L (oN L) i := by
  intro i
  induction i with
  | zero =>
    intro _
    show psum (plst L (oN L) m 0) m = 0
    have e : plst L (oN L) m 0 = fun _ => 0 := rfl
    rw [e]
    clear hm e
    induction m with
    | zero => rfl
    | succ m ih => simp only [psum, ih]; rfl
  | succ i ih =>
    intro hi
    have h1 := ih (by omega)
    have ho := oN_lt (L := L) (j := i) (by omega)
    have h2 := plst_bd hL (o := oN L) (mm := m) i (fun j hj => oN_lt (by omega))
    simp only [tms]
    rw [← h1]
    have hab : 0 < (abL (L.on (oN L i)) m).length := by
      rw [hon _ ho]
      exact Nat.lt_of_lt_of_le (by decide +kernel : 0 < (abL 0 1).length) (abL_le hm)
    obtain ⟨g, g1, g2, g3⟩ := gvR_some (plst L (oN L) m i) (L.tm (oN L i)) (L.af (oN L i)) (L.on (oN L i)) m hab
    have hrg := h2 g g1
    have e : maxB (plst L (oN L) m i g) (L.af (oN L i)) = plst L (oN L) m i g := by
      rw [haf _ ho]
      have := maxB_ge (plst L (oN L) m i g) 0
      omega
    rw [e] at g3
    rw [psum_upd (f := plst L (oN L) m (i + 1)) (g := plst L (oN L) m i) (i := g) (v := plst L (oN L) m i g + L.tm (oN L i)) ?_ ?_ m g1]
    · omega
    · show (if _ then _ else _) = _
      rw [g3, if_pos rfl]
    · intro k hk
      show (if _ then _ else _) = _
      rw [g3, if_neg (by dsimp only; omega)]
theorem tms_le (L : JL) (hL : L.Ok) (o : Nat → Nat) (ho : ∀ j, j < L.n → o j < L.n) : ∀ i j, i ≤ j → j ≤ L.n → tms L o i ≤ tms L o j := by
  intro i j h
  induction h with
  | refl => intro _; exact Int.le_refl _
  | step _ ih =>
    rename_i j _
    intro hj
    have h1 := ih (by omega)
    have h2 := hL.tm (o j) (ho j (by omega))
    simp only [tms]
    omega
theorem plan_bound (L : JL) (hL : L.Ok) (m : Nat) (hm : 1 ≤ m) (haf : ∀ j, j < L.n → L.af j = 0) (hon : ∀ j, j < L.n → L.on j = 0) : lstU L (oN L) m L.n * (m : Int) ≤ totU L L.n + mxU L L.n * (m : Int) := by
  have htot : tms L (oN L) L.n = totU L L.n := by
    rw [tms_tot, oL_oN, totU_tot]
    exact tot_perm (ordL_perm _ _)
  have hmx := mxU_nonneg L hL L.n (Nat.le_refl _)
  have htn := totU_bd L hL L.n (Nat.le_refl _)
  have key : ∀ i, i ≤ L.n → lstU L (oN L) m i * (m : Int) ≤ totU L L.n + mxU L L.n * (m : Int) := by
    intro i
    induction i with
    | zero =>
      intro _
      have := Int.mul_nonneg hmx.1 (by omega : (0 : Int) ≤ (m : Int))
      simp only [lstU, Int.zero_mul]
      omega
    | succ i ih =>
      intro hi
      have h1 := ih (by omega)
      simp only [lstU]
      have h3 := maxB_ge (lstU L (oN L) m i) ((slt L (oN L) m i).2.1 + L.tm (oN L i))
      rcases h3.2.2 with q | q
      · rw [q]; exact h1
      · rw [q, Int.add_mul]
        have ho := oN_lt (L := L) (j := i) (by omega)
        have h4 : (slt L (oN L) m i).2.1 * (m : Int) ≤ psum (plst L (oN L) m i) m := by
          refine psum_min m fun k hk => ?_
          have h5 := (gvR_spec (plst L (oN L) m i) (L.tm (oN L i)) (L.af (oN L i)) (L.on (oN L i)) m).1 k hk (by rw [hon _ ho]; exact ableB_zero k)
          have h6 := plst_bd hL (o := oN L) (mm := m) i (fun j hj => oN_lt (by omega)) k hk
          have h7 := maxB_ge (plst L (oN L) m i k) 0
          have e : maxB (plst L (oN L) m i k) (L.af (oN L i)) = plst L (oN L) m i k := by
            rw [haf _ ho]; omega
          rw [e] at h5
          exact h5.1
        rw [plan_free L hL m hm haf hon i (by omega)] at h4
        have h8 := tms_le L hL (oN L) (fun j hj => oN_lt hj) i L.n (by omega) (Nat.le_refl _)
        have h9 := mxU_ge L L.n (oN L i) ho
        have h10 := Int.mul_le_mul_of_nonneg_right h9 (by omega : (0 : Int) ≤ (m : Int))
        omega
  exact key L.n (Nat.le_refl _)
end Go.Ab

namespace Go.Ab
open Go.Proofs
def jcl (L : JL) (j : Nat) : List T := [.int .i64 (L.tm j), .int .i64 (L.du j), .int .i64 (L.af j), .int .u32 (L.on j)]
def jblk (L : JL) : Blk := ⟨0, 4, L.n, jcl L, true, false⟩
def frU (L : JL) (i : Nat) : JL := ⟨L.tm, L.du, fun j => bif Nat.blt j i then 0 else L.af j, fun j => bif Nat.blt j i then 0 else L.on j, L.n⟩
def rb16 (rd : Nat → Int) : Blk := ⟨0, 1, 16, fun j => [.int .i64 (rd j)], true, false⟩
def v5 (b : Bool) (n : Nat) (m t lg i : Int) : List T := [.bool b, .own 0 0 0 n none, .int .i64 m, .int .i64 t, .int .i64 lg, .int .i64 i]
def e5 (b : Bool) (n : Nat) (m t lg : Int) : List T := [.bool b, .own 0 0 0 n none, .int .i64 m, .int .i64 t, .int .i64 lg]
def v24 (x2 x7 x9 x10 x12 x14 x17 x18 : T) (m : Int) (a b d on : Int) (best from' k : Int) : List T := [x2, x7, .int .i64 m, x9, x10, x12, x14, .ptr 1 0 0 0, x17, x18, .reg [.int .i64 a, .int .i64 b, .int .i64 d, .int .u32 on], .int .i64 best, .int .i64 from', .int .i64 k]
def e24 (x2 x7 x9 x10 x12 x14 x17 x18 : T) (m : Int) (a b d on : Int) (best from' : Int) : List T := [x2, x7, .int .i64 m, x9, x10, x12, x14, .ptr 1 0 0 0, x17, x18, .reg [.int .i64 a, .int .i64 b, .int .i64 d, .int .u32 on], .int .i64 best, .int .i64 from']
def v19' (b : Bool) (n : Nat) (m t lg : Int) (o : Nat → Nat) (y1 y2 y3 : Nat → Int) (l i : Int) : List T := [.bool b, .own 0 0 0 n none, .int .i64 m, .int .i64 t, .int .i64 lg, ov n o (some n), .view 4 n (sv4 (fun j => (o j : Nat)) y1 y2 y3) (some n), .ptr 1 0 0 0, .int .i64 l, .int .i64 i]
def e19' (b : Bool) (m t lg l : Int) : List T := [.bool b, .undef, .int .i64 m, .int .i64 t, .int .i64 lg, .int .i64 l]
end Go.Ab

