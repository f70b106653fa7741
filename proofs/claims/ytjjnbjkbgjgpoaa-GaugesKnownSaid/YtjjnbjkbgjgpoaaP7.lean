/- A part of the proof: nothing is assumed. -/
import Derived.Test.YtjjnbjkbgjgpoaaP5
import Derived.Test.YtjjnbjkbgjgpoaaP6
set_option linter.all false
namespace Go.Ab
open Go.Proofs
def vs26 (l : Nat) (p t i : Int) : List T := [.yld l, .vp [.int .i64 p], .vp [.int .i64 t], .int .i64 p, .int .i64 i]
theorem seq26 (p t : Int) (hp1 : 1 ≤ p) (hp2 : p ≤ 400) (ht1 : 0 ≤ t) (ht2 : t ≤ 80000) : SeqTold P37 G37 26 [.vp [.int .i64 p], .vp [.int .i64 t]] p.toNat (fun i => [.int .i64 ((((i : Nat) : Int) + 1) * t / p)]) := by
  refine seq_told (prom := []) Try.func26 rfl (by kernel_rfl) (by kernel_rfl) (by decide +kernel) (Nat.le_of_ble_eq_true (by kernel_rfl)) fun l R J Jx hJ hJx hy X g a W hi => ?_
  refine wpIn_seq ?_
  refine It.exk (m := 0) (l := [0, 1, 2]) (vs := [.yld l, .vp [.int .i64 p], .vp [.int .i64 t]]) (h := []) (l' := [0, 1, 2, 5, 6]) (vs' := vs26 l p t 0) (h' := []) (e := .normal) hm37 none_ok (by decide +kernel) (by kernel_rfl) (by kernel_rfl) (hJ 0) (hi.only _) fun X1 g1 a1 W1 hi1 => ?_
  refine wpIn_block ?_
  refine wpIn_loop_num (fun n a W => ∃ (i : Nat) (X : Nat → Prop) (g : Gh), i ≤ p.toNat ∧ n = p.toNat - i ∧ It G37 [] Try.f26.ntmps R (J i) X g (mkSt [0, 1, 2, 5, 6] (vs26 l p t i) []) a W) (fun n a W hI => ?_) p.toNat a1 W1 ⟨0, X1, g1, by omega, by omega, hi1⟩
  obtain ⟨i, X, g, hin, rfl, hi⟩ := hI
  refine wpIn_seq ?_
  by_cases hlt : (i : Int) < p
  · refine It.exk (m := 0) (l := [0, 1, 2, 5, 6]) (vs := vs26 l p t i) (h := []) (l' := [0, 1, 2, 5, 6, 7]) (vs' := [.yld l, .vp [.int .i64 p], .vp [.int .i64 t], .int .i64 p, .int .i64 i, .bool true]) (h' := []) (e := .normal) hm37 none_ok (by decide +kernel) (Eq.trans (b := bif decide ((i : Int) < p) then some (.normal, [.yld l, .vp [.int .i64 p], .vp [.int .i64 t], .int .i64 p, .int .i64 i, .bool true], []) else some (.normal, [.yld l, .vp [.int .i64 p], .vp [.int .i64 t], .int .i64 p, .int .i64 i, .bool false], [])) (by kernel_rfl) (by rw [decide_eq_true hlt]; rfl)) (by kernel_rfl) (hJ i) hi fun X1 g1 a1 W1 hi1 => ?_
    refine wpIn_seq ?_
    refine It.exk (m := 0) (l := [0, 1, 2, 5, 6, 7]) (vs := [.yld l, .vp [.int .i64 p], .vp [.int .i64 t], .int .i64 p, .int .i64 i, .bool true]) (h := []) (l' := [0, 1, 2, 5, 6]) (vs' := vs26 l p t i) (h' := []) (e := .normal) hm37 none_ok (by decide +kernel) (by kernel_rfl) (by kernel_rfl) (hJ i) hi1 fun X2 g2 a2 W2 hi2 => ?_
    refine wpIn_seq ?_
    refine wpIn_block ?_
    refine wpIn_seq ?_
    refine It.exk (m := 0) (l := [0, 1, 2, 5, 6]) (vs := vs26 l p t i) (h := []) (l' := [0, 1, 2, 4, 5, 6]) (vs' := [.yld l, .vp [.int .i64 p], .vp [.int .i64 t], .int .i64 i, .int .i64 p, .int .i64 i]) (h' := []) (e := .normal) hm37 none_ok (by decide +kernel) (by kernel_rfl) (by kernel_rfl) (hJ i) hi2 fun X3 g3 a3 W3 hi3 => ?_
    refine wpIn_seq ?_
    refine It.yield (k := 7) (l := [0, 1, 2, 4, 5, 6]) (l' := [0, 1, 2, 5, 6, 17]) (vs := [.yld l, .vp [.int .i64 p], .vp [.int .i64 t], .int .i64 i, .int .i64 p, .int .i64 i]) (h := []) (hT := []) (hF := [])
      (vsT := [.yld l, .vp [.int .i64 p], .vp [.int .i64 t], .int .i64 p, .int .i64 i, .bool false]) (vsF := [.yld l, .vp [.int .i64 p], .vp [.int .i64 t], .int .i64 p, .int .i64 i, .bool true]) none_ok ?_ ?_ (hJ i) (hJ (i + 1)) (hJx i) hi3 (hy i · · · (by omega)) (fun X4 g4 a4 W4 hi4 => ?_) (fun X4 g4 a4 W4 hi4 => ?_)
    · refine Eq.trans (b := bif decide (p = 0) then none else some (l, [.int .i64 (IntKind.i64.wrap (Int.tdiv (IntKind.i64.wrap (IntKind.i64.wrap ((i : Int) + 1) * t)) p))], ([.yld l, .vp [.int .i64 p], .vp [.int .i64 t], .int .i64 p, .int .i64 i, .bool false], []), ([.yld l, .vp [.int .i64 p], .vp [.int .i64 t], .int .i64 p, .int .i64 i, .bool true], []))) (by kernel_rfl) ?_
      rw [decide_eq_false (by omega : ¬ p = 0), cond_false]
      have h1 : 0 ≤ ((i : Int) + 1) * t := Int.mul_nonneg (by omega) ht1
      have h2 : ((i : Int) + 1) * t ≤ 400 * 80000 := Int.mul_le_mul (by omega) ht2 ht1 (by omega)
      rw [wr64 (x := (i : Int) + 1) (by omega) (by omega), wr64 (x := ((i : Int) + 1) * t) (by omega) (by omega), Int.tdiv_eq_ediv_of_nonneg h1]
      have h3 : 0 ≤ ((i : Int) + 1) * t / p := Int.ediv_nonneg h1 (by omega)
      have h4 : ((i : Int) + 1) * t / p ≤ ((i : Int) + 1) * t := Int.ediv_le_self _ h1
      rw [wr64 (by omega) (by omega)]
    · rfl
    · refine It.exk (m := 0) (l := [0, 1, 2, 5, 6, 17]) (vs := [.yld l, .vp [.int .i64 p], .vp [.int .i64 t], .int .i64 p, .int .i64 i, .bool false]) (h := []) (l' := [0, 1, 2, 5, 6]) (vs' := vs26 l p t i) (h' := []) (e := .normal) hm37 none_ok (by decide +kernel) (by kernel_rfl) (by kernel_rfl) (hJ (i + 1)) hi4 fun X5 g5 a5 W5 hi5 => ?_
      refine It.exk (m := 0) (l := [0, 1, 2, 5, 6]) (vs := vs26 l p t i) (h := []) (l' := [0, 1, 2, 5, 6]) (vs' := vs26 l p t (IntKind.i64.wrap (i + 1))) (h' := []) (e := .normal) hm37 none_ok (by decide +kernel) (by kernel_rfl) (by kernel_rfl) (hJ (i + 1)) hi5 fun X6 g6 a6 W6 hi6 => ?_
      rw [wr64 (by omega) (by omega)] at hi6
      exact ⟨p.toNat - (i + 1), by omega, i + 1, X6, g6, by omega, rfl, hi6⟩
    · refine It.exk (m := 0) (l := [0, 1, 2, 5, 6, 17]) (vs := [.yld l, .vp [.int .i64 p], .vp [.int .i64 t], .int .i64 p, .int .i64 i, .bool true]) (h := []) (l' := []) (vs' := []) (h' := []) (e := .ret) hm37 none_ok (by decide +kernel) (by kernel_rfl) (by kernel_rfl) (hJx i) hi4 fun X5 g5 a5 W5 hi5 => ?_
      exact ⟨.inr rfl, X5, g5, _, .inr ⟨i, by omega, hi5⟩⟩
  · obtain rfl : i = p.toNat := by omega
    refine It.exk (m := 0) (l := [0, 1, 2, 5, 6]) (vs := vs26 l p t p.toNat) (h := []) (l' := [7]) (vs' := [.bool false]) (h' := []) (e := .normal) hm37 none_ok (by decide +kernel) (Eq.trans (b := bif decide ((p.toNat : Int) < p) then some (.normal, [.bool true], []) else some (.normal, [.bool false], [])) (by kernel_rfl) (by rw [decide_eq_false hlt]; rfl)) (by kernel_rfl) (hJ _) hi fun X1 g1 a1 W1 hi1 => ?_
    refine wpIn_seq ?_
    refine It.exk (m := 0) (l := [7]) (vs := [.bool false]) (h := []) (l' := []) (vs' := []) (h' := []) (e := .exit 0) hm37 none_ok (by decide +kernel) (by kernel_rfl) (by kernel_rfl) (hJ _) hi1 fun X2 g2 a2 W2 hi2 => ?_
    exact ⟨.inl rfl, X2, g2, _, .inl hi2⟩
end Go.Ab

