/- A part of the proof: nothing is assumed. -/
import Derived.Test.YtlaganadekpcjaaP14
import Derived.Test.YtlaganadekpcjaaP4
set_option linter.all false
namespace Go.Ab
open Go.Proofs
noncomputable def K4 (p9 p10 p11 p13 p14 p12 : List T → Prop) (xF x4 xa xb xo : T) (vF : List T → Int) : Orc :=
  (((((noneO.add 9 (callP p9 (.new xF))).add 10 (callP p10 (.tup [x4, .int .i64 0]))).add 11 (callI p11 vF)).add 13 (callP p13 (.tup [.new xa, .new xb, .int .i64 0]))).add 14 (callP p14 xo)).add 12 (callP p12 (.bool true))
theorem law4m (R : JR) (c : Option Nat) (L : JL) (hL : L.Ok) (h9 : ToldOk P41 G41 9 [R.v c] (.new (jv L none))) (hr : R.n ≤ 6) (hn : L.n ≤ 6) (o : Nat → Nat) (ho : Ordr L.n o) (h10 : ToldOk P41 G41 10 [jv L none] (.tup [ov L.n o (some L.n), .int .i64 0])) (a m : Nat) (xa x : Nat → Nat) (h13 : ToldOk P41 G41 13 [jv L none] (.tup [.new (ov a xa (some a)), .new (ov m x (some m)), .int .i64 0]))
    (ham : a + m = L.n) (hxa : ∀ j, j < a → xa j < L.n) (hxn : ∀ i j, i < j → j < a → xa i ≠ xa j) (hx : ∀ i, i + 1 < m → x i < x (i + 1)) (N : Nat) (p : Nat → Nat → Nat) (hN : N ≤ 720) (hp : ∀ j, j < N → Ordr L.n (p j)) (h14 : ToldOk P41 G41 14 [.int .i64 L.n] (allT N L.n p))
    (hw : ∀ j, j < N → wst L o L.n ≤ wst L (p j) L.n) (hm : ∀ j, j < N → m ≤ mny L (p j) L.n) (hdone : 0 < a → wst L xa a ≤ 0) : ToldOk P41 G41 4 [R.v c] (.bool true) := by
  obtain ⟨p9, e9⟩ := told_pred P41 G41 9 (.new (jv L none))
  obtain ⟨p10, e10⟩ := told_pred P41 G41 10 (.tup [ov L.n o (some L.n), .int .i64 0])
  obtain ⟨p11, e11⟩ := told_predI P41 G41 11 (lateVF L)
  obtain ⟨p13, e13⟩ := told_pred P41 G41 13 (.tup [.new (ov a xa (some a)), .new (ov m x (some m)), .int .i64 0])
  obtain ⟨p14, e14⟩ := told_pred P41 G41 14 (allT N L.n p)
  obtain ⟨p12, e12⟩ := told_pred P41 G41 12 (.bool true)
  have t1 := lateT L none L.n o (some L.n) hL (by omega) ho.lt ho.ne
  have t2 := lateT L none a xa (some a) hL (by omega) hxa hxn
  have v1 : lateVF L [jv L none, ov L.n o (some L.n)] = wst L o L.n := rfl
  have v2 : lateVF L [jv L none, ov a xa (some a)] = wst L xa a := rfl
  have y1 := predI_yes e11 t1 v1
  have y2 := predI_yes e11 t2 v2
  have la := l13b L (lateVF L [jv L none, ov L.n o (some L.n)]) m x (by omega) hx
  have lb := l19b L hL (lateVF L [jv L none, ov L.n o (some L.n)]) m x N p (by omega) hp (by rw [v1]; exact hw) hm
  refine stepL_told hm41 hn41 (K := K4 p9 p10 p11 p13 p14 p12 (jv L none) (ov L.n o (some L.n)) (ov a xa (some a)) (ov m x (some m)) (allT N L.n p) (lateVF L)) (told_add (told_add (told_add (told_add (told_add (told_add none_ok (callP_told (told_predT e9))) (callP_told (told_predT e10))) (callI_told (predI_told e11))) (callP_told (told_predT e13))) (callP_told (told_predT e14))) (callP_told (told_predT e12))) (A := A41) (m := 0) (by kernel_rfl) (loopsC la (loops1 lb)) ?_
  generalize lateVF L = vF at *
  refine Eq.trans (show stepL P41 G41 A41 (K4 p9 p10 p11 p13 p14 p12 (jv L none) (ov L.n o (some L.n)) (ov a xa (some a)) (ov m x (some m)) (allT N L.n p) vF) 0 4 [(13, litS (v13b L (vF [jv L none, ov L.n o (some L.n)]) (ov m x (some m)) 1) [] (.exit 0) (e13b L (vF [jv L none, ov L.n o (some L.n)]) (ov m x (some m))) []), (19, litS (v19b L (vF [jv L none, ov L.n o (some L.n)]) (ov m x (some m)) N p 0) [] (.exit 2) [.undef] [])] [R.v c] =
(
 bif decide ((6 : Int) < Int.ofNat R.n) then
 bif propF p12 [] then
 some (T.bool true)
 else none else
 bif propF p9 [T.view 4 R.n (fun j => [T.int .u8 (Int.ofNat (R.t j)), T.int .u8 (Int.ofNat (R.d j)), T.int .u8 (Int.ofNat (R.a j)), T.int .u8 (Int.ofNat (R.o j))]) c] then
 bif propF p10 [jv L
 none] then
 bif propF p11 [jv L
 none, ov L.n o (some L.n)] then
 bif propF p13 [jv L
 none] then
 bif !decide (IntKind.i64.wrap (Int.ofNat a + Int.ofNat m) = Int.ofNat L.n) then
 some (T.bool false)
 else
 bif !decide (Int.ofNat a = Int.ofNat a) then
 some (T.bool false)
 else
 bif !decide (Int.ofNat m = Int.ofNat m) then
 some (T.bool false)
 else
 bif propF p11 [jv L
 none, ov a xa (some a)] then
 bif decide ((0 : Int) < Int.ofNat a) then
 bif decide ((0 : Int) < vF [jv L
 none, ov a xa (some a)]) then
 some (T.bool false)
 else
 bif weakF [jv L
 none, T.int .i64 (vF [jv L
 none, ov L.n o (some L.n)]), ov m x (some m), T.int .i64 (1 : Int)] [] [jv L
 none, T.int .i64 (vF [jv L
 none, ov L.n o (some L.n)]), ov m x (some m), T.int .i64 (1 : Int)] [] then
 bif propF p14 [T.int .i64 (Int.ofNat L.n)] then
 bif weakF [jv L
 none, T.int .i64 (vF [jv L
 none, ov L.n o (some L.n)]), ov m x (some m), T.view 1 N (fun j => [T.view 1 L.n (fun q => [T.int .i64 (Int.ofNat (p j q))])
 none])
 none, T.int .i64 (0 : Int)] [] [jv L
 none, T.int .i64 (vF [jv L
 none, ov L.n o (some L.n)]), ov m x (some m), T.view 1 N (fun j => [T.view 1 L.n (fun q => [T.int .i64 (Int.ofNat (p j q))])
 none])
 none, T.int .i64 (0 : Int)] [] then
 bif propF p12 [] then
 some (T.bool true)
 else none else none else none else none else
 bif weakF [jv L
 none, T.int .i64 (vF [jv L
 none, ov L.n o (some L.n)]), ov m x (some m), T.int .i64 (1 : Int)] [] [jv L
 none, T.int .i64 (vF [jv L
 none, ov L.n o (some L.n)]), ov m x (some m), T.int .i64 (1 : Int)] [] then
 bif propF p14 [T.int .i64 (Int.ofNat L.n)] then
 bif weakF [jv L
 none, T.int .i64 (vF [jv L
 none, ov L.n o (some L.n)]), ov m x (some m), T.view 1 N (fun j => [T.view 1 L.n (fun q => [T.int .i64 (Int.ofNat (p j q))])
 none])
 none, T.int .i64 (0 : Int)] [] [jv L
 none, T.int .i64 (vF [jv L
 none, ov L.n o (some L.n)]), ov m x (some m), T.view 1 N (fun j => [T.view 1 L.n (fun q => [T.int .i64 (Int.ofNat (p j q))])
 none])
 none, T.int .i64 (0 : Int)] [] then
 bif propF p12 [] then
 some (T.bool true)
 else none else none else none else none else none else none else none else none else
 none) from by kernel_rfl) ?_
  refine biff (by simp only [ofNatE, decide_eq_true_eq]; omega) ?_
  refine bift (pred_yes e9 h9) (bift (pred_yes e10 h10) (bift y1 (bift (pred_yes e13 h13) ?_)))
  refine biff (by rw [wr64 (by rw [ofNatE, ofNatE]; omega) (by rw [ofNatE, ofNatE]; omega)]; simp only [ofNatE, Bool.not_eq_true', decide_eq_false_iff_not, Bool.not_eq_true, Bool.not_eq_false', decide_eq_true_eq]; omega) ?_
  refine biff (by simp) ?_
  refine biff (by simp) ?_
  refine bift y2 ?_
  have fin : (bif weakF [jv L none, .int .i64 (vF [jv L none, ov L.n o (some L.n)]), ov m x (some m), .int .i64 1] [] (v13b L (vF [jv L none, ov L.n o (some L.n)]) (ov m x (some m)) 1) [] then
      bif propF p14 [.int .i64 L.n] then bif weakF (v19b L (vF [jv L none, ov L.n o (some L.n)]) (ov m x (some m)) N p 0) [] (v19b L (vF [jv L none, ov L.n o (some L.n)]) (ov m x (some m)) N p 0) [] then
      bif propF p12 [] then some (T.bool true) else none else none else none else none) = some (T.bool true) :=
    bift (weakF_of ⟨rfl, .refl _⟩) (bift (pred_yes e14 h14) (bift (weakF_of ⟨rfl, .refl _⟩) (bift (pred_yes e12 livesT) rfl)))
  by_cases q : 0 < a
  · refine bift (by simp only [ofNatE, decide_eq_true_eq]; omega) ?_
    refine biff ?_ fin
    rw [decide_eq_true_eq]
    have e : vF [jv L none, ov a xa (some a)] = wst L xa a := v2
    intro h
    have h : 0 < vF [jv L none, ov a xa (some a)] := h
    have := hdone q
    omega
  · exact biff (by simp only [ofNatE, decide_eq_true_eq]; omega) fin
theorem law4T (R : JR) (c : Option Nat) (hR : R.Ok) : ToldOk P41 G41 4 [R.v c] (.bool true) := by
  by_cases q6 : 6 < R.n
  · obtain ⟨p12, e12⟩ := told_pred P41 G41 12 (.bool true)
    refine stepL_told hm41 hn41 (K := noneO.add 12 (callP p12 (.bool true))) (told_add none_ok (callP_told (told_predT e12))) (A := annWith A41 4 [(1, 23, true)]) (m := 0) (by kernel_rfl) loops0 ?_
    refine Eq.trans (show stepL P41 G41 (annWith A41 4 [(1, 23, true)]) (noneO.add 12 (callP p12 (.bool true))) 0 4 [] [R.v c] =
(
 bif decide ((6 : Int) < Int.ofNat R.n) then
 bif propF p12 [] then
 some (T.bool true)
 else none else
 none) from by kernel_rfl) ?_
    exact bift (by simp only [ofNatE, decide_eq_true_eq]; omega) (bift (pred_yes e12 livesT) rfl)
  · have h9 := listT R c hR
    have hL := R.lok hR _ (min40 R.n)
    have hm : Nat.min R.n 40 ≤ 6 := Nat.le_trans (Nat.min_le_left _ _) (by omega)
    have hn : (R.L (Nat.min R.n 40)).n = Nat.min R.n 40 := rfl
    generalize R.L (Nat.min R.n 40) = L at *
    generalize Nat.min R.n 40 = n40 at *
    subst hn
    have h10 : ToldOk P41 G41 10 [jv L none] (.tup [ov L.n (oN L) (some L.n), .int .i64 0]) := orderT L none hL
    have h13 := punT L none hL (oN L) (fun j _ => rfl)
    have hk := pst_ok (L := L) (o := oN L) L.n (fun j hj => oN_lt hj)
    have hld := hk.ld
    have hnd := pst_nodup L hL
    rw [List.nodup_append] at hnd
    have hls := (srtN_perm (pst L (oN L) L.n).2.2).length_eq
    obtain ⟨N, p, hN, hp, h14⟩ := ordersT L.n hm
    have hmn := fun j hj => mny_least L hL (p j) (hp j hj)
    refine law4m R c L hL h9 (by omega) hm (oN L) (oN_ordr L) h10 (pst L (oN L) L.n).1.length (srtN (pst L (oN L) L.n).2.2).length (fun j => (pst L (oN L) L.n).1.getD j 0) (fun j => (srtN (pst L (oN L) L.n).2.2).getD j 0) h13 (by omega) (fun j hj => hk.d _ (getD_mem hj)) (fun i j hij hj => ?_) (fun i hi => srtN_next hnd.2.1 hi) N p hN hp h14 (fun j hj => wst_least L hL (p j) (hp j hj)) (fun j hj => by rw [hls]; exact hmn j hj) (done_intime L hL)
    rw [getD_eq (by omega), getD_eq hj]
    exact List.pairwise_iff_getElem.1 (List.nodup_iff_pairwise_ne.1 hnd.1) i j (by omega) hj hij
end Go.Ab

/- The laws' typed arguments. -/
namespace Go.Ab
open Go.Proofs
section
variable {Hp : Type}
theorem agg22 : aggTy P41 22 = false := by kernel_rfl
theorem agg23 : aggTy P41 23 = false := by kernel_rfl
theorem cells52 : P41.cellsOf 52 = 4 := by kernel_rfl
theorem cells5_41 : P41.cellsOf 5 = 1 := by kernel_rfl
def cN (l : List T) (k : Nat) : Nat := match l[k]? with | some (.int _ z) => z.toNat | _ => 0
theorem inv52 {ts : List T} {d : DataW Hp} (h : CT P41 52 ts d) : ∃ a b c e : Nat, ts = uJ a b c e ∧ a < 256 ∧ b < 256 ∧ c < 256 ∧ e < 256 := by
  obtain ⟨parts, ds, rfl, rfl, hs⟩ := CT.struct_inv Try.underlying52 h; clear h; rename _ => h
  change CTs P41 [5, 5, 5, 5] parts ds at h
  obtain ⟨p1, _, d1, _, rfl, rfl, h1, h⟩ := h.cons
  obtain ⟨p2, _, d2, _, rfl, rfl, h2, h⟩ := h.cons
  obtain ⟨p3, _, d3, _, rfl, rfl, h3, h⟩ := h.cons
  obtain ⟨p4, _, d4, _, rfl, rfl, h4, h⟩ := h.cons
  obtain ⟨rfl, rfl⟩ := h.nil
  obtain ⟨a, rfl, rfl, w1⟩ := h1.int_inv Try.underlying5
  obtain ⟨b, rfl, rfl, w2⟩ := h2.int_inv Try.underlying5
  obtain ⟨c, rfl, rfl, w3⟩ := h3.int_inv Try.underlying5
  obtain ⟨e, rfl, rfl, w4⟩ := h4.int_inv Try.underlying5
  have w1 := wf_u8 w1
  have w2 := wf_u8 w2
  have w3 := wf_u8 w3
  have w4 := wf_u8 w4
  refine ⟨a.toNat, b.toNat, c.toNat, e.toNat, ?_, by omega, by omega, by omega, by omega⟩
  unfold uJ
  rw [Int.toNat_of_nonneg w1.1, Int.toNat_of_nonneg w2.1, Int.toNat_of_nonneg w3.1, Int.toNat_of_nonneg w4.1]
  simp
theorem inv22 {ts : List T} {d : DataW Hp} (h : CT P41 22 ts d) : ∃ R : JR, R.Ok ∧ Sim (topT P41 22 ts) (R.v none) := by
  rcases h.slice_inv Try.underlying22 (by rw [cells52]; omega) with ⟨rfl, rfl⟩ | ⟨n, c, g, elems, spare, rfl, rfl, he, hs, hn, hc, hg⟩
  · refine ⟨⟨fun _ => 0, fun _ => 0, fun _ => 0, fun _ => 0, 0⟩, ⟨fun _ => Nat.zero_lt_succ 255, fun _ => Nat.zero_lt_succ 255, fun _ => Nat.zero_lt_succ 255, fun _ => Nat.zero_lt_succ 255⟩, ?_⟩
    rw [show topT P41 22 [.nils] = .nils by simp [topT, agg22]]
    exact .nilv _ _ (.inl rfl)
  · have key : ∀ j, j < n → ∃ a b c e : Nat, g j = uJ a b c e ∧ a < 256 ∧ b < 256 ∧ c < 256 ∧ e < 256 := fun j hj => inv52 (hg j elems[j] (by simp [show j < elems.length by omega]))
    have b : ∀ j k, (if j < n then cN (g j) k else 0) < 256 := fun j k => by
      split
      · rename_i hj
        obtain ⟨a, b, c, e, q, q1, q2, q3, q4⟩ := key j hj
        rw [q]
        unfold uJ cN
        match k with
        | 0 => simpa using q1
        | 1 => simpa using q2
        | 2 => simpa using q3
        | 3 => simpa using q4
        | k + 4 => simp
      · omega
    refine ⟨⟨fun j => if j < n then cN (g j) 0 else 0, fun j => if j < n then cN (g j) 1 else 0, fun j => if j < n then cN (g j) 2 else 0, fun j => if j < n then cN (g j) 3 else 0, n⟩, ⟨fun j => b j 0, fun j => b j 1, fun j => b j 2, fun j => b j 3⟩, ?_⟩
    have e : topT P41 22 [.view (P41.cellsOf 52) n g (some c)] = .view 4 n g (some c) := by simp [topT, agg22, cells52]
    rw [e]
    refine .view (.inr rfl) fun j hj => ?_
    obtain ⟨a, b, c, e, q, _⟩ := key j hj
    have e2 : g j = uJ (if j < n then cN (g j) 0 else 0) (if j < n then cN (g j) 1 else 0) (if j < n then cN (g j) 2 else 0) (if j < n then cN (g j) 3 else 0) := by
      rw [if_pos hj, if_pos hj, if_pos hj, if_pos hj, q]
      rfl
    show Sims (g j) (uJ _ _ _ _)
    rw [← e2]
    exact .refl _
theorem inv23 {ts : List T} {d : DataW Hp} (h : CT P41 23 ts d) : ∃ (n : Nat) (m : Nat → Nat), (∀ j, m j < 256) ∧ Sim (topT P41 23 ts) (.view 1 n (fun j => [.int .u8 (m j)]) none) := by
  rcases h.slice_inv Try.underlying23 (by rw [cells5_41]; omega) with ⟨rfl, rfl⟩ | ⟨n, c, g, elems, spare, rfl, rfl, he, hs, hn, hc, hg⟩
  · refine ⟨0, fun _ => 0, fun _ => Nat.zero_lt_succ 255, ?_⟩
    rw [show topT P41 23 [.nils] = .nils by simp [topT, agg23]]
    exact .nilv _ _ (.inl rfl)
  · have key : ∀ j, j < n → ∃ a : Nat, g j = [.int .u8 a] ∧ a < 256 := fun j hj => by
      obtain ⟨v, hv, _, w⟩ := (hg j elems[j] (by simp [show j < elems.length by omega])).int_inv Try.underlying5
      have w := wf_u8 w
      exact ⟨v.toNat, by rw [hv, Int.toNat_of_nonneg w.1], by omega⟩
    refine ⟨n, fun j => if j < n then cN (g j) 0 else 0, fun j => ?_, ?_⟩
    · dsimp only
      split
      · rename_i hj
        obtain ⟨a, q, q1⟩ := key j hj
        rw [q]
        simpa [cN] using q1
      · omega
    · have e : topT P41 23 [.view (P41.cellsOf 5) n g (some c)] = .view 1 n g (some c) := by simp [topT, agg23, cells5_41]
      rw [e]
      refine .view (.inr rfl) fun j hj => ?_
      obtain ⟨a, q, _⟩ := key j hj
      have e2 : g j = [.int .u8 (if j < n then cN (g j) 0 else 0 : Nat)] := by
        rw [if_pos hj, q]
        rfl
      show Sims (g j) [T.int .u8 _]
      rw [← e2]
      exact .refl _
end
end Go.Ab

