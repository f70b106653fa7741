/- A part of the proof: nothing is assumed. -/
import Derived.Test.YtlaganadekpcjaaP11
import Derived.Test.YtlaganadekpcjaaP10
set_option linter.all false
namespace Go.Ab
open Go.Proofs
def A41r : FuncId → Ann := fun f => match f with
  | 25 => ⟨[7], fun r o => match r with | 5 => bif o then [4] else [1, 15, 16, 17] | 9 => bif o then [1, 8, 15, 16, 17] else [1, 8, 15, 16, 17, 23] | _ => [], false⟩
  | 27 => ⟨[], fun r o => match r with | 3 => bif o then [3, 5, 6, 7] else [3, 5, 6, 7, 15] | _ => [], false⟩
  | f => A41 f
def jT (a b c on : Int) : T := .agg (jcells a b c on)
def maxB (a b : Int) : Int := bif decide (a < b) then b else a
def gvst (rd : Nat → Int) (tm af : Int) (s : Int × Int × Int) (m : Nat) : Int × Int × Int := if s.1 < 0 ∨ maxB (rd m) af < s.2.1 then ((m : Int), maxB (rd m) af, maxB (rd m) af + tm) else s
def gvn (rd : Nat → Int) (tm af : Int) (l : List Nat) (i : Nat) : Int × Int × Int := (l.take i).foldl (gvst rd tm af) (-1, 0, 0)
/-- The heap of give. -/
def h27 (a b c on : Int) (mm : Nat) (rd : Nat → Int) (cp : Option Nat) (x : T) (s : Int × Int × Int) : Heap := [⟨0, 4, 1, fun _ => jcells a b c on, true, false⟩, box1 (iv mm rd cp), ⟨0, 4, 1, fun _ => [.int .i64 0, .int .i64 0, .int .i64 0, .int .i64 0], true, false⟩, ⟨0, 4, 1, fun _ => [x, .int .i64 s.1, .int .i64 s.2.1, .int .i64 s.2.2], true, false⟩]
def v27 (mm : Nat) (a b c on : Int) : List T := [.ptr 0 0 0 0, .ptr 1 0 0 0, .ptr 2 0 0 0, .ptr 3 0 0 0, .fn 48 [.vp [.int .i64 mm], .vp (jcells a b c on)]]
noncomputable def K27 (r : T) (l : List (List T)) : Orc := noneO.add 34 (callS l r)
theorem ableT (a b c on : Int) (m : Int) : ToldOk P41 G41 34 [jT a b c on, .int .i64 m] (.fn 48 [.vp [.int .i64 m], .vp (jcells a b c on)]) := by
  refine stepV_told hm41 hn41 none_ok (K := noneO) (A := A41) (m := 0) ?_
  refine Eq.trans (show stepV P41 G41 A41 noneO 0 34 [jT a b c on, .int .i64 m] =
(    some (T.fn (48 : Nat)
      [T.vp [T.int IntKind.i64 m],
        T.vp [T.int IntKind.i64 a, T.int IntKind.i64 b, T.int IntKind.i64 c, T.int IntKind.u32 on]])) from by kernel_rfl) ?_
  rfl
theorem r27 (a b c on : Int) (mm : Nat) (rd : Nat → Int) (cp : Option Nat) (name : Int) (s : Int × Int × Int) (k : Nat) (hk : k < mm) (hrd : ∀ j, j < mm → -1000000000000 ≤ rd j ∧ rd j ≤ 1000000000000) (hc : -1000000000000 ≤ c ∧ c ≤ 1000000000000) (ha : -1000000000000 ≤ a ∧ a ≤ 1000000000000) :
    ∃ h', rangeR P41 G41 A41r noneO 0 27 [] 3 (v27 mm a b c on) [.int .i64 k] (h27 a b c on mm rd cp (.int .i64 name) s) = some (.normal, h') ∧ SameBlks h' (h27 a b c on mm rd cp (.int .i64 name) (gvst rd a c s k)) := by
  obtain ⟨s1, s2, s3⟩ := s
  have h1 := hrd k hk
  have hmx : maxB (rd k) c = rd k ∨ maxB (rd k) c = c := by unfold maxB; cases decide (rd k < c) <;> simp
  unfold gvst
  rw [(show rangeR P41 G41 A41r noneO 0 27 [] 3 (v27 mm a b c on) [.int .i64 k] (h27 a b c on mm rd cp (.int .i64 name) (s1, s2, s3)) =
(    bif decide ((0 : Int) ≤ Int.ofNat k) && decide (Int.ofNat k < Int.ofNat mm) then
    bif decide (s1 < (0 : Int)) then
    some ((Ex.normal,
      [Blk.mk (0 : Nat) (4 : Nat) (1 : Nat)
          (fun x => [T.int IntKind.i64 a, T.int IntKind.i64 b, T.int IntKind.i64 c, T.int IntKind.u32 on]) true false,
        Blk.mk (0 : Nat) (1 : Nat) (1 : Nat) (fun x => [T.view (1 : Nat) mm (fun j => [T.int IntKind.i64 (rd j)]) cp]) false
          false,
        Blk.mk (0 : Nat) (4 : Nat) (1 : Nat)
          (fun x =>
            [T.int IntKind.i64 (0 : Int), T.int IntKind.i64 (0 : Int), T.int IntKind.i64 (0 : Int),
              T.int IntKind.i64 (0 : Int)])
          true false,
        Blk.mk (0 : Nat) (4 : Nat) (1 : Nat)
          (fun e =>
            [T.int IntKind.i64
                (bif e == (0 : Nat) then name
                else bif e == (0 : Nat) then name else bif e == (0 : Nat) then name else name),
              T.int IntKind.i64
                (bif e == (0 : Nat) then Int.ofNat k
                else bif e == (0 : Nat) then Int.ofNat k else bif e == (0 : Nat) then Int.ofNat k else s1),
              T.int IntKind.i64
                (bif e == (0 : Nat) then bif decide (rd k < c) then c else rd k
                else
                  bif e == (0 : Nat) then bif decide (rd k < c) then c else rd k else bif e == (0 : Nat) then s2 else s2),
              T.int IntKind.i64
                (bif e == (0 : Nat) then IntKind.i64.wrap ((bif decide (rd k < c) then c else rd k) + a)
                else bif e == (0 : Nat) then s3 else bif e == (0 : Nat) then s3 else s3)])
          true false]))
    else
    bif decide ((bif decide (rd k < c) then c else rd k) < s2) then
    some ((Ex.normal,
      [Blk.mk (0 : Nat) (4 : Nat) (1 : Nat)
          (fun x => [T.int IntKind.i64 a, T.int IntKind.i64 b, T.int IntKind.i64 c, T.int IntKind.u32 on]) true false,
        Blk.mk (0 : Nat) (1 : Nat) (1 : Nat) (fun x => [T.view (1 : Nat) mm (fun j => [T.int IntKind.i64 (rd j)]) cp]) false
          false,
        Blk.mk (0 : Nat) (4 : Nat) (1 : Nat)
          (fun x =>
            [T.int IntKind.i64 (0 : Int), T.int IntKind.i64 (0 : Int), T.int IntKind.i64 (0 : Int),
              T.int IntKind.i64 (0 : Int)])
          true false,
        Blk.mk (0 : Nat) (4 : Nat) (1 : Nat)
          (fun e =>
            [T.int IntKind.i64
                (bif e == (0 : Nat) then name
                else bif e == (0 : Nat) then name else bif e == (0 : Nat) then name else name),
              T.int IntKind.i64
                (bif e == (0 : Nat) then Int.ofNat k
                else bif e == (0 : Nat) then Int.ofNat k else bif e == (0 : Nat) then Int.ofNat k else s1),
              T.int IntKind.i64
                (bif e == (0 : Nat) then bif decide (rd k < c) then c else rd k
                else
                  bif e == (0 : Nat) then bif decide (rd k < c) then c else rd k else bif e == (0 : Nat) then s2 else s2),
              T.int IntKind.i64
                (bif e == (0 : Nat) then IntKind.i64.wrap ((bif decide (rd k < c) then c else rd k) + a)
                else bif e == (0 : Nat) then s3 else bif e == (0 : Nat) then s3 else s3)])
          true false]))
    else
    some ((Ex.normal,
      [Blk.mk (0 : Nat) (4 : Nat) (1 : Nat)
          (fun x => [T.int IntKind.i64 a, T.int IntKind.i64 b, T.int IntKind.i64 c, T.int IntKind.u32 on]) true false,
        Blk.mk (0 : Nat) (1 : Nat) (1 : Nat) (fun x => [T.view (1 : Nat) mm (fun j => [T.int IntKind.i64 (rd j)]) cp]) false
          false,
        Blk.mk (0 : Nat) (4 : Nat) (1 : Nat)
          (fun x =>
            [T.int IntKind.i64 (0 : Int), T.int IntKind.i64 (0 : Int), T.int IntKind.i64 (0 : Int),
              T.int IntKind.i64 (0 : Int)])
          true false,
        Blk.mk (0 : Nat) (4 : Nat) (1 : Nat)
          (fun x => [T.int IntKind.i64 name, T.int IntKind.i64 s1, T.int IntKind.i64 s2, T.int IntKind.i64 s3]) true
          false]))
    else
    none) from by kernel_rfl)]
  rw [show (decide ((0 : Int) ≤ Int.ofNat k) && decide (Int.ofNat k < Int.ofNat mm)) = true by first | assumption | omega | (simp (disch := omega) only [wr64, wr8, wr16, wr32, ofNatE, toNatE, toNatE1, Bool.and_eq_true, Bool.or_eq_true, Bool.not_eq_true', decide_eq_true_eq, decide_eq_false_iff_not, nble, nblt, nbeq, Nat.zero_add, Nat.add_zero, Int.zero_add, Int.add_zero, List.length_cons, List.length_nil, true_and, and_true, Nat.reduceAdd, and_self]; done) | (simp (disch := omega) only [wr64, wr8, wr16, wr32, ofNatE, toNatE, toNatE1, Bool.and_eq_true, Bool.or_eq_true, Bool.not_eq_true', decide_eq_true_eq, decide_eq_false_iff_not, nble, nblt, nbeq, Nat.zero_add, Nat.add_zero, Int.zero_add, Int.add_zero, List.length_cons, List.length_nil, true_and, and_true, Nat.reduceAdd, and_self]; omega), cond_true]
  change ∃ h', (bif decide (s1 < 0) then _ else bif decide (maxB (rd k) c < s2) then _ else _) = _ ∧ _
  have ew : IntKind.i64.wrap (maxB (rd k) c + a) = maxB (rd k) c + a := wr64 (by omega) (by omega)
  have yes : SameBlks [⟨0, 4, 1, fun _ => jcells a b c on, true, false⟩, box1 (iv mm rd cp), ⟨0, 4, 1, fun _ => [.int .i64 0, .int .i64 0, .int .i64 0, .int .i64 0], true, false⟩, ⟨0, 4, 1, fun e => [.int .i64 (bif e == 0 then name else (bif e == 0 then name else (bif e == 0 then name else name))), .int .i64 (bif e == 0 then (k : Int) else (bif e == 0 then (k : Int) else (bif e == 0 then (k : Int) else s1))), .int .i64 (bif e == 0 then maxB (rd k) c else (bif e == 0 then maxB (rd k) c else (bif e == 0 then s2 else s2))), .int .i64 (bif e == 0 then IntKind.i64.wrap (maxB (rd k) c + a) else (bif e == 0 then s3 else (bif e == 0 then s3 else s3)))], true, false⟩] (h27 a b c on mm rd cp (.int .i64 name) ((k : Int), maxB (rd k) c, maxB (rd k) c + a)) := by
    rw [ew]
    refine .cons ⟨rfl, rfl, rfl, id, fun _ _ => rfl⟩ (.cons ⟨rfl, rfl, rfl, id, fun _ _ => rfl⟩ (.cons ⟨rfl, rfl, rfl, id, fun _ _ => rfl⟩ (.cons ⟨rfl, rfl, rfl, id, fun j hj => ?_⟩ .nil)))
    have hj' : j < 1 := hj
    obtain rfl : j = 0 := by omega
    rfl
  by_cases q : s1 < 0
  · rw [dT q, cond_true, if_pos (.inl q)]
    exact ⟨_, rfl, yes⟩
  · rw [dF q, cond_false]
    by_cases q2 : maxB (rd k) c < s2
    · rw [dT q2, cond_true, if_pos (.inr q2)]
      exact ⟨_, rfl, yes⟩
    · rw [dF q2, cond_false, if_neg (fun h => h.elim q q2)]
      exact ⟨_, rfl, .refl _⟩
theorem gvn_succ (rd : Nat → Int) (tm af : Int) (l : List Nat) (i : Nat) (hi : i < l.length) : gvn rd tm af l (i + 1) = gvst rd tm af (gvn rd tm af l i) (l.getD i 0) := by
  unfold gvn
  rw [List.take_succ, List.foldl_append, List.getD_eq_getElem?_getD, List.getElem?_eq_getElem hi]
  rfl
theorem abL_lt {on : Int} {m i : Nat} (hi : i < (abL on m).length) : (abL on m).getD i 0 < m := by
  have : (abL on m).getD i 0 ∈ abL on m := by rw [List.getD_eq_getElem?_getD, List.getElem?_eq_getElem hi]; exact List.getElem_mem _
  exact List.mem_range.1 (List.mem_filter.1 this).1
def gvR (rd : Nat → Int) (tm af on : Int) (m : Nat) : Int × Int × Int := gvn rd tm af (abL on m) (abL on m).length
theorem l27 (a b c on : Int) (mm : Nat) (rd : Nat → Int) (cp : Option Nat) (name : Int) (hm : mm ≤ 16) (hrd : ∀ j, j < mm → -1000000000000 ≤ rd j ∧ rd j ≤ 1000000000000) (hc : -1000000000000 ≤ c ∧ c ≤ 1000000000000) (ha : -1000000000000 ≤ a ∧ a ≤ 1000000000000) :
    LoopOk P41 G41 (A41r 27) 27 3 (litS (v27 mm a b c on) (h27 a b c on mm rd cp (.int .i64 name) (-1, 0, 0)) .normal [.ptr 0 0 0 0, .ptr 1 0 0 0, .ptr 2 0 0 0, .ptr 3 0 0 0] (h27 a b c on mm rd cp (.int .i64 name) (gvR rd a c on mm))) := by
  have := range_lit (P := P41) (Gl := G41) (f := 27) (r := 3) (t := 15) (np := 1) (an := A41r 27) hm41 (by kernel_rfl) (vs := v27 mm a b c on) rfl (gf := 48) (caps := [.vp [.int .i64 mm], .vp (jcells a b c on)]) rfl (seq48 mm a b c on hm) (by kernel_rfl) (fun _ _ => rfl)
    (fun i => h27 a b c on mm rd cp (.int .i64 name) (gvn rd a c (abL on mm) i)) rfl (n := (abL on mm).length) (Nat.le_refl _) (e1 := .normal) (h1 := h27 a b c on mm rd cp (.int .i64 name) (gvR rd a c on mm)) (vo := [.ptr 0 0 0 0, .ptr 1 0 0 0, .ptr 2 0 0 0, .ptr 3 0 0 0]) rfl (fun i hi => ?_) (.inl ⟨rfl, rfl, rfl⟩)
  · exact this
  · obtain ⟨h', q1, q2⟩ := r27 a b c on mm rd cp name (gvn rd a c (abL on mm) i) ((abL on mm).getD i 0) (abL_lt hi) hrd hc ha
    refine ⟨A41r, noneO, 0, [], none_ok, rfl, rfl, loops0, h', q1, fun nt => ?_⟩
    rw [← gvn_succ rd a c _ i hi] at q2
    exact .same q2
theorem giveT (a b c on : Int) (mm : Nat) (rd : Nat → Int) (cp : Option Nat) (name : Int) (hm : mm ≤ 16) (hrd : ∀ j, j < mm → -1000000000000 ≤ rd j ∧ rd j ≤ 1000000000000) (hc : -1000000000000 ≤ c ∧ c ≤ 1000000000000) (ha : -1000000000000 ≤ a ∧ a ≤ 1000000000000) :
    ToldOk P41 G41 27 [jT a b c on, .int .i64 name, iv mm rd cp] (.agg [.int .i64 name, .int .i64 (gvR rd a c on mm).1, .int .i64 (gvR rd a c on mm).2.1, .int .i64 (gvR rd a c on mm).2.2]) := by
  have hl := l27 a b c on mm rd cp name hm hrd hc ha
  have k1 : ∀ z ∈ [[jT a b c on, .int .i64 mm]], ToldOk P41 G41 34 z (.fn 48 [.vp [.int .i64 mm], .vp (jcells a b c on)]) := fun z h => by obtain rfl := List.mem_singleton.1 h; exact ableT a b c on mm
  have m1 := List.mem_singleton.2 (rfl : [jT a b c on, .int .i64 mm] = _)
  generalize [[jT a b c on, .int .i64 mm]] = l1 at k1 m1
  generalize gvR rd a c on mm = s at *
  obtain ⟨s1, s2, s3⟩ := s
  refine stepL_told hm41 hn41 (K := K27 (.fn 48 [.vp [.int .i64 mm], .vp (jcells a b c on)]) l1) (told_add none_ok (callS_told k1)) (A := A41r) (m := 0) (by kernel_rfl) (loops1 hl) ?_
  refine Eq.trans (show stepL P41 G41 A41r (K27 (.fn 48 [.vp [.int .i64 mm], .vp (jcells a b c on)]) l1) 0 27 [(3, litS (v27 mm a b c on) (h27 a b c on mm rd cp (.int .i64 name) (-1, 0, 0)) .normal [.ptr 0 0 0 0, .ptr 1 0 0 0, .ptr 2 0 0 0, .ptr 3 0 0 0] (h27 a b c on mm rd cp (.int .i64 name) (s1, s2, s3)))] [jT a b c on, .int .i64 name, iv mm rd cp] =
(    bif sameArgsF
      [T.agg [T.int IntKind.i64 a, T.int IntKind.i64 b, T.int IntKind.i64 c, T.int IntKind.u32 on],
        T.int IntKind.i64 (Int.ofNat mm)]
      l1 then
    bif weakF
      [T.ptr (0 : Nat) (0 : Nat) (0 : Nat) (0 : Nat),
        T.ptr
          [Blk.mk (0 : Nat) [T.int IntKind.i64 a, T.int IntKind.i64 b, T.int IntKind.i64 c, T.int IntKind.u32 on].length
                (1 : Nat) (fun x => [T.int IntKind.i64 a, T.int IntKind.i64 b, T.int IntKind.i64 c, T.int IntKind.u32 on])
                true false].length
          (0 : Nat) (0 : Nat) (0 : Nat),
        T.ptr
          [Blk.mk (0 : Nat) [T.int IntKind.i64 a, T.int IntKind.i64 b, T.int IntKind.i64 c, T.int IntKind.u32 on].length
                (1 : Nat) (fun x => [T.int IntKind.i64 a, T.int IntKind.i64 b, T.int IntKind.i64 c, T.int IntKind.u32 on])
                true false,
              Blk.mk (0 : Nat) [T.view (1 : Nat) mm (fun j => [T.int IntKind.i64 (rd j)]) cp].length (1 : Nat)
                (fun x => [T.view (1 : Nat) mm (fun j => [T.int IntKind.i64 (rd j)]) cp]) false false].length
          (0 : Nat) (0 : Nat) (0 : Nat),
        T.ptr
          [Blk.mk (0 : Nat) [T.int IntKind.i64 a, T.int IntKind.i64 b, T.int IntKind.i64 c, T.int IntKind.u32 on].length
                (1 : Nat) (fun x => [T.int IntKind.i64 a, T.int IntKind.i64 b, T.int IntKind.i64 c, T.int IntKind.u32 on])
                true false,
              Blk.mk (0 : Nat) [T.view (1 : Nat) mm (fun j => [T.int IntKind.i64 (rd j)]) cp].length (1 : Nat)
                (fun x => [T.view (1 : Nat) mm (fun j => [T.int IntKind.i64 (rd j)]) cp]) false false,
              Blk.mk (0 : Nat) (4 : Nat) (1 : Nat)
                (fun x =>
                  [T.int IntKind.i64 (0 : Int), T.int IntKind.i64 (0 : Int), T.int IntKind.i64 (0 : Int),
                    T.int IntKind.i64 (0 : Int)])
                true false].length
          (0 : Nat) (0 : Nat) (0 : Nat),
        T.fn (48 : Nat)
          [T.vp [T.int IntKind.i64 (Int.ofNat mm)],
            T.vp [T.int IntKind.i64 a, T.int IntKind.i64 b, T.int IntKind.i64 c, T.int IntKind.u32 on]]]
      [Blk.mk (0 : Nat) [T.int IntKind.i64 a, T.int IntKind.i64 b, T.int IntKind.i64 c, T.int IntKind.u32 on].length
          (1 : Nat) (fun x => [T.int IntKind.i64 a, T.int IntKind.i64 b, T.int IntKind.i64 c, T.int IntKind.u32 on]) true
          false,
        Blk.mk (0 : Nat) [T.view (1 : Nat) mm (fun j => [T.int IntKind.i64 (rd j)]) cp].length (1 : Nat)
          (fun x => [T.view (1 : Nat) mm (fun j => [T.int IntKind.i64 (rd j)]) cp]) false false,
        Blk.mk (0 : Nat) (4 : Nat) (1 : Nat)
          (fun x =>
            [T.int IntKind.i64 (0 : Int), T.int IntKind.i64 (0 : Int), T.int IntKind.i64 (0 : Int),
              T.int IntKind.i64 (0 : Int)])
          true false,
        Blk.mk (0 : Nat) (4 : Nat) (1 : Nat)
          (fun e =>
            [T.int IntKind.i64 (bif e == (0 : Nat) then name else (0 : Int)),
              T.int IntKind.i64 (bif e == (0 : Nat) then (-1 : Int) else (0 : Int)),
              T.int IntKind.i64 (bif e == (0 : Nat) then (0 : Int) else (0 : Int)),
              T.int IntKind.i64 (bif e == (0 : Nat) then (0 : Int) else (0 : Int))])
          true false]
      [T.ptr (0 : Nat) (0 : Nat) (0 : Nat) (0 : Nat), T.ptr (1 : Nat) (0 : Nat) (0 : Nat) (0 : Nat),
        T.ptr (2 : Nat) (0 : Nat) (0 : Nat) (0 : Nat), T.ptr (3 : Nat) (0 : Nat) (0 : Nat) (0 : Nat),
        T.fn (48 : Nat)
          [T.vp [T.int IntKind.i64 (Int.ofNat mm)],
            T.vp [T.int IntKind.i64 a, T.int IntKind.i64 b, T.int IntKind.i64 c, T.int IntKind.u32 on]]]
      [Blk.mk (0 : Nat) (4 : Nat) (1 : Nat)
          (fun x => [T.int IntKind.i64 a, T.int IntKind.i64 b, T.int IntKind.i64 c, T.int IntKind.u32 on]) true false,
        Blk.mk (0 : Nat) (1 : Nat) (1 : Nat) (fun x => [T.view (1 : Nat) mm (fun j => [T.int IntKind.i64 (rd j)]) cp]) false
          false,
        Blk.mk (0 : Nat) (4 : Nat) (1 : Nat)
          (fun x =>
            [T.int IntKind.i64 (0 : Int), T.int IntKind.i64 (0 : Int), T.int IntKind.i64 (0 : Int),
              T.int IntKind.i64 (0 : Int)])
          true false,
        Blk.mk (0 : Nat) (4 : Nat) (1 : Nat)
          (fun x =>
            [T.int IntKind.i64 name, T.int IntKind.i64 (-1 : Int), T.int IntKind.i64 (0 : Int),
              T.int IntKind.i64 (0 : Int)])
          true false] then
    some (T.agg [T.int IntKind.i64 name, T.int IntKind.i64 s1, T.int IntKind.i64 s2, T.int IntKind.i64 s3])
    else
    none
    else
    none) from by kernel_rfl) ?_
  refine bift (sameArgsF_iff.2 m1) ?_
  refine bift (weakF_of ⟨rfl, .cons ⟨rfl, rfl, rfl, id, fun _ _ => rfl⟩ (.cons ⟨rfl, rfl, rfl, id, fun _ _ => rfl⟩ (.cons ⟨rfl, rfl, rfl, id, fun _ _ => rfl⟩ (.cons ⟨rfl, rfl, rfl, id, fun j hj => ?_⟩ .nil)))⟩) ?_
  · have hj' : j < 1 := hj
    obtain rfl : j = 0 := by omega
    rfl
  first | rfl | (simp (disch := omega) only [wr64, wr8, wr16, wr32, ofNatE, Nat.zero_add, bleT, bltT, dT, dF, Bool.true_and, Bool.and_true, Bool.and_self, cond_true, cond_false, Nat.sub_zero, beq_self_eq_true]; done) | (simp (disch := omega) only [wr64, wr8, wr16, wr32, ofNatE, Nat.zero_add, bleT, bltT, dT, dF, Bool.true_and, Bool.and_true, Bool.and_self, cond_true, cond_false, Nat.sub_zero, beq_self_eq_true]; rfl)
end Go.Ab

namespace Go.Ab
open Go.Proofs
def v25 (L : JL) (c : Option Nat) (mm : Int) (i : Int) : List T := [.int .i64 mm, jv L c, .int .i64 L.n, .int .i64 i]
def r25 (L : JL) (c : Option Nat) (mm : Nat) (i : Nat) (x : List T) : List T := [.int .i64 mm, .ptr 0 0 0 0, jv L c, .int .i64 L.n, .int .i64 i, .fn 48 [.vp [.int .i64 mm], .vp x]]
def bx (b : Bool) : Blk := ⟨0, 1, 1, fun _ => [.bool b], true, false⟩
noncomputable def K25 (r : T) (l : List (List T)) : Orc := noneO.add 34 (callS l r)
noncomputable def K25b (l1 : List (List T)) : Orc := noneO.add 19 (callS l1 (.int .i64 0))
theorem l25r (L : JL) (c : Option Nat) (mm : Nat) (i : Nat) (a b d on : Int) (hm : mm ≤ 16) (hab : 0 < (abL on mm).length) :
    LoopOk P41 G41 (A41r 25) 25 9 (litS (r25 L c mm i (jcells a b d on)) [bx false] (.exit 2) [.int .i64 mm, .ptr 0 0 0 0, jv L c, .int .i64 L.n, .int .i64 i] [bx true]) := by
  have := range_lit (P := P41) (Gl := G41) (f := 25) (r := 9) (t := 23) (np := 1) (an := A41r 25) hm41 (by kernel_rfl) (vs := r25 L c mm i (jcells a b d on)) rfl (gf := 48) (caps := [.vp [.int .i64 mm], .vp (jcells a b d on)]) rfl (seq48 mm a b d on hm) (by kernel_rfl) (fun _ _ => rfl)
    (fun i => [bx false]) rfl (n := 0) (Nat.zero_le _) (e1 := .exit 2) (h1 := [bx true]) (vo := [.int .i64 mm, .ptr 0 0 0 0, jv L c, .int .i64 L.n, .int .i64 i]) rfl (fun i hi => by omega) (.inr ⟨hab, by simp, A41r, noneO, 0, [], none_ok, rfl, rfl, loops0, [⟨0, 1, 1, fun e => [.bool (bif e == 0 then true else false)], true, false⟩], ?_, fun nt => .same (.cons ⟨rfl, rfl, rfl, id, fun j hj => ?_⟩ .nil)⟩)
  · exact this
  · generalize (abL on mm).getD 0 0 = x
    refine Eq.trans (show rangeR P41 G41 A41r noneO 0 25 [] 9 (r25 L c mm i (jcells a b d on)) [.int .i64 x] [bx false] =
(    some ((Ex.exit (2 : Nat),
      [Blk.mk (0 : Nat) (1 : Nat) (1 : Nat) (fun e => [T.bool (bif e == (0 : Nat) then true else false)]) true false]))) from by kernel_rfl) ?_
    rfl
  · have hj' : j < 1 := hj
    obtain rfl : j = 0 := by omega
    rfl
theorem l25j (L : JL) (c : Option Nat) (mm : Nat) (hL : L.Ok) (hm : mm ≤ 16) (hab : ∀ i, i < L.n → 0 < (abL (L.on i) mm).length) : LoopOk P41 G41 (A41r 25) 25 5 (litS (v25 L c mm 0) [] (.exit 0) [.undef] []) := by
  have hn := hL.n
  refine loop_steps hm41 (by kernel_rfl) (fun i => v25 L c mm i) (fun _ => []) (n := L.n) (fun i hi => ?_) ?_
  · have hl := l25r L c mm i (L.tm i) (L.du i) (L.af i) (L.on i) hm (hab i hi)
    have k1 : ∀ z ∈ [[jT (L.tm i) (L.du i) (L.af i) (L.on i), .int .i64 mm]], ToldOk P41 G41 34 z (.fn 48 [.vp [.int .i64 mm], .vp (jcells (L.tm i) (L.du i) (L.af i) (L.on i))]) := fun z h => by obtain rfl := List.mem_singleton.1 h; exact ableT _ _ _ _ _
    have m1 := List.mem_singleton.2 (rfl : [jT (L.tm i) (L.du i) (L.af i) (L.on i), .int .i64 mm] = _)
    generalize [[jT (L.tm i) (L.du i) (L.af i) (L.on i), .int .i64 mm]] = l1 at k1 m1
    refine Step.mk (A := A41r) (m := 0) (K := K25 (.fn 48 [.vp [.int .i64 mm], .vp (jcells (L.tm i) (L.du i) (L.af i) (L.on i))]) l1) (l := [(9, litS (r25 L c mm i (jcells (L.tm i) (L.du i) (L.af i) (L.on i))) [bx false] (.exit 2) [.int .i64 mm, .ptr 0 0 0 0, jv L c, .int .i64 L.n, .int .i64 i] [bx true])]) (told_add none_ok (callS_told k1)) rfl rfl (loops1 hl) 0 (Nat.le_refl _) (h1 := [bx true])
      (Eq.trans (show iterR P41 G41 A41r (K25 (.fn 48 [.vp [.int .i64 mm], .vp (jcells (L.tm i) (L.du i) (L.af i) (L.on i))]) l1) 0 25 [(9, litS (r25 L c mm i (jcells (L.tm i) (L.du i) (L.af i) (L.on i))) [bx false] (.exit 2) [.int .i64 mm, .ptr 0 0 0 0, jv L c, .int .i64 L.n, .int .i64 i] [bx true])] 5 (v25 L c mm i) [] =
(    bif decide (Int.ofNat i < Int.ofNat L.n) then
    bif decide ((0 : Int) ≤ Int.ofNat i) && decide (Int.ofNat i < Int.ofNat L.n) then
    bif sameArgsF
      [T.agg
          [T.int IntKind.i64 (L.tm i), T.int IntKind.i64 (L.du i), T.int IntKind.i64 (L.af i), T.int IntKind.u32 (L.on i)],
        T.int IntKind.i64 (Int.ofNat mm)]
      l1 then
    bif weakF
      [T.int IntKind.i64 (Int.ofNat mm), T.ptr (0 : Nat) (0 : Nat) (0 : Nat) (0 : Nat),
        T.view (4 : Nat) L.n
          (fun j =>
            [T.int IntKind.i64 (L.tm j), T.int IntKind.i64 (L.du j), T.int IntKind.i64 (L.af j),
              T.int IntKind.u32 (L.on j)])
          c,
        T.int IntKind.i64 (Int.ofNat L.n), T.int IntKind.i64 (Int.ofNat i),
        T.fn (48 : Nat)
          [T.vp [T.int IntKind.i64 (Int.ofNat mm)],
            T.vp
              [T.int IntKind.i64 (L.tm i), T.int IntKind.i64 (L.du i), T.int IntKind.i64 (L.af i),
                T.int IntKind.u32 (L.on i)]]]
      [Blk.mk (0 : Nat) (1 : Nat) (1 : Nat) (fun e => [T.bool (bif e == (0 : Nat) then false else false)]) true false]
      [T.int IntKind.i64 (Int.ofNat mm), T.ptr (0 : Nat) (0 : Nat) (0 : Nat) (0 : Nat),
        T.view (4 : Nat) L.n
          (fun j =>
            [T.int IntKind.i64 (L.tm j), T.int IntKind.i64 (L.du j), T.int IntKind.i64 (L.af j),
              T.int IntKind.u32 (L.on j)])
          c,
        T.int IntKind.i64 (Int.ofNat L.n), T.int IntKind.i64 (Int.ofNat i),
        T.fn (48 : Nat)
          [T.vp [T.int IntKind.i64 (Int.ofNat mm)],
            T.vp
              [T.int IntKind.i64 (L.tm i), T.int IntKind.i64 (L.du i), T.int IntKind.i64 (L.af i),
                T.int IntKind.u32 (L.on i)]]]
      [Blk.mk (0 : Nat) (1 : Nat) (1 : Nat) (fun x => [T.bool false]) true false] then
    some ((Ex.normal,
      [T.int IntKind.i64 (Int.ofNat mm),
        T.view (4 : Nat) L.n
          (fun j =>
            [T.int IntKind.i64 (L.tm j), T.int IntKind.i64 (L.du j), T.int IntKind.i64 (L.af j),
              T.int IntKind.u32 (L.on j)])
          c,
        T.int IntKind.i64 (Int.ofNat L.n), T.int IntKind.i64 (IntKind.i64.wrap (Int.ofNat i + (1 : Int)))],
      [Blk.mk (0 : Nat) (1 : Nat) (1 : Nat) (fun x => [T.bool true]) true false]))
    else
    none
    else
    none
    else
    none
    else
    some ((Ex.exit (0 : Nat), [T.undef], []))) from by kernel_rfl) ?_) rfl .nil
    (repeat (first | (refine bift (by first | assumption | omega | (simp (disch := omega) only [wr64, wr8, wr16, wr32, ofNatE, toNatE, toNatE1, Bool.and_eq_true, Bool.or_eq_true, Bool.not_eq_true', decide_eq_true_eq, decide_eq_false_iff_not, nble, nblt, nbeq, Nat.zero_add, Nat.add_zero, Int.zero_add, Int.add_zero, List.length_cons, List.length_nil, true_and, and_true, Nat.reduceAdd, and_self]; done) | (simp (disch := omega) only [wr64, wr8, wr16, wr32, ofNatE, toNatE, toNatE1, Bool.and_eq_true, Bool.or_eq_true, Bool.not_eq_true', decide_eq_true_eq, decide_eq_false_iff_not, nble, nblt, nbeq, Nat.zero_add, Nat.add_zero, Int.zero_add, Int.add_zero, List.length_cons, List.length_nil, true_and, and_true, Nat.reduceAdd, and_self]; omega)) ?_) | (refine biff (by first | assumption | (simp (disch := omega) only [wr64, wr8, wr16, wr32, ofNatE, toNatE, toNatE1, Bool.and_eq_true, Bool.or_eq_true, Bool.not_eq_true', decide_eq_true_eq, decide_eq_false_iff_not, nble, nblt, nbeq, Nat.zero_add, Nat.add_zero, Int.zero_add, Int.add_zero, List.length_cons, List.length_nil, true_and, and_true, Nat.reduceAdd, and_self]; done) | (simp (disch := omega) only [wr64, wr8, wr16, wr32, ofNatE, toNatE, toNatE1, Bool.and_eq_true, Bool.or_eq_true, Bool.not_eq_true', decide_eq_true_eq, decide_eq_false_iff_not, nble, nblt, nbeq, Nat.zero_add, Nat.add_zero, Int.zero_add, Int.add_zero, List.length_cons, List.length_nil, true_and, and_true, Nat.reduceAdd, and_self]; omega)) ?_)))
    refine bift (sameArgsF_iff.2 m1) ?_
    refine bift (weakF_of ⟨rfl, .cons ⟨rfl, rfl, rfl, id, fun j hj => ?_⟩ .nil⟩) ?_
    · have hj' : j < 1 := hj
      obtain rfl : j = 0 := by omega
      rfl
    first | rfl | (simp (disch := omega) only [wr64, wr8, wr16, wr32, ofNatE, Nat.zero_add, bleT, bltT, dT, dF, Bool.true_and, Bool.and_true, Bool.and_self, cond_true, cond_false, Nat.sub_zero, beq_self_eq_true]; done) | (simp (disch := omega) only [wr64, wr8, wr16, wr32, ofNatE, Nat.zero_add, bleT, bltT, dT, dF, Bool.true_and, Bool.and_true, Bool.and_self, cond_true, cond_false, Nat.sub_zero, beq_self_eq_true]; rfl)
  · refine Last.mk0 (A := A41r) (m := 0) none_ok rfl rfl loops0 (h1 := []) (by simp) (Eq.trans (show iterR P41 G41 A41r noneO 0 25 [] 5 (v25 L c mm L.n) [] =
(    bif decide (Int.ofNat L.n < Int.ofNat L.n) then
    bif decide ((0 : Int) ≤ Int.ofNat L.n) && decide (Int.ofNat L.n < Int.ofNat L.n) then
    none
    else
    none
    else
    some ((Ex.exit (0 : Nat), [T.undef], []))) from by kernel_rfl) ?_) .nil
    (repeat (first | (refine bift (by first | assumption | omega | (simp (disch := omega) only [wr64, wr8, wr16, wr32, ofNatE, toNatE, toNatE1, Bool.and_eq_true, Bool.or_eq_true, Bool.not_eq_true', decide_eq_true_eq, decide_eq_false_iff_not, nble, nblt, nbeq, Nat.zero_add, Nat.add_zero, Int.zero_add, Int.add_zero, List.length_cons, List.length_nil, true_and, and_true, Nat.reduceAdd, and_self]; done) | (simp (disch := omega) only [wr64, wr8, wr16, wr32, ofNatE, toNatE, toNatE1, Bool.and_eq_true, Bool.or_eq_true, Bool.not_eq_true', decide_eq_true_eq, decide_eq_false_iff_not, nble, nblt, nbeq, Nat.zero_add, Nat.add_zero, Int.zero_add, Int.add_zero, List.length_cons, List.length_nil, true_and, and_true, Nat.reduceAdd, and_self]; omega)) ?_) | (refine biff (by first | assumption | (simp (disch := omega) only [wr64, wr8, wr16, wr32, ofNatE, toNatE, toNatE1, Bool.and_eq_true, Bool.or_eq_true, Bool.not_eq_true', decide_eq_true_eq, decide_eq_false_iff_not, nble, nblt, nbeq, Nat.zero_add, Nat.add_zero, Int.zero_add, Int.add_zero, List.length_cons, List.length_nil, true_and, and_true, Nat.reduceAdd, and_self]; done) | (simp (disch := omega) only [wr64, wr8, wr16, wr32, ofNatE, toNatE, toNatE1, Bool.and_eq_true, Bool.or_eq_true, Bool.not_eq_true', decide_eq_true_eq, decide_eq_false_iff_not, nble, nblt, nbeq, Nat.zero_add, Nat.add_zero, Int.zero_add, Int.add_zero, List.length_cons, List.length_nil, true_and, and_true, Nat.reduceAdd, and_self]; omega)) ?_)))
    first | rfl | (simp (disch := omega) only [wr64, wr8, wr16, wr32, ofNatE, Nat.zero_add, bleT, bltT, dT, dF, Bool.true_and, Bool.and_true, Bool.and_self, cond_true, cond_false, Nat.sub_zero, beq_self_eq_true]; done) | (simp (disch := omega) only [wr64, wr8, wr16, wr32, ofNatE, Nat.zero_add, bleT, bltT, dT, dF, Bool.true_and, Bool.and_true, Bool.and_self, cond_true, cond_false, Nat.sub_zero, beq_self_eq_true]; rfl)
theorem chkT (L : JL) (c : Option Nat) (mm : Nat) (hL : L.Ok) (hm : 1 ≤ mm ∧ mm ≤ 16) (hab : ∀ i, i < L.n → 0 < (abL (L.on i) mm).length) : ToldOk P41 G41 25 [jv L c, .int .i64 mm] (.int .i64 0) := by
  have hn := hL.n
  have hl := l25j L c mm hL hm.2 hab
  have k1 : ∀ z ∈ [[jv L c, .int .i64 mm]], ToldOk P41 G41 19 z (.int .i64 0) := fun z h => by obtain rfl := List.mem_singleton.1 h; exact limT L c mm hL (by omega)
  have m1 := List.mem_singleton.2 (rfl : [jv L c, .int .i64 mm] = _)
  generalize [[jv L c, .int .i64 mm]] = l1 at k1 m1
  refine stepL_told hm41 hn41 (K := K25b l1) (told_add none_ok (callS_told k1)) (A := A41r) (m := 0) (by kernel_rfl) (loops1 hl) ?_
  refine Eq.trans (show stepL P41 G41 A41r (K25b l1) 0 25 [(5, litS (v25 L c mm 0) [] (.exit 0) [.undef] [])] [jv L c, .int .i64 mm] =
(    bif sameArgsF
      [T.view (4 : Nat) L.n
          (fun j =>
            [T.int IntKind.i64 (L.tm j), T.int IntKind.i64 (L.du j), T.int IntKind.i64 (L.af j),
              T.int IntKind.u32 (L.on j)])
          c,
        T.int IntKind.i64 (Int.ofNat mm)]
      l1 then
    bif weakF
      [T.int IntKind.i64 (Int.ofNat mm),
        T.view (4 : Nat) L.n
          (fun j =>
            [T.int IntKind.i64 (L.tm j), T.int IntKind.i64 (L.du j), T.int IntKind.i64 (L.af j),
              T.int IntKind.u32 (L.on j)])
          c,
        T.int IntKind.i64 (Int.ofNat L.n), T.int IntKind.i64 (0 : Int)]
      []
      [T.int IntKind.i64 (Int.ofNat mm),
        T.view (4 : Nat) L.n
          (fun j =>
            [T.int IntKind.i64 (L.tm j), T.int IntKind.i64 (L.du j), T.int IntKind.i64 (L.af j),
              T.int IntKind.u32 (L.on j)])
          c,
        T.int IntKind.i64 (Int.ofNat L.n), T.int IntKind.i64 (0 : Int)]
      [] then
    some (T.int IntKind.i64 (0 : Int))
    else
    none
    else
    none) from by kernel_rfl) ?_
  refine bift (sameArgsF_iff.2 m1) ?_
  refine bift (weakF_of ⟨rfl, .refl _⟩) ?_
  first | rfl | (simp (disch := omega) only [wr64, wr8, wr16, wr32, ofNatE, Nat.zero_add, bleT, bltT, dT, dF, Bool.true_and, Bool.and_true, Bool.and_self, cond_true, cond_false, Nat.sub_zero, beq_self_eq_true]; done) | (simp (disch := omega) only [wr64, wr8, wr16, wr32, ofNatE, Nat.zero_add, bleT, bltT, dT, dF, Bool.true_and, Bool.and_true, Bool.and_self, cond_true, cond_false, Nat.sub_zero, beq_self_eq_true]; rfl)
end Go.Ab

namespace Go.Ab
open Go.Proofs
/-- When the machines are ready before step i. -/
def plst (L : JL) (o : Nat → Nat) (mm : Nat) : Nat → Nat → Int
  | 0, _ => 0
  | i + 1, m => if (m : Int) = (gvR (plst L o mm i) (L.tm (o i)) (L.af (o i)) (L.on (o i)) mm).1 then (gvR (plst L o mm i) (L.tm (o i)) (L.af (o i)) (L.on (o i)) mm).2.2 else plst L o mm i m
def slt (L : JL) (o : Nat → Nat) (mm i : Nat) : Int × Int × Int := gvR (plst L o mm i) (L.tm (o i)) (L.af (o i)) (L.on (o i)) mm
def scells (L : JL) (o : Nat → Nat) (mm j : Nat) : List T := [.int .i64 (o j : Nat), .int .i64 (slt L o mm j).1, .int .i64 (slt L o mm j).2.1, .int .i64 (slt L o mm j).2.2]
def rblk (mm : Nat) (rd : Nat → Int) : Blk := ⟨0, 1, mm, fun j => [.int .i64 (rd j)], true, false⟩
def sblk (v n : Nat) (x : Nat → List T) : Blk := ⟨v, 4, n, x, true, false⟩
def xs26 (L : JL) (o : Nat → Nat) (mm i : Nat) : Nat → List T := fun j => bif Nat.blt j i then scells L o mm j else [.int .i64 0, .int .i64 0, .int .i64 0, .int .i64 0]
def v26 (L : JL) (c : Option Nat) (v i : Nat) (o : Nat → Nat) (mm : Nat) : List T := [jv L c, .own 1 v 0 i (some L.n), .own 0 0 0 mm (some mm), ov L.n o (some L.n), .int .i64 L.n, .int .i64 i]
noncomputable def K26 (r : T) (l : List (List T)) : Orc := noneO.add 27 (callS l r)
theorem gvn_lt (rd : Nat → Int) (tm af : Int) (l : List Nat) (mm : Nat) (hl : ∀ i, i < l.length → l.getD i 0 < mm) : ∀ i, i ≤ l.length → (i = 0 ∧ gvn rd tm af l i = (-1, 0, 0)) ∨ (∃ g : Nat, g < mm ∧ (gvn rd tm af l i).1 = (g : Int))
  | 0, _ => .inl ⟨rfl, rfl⟩
  | i + 1, hi => by
    right
    rw [gvn_succ rd tm af l i (by omega)]
    rcases gvn_lt rd tm af l mm hl i (by omega) with ⟨_, q⟩ | ⟨g, hg, q⟩
    · rw [q]
      unfold gvst
      rw [if_pos (.inl (by show (-1 : Int) < 0; omega))]
      exact ⟨_, hl i (by omega), rfl⟩
    · unfold gvst
      split
      · exact ⟨_, hl i (by omega), rfl⟩
      · exact ⟨g, hg, q⟩
theorem gvR_lt (rd : Nat → Int) (tm af on : Int) (mm : Nat) (h : 0 < (abL on mm).length) : ∃ g : Nat, g < mm ∧ (gvR rd tm af on mm).1 = (g : Int) := by
  rcases gvn_lt rd tm af (abL on mm) mm (fun i hi => abL_lt hi) (abL on mm).length (Nat.le_refl _) with ⟨q, _⟩ | q
  · omega
  · exact q
theorem gvn_bd (rd : Nat → Int) (tm af : Int) (l : List Nat) (mm : Nat) (B : Int) (hl : ∀ i, i < l.length → l.getD i 0 < mm) (hrd : ∀ m, m < mm → 0 ≤ rd m ∧ rd m ≤ B) (ha : 0 ≤ af ∧ af ≤ 100000) (ht : 0 ≤ tm ∧ tm ≤ 100000) (hB : 0 ≤ B) : ∀ i, i ≤ l.length → 0 ≤ (gvn rd tm af l i).2.1 ∧ 0 ≤ (gvn rd tm af l i).2.2 ∧ (gvn rd tm af l i).2.2 ≤ B + 200000
  | 0, _ => by simp [gvn]; omega
  | i + 1, hi => by
    rw [gvn_succ rd tm af l i (by omega)]
    have ih := gvn_bd rd tm af l mm B hl hrd ha ht hB i (by omega)
    have hr := hrd _ (hl i (by omega))
    have hmx : maxB (rd (l.getD i 0)) af = rd (l.getD i 0) ∨ maxB (rd (l.getD i 0)) af = af := by unfold maxB; cases decide (rd (l.getD i 0) < af) <;> simp
    unfold gvst
    split
    · show 0 ≤ maxB _ _ ∧ 0 ≤ maxB _ _ + tm ∧ maxB _ _ + tm ≤ _
      omega
    · exact ih
theorem plst_bd {L : JL} (hL : L.Ok) {o : Nat → Nat} {mm : Nat} : ∀ i, (∀ j, j < i → o j < L.n) → ∀ m, m < mm → 0 ≤ plst L o mm i m ∧ plst L o mm i m ≤ i * 200000
  | 0, _, m, _ => by simp [plst]
  | i + 1, ho, m, hm => by
    have ih := plst_bd hL (mm := mm) i fun j hj => ho j (by omega)
    have hoi := ho i (by omega)
    have h1 := hL.tm _ hoi
    have h2 := hL.af _ hoi
    have := gvn_bd (plst L o mm i) (L.tm (o i)) (L.af (o i)) (abL (L.on (o i)) mm) mm (i * 200000) (fun i hi => abL_lt hi) ih h2 (by omega) (by omega) _ (Nat.le_refl _)
    have hm := ih m hm
    unfold plst
    split
    · unfold gvR; omega
    · omega
theorem l26 (L : JL) (c : Option Nat) (o : Nat → Nat) (mm : Nat) (hL : L.Ok) (hm : 1 ≤ mm ∧ mm ≤ 16) (ho : ∀ j, j < L.n → o j < L.n) (hab : ∀ i, i < L.n → 0 < (abL (L.on i) mm).length) :
    LoopOk P41 G41 (A41 26) 26 4 (litS (v26 L c 0 0 o mm) [rblk mm (plst L o mm 0), sblk 0 L.n (xs26 L o mm 0)] (.exit 0) [.own 1 0 0 L.n (some L.n), .own 0 0 0 mm (some mm)] [rblk mm (plst L o mm L.n), sblk 0 L.n (xs26 L o mm L.n)]) := by
  have hn := hL.n
  refine loop_steps hm41 (by kernel_rfl) (fun i => v26 L c 0 i o mm) (fun i => [rblk mm (plst L o mm i), sblk 0 L.n (xs26 L o mm i)]) (n := L.n) (fun i hi => ?_) ?_
  · have hoi := ho i hi
    have h1 := hL.tm _ hoi
    have h2 := hL.af _ hoi
    obtain ⟨g, hg, eg⟩ := gvR_lt (plst L o mm i) (L.tm (o i)) (L.af (o i)) (L.on (o i)) mm (hab _ hoi)
    have t27 := giveT (L.tm (o i)) (L.du (o i)) (L.af (o i)) (L.on (o i)) mm (fun j => plst L o mm i (0 + j)) (some mm) (o i) hm.2 (fun j hj => by
      have := plst_bd hL (mm := mm) i (fun j hj => ho j (by omega)) j hj
      rw [Nat.zero_add]; omega) (by omega) (by omega)
    have e1 : (fun j => plst L o mm i (0 + j)) = plst L o mm i := by funext j; rw [Nat.zero_add]
    rw [show gvR (fun j => plst L o mm i (0 + j)) (L.tm (o i)) (L.af (o i)) (L.on (o i)) mm = gvR (plst L o mm i) (L.tm (o i)) (L.af (o i)) (L.on (o i)) mm by rw [e1], eg] at t27
    have k1 : ∀ z ∈ [[jT (L.tm (o i)) (L.du (o i)) (L.af (o i)) (L.on (o i)), .int .i64 (o i : Nat), iv mm (fun j => plst L o mm i (0 + j)) (some mm)]], ToldOk P41 G41 27 z (.agg [.int .i64 (o i : Nat), .int .i64 (g : Nat), .int .i64 (gvR (plst L o mm i) (L.tm (o i)) (L.af (o i)) (L.on (o i)) mm).2.1, .int .i64 (gvR (plst L o mm i) (L.tm (o i)) (L.af (o i)) (L.on (o i)) mm).2.2]) := fun z h => by obtain rfl := List.mem_singleton.1 h; exact t27
    have m1 := List.mem_singleton.2 (rfl : [jT (L.tm (o i)) (L.du (o i)) (L.af (o i)) (L.on (o i)), .int .i64 (o i : Nat), iv mm (fun j => plst L o mm i (0 + j)) (some mm)] = _)
    have hrd' : ∀ m, plst L o mm (i + 1) m = if m = g then (gvR (plst L o mm i) (L.tm (o i)) (L.af (o i)) (L.on (o i)) mm).2.2 else plst L o mm i m := fun m => by
      show (if (m : Int) = (gvR (plst L o mm i) (L.tm (o i)) (L.af (o i)) (L.on (o i)) mm).1 then _ else _) = _
      rw [eg]
      by_cases q : m = g
      · rw [if_pos q, if_pos (by rw [q])]
      · rw [if_neg q, if_neg (by omega)]
    have hs : scells L o mm i = [.int .i64 (o i : Nat), .int .i64 (g : Nat), .int .i64 (gvR (plst L o mm i) (L.tm (o i)) (L.af (o i)) (L.on (o i)) mm).2.1, .int .i64 (gvR (plst L o mm i) (L.tm (o i)) (L.af (o i)) (L.on (o i)) mm).2.2] := by
      unfold scells slt; rw [eg]
    generalize plst L o mm i = rd at *
    generalize plst L o mm (i + 1) = rd' at *
    generalize (gvR rd (L.tm (o i)) (L.af (o i)) (L.on (o i)) mm).2.1 = f at *
    generalize (gvR rd (L.tm (o i)) (L.af (o i)) (L.on (o i)) mm).2.2 = t at *
    generalize [[jT (L.tm (o i)) (L.du (o i)) (L.af (o i)) (L.on (o i)), .int .i64 (o i : Nat), iv mm (fun j => rd (0 + j)) (some mm)]] = l1 at k1 m1
    have hx : ∀ x' : Nat → List T, (x' = fun j => bif ((0 : Nat) + i).ble j && j.blt ((0 : Nat) + i + (1 : Nat)) then [[T.int IntKind.i64 (Int.ofNat (o i)), T.int IntKind.i64 (Int.ofNat g), T.int IntKind.i64 f, T.int IntKind.i64 t]].getD ((0 : Nat) + (j - ((0 : Nat) + i))) [] else xs26 L o mm i j) → ∀ j, x' j = xs26 L o mm (i + 1) j := fun x' hx j => by
      rw [hx]
      unfold xs26
      simp only
      by_cases q : j < i
      · rw [bltT q, bltT (show j < i + 1 by omega), show (Nat.ble (0 + i) j) = false from bleF (show j < 0 + i by omega)]
        rfl
      · by_cases q2 : j = i
        · rw [q2, bltT (show i < i + 1 by omega), bltT (show i < 0 + i + 1 by omega), show (Nat.ble (0 + i) i) = true from bleT (by omega), hs, show 0 + (i - (0 + i)) = 0 by omega]
          rfl
        · rw [bltF (show i ≤ j by omega), bltF (show i + 1 ≤ j by omega), bltF (show 0 + i + 1 ≤ j by omega), Bool.and_false]
          rfl
    generalize xs26 L o mm i = x at *
    generalize xs26 L o mm (i + 1) = x' at *
    refine Step.mk (A := A41) (m := 0) (K := K26 (.agg [.int .i64 (o i : Nat), .int .i64 (g : Nat), .int .i64 f, .int .i64 t]) l1) (l := []) (told_add none_ok (callS_told k1)) rfl rfl loops0 2 (by simp)
      (Eq.trans (show iterR P41 G41 A41 (K26 (.agg [.int .i64 (o i : Nat), .int .i64 (g : Nat), .int .i64 f, .int .i64 t]) l1) 0 26 [] 4 (v26 L c 0 i o mm) [rblk mm rd, sblk 0 L.n x] =
(    bif decide (Int.ofNat i < Int.ofNat L.n) then
    bif decide ((0 : Int) ≤ Int.ofNat i) && decide (Int.ofNat i < Int.ofNat L.n) then
    bif decide ((0 : Int) ≤ Int.ofNat (o i)) && decide (Int.ofNat (o i) < Int.ofNat L.n) then
    bif sameArgsF
      [T.agg
          [T.int IntKind.i64 (L.tm (o i)), T.int IntKind.i64 (L.du (o i)), T.int IntKind.i64 (L.af (o i)),
            T.int IntKind.u32 (L.on (o i))],
        T.int IntKind.i64 (Int.ofNat (o i)),
        bif ((0 : Nat) + mm).ble mm then T.view (1 : Nat) mm (fun j => [T.int IntKind.i64 (rd ((0 : Nat) + j))]) (some mm)
        else T.undef]
      l1 then
    bif decide ((0 : Int) ≤ Int.ofNat g) && decide (Int.ofNat g < Int.ofNat mm) then
    bif ((0 : Nat) + g).blt mm && [T.int IntKind.i64 t].length == (1 : Nat) && true && true then
    bif ((0 : Nat) + i).ble L.n then
    bif ((i + (1 : Nat)) * (33 : Nat)).ble (70368744177664 : Nat) then
    bif (i + (1 : Nat)).ble L.n then
    bif ((0 : Nat) + i + (1 : Nat)).ble L.n then
    some ((Ex.normal,
      [T.view (4 : Nat) L.n
          (fun j =>
            [T.int IntKind.i64 (L.tm j), T.int IntKind.i64 (L.du j), T.int IntKind.i64 (L.af j),
              T.int IntKind.u32 (L.on j)])
          c,
        T.own (1 : Nat) (0 : Nat) (0 : Nat) (i + (1 : Nat)) (some L.n), T.own (0 : Nat) (0 : Nat) (0 : Nat) mm (some mm),
        T.view (1 : Nat) L.n (fun j => [T.int IntKind.i64 (Int.ofNat (o j))]) (some L.n), T.int IntKind.i64 (Int.ofNat L.n),
        T.int IntKind.i64 (IntKind.i64.wrap (Int.ofNat i + (1 : Int)))],
      [Blk.mk (0 : Nat) (1 : Nat) mm (fun e => [T.int IntKind.i64 (bif e == (0 : Nat) + g then t else rd e)]) true false,
        Blk.mk (0 : Nat) (4 : Nat) L.n
          (fun j =>
            bif ((0 : Nat) + i).ble j && j.blt ((0 : Nat) + i + (1 : Nat)) then
              [[T.int IntKind.i64 (Int.ofNat (o i)), T.int IntKind.i64 (Int.ofNat g), T.int IntKind.i64 f,
                      T.int IntKind.i64 t]].getD
                ((0 : Nat) + (j - ((0 : Nat) + i))) []
            else x j)
          true false,
        Blk.mk (0 : Nat) (4 : Nat) (1 : Nat)
          (fun j =>
            [[T.int IntKind.i64 (Int.ofNat (o i)), T.int IntKind.i64 (Int.ofNat g), T.int IntKind.i64 f,
                    T.int IntKind.i64 t]].getD
              j [])
          true true]))
    else
    none
    else
    some ((Ex.normal,
      [T.view (4 : Nat) L.n
          (fun j =>
            [T.int IntKind.i64 (L.tm j), T.int IntKind.i64 (L.du j), T.int IntKind.i64 (L.af j),
              T.int IntKind.u32 (L.on j)])
          c,
        T.own
          [Blk.mk (0 : Nat) (1 : Nat) mm (fun e => [T.int IntKind.i64 (bif e == (0 : Nat) + g then t else rd e)]) true
                false,
              Blk.mk (0 : Nat) (4 : Nat) L.n x true false,
              Blk.mk (0 : Nat) (4 : Nat) (1 : Nat)
                (fun j =>
                  [[T.int IntKind.i64 (Int.ofNat (o i)), T.int IntKind.i64 (Int.ofNat g), T.int IntKind.i64 f,
                          T.int IntKind.i64 t]].getD
                    j [])
                true true].length
          (0 : Nat) (0 : Nat) (i + (1 : Nat)) none,
        T.own (0 : Nat) (0 : Nat) (0 : Nat) mm (some mm),
        T.view (1 : Nat) L.n (fun j => [T.int IntKind.i64 (Int.ofNat (o j))]) (some L.n), T.int IntKind.i64 (Int.ofNat L.n),
        T.int IntKind.i64 (IntKind.i64.wrap (Int.ofNat i + (1 : Int)))],
      [Blk.mk (0 : Nat) (1 : Nat) mm (fun e => [T.int IntKind.i64 (bif e == (0 : Nat) + g then t else rd e)]) true false,
        Blk.mk (0 : Nat) (4 : Nat) L.n x true false,
        Blk.mk (0 : Nat) (4 : Nat) (1 : Nat)
          (fun j =>
            [[T.int IntKind.i64 (Int.ofNat (o i)), T.int IntKind.i64 (Int.ofNat g), T.int IntKind.i64 f,
                    T.int IntKind.i64 t]].getD
              j [])
          true true,
        Blk.mk (0 : Nat) (4 : Nat) (i + (1 : Nat))
          (fun j =>
            bif j.blt i then x ((0 : Nat) + j)
            else
              [[T.int IntKind.i64 (Int.ofNat (o i)), T.int IntKind.i64 (Int.ofNat g), T.int IntKind.i64 f,
                      T.int IntKind.i64 t]].getD
                ((0 : Nat) + (j - i)) [])
          true false]))
    else
    none
    else
    none
    else
    none
    else
    none
    else
    none
    else
    none
    else
    none
    else
    some ((Ex.exit (0 : Nat),
      [T.own (1 : Nat) (0 : Nat) (0 : Nat) i (some L.n), T.own (0 : Nat) (0 : Nat) (0 : Nat) mm (some mm)],
      [Blk.mk (0 : Nat) (1 : Nat) mm (fun j => [T.int IntKind.i64 (rd j)]) true false,
        Blk.mk (0 : Nat) (4 : Nat) L.n x true false]))) from by kernel_rfl) ?_) (h1 := [⟨0, 1, mm, fun e => [.int .i64 (bif e == 0 + g then t else rd e)], true, false⟩, sblk 0 L.n (fun j => bif ((0 : Nat) + i).ble j && j.blt ((0 : Nat) + i + (1 : Nat)) then [[T.int IntKind.i64 (Int.ofNat (o i)), T.int IntKind.i64 (Int.ofNat g), T.int IntKind.i64 f, T.int IntKind.i64 t]].getD ((0 : Nat) + (j - ((0 : Nat) + i))) [] else x j), ⟨0, 4, 1, fun j => [[T.int IntKind.i64 (Int.ofNat (o i)), T.int IntKind.i64 (Int.ofNat g), T.int IntKind.i64 f, T.int IntKind.i64 t]].getD j [], true, true⟩]) rfl ?_
    · rw [show (Nat.ble (0 + mm) mm) = true from bleT (by omega)]
      (repeat (first | (refine bift (by first | assumption | omega | (simp (disch := omega) only [wr64, wr8, wr16, wr32, ofNatE, toNatE, toNatE1, Bool.and_eq_true, Bool.or_eq_true, Bool.not_eq_true', decide_eq_true_eq, decide_eq_false_iff_not, nble, nblt, nbeq, Nat.zero_add, Nat.add_zero, Int.zero_add, Int.add_zero, List.length_cons, List.length_nil, true_and, and_true, Nat.reduceAdd, and_self, beq_self_eq_true]; done) | (simp (disch := omega) only [wr64, wr8, wr16, wr32, ofNatE, toNatE, toNatE1, Bool.and_eq_true, Bool.or_eq_true, Bool.not_eq_true', decide_eq_true_eq, decide_eq_false_iff_not, nble, nblt, nbeq, Nat.zero_add, Nat.add_zero, Int.zero_add, Int.add_zero, List.length_cons, List.length_nil, true_and, and_true, Nat.reduceAdd, and_self, beq_self_eq_true]; omega)) ?_) | (refine biff (by first | assumption | (simp (disch := omega) only [wr64, wr8, wr16, wr32, ofNatE, toNatE, toNatE1, Bool.and_eq_true, Bool.or_eq_true, Bool.not_eq_true', decide_eq_true_eq, decide_eq_false_iff_not, nble, nblt, nbeq, Nat.zero_add, Nat.add_zero, Int.zero_add, Int.add_zero, List.length_cons, List.length_nil, true_and, and_true, Nat.reduceAdd, and_self, beq_self_eq_true]; done) | (simp (disch := omega) only [wr64, wr8, wr16, wr32, ofNatE, toNatE, toNatE1, Bool.and_eq_true, Bool.or_eq_true, Bool.not_eq_true', decide_eq_true_eq, decide_eq_false_iff_not, nble, nblt, nbeq, Nat.zero_add, Nat.add_zero, Int.zero_add, Int.add_zero, List.length_cons, List.length_nil, true_and, and_true, Nat.reduceAdd, and_self, beq_self_eq_true]; omega)) ?_)))
      refine bift (sameArgsF_iff.2 m1) ?_
      (repeat (first | (refine bift (by first | assumption | omega | (simp (disch := omega) only [wr64, wr8, wr16, wr32, ofNatE, toNatE, toNatE1, Bool.and_eq_true, Bool.or_eq_true, Bool.not_eq_true', decide_eq_true_eq, decide_eq_false_iff_not, nble, nblt, nbeq, Nat.zero_add, Nat.add_zero, Int.zero_add, Int.add_zero, List.length_cons, List.length_nil, true_and, and_true, Nat.reduceAdd, and_self, beq_self_eq_true]; done) | (simp (disch := omega) only [wr64, wr8, wr16, wr32, ofNatE, toNatE, toNatE1, Bool.and_eq_true, Bool.or_eq_true, Bool.not_eq_true', decide_eq_true_eq, decide_eq_false_iff_not, nble, nblt, nbeq, Nat.zero_add, Nat.add_zero, Int.zero_add, Int.add_zero, List.length_cons, List.length_nil, true_and, and_true, Nat.reduceAdd, and_self, beq_self_eq_true]; omega)) ?_) | (refine biff (by first | assumption | (simp (disch := omega) only [wr64, wr8, wr16, wr32, ofNatE, toNatE, toNatE1, Bool.and_eq_true, Bool.or_eq_true, Bool.not_eq_true', decide_eq_true_eq, decide_eq_false_iff_not, nble, nblt, nbeq, Nat.zero_add, Nat.add_zero, Int.zero_add, Int.add_zero, List.length_cons, List.length_nil, true_and, and_true, Nat.reduceAdd, and_self, beq_self_eq_true]; done) | (simp (disch := omega) only [wr64, wr8, wr16, wr32, ofNatE, toNatE, toNatE1, Bool.and_eq_true, Bool.or_eq_true, Bool.not_eq_true', decide_eq_true_eq, decide_eq_false_iff_not, nble, nblt, nbeq, Nat.zero_add, Nat.add_zero, Int.zero_add, Int.add_zero, List.length_cons, List.length_nil, true_and, and_true, Nat.reduceAdd, and_self, beq_self_eq_true]; omega)) ?_)))
      first | rfl | (simp (disch := omega) only [wr64, wr8, wr16, wr32, ofNatE]; done) | (simp (disch := omega) only [wr64, wr8, wr16, wr32, ofNatE]; rfl)
    · refine .cons ⟨rfl, rfl, rfl, id, fun j hj => ?_⟩ (.cons ⟨rfl, rfl, rfl, id, fun j hj => (hx _ rfl j).symm⟩ .nil)
      have := hrd' j
      show [T.int .i64 (rd' j)] = _
      rw [this]
      by_cases q : j = g
      · subst q
        show _ = [T.int .i64 (cond (j == 0 + j) _ _)]
        rw [if_pos rfl, show (j == 0 + j) = true by simp]; rfl
      · show _ = [T.int .i64 (cond (j == 0 + g) _ _)]
        rw [if_neg q, show (j == 0 + g) = false by simp; omega]; rfl
  · generalize plst L o mm L.n = rd
    generalize xs26 L o mm L.n = x
    refine Last.mk0 (A := A41) (m := 0) none_ok rfl rfl loops0 (by simp) (Eq.trans (show iterR P41 G41 A41 noneO 0 26 [] 4 (v26 L c 0 L.n o mm) [rblk mm rd, sblk 0 L.n x] =
(    bif decide (Int.ofNat L.n < Int.ofNat L.n) then
    bif decide ((0 : Int) ≤ Int.ofNat L.n) && decide (Int.ofNat L.n < Int.ofNat L.n) then
    bif decide ((0 : Int) ≤ Int.ofNat (o L.n)) && decide (Int.ofNat (o L.n) < Int.ofNat L.n) then
    none
    else
    none
    else
    none
    else
    some ((Ex.exit (0 : Nat),
      [T.own (1 : Nat) (0 : Nat) (0 : Nat) L.n (some L.n), T.own (0 : Nat) (0 : Nat) (0 : Nat) mm (some mm)],
      [Blk.mk (0 : Nat) (1 : Nat) mm (fun j => [T.int IntKind.i64 (rd j)]) true false,
        Blk.mk (0 : Nat) (4 : Nat) L.n x true false]))) from by kernel_rfl) ?_) (.refl _)
    (repeat (first | (refine bift (by first | assumption | omega | (simp (disch := omega) only [wr64, wr8, wr16, wr32, ofNatE, toNatE, toNatE1, Bool.and_eq_true, Bool.or_eq_true, Bool.not_eq_true', decide_eq_true_eq, decide_eq_false_iff_not, nble, nblt, nbeq, Nat.zero_add, Nat.add_zero, Int.zero_add, Int.add_zero, List.length_cons, List.length_nil, true_and, and_true, Nat.reduceAdd, and_self]; done) | (simp (disch := omega) only [wr64, wr8, wr16, wr32, ofNatE, toNatE, toNatE1, Bool.and_eq_true, Bool.or_eq_true, Bool.not_eq_true', decide_eq_true_eq, decide_eq_false_iff_not, nble, nblt, nbeq, Nat.zero_add, Nat.add_zero, Int.zero_add, Int.add_zero, List.length_cons, List.length_nil, true_and, and_true, Nat.reduceAdd, and_self]; omega)) ?_) | (refine biff (by first | assumption | (simp (disch := omega) only [wr64, wr8, wr16, wr32, ofNatE, toNatE, toNatE1, Bool.and_eq_true, Bool.or_eq_true, Bool.not_eq_true', decide_eq_true_eq, decide_eq_false_iff_not, nble, nblt, nbeq, Nat.zero_add, Nat.add_zero, Int.zero_add, Int.add_zero, List.length_cons, List.length_nil, true_and, and_true, Nat.reduceAdd, and_self]; done) | (simp (disch := omega) only [wr64, wr8, wr16, wr32, ofNatE, toNatE, toNatE1, Bool.and_eq_true, Bool.or_eq_true, Bool.not_eq_true', decide_eq_true_eq, decide_eq_false_iff_not, nble, nblt, nbeq, Nat.zero_add, Nat.add_zero, Int.zero_add, Int.add_zero, List.length_cons, List.length_nil, true_and, and_true, Nat.reduceAdd, and_self]; omega)) ?_)))
    first | rfl | (simp (disch := omega) only [wr64, wr8, wr16, wr32, ofNatE, Nat.zero_add, bleT, bltT, dT, dF, Bool.true_and, Bool.and_true, Bool.and_self, cond_true, cond_false, Nat.sub_zero, beq_self_eq_true]; done) | (simp (disch := omega) only [wr64, wr8, wr16, wr32, ofNatE, Nat.zero_add, bleT, bltT, dT, dF, Bool.true_and, Bool.and_true, Bool.and_self, cond_true, cond_false, Nat.sub_zero, beq_self_eq_true]; rfl)
end Go.Ab

namespace Go.Ab
open Go.Proofs
/-- The order by due time, as numbers. -/
def oN (L : JL) : Nat → Nat := fun j => (ordL L.du L.n).getD j 0
theorem oN_lt {L : JL} {j : Nat} (hj : j < L.n) : oN L j < L.n := ord_lt hj
def svT (L : JL) (mm : Nat) : T := .view 4 L.n (scells L (oN L) mm) (some L.n)
def rvT (L : JL) (mm : Nat) : T := iv mm (plst L (oN L) mm L.n) (some mm)
noncomputable def K26b (r : T) (l : List (List T)) : Orc := noneO.add 20 (callS l r)
noncomputable def K16 (l1 l2 : List (List T)) (r2 : T) : Orc := (noneO.add 25 (callS l1 (.int .i64 0))).add 26 (callS l2 r2)
theorem planT (L : JL) (c : Option Nat) (mm : Nat) (hL : L.Ok) (hm : 1 ≤ mm ∧ mm ≤ 16) (hab : ∀ i, i < L.n → 0 < (abL (L.on i) mm).length) : ToldOk P41 G41 26 [jv L c, .int .i64 mm] (.tup [.new (svT L mm), .new (rvT L mm)]) := by
  have hn := hL.n
  have hl := l26 L c (oN L) mm hL hm (fun j hj => oN_lt hj) hab
  have hxs : ∀ j, j < L.n → xs26 L (oN L) mm L.n j = scells L (oN L) mm j := fun j hj => by unfold xs26; rw [bltT hj]; rfl
  have hx0 : xs26 L (oN L) mm 0 = fun _ => [.int .i64 0, .int .i64 0, .int .i64 0, .int .i64 0] := by
    funext j; unfold xs26; rw [bltF (Nat.zero_le _)]; rfl
  unfold svT rvT
  generalize plst L (oN L) mm L.n = rd at *
  generalize hy : scells L (oN L) mm = y at *
  generalize xs26 L (oN L) mm L.n = x at *
  rw [hx0] at hl
  have k1 : ∀ z ∈ [[jv L c]], ToldOk P41 G41 20 z (.new (iv L.n (ordI L) (some L.n))) := fun z h => by obtain rfl := List.mem_singleton.1 h; exact byDueT L c hL
  have m1 := List.mem_singleton.2 (rfl : [jv L c] = _)
  generalize [[jv L c]] = l1 at k1 m1
  have := (stepL_told (args := [jv L c, .int .i64 mm]) (r := .tup [.fresh true 4 L.n (fun j => x (0 + j)) L.n (some L.n), .fresh true 1 mm (fun j => [.int .i64 (rd (0 + j))]) mm (some mm)]) hm41 hn41 (K := K26b (.new (iv L.n (ordI L) (some L.n))) l1) (told_add none_ok (callS_told k1)) (A := A41) (m := 0) (by kernel_rfl) (loops1 hl) ?_).frz
  · refine this.tupTo (.cons (.new (.view (.inl rfl) fun j hj => ?_)) (.cons (.new (.view (.inl rfl) fun j hj => ?_)) .nil))
    · rw [Nat.zero_add, hxs j hj]; exact .refl _
    · rw [Nat.zero_add]; exact .refl _
  · refine Eq.trans (show stepL P41 G41 A41 (K26b (.new (iv L.n (ordI L) (some L.n))) l1) 0 26 [(4, litS (v26 L c 0 0 (oN L) mm) [rblk mm (fun _ => 0), sblk 0 L.n (fun _ => [.int .i64 0, .int .i64 0, .int .i64 0, .int .i64 0])] (.exit 0) [.own 1 0 0 L.n (some L.n), .own 0 0 0 mm (some mm)] [rblk mm rd, sblk 0 L.n x])] [jv L c, .int .i64 mm] =
(    bif decide ((0 : Int) ≤ Int.ofNat mm) && decide (Int.ofNat mm ≤ Int.ofNat mm) &&
        decide (Int.ofNat mm * (8 : Int) ≤ (140737488355328 : Int)) &&
      decide (Int.ofNat mm ≤ (9223372036854775807 : Int)) then
    bif decide ((0 : Int) ≤ Int.ofNat L.n) && decide (Int.ofNat L.n * (32 : Int) ≤ (140737488355328 : Int)) &&
      decide (Int.ofNat L.n ≤ (9223372036854775807 : Int)) then
    bif sameArgsF
      [T.view (4 : Nat) L.n
          (fun j =>
            [T.int IntKind.i64 (L.tm j), T.int IntKind.i64 (L.du j), T.int IntKind.i64 (L.af j),
              T.int IntKind.u32 (L.on j)])
          c]
      l1 then
    bif weakF
      [T.view (4 : Nat) L.n
          (fun j =>
            [T.int IntKind.i64 (L.tm j), T.int IntKind.i64 (L.du j), T.int IntKind.i64 (L.af j),
              T.int IntKind.u32 (L.on j)])
          c,
        T.own [Blk.mk (0 : Nat) (1 : Nat) mm (fun x => [T.int IntKind.i64 (0 : Int)]) true false].length (0 : Nat) (0 : Nat)
          (0 : Nat) (some L.n),
        T.own (0 : Nat) (0 : Nat) (0 : Nat) mm (some mm),
        T.view (1 : Nat) L.n
          (fun j =>
            [T.int IntKind.i64
                (Int.ofNat (((List.range L.n).mergeSort fun x y => !decide (dueLt L.du y x)).getD j (0 : Nat)))])
          (some L.n),
        T.int IntKind.i64 (Int.ofNat L.n), T.int IntKind.i64 (0 : Int)]
      [Blk.mk (0 : Nat) (1 : Nat) mm (fun x => [T.int IntKind.i64 (0 : Int)]) true false,
        Blk.mk (0 : Nat) (4 : Nat) L.n
          (fun x =>
            [T.int IntKind.i64 (0 : Int), T.int IntKind.i64 (0 : Int), T.int IntKind.i64 (0 : Int),
              T.int IntKind.i64 (0 : Int)])
          true false]
      [T.view (4 : Nat) L.n
          (fun j =>
            [T.int IntKind.i64 (L.tm j), T.int IntKind.i64 (L.du j), T.int IntKind.i64 (L.af j),
              T.int IntKind.u32 (L.on j)])
          c,
        T.own (1 : Nat) (0 : Nat) (0 : Nat) (0 : Nat) (some L.n), T.own (0 : Nat) (0 : Nat) (0 : Nat) mm (some mm),
        T.view (1 : Nat) L.n
          (fun j =>
            [T.int IntKind.i64
                (Int.ofNat (((List.range L.n).mergeSort fun x y => !decide (dueLt L.du y x)).getD j (0 : Nat)))])
          (some L.n),
        T.int IntKind.i64 (Int.ofNat L.n), T.int IntKind.i64 (0 : Int)]
      [Blk.mk (0 : Nat) (1 : Nat) mm (fun j => [T.int IntKind.i64 (0 : Int)]) true false,
        Blk.mk (0 : Nat) (4 : Nat) L.n
          (fun x =>
            [T.int IntKind.i64 (0 : Int), T.int IntKind.i64 (0 : Int), T.int IntKind.i64 (0 : Int),
              T.int IntKind.i64 (0 : Int)])
          true false] then
    some (T.tup
      [bif ((0 : Nat) + L.n).ble L.n then
          T.fresh true (4 : Nat) (L.n - (0 : Nat)) (fun j => x ((0 : Nat) + j)) L.n (some L.n)
        else T.undef,
        bif ((0 : Nat) + mm).ble mm then
          T.fresh true (1 : Nat) (mm - (0 : Nat)) (fun j => [T.int IntKind.i64 (rd ((0 : Nat) + j))]) mm (some mm)
        else T.undef])
    else
    none
    else
    none
    else
    none
    else
    none) from by kernel_rfl) ?_
    (repeat (first | (refine bift (by first | assumption | omega | (simp (disch := omega) only [wr64, wr8, wr16, wr32, ofNatE, toNatE, toNatE1, Bool.and_eq_true, Bool.or_eq_true, Bool.not_eq_true', decide_eq_true_eq, decide_eq_false_iff_not, nble, nblt, nbeq, Nat.zero_add, Nat.add_zero, Int.zero_add, Int.add_zero, List.length_cons, List.length_nil, true_and, and_true, Nat.reduceAdd, and_self]; done) | (simp (disch := omega) only [wr64, wr8, wr16, wr32, ofNatE, toNatE, toNatE1, Bool.and_eq_true, Bool.or_eq_true, Bool.not_eq_true', decide_eq_true_eq, decide_eq_false_iff_not, nble, nblt, nbeq, Nat.zero_add, Nat.add_zero, Int.zero_add, Int.add_zero, List.length_cons, List.length_nil, true_and, and_true, Nat.reduceAdd, and_self]; omega)) ?_) | (refine biff (by first | assumption | (simp (disch := omega) only [wr64, wr8, wr16, wr32, ofNatE, toNatE, toNatE1, Bool.and_eq_true, Bool.or_eq_true, Bool.not_eq_true', decide_eq_true_eq, decide_eq_false_iff_not, nble, nblt, nbeq, Nat.zero_add, Nat.add_zero, Int.zero_add, Int.add_zero, List.length_cons, List.length_nil, true_and, and_true, Nat.reduceAdd, and_self]; done) | (simp (disch := omega) only [wr64, wr8, wr16, wr32, ofNatE, toNatE, toNatE1, Bool.and_eq_true, Bool.or_eq_true, Bool.not_eq_true', decide_eq_true_eq, decide_eq_false_iff_not, nble, nblt, nbeq, Nat.zero_add, Nat.add_zero, Int.zero_add, Int.add_zero, List.length_cons, List.length_nil, true_and, and_true, Nat.reduceAdd, and_self]; omega)) ?_)))
    refine bift (sameArgsF_iff.2 m1) ?_
    refine bift (weakF_of ⟨rfl, .refl _⟩) ?_
    rw [show (Nat.ble (0 + L.n) L.n) = true from bleT (by omega), show (Nat.ble (0 + mm) mm) = true from bleT (by omega)]
    first | rfl | (simp (disch := omega) only [wr64, wr8, wr16, wr32, ofNatE]; done) | (simp (disch := omega) only [wr64, wr8, wr16, wr32, ofNatE]; rfl)
theorem PlanT (L : JL) (c : Option Nat) (mm : Nat) (hL : L.Ok) (hm : 1 ≤ mm ∧ mm ≤ 16) (hab : ∀ i, i < L.n → 0 < (abL (L.on i) mm).length) : ToldOk P41 G41 16 [jv L c, .int .i64 mm] (.tup [svT L mm, .int .i64 0]) := by
  have hn := hL.n
  have k1 : ∀ z ∈ [[jv L c, .int .i64 mm]], ToldOk P41 G41 25 z (.int .i64 0) := fun z h => by obtain rfl := List.mem_singleton.1 h; exact chkT L c mm hL hm hab
  have k2 : ∀ z ∈ [[jv L c, .int .i64 mm]], ToldOk P41 G41 26 z (.tup [.new (svT L mm), .new (rvT L mm)]) := fun z h => by obtain rfl := List.mem_singleton.1 h; exact planT L c mm hL hm hab
  have m1 := List.mem_singleton.2 (rfl : [jv L c, .int .i64 mm] = _)
  generalize [[jv L c, .int .i64 mm]] = l1 at k1 k2 m1
  unfold svT rvT iv at *
  generalize plst L (oN L) mm L.n = rd at *
  generalize scells L (oN L) mm = y at *
  refine stepL_told hm41 hn41 (K := K16 l1 l1 (.tup [.new (.view 4 L.n y (some L.n)), .new (.view 1 mm (fun j => [.int .i64 (rd j)]) (some mm))])) (told_add (told_add none_ok (callS_told k1)) (callS_told k2)) (A := A41) (m := 0) (by kernel_rfl) loops0 ?_
  refine Eq.trans (show stepL P41 G41 A41 (K16 l1 l1 (.tup [.new (.view 4 L.n y (some L.n)), .new (.view 1 mm (fun j => [.int .i64 (rd j)]) (some mm))])) 0 16 [] [jv L c, .int .i64 mm] =
(    bif sameArgsF
      [T.view (4 : Nat) L.n
          (fun j =>
            [T.int IntKind.i64 (L.tm j), T.int IntKind.i64 (L.du j), T.int IntKind.i64 (L.af j),
              T.int IntKind.u32 (L.on j)])
          c,
        T.int IntKind.i64 (Int.ofNat mm)]
      l1 then
    bif sameArgsF
      [T.view (4 : Nat) L.n
          (fun j =>
            [T.int IntKind.i64 (L.tm j), T.int IntKind.i64 (L.du j), T.int IntKind.i64 (L.af j),
              T.int IntKind.u32 (L.on j)])
          c,
        T.int IntKind.i64 (Int.ofNat mm)]
      l1 then
    some (T.tup [T.view (4 : Nat) L.n y (some L.n), T.int IntKind.i64 (0 : Int)])
    else
    none
    else
    none) from by kernel_rfl) ?_
  refine bift (sameArgsF_iff.2 m1) ?_
  refine bift (sameArgsF_iff.2 m1) ?_
  rfl
end Go.Ab

