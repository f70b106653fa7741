/- A part of the proof: nothing is assumed. -/
import Derived.Test.YtjjnbjkbgjgpoaaP7
import Derived.Test.YtjjnbjkbgjgpoaaP8
set_option linter.all false
namespace Go.Ab
open Go.Proofs
/-- What the first k parts have together. -/
def sumS (p t : Int) (k : Nat) : Int := (k : Int) * t / p
def spH (p t : Int) (i : Nat) : Heap := [⟨0, 1, p.toNat, fun j => [.int .i64 (if j < i then sumS p t (j + 1) - sumS p t j else 0)], true, false⟩, ⟨0, 1, 1, fun _ => [.own 0 0 0 i (some p.toNat)], false, false⟩, ⟨0, 1, 1, fun _ => [.int .i64 (sumS p t i)], true, false⟩]
noncomputable def g15F (p t : Int) (h : Heap) : Bool := decide (1 ≤ p) && (decide (p ≤ 400) && (decide (0 ≤ t) && (decide (t ≤ 80000) && sameF h (spH p t 0))))
noncomputable def spec15 (vs : List T) (h : Heap) : LT := match vs with
  | [.ptr 1 0 0 0, .ptr 2 0 0 0, .fn 26 [.vp [.int .i64 p], .vp [.int .i64 t]]] => .ite (g15F p t h) (.ret .normal [.ptr 1 0 0 0] (spH p t p.toNat)) .none
  | _ => .none
theorem sumS_mono (p t : Int) (hp : 1 ≤ p) (ht : 0 ≤ t) (k : Nat) : 0 ≤ sumS p t k ∧ sumS p t k ≤ sumS p t (k + 1) := by
  unfold sumS
  have h1 : 0 ≤ (k : Int) * t := Int.mul_nonneg (by omega) ht
  have h2 : (k : Int) * t ≤ ((k + 1 : Nat) : Int) * t := Int.mul_le_mul_of_nonneg_right (by omega) ht
  exact ⟨Int.ediv_nonneg h1 (by omega), Int.ediv_le_ediv (by omega) h2⟩
theorem sumS_le (p t : Int) (hp : 1 ≤ p) (ht : 0 ≤ t) (k : Nat) (hk : (k : Int) ≤ p) : sumS p t k ≤ t := by
  unfold sumS
  have h2 : (k : Int) * t ≤ p * t := Int.mul_le_mul_of_nonneg_right (by omega) ht
  have := Int.ediv_le_ediv (c := p) (by omega) h2
  rwa [Int.mul_ediv_cancel_left _ (by omega)] at this
theorem rg15 (x b : Int) (n c : Nat) (f0 : Nat → List T) (cs : List T) (hn : n + 1 ≤ c) (hb : n ≤ 400) : ∃ f1 f2 f3 f4,
    rangeR P37 G37 A37 noneO 0 15 [] 6 [.ptr 1 0 0 0, .ptr 2 0 0 0, .fn 26 cs] [.int .i64 x] [⟨0, 1, c, f0, true, false⟩, ⟨0, 1, 1, fun _ => [.own 0 0 0 n (some c)], false, false⟩, ⟨0, 1, 1, fun _ => [.int .i64 b], true, false⟩] =
    some (.normal, [⟨0, 1, c, f1, true, false⟩, ⟨0, 1, 1, f2, false, false⟩, ⟨0, 1, 1, f3, true, false⟩, ⟨0, 1, 1, f4, true, true⟩]) ∧
    (∀ j, f1 j = if j = n then [.int .i64 (IntKind.i64.wrap (x - b))] else f0 j) ∧ f2 0 = [.own 0 0 0 (n + 1) (some c)] ∧ f3 0 = [.int .i64 x] := by
  rw [(show rangeR P37 G37 A37 noneO 0 15 [] 6 [.ptr 1 0 0 0, .ptr 2 0 0 0, .fn 26 cs] [.int .i64 x] [⟨0, 1, c, f0, true, false⟩, ⟨0, 1, 1, fun _ => [.own 0 0 0 n (some c)], false, false⟩, ⟨0, 1, 1, fun _ => [.int .i64 b], true, false⟩] =
(    bif true && ((0 : Nat) + n).ble c then
    bif ((n + (1 : Nat)) * (9 : Nat)).ble (70368744177664 : Nat) then
    bif (n + (1 : Nat)).ble c then
    bif ((0 : Nat) + n + (1 : Nat)).ble c then
    some ((Ex.normal,
      [Blk.mk (0 : Nat) (1 : Nat) c
          (fun j =>
            bif ((0 : Nat) + n).ble j && j.blt ((0 : Nat) + n + (1 : Nat)) then
              [[T.int IntKind.i64 (IntKind.i64.wrap (x - b))]].getD ((0 : Nat) + (j - ((0 : Nat) + n))) []
            else f0 j)
          true false,
        Blk.mk (0 : Nat) (1 : Nat) (1 : Nat)
          (fun e =>
            bif e == (0 : Nat) then [T.own (0 : Nat) (0 : Nat) (0 : Nat) (n + (1 : Nat)) (some c)]
            else [T.own (0 : Nat) (0 : Nat) (0 : Nat) n (some c)])
          false false,
        Blk.mk (0 : Nat) (1 : Nat) (1 : Nat)
          (fun e => bif e == (0 : Nat) then [T.int IntKind.i64 x] else [T.int IntKind.i64 b]) true false,
        Blk.mk (0 : Nat) (1 : Nat) (1 : Nat) (fun j => [[T.int IntKind.i64 (IntKind.i64.wrap (x - b))]].getD j []) true
          true]))
    else
    none
    else
    some ((Ex.normal,
      [Blk.mk (0 : Nat) (1 : Nat) c f0 true false,
        Blk.mk (0 : Nat) (1 : Nat) (1 : Nat)
          (fun e =>
            bif e == (0 : Nat) then
              [T.own
                  [Blk.mk (0 : Nat) (1 : Nat) c f0 true false,
                      Blk.mk (0 : Nat) (1 : Nat) (1 : Nat) (fun x => [T.own (0 : Nat) (0 : Nat) (0 : Nat) n (some c)]) false
                        false,
                      Blk.mk (0 : Nat) (1 : Nat) (1 : Nat) (fun x => [T.int IntKind.i64 b]) true false,
                      Blk.mk (0 : Nat) (1 : Nat) (1 : Nat)
                        (fun j => [[T.int IntKind.i64 (IntKind.i64.wrap (x - b))]].getD j []) true true].length
                  (0 : Nat) (0 : Nat) (n + (1 : Nat)) none]
            else [T.own (0 : Nat) (0 : Nat) (0 : Nat) n (some c)])
          false false,
        Blk.mk (0 : Nat) (1 : Nat) (1 : Nat)
          (fun e => bif e == (0 : Nat) then [T.int IntKind.i64 x] else [T.int IntKind.i64 b]) true false,
        Blk.mk (0 : Nat) (1 : Nat) (1 : Nat) (fun j => [[T.int IntKind.i64 (IntKind.i64.wrap (x - b))]].getD j []) true
          true,
        Blk.mk (0 : Nat) (1 : Nat) (n + (1 : Nat))
          (fun j =>
            bif j.blt n then f0 ((0 : Nat) + j)
            else [[T.int IntKind.i64 (IntKind.i64.wrap (x - b))]].getD ((0 : Nat) + (j - n)) [])
          true false]))
    else
    none
    else
    none) from by kernel_rfl)]
  rw [bleT (show 0 + n ≤ c by omega), bleT (show (n + 1) * 9 ≤ 70368744177664 by omega), bleT hn, bleT (show 0 + n + 1 ≤ c by omega)]
  refine ⟨_, _, _, _, rfl, fun j => ?_, rfl, rfl⟩
  by_cases hj : j = n
  · rw [if_pos hj, bleT (show 0 + n ≤ j by omega), bltT (show j < 0 + n + 1 by omega)]
    simp [hj]
  · rw [if_neg hj]
    by_cases h1 : n ≤ j
    · rw [bltF (show 0 + n + 1 ≤ j by omega)]
      simp
    · rw [bleF (show j < 0 + n by omega)]
      simp
theorem loop15 : LoopOk P37 G37 (A37 15) 15 6 spec15 := by
  intro fn hf hnt vs h e vs' h' hk
  unfold spec15 at hk
  split at hk
  · rename_i p t
    obtain ⟨hc, rfl, rfl, rfl⟩ := LT.ite_some hk
    simp only [g15F, Bool.and_eq_true, decide_eq_true_eq, sameF_iff] at hc
    obtain ⟨hp1, hp2, ht1, ht2, hs⟩ := hc
    refine CodeGoes.weak ?_ (WeakTo.same hs)
    refine range_told (t := 21) (np := 1) hm37 (by kernel_rfl) hf hnt rfl (gf := 26) (caps := [.vp [.int .i64 p], .vp [.int .i64 t]]) rfl (seq26 p t hp1 hp2 ht1 ht2) (by kernel_rfl) (fun _ _ => rfl) (spH p t) rfl (n := p.toNat) (by omega) (fun i hi => ?_) (.inl ⟨rfl, rfl, rfl⟩)
    obtain ⟨f1, f2, f3, f4, k1, k2, k3, k4⟩ := rg15 (((i : Int) + 1) * t / p) (sumS p t i) i p.toNat (fun j => [.int .i64 (if j < i then sumS p t (j + 1) - sumS p t j else 0)]) [.vp [.int .i64 p], .vp [.int .i64 t]] (by omega) (by omega)
    refine ⟨A37, noneO, 0, [], none_ok, rfl, rfl, fun q hq => (by cases hq), _, k1, ?_⟩
    refine (WeakTo.take (k := 3) (by simp [trimOk, low, low0, imm0, lowBlk, k3])).trans (WeakTo.same ?_)
    have hm := sumS_mono p t hp1 ht1 i
    have hl := sumS_le p t hp1 ht1 (i + 1) (by omega)
    refine .cons ⟨rfl, rfl, rfl, fun _ => rfl, fun j hj => ?_⟩ (.cons ⟨rfl, rfl, rfl, fun h => (by cases h), fun j hj => ?_⟩ (.cons ⟨rfl, rfl, rfl, fun _ => rfl, fun j hj => ?_⟩ .nil))
    · dsimp only
      rw [k2]
      by_cases hji : j = i
      · subst hji
        rw [if_pos rfl, if_pos (by omega)]
        have : ((j : Int) + 1) * t / p = sumS p t (j + 1) := by simp [sumS]
        rw [this, wr64 (by omega) (by omega)]
      · rw [if_neg hji]
        by_cases h1 : j < i
        · rw [if_pos h1, if_pos (by omega)]
        · rw [if_neg h1, if_neg (by omega)]
    · obtain rfl : j = 0 := by simp at hj; exact hj
      exact k3.symm
    · obtain rfl : j = 0 := by simp at hj; exact hj
      dsimp only
      rw [k4]
      simp [sumS]
  · cases hk
end Go.Ab

namespace Go.Ab
open Go.Proofs
theorem bif2 {R : Type} {a b : Bool} {x y : R} : (bif a then (bif b then x else y) else y) = bif a && b then x else y := by cases a <;> rfl
theorem Tree.ret_some {x r : T} (h : (Tree.ret x).run some = some r) : r = x := (Option.some.inj h).symm
theorem Tree.ite_some {c : Bool} {x y : Tree} {r : T} (h : (Tree.ite c x y).run some = some r) : (c = true ∧ x.run some = some r) ∨ (c = false ∧ y.run some = some r) := by
  simp only [Tree.run] at h
  exact bif_some h
def withinS : List T → Tree
  | [.int .i64 n, .int .i64 a, .int .i64 b] => .ret (.bool (decide (a ≤ n) && decide (n ≤ b)))
  | _ => .none
theorem withinT {args : List T} {r : T} (h : (withinS args).run some = some r) : ToldOk P37 G37 20 args r := by
  unfold withinS at h
  split at h
  · rename_i n a b
    obtain rfl := Tree.ret_some h
    refine stepV_told hm37 hn37 none_ok (K := noneO) (A := A37) (m := 0) ?_
    rw [(show stepV P37 G37 A37 noneO 0 20 [.int .i64 n, .int .i64 a, .int .i64 b] =
(    bif decide (a ≤ n) then
    bif decide (n ≤ b) then
    some (T.bool true)
    else
    some (T.bool false)
    else
    some (T.bool false)) from by kernel_rfl)]
    cases decide (a ≤ n) <;> cases decide (n ≤ b) <;> rfl
  · cases h
def roundF (a b : Int) : Int := (2 * a + b) / (2 * b)
def rokF (a b : Int) : Bool := decide (0 ≤ a) && (decide (a ≤ 1000000000000000) && (decide (1 ≤ b) && decide (b ≤ 1000000000000000)))
theorem rokF_iff {a b : Int} : rokF a b = true ↔ 0 ≤ a ∧ a ≤ 1000000000000000 ∧ 1 ≤ b ∧ b ≤ 1000000000000000 := by simp [rokF]
def roundedS : List T → Tree
  | [.int .i64 a, .int .i64 b] => .ite (rokF a b) (.ret (.int .i64 (roundF a b))) .none
  | _ => .none
theorem roundF_bd {a b : Int} (h1 : 0 ≤ a) (h3 : 1 ≤ b) : 0 ≤ roundF a b ∧ roundF a b ≤ 2 * a + b := by
  unfold roundF
  exact ⟨Int.ediv_nonneg (by omega) (by omega), Int.ediv_le_self _ (by omega)⟩
theorem roundedT {args : List T} {r : T} (h : (roundedS args).run some = some r) : ToldOk P37 G37 21 args r := by
  unfold roundedS at h
  split at h
  · rename_i a b
    rcases Tree.ite_some h with ⟨hc, h⟩ | ⟨_, h⟩
    · obtain rfl := Tree.ret_some h
      obtain ⟨h1, h2, h3, h4⟩ := rokF_iff.1 hc
      refine stepV_told hm37 hn37 none_ok (K := noneO) (A := A37) (m := 0) ?_
      rw [(show stepV P37 G37 A37 noneO 0 21 [.int .i64 a, .int .i64 b] =
(    bif decide (IntKind.i64.wrap ((2 : Int) * b) = (0 : Int)) then
    none
    else
    some (T.int IntKind.i64
      (IntKind.i64.wrap
        ((IntKind.i64.wrap (IntKind.i64.wrap ((2 : Int) * a) + b)).tdiv (IntKind.i64.wrap ((2 : Int) * b)))))) from by kernel_rfl)]
      have hb := roundF_bd h1 h3
      rw [wr64 (x := 2 * a) (by omega) (by omega), wr64 (x := 2 * a + b) (by omega) (by omega), wr64 (x := 2 * b) (by omega) (by omega), dF (by omega), cond_false, Int.tdiv_eq_ediv_of_nonneg (by omega)]
      change some (T.int .i64 (IntKind.i64.wrap (roundF a b))) = _
      rw [wr64 (by omega) (by omega)]
    · cases h
  · cases h
def sumsS : List T → Tree
  | [.int .i64 x, .int .i64 y] => .ret (.fn 26 [.vp [.int .i64 y], .vp [.int .i64 x]])
  | _ => .none
theorem sumsT {args : List T} {r : T} (h : (sumsS args).run some = some r) : ToldOk P37 G37 22 args r := by
  unfold sumsS at h
  split at h
  · rename_i x y
    obtain rfl := Tree.ret_some h
    refine stepV_told hm37 hn37 none_ok (K := noneO) (A := A37) (m := 0) ?_
    rw [(show stepV P37 G37 A37 noneO 0 22 [.int .i64 x, .int .i64 y] =
(    some (T.fn (26 : Nat) [T.vp [T.int IntKind.i64 y], T.vp [T.int IntKind.i64 x]])) from by kernel_rfl)]
  · cases h
noncomputable def K37a : Orc := ((noneO.add 20 withinS).add 21 roundedS).add 22 sumsS
theorem okK37a : OrcOk P37 G37 K37a := told_add (told_add (told_add none_ok fun _ _ => withinT) fun _ _ => roundedT) fun _ _ => sumsT
end Go.Ab

namespace Go.Ab
open Go.Proofs
def spG (t p : Int) (j : Nat) : List T := [.int .i64 (if 0 + j < p.toNat then sumS p t (0 + j + 1) - sumS p t (0 + j) else 0)]
theorem spG_eq {t p : Int} {j : Nat} (h : j < p.toNat) : spG t p j = [.int .i64 (sumS p t (j + 1) - sumS p t j)] := by simp [spG, h]
def spOkF (t p : Int) : Bool := decide (1 ≤ p) && (decide (p ≤ 400) && (decide (0 ≤ t) && decide (t ≤ 80000)))
theorem spOkF_iff {t p : Int} : spOkF t p = true ↔ 1 ≤ p ∧ p ≤ 400 ∧ 0 ≤ t ∧ t ≤ 80000 := by simp [spOkF]
def spreadS : List T → Tree
  | [.int .i64 t, .int .i64 p] => .ite (spOkF t p) (.ret (.tup [.fresh true 1 p.toNat (spG t p) p.toNat (some p.toNat), .int .i64 0])) (.ret (.tup [.nils, .int .i64 1]))
  | _ => .none
theorem spreadT {args : List T} {r : T} (h : (spreadS args).run some = some r) : ToldOk P37 G37 15 args r := by
  unfold spreadS at h
  split at h
  · rename_i t p
    refine stepL_told hm37 hn37 okK37a (A := A37) (m := 0) (l := [(6, spec15)]) (by kernel_rfl) (fun q hq => by simp only [List.mem_singleton] at hq; subst hq; exact loop15) ?_
    rw [(show stepL P37 G37 A37 K37a 0 15 [(6, spec15)] [.int .i64 t, .int .i64 p] =
(    bif decide ((1 : Int) ≤ p) && decide (p ≤ (400 : Int)) then
    bif decide ((0 : Int) ≤ t) && decide (t ≤ (80000 : Int)) then
    bif true && decide ((0 : Int) ≤ p) && decide (p * (8 : Int) ≤ (140737488355328 : Int)) &&
      decide (p ≤ (9223372036854775807 : Int)) then
    bif g15F p t
      [Blk.mk (0 : Nat) (1 : Nat) p.toNat (fun x => [T.int IntKind.i64 (0 : Int)]) true false,
        Blk.mk (0 : Nat) (1 : Nat) (1 : Nat)
          (fun e => bif e == (0 : Nat) then [T.own (0 : Nat) (0 : Nat) (0 : Nat) (0 : Nat) (some p.toNat)] else [T.nils])
          false false,
        Blk.mk (0 : Nat) (1 : Nat) (1 : Nat)
          (fun e => bif e == (0 : Nat) then [T.int IntKind.i64 (0 : Int)] else [T.int IntKind.i64 (0 : Int)]) true
          false] then
    some (T.tup
      [bif true && ((0 : Nat) + p.toNat).ble p.toNat then
          T.fresh true (1 : Nat) (p.toNat - (0 : Nat))
            (fun j =>
              [T.int IntKind.i64
                  (Decidable.rec (fun h => (fun x => (0 : Int)) h)
                    (fun h => (fun x => sumS p t ((0 : Nat) + j + (1 : Nat)) - sumS p t ((0 : Nat) + j)) h)
                    (((0 : Nat) + j).decLt p.toNat))])
            p.toNat (some p.toNat)
        else T.undef,
        T.int IntKind.i64 (0 : Int)])
    else
    none
    else
    none
    else
    some (T.tup [T.nils, T.int IntKind.i64 (1 : Int)])
    else
    some (T.tup [T.nils, T.int IntKind.i64 (1 : Int)])) from by kernel_rfl)]
    rcases Tree.ite_some h with ⟨hc, h⟩ | ⟨hc, h⟩
    · obtain rfl := Tree.ret_some h
      obtain ⟨h1, h2, h3, h4⟩ := spOkF_iff.1 hc
      rw [dT h1, dT h2, dT h3, dT h4, dT (show 0 ≤ p by omega), dT (show p * 8 ≤ 140737488355328 by omega), dT (show p ≤ 9223372036854775807 by omega)]
      simp only [Bool.and_true, cond_true]
      have hg : g15F p t [Blk.mk 0 1 p.toNat (fun _ => [.int .i64 0]) true false, Blk.mk 0 1 1 (fun e => bif e == 0 then [.own 0 0 0 0 (some p.toNat)] else [.nils]) false false, Blk.mk 0 1 1 (fun e => bif e == 0 then [.int .i64 0] else [.int .i64 0]) true false] = true := by
        simp only [g15F, Bool.and_eq_true, decide_eq_true_eq, sameF_iff]
        refine ⟨h1, h2, h3, h4, .cons ⟨rfl, rfl, rfl, fun _ => rfl, fun j hj => by simp⟩ (.cons ⟨rfl, rfl, rfl, fun h => h, fun j hj => ?_⟩ (.cons ⟨rfl, rfl, rfl, fun h => h, fun j hj => ?_⟩ .nil))⟩
        · obtain rfl : j = 0 := by simp at hj; exact hj
          rfl
        · obtain rfl : j = 0 := by simp at hj; exact hj
          simp [sumS]
      rw [hg, bleT (show 0 + p.toNat ≤ p.toNat by omega)]
      simp only [cond_true, Nat.sub_zero, Bool.and_true]
      refine congrArg some (congrArg T.tup (congrArg (· :: _) ?_))
      refine congrArg (fun g => T.fresh true 1 p.toNat g p.toNat (some p.toNat)) ?_
      rfl
    · obtain rfl := Tree.ret_some h
      simp only [spOkF, Bool.and_eq_false_iff, decide_eq_false_iff_not] at hc
      by_cases h1 : 1 ≤ p
      · by_cases h2 : p ≤ 400
        · rw [dT h1, dT h2]
          by_cases h3 : 0 ≤ t
          · have h4 : ¬ t ≤ 80000 := by omega
            rw [dT h3, dF h4]; rfl
          · rw [dF h3]; rfl
        · rw [dT h1, dF h2]; rfl
      · rw [dF h1]; rfl
  · cases h
end Go.Ab

