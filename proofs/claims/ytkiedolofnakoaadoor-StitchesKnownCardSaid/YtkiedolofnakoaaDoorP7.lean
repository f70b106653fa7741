/- A part of the proof: nothing is assumed. -/
import Derived.Test.YtkiedolofnakoaaDoorP6
import Derived.Test.YtkiedolofnakoaaDoorP3
import Derived.Test.YtkiedolofnakoaaDoorP4
set_option linter.all false
namespace Go.Ab
open Go.Proofs
def badF (n : Nat) (x : Nat → Int) : Bool := (List.range n).any fun j => !(decide (1 ≤ x j) && decide (x j ≤ 3))
def gs10F (i N : Int) (n : Nat) (g : Nat → List T) : Bool := decide (i = 0) && (decide (N = (n : Int)) && (allInt .i64 n g && Nat.ble n 9223372036854775807))
def spec10L : List T → Heap → LT
  | [s1, .reg cs, .view 1 n g _, .int .i64 N, .int .i64 i], h => .ite (gs10F i N n g) (.ite (badF n fun j => intAt (g j)) (.ret .ret [s1, .reg cs, .nils, .int .i64 1] h) (.ret (.exit 0) [s1, .reg cs, .undef, .undef] h)) .none
  | _, _ => .none
def spec11L : List T → Heap → LT
  | [.view 1 n g c, .reg cs, .int .i64 i], h => .ite (gs10F i n n g) (.ite (badF n fun j => intAt (g j)) (.ret .ret [.view 1 n (fun j => [.int .i64 (intAt (g j))]) c, .reg cs, .nils, .int .i64 1] h) (.ret (.exit 0) [.view 1 n (fun j => [.int .i64 (intAt (g j))]) c, .reg cs, .undef, .undef] h)) .none
  | _, _ => .none
theorem loop10at : loopAt P12 10 6 = true := by kernel_rfl
theorem loop11at : loopAt P12 11 6 = true := by kernel_rfl
theorem apart10 : loopsApart P12 10 = true := by kernel_rfl
theorem apart11 : loopsApart P12 11 = true := by kernel_rfl
theorem bad_iff {n : Nat} {x : Nat → Int} : badF n x = false ↔ ∀ j, j < n → 1 ≤ x j ∧ x j ≤ 3 := by
  unfold badF
  rw [List.any_eq_false]
  constructor
  · intro h j hj
    have := h j (List.mem_range.2 hj)
    simpa using this
  · intro h j hj
    have := h j (List.mem_range.1 hj)
    simpa using this
end Go.Ab

namespace Go.Ab
open Go.Proofs
theorem it10 (s1 : T) (cs : List T) (n : Nat) (x : Nat → Int) (c : Option Nat) (N i : Int) (h : Heap) (hN : N = n) (h0 : 0 ≤ i) (h1 : i ≤ N) (hn : n ≤ 9223372036854775807) :
    iterR P12 G12 A12 noneO 10 10 [] 6 [s1, .reg cs, .view 1 n (fun j => [.int .i64 (x j)]) c, .int .i64 N, .int .i64 i] h =
    (if i < N then (if 1 ≤ x i.toNat ∧ x i.toNat ≤ 3 then some (Ex.normal, [s1, .reg cs, .view 1 n (fun j => [.int .i64 (x j)]) c, .int .i64 N, .int .i64 (i + 1)], h) else some (Ex.ret, [s1, .reg cs, .nils, .int .i64 1], h))
    else some (Ex.exit 0, [s1, .reg cs, .undef, .undef], h)) := by
  rw [(show iterR P12 G12 A12 noneO 10 10 [] 6 [s1, .reg cs, .view 1 n (fun j => [.int .i64 (x j)]) c, .int .i64 N, .int .i64 i] h =
(    bif decide (i < N) then
    bif decide ((0 : Int) ≤ i) && decide (i < Int.ofNat n) then
    bif decide (x i.toNat < (1 : Int)) then
    some ((Ex.ret, [s1, T.reg cs, T.nils, T.int IntKind.i64 (1 : Int)], h))
    else
    bif decide ((3 : Int) < x i.toNat) then
    some ((Ex.ret, [s1, T.reg cs, T.nils, T.int IntKind.i64 (1 : Int)], h))
    else
    some ((Ex.normal,
      [s1, T.reg cs, T.view (1 : Nat) n (fun j => [T.int IntKind.i64 (x j)]) c, T.int IntKind.i64 N,
        T.int IntKind.i64 (IntKind.i64.wrap (i + (1 : Int)))],
      h))
    else
    none
    else
    some ((Ex.exit (0 : Nat), [s1, T.reg cs, T.undef, T.undef], h))) from by kernel_rfl)]
  by_cases hi : i < N
  · rw [wr64 (x := i + 1) (by omega) (by omega)]
    have hb : (0 ≤ i ∧ i < (n : Int)) := by omega
    by_cases hx : 1 ≤ x i.toNat
    · by_cases hx3 : x i.toNat ≤ 3
      · simp [hi, hb.1, hb.2, hx, hx3, show ¬ x i.toNat < 1 by omega, show ¬ 3 < x i.toNat by omega]
      · simp [hi, hb.1, hb.2, hx, hx3, show ¬ x i.toNat < 1 by omega, show 3 < x i.toNat by omega]
    · simp [hi, hb.1, hb.2, hx, show x i.toNat < 1 by omega]
  · simp [hi]
theorem it11 (cs : List T) (n : Nat) (x : Nat → Int) (c : Option Nat) (i : Int) (h : Heap) (h0 : 0 ≤ i) (h1 : i ≤ n) (hn : n ≤ 9223372036854775807) :
    iterR P12 G12 A12 noneO 10 11 [] 6 [.view 1 n (fun j => [.int .i64 (x j)]) c, .reg cs, .int .i64 i] h =
    (if i < n then (if 1 ≤ x i.toNat ∧ x i.toNat ≤ 3 then some (Ex.normal, [.view 1 n (fun j => [.int .i64 (x j)]) c, .reg cs, .int .i64 (i + 1)], h) else some (Ex.ret, [.view 1 n (fun j => [.int .i64 (x j)]) c, .reg cs, .nils, .int .i64 1], h))
    else some (Ex.exit 0, [.view 1 n (fun j => [.int .i64 (x j)]) c, .reg cs, .undef, .undef], h)) := by
  rw [(show iterR P12 G12 A12 noneO 10 11 [] 6 [.view 1 n (fun j => [.int .i64 (x j)]) c, .reg cs, .int .i64 i] h =
(    bif decide (i < Int.ofNat n) then
    bif decide ((0 : Int) ≤ i) && decide (i < Int.ofNat n) then
    bif !decide (x i.toNat = (1 : Int)) then
    bif decide ((0 : Int) ≤ i) && decide (i < Int.ofNat n) then
    bif !decide (x i.toNat = (2 : Int)) then
    bif decide ((0 : Int) ≤ i) && decide (i < Int.ofNat n) then
    bif !decide (x i.toNat = (3 : Int)) then
    some ((Ex.ret,
      [T.view (1 : Nat) n (fun j => [T.int IntKind.i64 (x j)]) c, T.reg cs, T.nils, T.int IntKind.i64 (1 : Int)], h))
    else
    some ((Ex.normal,
      [T.view (1 : Nat) n (fun j => [T.int IntKind.i64 (x j)]) c, T.reg cs,
        T.int IntKind.i64 (IntKind.i64.wrap (i + (1 : Int)))],
      h))
    else
    none
    else
    some ((Ex.normal,
      [T.view (1 : Nat) n (fun j => [T.int IntKind.i64 (x j)]) c, T.reg cs,
        T.int IntKind.i64 (IntKind.i64.wrap (i + (1 : Int)))],
      h))
    else
    none
    else
    some ((Ex.normal,
      [T.view (1 : Nat) n (fun j => [T.int IntKind.i64 (x j)]) c, T.reg cs,
        T.int IntKind.i64 (IntKind.i64.wrap (i + (1 : Int)))],
      h))
    else
    none
    else
    some ((Ex.exit (0 : Nat), [T.view (1 : Nat) n (fun j => [T.int IntKind.i64 (x j)]) c, T.reg cs, T.undef, T.undef], h))) from by kernel_rfl)]
  by_cases hi : i < n
  · rw [wr64 (x := i + 1) (by omega) (by omega)]
    have hb : (0 ≤ i ∧ i < (n : Int)) := by omega
    have e : (Int.ofNat n) = (n : Int) := rfl
    by_cases hx : 1 ≤ x i.toNat ∧ x i.toNat ≤ 3
    · have : x i.toNat = 1 ∨ x i.toNat = 2 ∨ x i.toNat = 3 := by omega
      rcases this with q | q | q <;> simp [hi, hb.1, hb.2, q]
    · have q1 : x i.toNat ≠ 1 := by omega
      have q2 : x i.toNat ≠ 2 := by omega
      have q3 : x i.toNat ≠ 3 := by omega
      simp [hi, hb.1, hb.2, q1, q2, q3]
      omega
  · simp [hi]
theorem loop10 : LoopOk P12 G12 (A12 10) 10 6 spec10L := by
  intro fn hf hnt vs h e vs' h' hk
  unfold spec10L at hk
  split at hk
  · rename_i s1 cs n g c N i
    cases hg : gs10F i N n g with
    | false => simp only [LT.run, hg] at hk; cases hk
    | true =>
      simp only [LT.run, hg, cond_true] at hk
      simp only [gs10F, Bool.and_eq_true, decide_eq_true_eq] at hg
      obtain ⟨rfl, rfl, hall, hn⟩ := hg
      have hn := ble_le hn
      refine CodeGoes.simV (vs2 := [s1, .reg cs, .view 1 n (fun j => [.int .i64 (intAt (g j))]) c, .int .i64 n, .int .i64 0]) ?_ rfl (fun i x y hx hy => ?_)
      · refine loop_told hm12 loop10at (an := A12 10) (fun m vs h2 => ∃ i : Int, vs = [s1, .reg cs, .view 1 n (fun j => [.int .i64 (intAt (g j))]) c, .int .i64 n, .int .i64 i] ∧ h2 = h ∧ 0 ≤ i ∧ i ≤ n ∧ m = ((n : Int) - i).toNat ∧ ∀ j : Nat, (j : Int) < i → 1 ≤ intAt (g j) ∧ intAt (g j) ≤ 3) (fun m vs h2 hI => ?_) (n := ((n : Int) - 0).toNat) ⟨0, rfl, rfl, by omega, by omega, rfl, fun j hj => by omega⟩ hf hnt
        obtain ⟨i, rfl, rfl, hi0, hi1, rfl, hgood⟩ := hI
        refine ⟨A12, noneO, 10, [], none_ok, rfl, rfl, fun p hp => (by cases hp), ?_⟩
        by_cases hi : i < n
        · by_cases hx : 1 ≤ intAt (g i.toNat) ∧ intAt (g i.toNat) ≤ 3
          · refine ⟨_, _, _, by rw [it10 s1 cs n (fun j => intAt (g j)) c n i h2 rfl hi0 hi1 hn, if_pos hi, if_pos hx], .inl ⟨rfl, _, ?_, i + 1, rfl, rfl, by omega, by omega, rfl, fun j hj => ?_⟩⟩
            · omega
            · by_cases hji : (j : Int) < i
              · exact hgood j hji
              · have : j = i.toNat := by omega
                rw [this]; exact hx
          · have hb : badF n (fun j => intAt (g j)) = true := by
              cases hb : badF n (fun j => intAt (g j)) with
              | true => rfl
              | false => exact absurd (bad_iff.1 hb i.toNat (by omega)) hx
            rw [hb] at hk
            simp only [cond_true, Option.some.injEq, Prod.mk.injEq] at hk
            obtain ⟨rfl, rfl, rfl⟩ := hk
            exact ⟨_, _, _, by rw [it10 s1 cs n (fun j => intAt (g j)) c n i h2 rfl hi0 hi1 hn, if_pos hi, if_neg hx], .inr ⟨by simp, rfl, rfl, rfl⟩⟩
        · have hb : badF n (fun j => intAt (g j)) = false := bad_iff.2 fun j hj => hgood j (by omega)
          rw [hb] at hk
          simp only [cond_false, Option.some.injEq, Prod.mk.injEq] at hk
          obtain ⟨rfl, rfl, rfl⟩ := hk
          exact ⟨_, _, _, by rw [it10 s1 cs n (fun j => intAt (g j)) c n i h2 rfl hi0 hi1 hn, if_neg hi], .inr ⟨by simp, rfl, rfl, rfl⟩⟩
      · match i, hx, hy with
        | 0, hx, hy | 1, hx, hy | 3, hx, hy | 4, hx, hy => simp at hx hy; subst hx; subst hy; exact .refl _
        | 2, hx, hy => simp at hx hy; subst hx; subst hy; exact view_int hall
        | k + 5, hx, hy => simp at hx
  · cases hk
theorem loop11 : LoopOk P12 G12 (A12 11) 11 6 spec11L := by
  intro fn hf hnt vs h e vs' h' hk
  unfold spec11L at hk
  split at hk
  · rename_i n g c cs i
    cases hg : gs10F i n n g with
    | false => simp only [LT.run, hg] at hk; cases hk
    | true =>
      simp only [LT.run, hg, cond_true] at hk
      simp only [gs10F, Bool.and_eq_true, decide_eq_true_eq] at hg
      obtain ⟨rfl, _, hall, hn⟩ := hg
      have hn := ble_le hn
      refine CodeGoes.simV (vs2 := [.view 1 n (fun j => [.int .i64 (intAt (g j))]) c, .reg cs, .int .i64 0]) ?_ rfl (fun i x y hx hy => ?_)
      · refine loop_told hm12 loop11at (an := A12 11) (fun m vs h2 => ∃ i : Int, vs = [.view 1 n (fun j => [.int .i64 (intAt (g j))]) c, .reg cs, .int .i64 i] ∧ h2 = h ∧ 0 ≤ i ∧ i ≤ n ∧ m = ((n : Int) - i).toNat ∧ ∀ j : Nat, (j : Int) < i → 1 ≤ intAt (g j) ∧ intAt (g j) ≤ 3) (fun m vs h2 hI => ?_) (n := ((n : Int) - 0).toNat) ⟨0, rfl, rfl, by omega, by omega, rfl, fun j hj => by omega⟩ hf hnt
        obtain ⟨i, rfl, rfl, hi0, hi1, rfl, hgood⟩ := hI
        refine ⟨A12, noneO, 10, [], none_ok, rfl, rfl, fun p hp => (by cases hp), ?_⟩
        by_cases hi : i < n
        · by_cases hx : 1 ≤ intAt (g i.toNat) ∧ intAt (g i.toNat) ≤ 3
          · refine ⟨_, _, _, by rw [it11 cs n (fun j => intAt (g j)) c i h2 hi0 hi1 hn, if_pos hi, if_pos hx], .inl ⟨rfl, _, ?_, i + 1, rfl, rfl, by omega, by omega, rfl, fun j hj => ?_⟩⟩
            · omega
            · by_cases hji : (j : Int) < i
              · exact hgood j hji
              · have : j = i.toNat := by omega
                rw [this]; exact hx
          · have hb : badF n (fun j => intAt (g j)) = true := by
              cases hb : badF n (fun j => intAt (g j)) with
              | true => rfl
              | false => exact absurd (bad_iff.1 hb i.toNat (by omega)) hx
            rw [hb] at hk
            simp only [cond_true, Option.some.injEq, Prod.mk.injEq] at hk
            obtain ⟨rfl, rfl, rfl⟩ := hk
            exact ⟨_, _, _, by rw [it11 cs n (fun j => intAt (g j)) c i h2 hi0 hi1 hn, if_pos hi, if_neg hx], .inr ⟨by simp, rfl, rfl, rfl⟩⟩
        · have hb : badF n (fun j => intAt (g j)) = false := bad_iff.2 fun j hj => hgood j (by omega)
          rw [hb] at hk
          simp only [cond_false, Option.some.injEq, Prod.mk.injEq] at hk
          obtain ⟨rfl, rfl, rfl⟩ := hk
          exact ⟨_, _, _, by rw [it11 cs n (fun j => intAt (g j)) c i h2 hi0 hi1 hn, if_neg hi], .inr ⟨by simp, rfl, rfl, rfl⟩⟩
      · match i, hx, hy with
        | 1, hx, hy | 2, hx, hy => simp at hx hy; subst hx; subst hy; exact .refl _
        | 0, hx, hy => simp at hx hy; subst hx; subst hy; exact view_int hall
        | k + 3, hx, hy => simp at hx
  · cases hk
end Go.Ab

namespace Go.Ab
open Go.Proofs
def needsV (k a b : Int) : Int := bif decide (k = 3) then 0 else bif decide (k = 4) || decide (k = 5) then 2 else bif decide (k = 8) then a + b else 1
def makesV (k a b : Int) : Int := bif decide (k = 8) then a + b else 1
def specV17 : List T → Tree
  | [.agg [.int .u8 k, .int .u8 y, .int .i64 a, .int .i64 b, .bool f]] => .ite (valid k y a b f) (.ret (.int .i64 0)) .none
  | _ => .none
def specV22 : List T → Tree
  | [.agg [.int .u8 k, .int .u8 y, .int .i64 a, .int .i64 b, .bool f]] => .ite (valid k y a b f) (.ret (.int .i64 1)) .none
  | _ => .none
def specVn : List T → Tree
  | [.agg [.int .u8 k, .int .u8 y, .int .i64 a, .int .i64 b, .bool f]] => .ite (valid k y a b f) (.ret (.int .i64 (needsV k a b))) .none
  | _ => .none
def specVm : List T → Tree
  | [.agg [.int .u8 k, .int .u8 y, .int .i64 a, .int .i64 b, .bool f]] => .ite (valid k y a b f) (.ret (.int .i64 (makesV k a b))) .none
  | _ => .none
noncomputable def Kv : Orc := (((((noneO.add 17 specV17).add 22 specV22).add 18 specVn).add 14 specVn).add 15 specVm).add 23 specVm
theorem valid_pos' {k y a b : Int} {f : Bool} (h : valid k y a b f = true) : posF k y = true := by
  simp only [valid, Bool.and_eq_true, decide_eq_true_eq] at h
  simp only [posF, Bool.and_eq_true, decide_eq_true_eq]
  omega
section
variable {k y a b : Int} {f : Bool} (hv : valid k y a b f = true)
include hv
theorem tv17 : ToldOk P12 G12 17 [stT k y a b f] (.int .i64 0) := by
  have := stepV_told hm12 hn12 none_ok (e17 k y a b f)
  rwa [show checkF k y a b f = 0 by simp [checkF, hv]] at this
theorem tv22 : ToldOk P12 G12 22 [stT k y a b f] (.int .i64 1) := by
  have := stepV_told hm12 hn12 none_ok (e22 k y a b f (valid_pos' hv))
  rwa [show 1 - checkF k y a b f = 1 by simp [checkF, hv]] at this
theorem needs_eq : needsF k y a b f = needsV k a b := by simp [needsF, needsV, hv]
theorem makes_eq : makesF k y a b f = makesV k a b := by simp [makesF, makesV, hv]
theorem tv18 : ToldOk P12 G12 18 [stT k y a b f] (.int .i64 (needsV k a b)) := by
  have := stepV_told hm12 hn12 ok17 (e18 k y a b f)
  rwa [needs_eq hv] at this
theorem tv14 : ToldOk P12 G12 14 [stT k y a b f] (.int .i64 (needsV k a b)) := by
  have := stepV_told hm12 hn12 ok22 (e14 k y a b f (valid_pos' hv))
  rwa [needs_eq hv] at this
theorem tv15 : ToldOk P12 G12 15 [stT k y a b f] (.int .i64 (makesV k a b)) := by
  have := stepV_told hm12 hn12 ok17 (e15 k y a b f)
  rwa [makes_eq hv] at this
theorem tv23 : ToldOk P12 G12 23 [stT k y a b f] (.int .i64 (makesV k a b)) := by
  have := stepV_told hm12 hn12 ok22 (e23 k y a b f (valid_pos' hv))
  rwa [makes_eq hv] at this
end
theorem okV : OrcOk P12 G12 Kv := by
  refine told_add (told_add (told_add (told_add (told_add (told_add none_ok ?_) ?_) ?_) ?_) ?_) ?_ <;> intro args r h
  · unfold specV17 at h; split at h
    · obtain ⟨hc, h⟩ := ite_run h
      obtain rfl := Option.some.inj h
      exact tv17 hc
    · cases h
  · unfold specV22 at h; split at h
    · obtain ⟨hc, h⟩ := ite_run h
      obtain rfl := Option.some.inj h
      exact tv22 hc
    · cases h
  · unfold specVn at h; split at h
    · obtain ⟨hc, h⟩ := ite_run h
      obtain rfl := Option.some.inj h
      exact tv18 hc
    · cases h
  · unfold specVn at h; split at h
    · obtain ⟨hc, h⟩ := ite_run h
      obtain rfl := Option.some.inj h
      exact tv14 hc
    · cases h
  · unfold specVm at h; split at h
    · obtain ⟨hc, h⟩ := ite_run h
      obtain rfl := Option.some.inj h
      exact tv15 hc
    · cases h
  · unfold specVm at h; split at h
    · obtain ⟨hc, h⟩ := ite_run h
      obtain rfl := Option.some.inj h
      exact tv23 hc
    · cases h
def fullF (k : Int) (x : Nat → Int) : Bool := (decide (k = 4) || decide (k = 5)) && decide (4 < x 0 + x 1) || decide (k = 6) && decide (x 0 = 3)
def outF (k : Int) (x : Nat → Int) : Int := bif decide (k = 6) then x 0 + 1 else bif decide (k = 7) then x 0 else 1
/-- What Loads returns for a valid stitch. -/
def resO (k a b : Int) (n : Nat) (x : Nat → Int) (cp : Option Nat) : Option T :=
  if (n : Int) ≠ needsV k a b then some (.tup [.nils, .int .i64 5]) else if badF n x = true then some (.tup [.nils, .int .i64 1]) else if fullF k x = true then some (.tup [.nils, .int .i64 9]) else
    some (.tup [.fresh true 1 (makesV k a b).toNat (fun j => (List.replicate (makesV k a b).toNat [T.int .i64 (outF k x)]).getD j []) (makesV k a b).toNat cp, .int .i64 0])
theorem gs_lit {n : Nat} (x : Nat → Int) (hn : Nat.ble n 9223372036854775807 = true) : gs10F (0 : Int) (Int.ofNat n) n (fun j => [T.int IntKind.i64 (x j)]) = true := by
  simp only [gs10F, allInt_lit, hn, Bool.and_true, decide_true, Bool.true_and]
  exact decide_eq_true rfl
end Go.Ab

namespace Go.Ab
open Go.Proofs
theorem r10_100 (y : Int) (n : Nat) (x : Nat → Int) (c : Option Nat) (hv : valid 1 y 0 0 false = true) (hn : Nat.ble n 9223372036854775807 = true) :
    stepLC P12 G12 A12 Kv 10 10 [(6, spec10L)] [stT 1 y 0 0 false, .view 1 n (fun j => [.int .i64 (x j)]) c] = resO 1 0 0 n x (some 1) := by
  rw [(show stepLC P12 G12 A12 Kv 10 10 [(6, spec10L)] [stT 1 y 0 0 false, .view 1 n (fun j => [.int .i64 (x j)]) c] =
(    bif decide ((1 : Int) ≤ y) && (decide (y ≤ (6 : Int)) && true) then
    bif decide ((1 : Int) ≤ y) && (decide (y ≤ (6 : Int)) && true) then
    bif !decide (Int.ofNat n = (1 : Int)) then
    some (T.tup [T.nils, T.int IntKind.i64 (5 : Int)])
    else
    bif gs10F (0 : Int) (Int.ofNat n) n fun j => [T.int IntKind.i64 (x j)] then
    bif badF n fun j => x j then
    some (T.tup [T.nils, T.int IntKind.i64 (1 : Int)])
    else
    bif decide ((1 : Int) ≤ y) && (decide (y ≤ (6 : Int)) && true) then
    some (T.tup
      [T.fresh true (1 : Nat) (1 : Nat) (fun j => [[T.int IntKind.i64 (1 : Int)]].getD j []) (1 : Nat) (some (1 : Nat)),
        T.int IntKind.i64 (0 : Int)])
    else
    none
    else
    none
    else
    none
    else
    none) from by kernel_rfl)]
  have hy : 1 ≤ y ∧ y ≤ 6 := by simpa [valid] using hv
  rw [gs_lit x hn]
  by_cases hl : n = 1
  · subst hl
    cases hb : badF 1 x with
    | true => simp [resO, hb, hy, needsV]
    | false =>
      simp [resO, hb, hy, needsV, makesV, fullF, outF, List.replicate]
  · have hl' : ¬ ((n : Int) = 1) := by omega
    simp [resO, hl', hl, hy, needsV]
theorem q10_100 (y : Int) (hv : valid 1 y 0 0 false = true) : stepC P12 G12 A12 Kv 10 10 [stT 1 y 0 0 false, .nils] = some (.tup [.nils, .int .i64 5]) := by
  rw [(show stepC P12 G12 A12 Kv 10 10 [stT 1 y 0 0 false, .nils] =
(    bif decide ((1 : Int) ≤ y) && (decide (y ≤ (6 : Int)) && true) then
    bif decide ((1 : Int) ≤ y) && (decide (y ≤ (6 : Int)) && true) then
    some (T.tup [T.nils, T.int IntKind.i64 (5 : Int)])
    else
    none
    else
    none) from by kernel_rfl)]
  have hy : 1 ≤ y ∧ y ≤ 6 := by simpa [valid] using hv
  simp [hy, resO, needsV, makesV, badF, fullF, outF, List.replicate]
theorem r11_100 (y : Int) (n : Nat) (x : Nat → Int) (c : Option Nat) (hv : valid 1 y 0 0 false = true) (hn : Nat.ble n 9223372036854775807 = true) :
    stepLC P12 G12 A12 Kv 10 11 [(6, spec11L)] [stT 1 y 0 0 false, .view 1 n (fun j => [.int .i64 (x j)]) c] = resO 1 0 0 n x none := by
  rw [(show stepLC P12 G12 A12 Kv 10 11 [(6, spec11L)] [stT 1 y 0 0 false, .view 1 n (fun j => [.int .i64 (x j)]) c] =
(    bif decide ((1 : Int) ≤ y) && (decide (y ≤ (6 : Int)) && true) then
    bif decide ((1 : Int) ≤ y) && (decide (y ≤ (6 : Int)) && true) then
    bif !decide (Int.ofNat n = (1 : Int)) then
    some (T.tup [T.nils, T.int IntKind.i64 (5 : Int)])
    else
    bif gs10F (0 : Int) (Int.ofNat n) n fun j => [T.int IntKind.i64 (x j)] then
    bif badF n fun j => x j then
    some (T.tup [T.nils, T.int IntKind.i64 (1 : Int)])
    else
    bif decide ((1 : Int) ≤ y) && (decide (y ≤ (6 : Int)) && true) then
    bif decide ((1 : Int) ≤ y) && (decide (y ≤ (6 : Int)) && true) then
    some (T.tup
      [T.fresh true (1 : Nat) (1 : Nat) (fun j => [[T.int IntKind.i64 (1 : Int)]].getD j []) (1 : Nat) none,
        T.int IntKind.i64 (0 : Int)])
    else
    none
    else
    none
    else
    none
    else
    none
    else
    none) from by kernel_rfl)]
  have hy : 1 ≤ y ∧ y ≤ 6 := by simpa [valid] using hv
  rw [gs_lit x hn]
  by_cases hl : n = 1
  · subst hl
    cases hb : badF 1 x with
    | true => simp [resO, hb, hy, needsV]
    | false =>
      simp [resO, hb, hy, needsV, makesV, fullF, outF, List.replicate]
  · have hl' : ¬ ((n : Int) = 1) := by omega
    simp [resO, hl', hl, hy, needsV]
theorem q11_100 (y : Int) (hv : valid 1 y 0 0 false = true) : stepC P12 G12 A12 Kv 10 11 [stT 1 y 0 0 false, .nils] = some (.tup [.nils, .int .i64 5]) := by
  rw [(show stepC P12 G12 A12 Kv 10 11 [stT 1 y 0 0 false, .nils] =
(    bif decide ((1 : Int) ≤ y) && (decide (y ≤ (6 : Int)) && true) then
    bif decide ((1 : Int) ≤ y) && (decide (y ≤ (6 : Int)) && true) then
    some (T.tup [T.nils, T.int IntKind.i64 (5 : Int)])
    else
    none
    else
    none) from by kernel_rfl)]
  have hy : 1 ≤ y ∧ y ≤ 6 := by simpa [valid] using hv
  simp [hy, resO, needsV, makesV, badF, fullF, outF, List.replicate]
theorem r10_200 (y : Int) (n : Nat) (x : Nat → Int) (c : Option Nat) (hv : valid 2 y 0 0 false = true) (hn : Nat.ble n 9223372036854775807 = true) :
    stepLC P12 G12 A12 Kv 10 10 [(6, spec10L)] [stT 2 y 0 0 false, .view 1 n (fun j => [.int .i64 (x j)]) c] = resO 2 0 0 n x (some 1) := by
  rw [(show stepLC P12 G12 A12 Kv 10 10 [(6, spec10L)] [stT 2 y 0 0 false, .view 1 n (fun j => [.int .i64 (x j)]) c] =
(    bif decide ((1 : Int) ≤ y) && (decide (y ≤ (6 : Int)) && true) then
    bif decide ((1 : Int) ≤ y) && (decide (y ≤ (6 : Int)) && true) then
    bif !decide (Int.ofNat n = (1 : Int)) then
    some (T.tup [T.nils, T.int IntKind.i64 (5 : Int)])
    else
    bif gs10F (0 : Int) (Int.ofNat n) n fun j => [T.int IntKind.i64 (x j)] then
    bif badF n fun j => x j then
    some (T.tup [T.nils, T.int IntKind.i64 (1 : Int)])
    else
    bif decide ((1 : Int) ≤ y) && (decide (y ≤ (6 : Int)) && true) then
    some (T.tup
      [T.fresh true (1 : Nat) (1 : Nat) (fun j => [[T.int IntKind.i64 (1 : Int)]].getD j []) (1 : Nat) (some (1 : Nat)),
        T.int IntKind.i64 (0 : Int)])
    else
    none
    else
    none
    else
    none
    else
    none) from by kernel_rfl)]
  have hy : 1 ≤ y ∧ y ≤ 6 := by simpa [valid] using hv
  rw [gs_lit x hn]
  by_cases hl : n = 1
  · subst hl
    cases hb : badF 1 x with
    | true => simp [resO, hb, hy, needsV]
    | false =>
      simp [resO, hb, hy, needsV, makesV, fullF, outF, List.replicate]
  · have hl' : ¬ ((n : Int) = 1) := by omega
    simp [resO, hl', hl, hy, needsV]
theorem q10_200 (y : Int) (hv : valid 2 y 0 0 false = true) : stepC P12 G12 A12 Kv 10 10 [stT 2 y 0 0 false, .nils] = some (.tup [.nils, .int .i64 5]) := by
  rw [(show stepC P12 G12 A12 Kv 10 10 [stT 2 y 0 0 false, .nils] =
(    bif decide ((1 : Int) ≤ y) && (decide (y ≤ (6 : Int)) && true) then
    bif decide ((1 : Int) ≤ y) && (decide (y ≤ (6 : Int)) && true) then
    some (T.tup [T.nils, T.int IntKind.i64 (5 : Int)])
    else
    none
    else
    none) from by kernel_rfl)]
  have hy : 1 ≤ y ∧ y ≤ 6 := by simpa [valid] using hv
  simp [hy, resO, needsV, makesV, badF, fullF, outF, List.replicate]
theorem r11_200 (y : Int) (n : Nat) (x : Nat → Int) (c : Option Nat) (hv : valid 2 y 0 0 false = true) (hn : Nat.ble n 9223372036854775807 = true) :
    stepLC P12 G12 A12 Kv 10 11 [(6, spec11L)] [stT 2 y 0 0 false, .view 1 n (fun j => [.int .i64 (x j)]) c] = resO 2 0 0 n x none := by
  rw [(show stepLC P12 G12 A12 Kv 10 11 [(6, spec11L)] [stT 2 y 0 0 false, .view 1 n (fun j => [.int .i64 (x j)]) c] =
(    bif decide ((1 : Int) ≤ y) && (decide (y ≤ (6 : Int)) && true) then
    bif decide ((1 : Int) ≤ y) && (decide (y ≤ (6 : Int)) && true) then
    bif !decide (Int.ofNat n = (1 : Int)) then
    some (T.tup [T.nils, T.int IntKind.i64 (5 : Int)])
    else
    bif gs10F (0 : Int) (Int.ofNat n) n fun j => [T.int IntKind.i64 (x j)] then
    bif badF n fun j => x j then
    some (T.tup [T.nils, T.int IntKind.i64 (1 : Int)])
    else
    bif decide ((1 : Int) ≤ y) && (decide (y ≤ (6 : Int)) && true) then
    bif decide ((1 : Int) ≤ y) && (decide (y ≤ (6 : Int)) && true) then
    some (T.tup
      [T.fresh true (1 : Nat) (1 : Nat) (fun j => [[T.int IntKind.i64 (1 : Int)]].getD j []) (1 : Nat) none,
        T.int IntKind.i64 (0 : Int)])
    else
    none
    else
    none
    else
    none
    else
    none
    else
    none) from by kernel_rfl)]
  have hy : 1 ≤ y ∧ y ≤ 6 := by simpa [valid] using hv
  rw [gs_lit x hn]
  by_cases hl : n = 1
  · subst hl
    cases hb : badF 1 x with
    | true => simp [resO, hb, hy, needsV]
    | false =>
      simp [resO, hb, hy, needsV, makesV, fullF, outF, List.replicate]
  · have hl' : ¬ ((n : Int) = 1) := by omega
    simp [resO, hl', hl, hy, needsV]
theorem q11_200 (y : Int) (hv : valid 2 y 0 0 false = true) : stepC P12 G12 A12 Kv 10 11 [stT 2 y 0 0 false, .nils] = some (.tup [.nils, .int .i64 5]) := by
  rw [(show stepC P12 G12 A12 Kv 10 11 [stT 2 y 0 0 false, .nils] =
(    bif decide ((1 : Int) ≤ y) && (decide (y ≤ (6 : Int)) && true) then
    bif decide ((1 : Int) ≤ y) && (decide (y ≤ (6 : Int)) && true) then
    some (T.tup [T.nils, T.int IntKind.i64 (5 : Int)])
    else
    none
    else
    none) from by kernel_rfl)]
  have hy : 1 ≤ y ∧ y ≤ 6 := by simpa [valid] using hv
  simp [hy, resO, needsV, makesV, badF, fullF, outF, List.replicate]
theorem r10_300 (y : Int) (n : Nat) (x : Nat → Int) (c : Option Nat) (hv : valid 3 y 0 0 false = true) (hn : Nat.ble n 9223372036854775807 = true) :
    stepLC P12 G12 A12 Kv 10 10 [(6, spec10L)] [stT 3 y 0 0 false, .view 1 n (fun j => [.int .i64 (x j)]) c] = resO 3 0 0 n x (some 1) := by
  rw [(show stepLC P12 G12 A12 Kv 10 10 [(6, spec10L)] [stT 3 y 0 0 false, .view 1 n (fun j => [.int .i64 (x j)]) c] =
(    bif decide ((1 : Int) ≤ y) && (decide (y ≤ (6 : Int)) && true) then
    bif decide ((1 : Int) ≤ y) && (decide (y ≤ (6 : Int)) && true) then
    bif !decide (Int.ofNat n = (0 : Int)) then
    some (T.tup [T.nils, T.int IntKind.i64 (5 : Int)])
    else
    bif gs10F (0 : Int) (Int.ofNat n) n fun j => [T.int IntKind.i64 (x j)] then
    bif badF n fun j => x j then
    some (T.tup [T.nils, T.int IntKind.i64 (1 : Int)])
    else
    bif decide ((1 : Int) ≤ y) && (decide (y ≤ (6 : Int)) && true) then
    some (T.tup
      [T.fresh true (1 : Nat) (1 : Nat) (fun j => [[T.int IntKind.i64 (1 : Int)]].getD j []) (1 : Nat) (some (1 : Nat)),
        T.int IntKind.i64 (0 : Int)])
    else
    none
    else
    none
    else
    none
    else
    none) from by kernel_rfl)]
  have hy : 1 ≤ y ∧ y ≤ 6 := by simpa [valid] using hv
  rw [gs_lit x hn]
  by_cases hl : n = 0
  · subst hl
    cases hb : badF 0 x with
    | true => simp [resO, hb, hy, needsV]
    | false =>
      simp [resO, hb, hy, needsV, makesV, fullF, outF, List.replicate]
  · have hl' : ¬ ((n : Int) = 0) := by omega
    simp [resO, hl', hl, hy, needsV]
theorem q10_300 (y : Int) (hv : valid 3 y 0 0 false = true) : stepC P12 G12 A12 Kv 10 10 [stT 3 y 0 0 false, .nils] = resO 3 0 0 0 (fun _ => 0) (some 1) := by
  rw [(show stepC P12 G12 A12 Kv 10 10 [stT 3 y 0 0 false, .nils] =
(    bif decide ((1 : Int) ≤ y) && (decide (y ≤ (6 : Int)) && true) then
    bif decide ((1 : Int) ≤ y) && (decide (y ≤ (6 : Int)) && true) then
    bif decide ((1 : Int) ≤ y) && (decide (y ≤ (6 : Int)) && true) then
    some (T.tup
      [T.fresh true (1 : Nat) (1 : Nat) (fun j => [[T.int IntKind.i64 (1 : Int)]].getD j []) (1 : Nat) (some (1 : Nat)),
        T.int IntKind.i64 (0 : Int)])
    else
    none
    else
    none
    else
    none) from by kernel_rfl)]
  have hy : 1 ≤ y ∧ y ≤ 6 := by simpa [valid] using hv
  simp [hy, resO, needsV, makesV, badF, fullF, outF, List.replicate]
theorem r11_300 (y : Int) (n : Nat) (x : Nat → Int) (c : Option Nat) (hv : valid 3 y 0 0 false = true) (hn : Nat.ble n 9223372036854775807 = true) :
    stepLC P12 G12 A12 Kv 10 11 [(6, spec11L)] [stT 3 y 0 0 false, .view 1 n (fun j => [.int .i64 (x j)]) c] = resO 3 0 0 n x none := by
  rw [(show stepLC P12 G12 A12 Kv 10 11 [(6, spec11L)] [stT 3 y 0 0 false, .view 1 n (fun j => [.int .i64 (x j)]) c] =
(    bif decide ((1 : Int) ≤ y) && (decide (y ≤ (6 : Int)) && true) then
    bif decide ((1 : Int) ≤ y) && (decide (y ≤ (6 : Int)) && true) then
    bif !decide (Int.ofNat n = (0 : Int)) then
    some (T.tup [T.nils, T.int IntKind.i64 (5 : Int)])
    else
    bif gs10F (0 : Int) (Int.ofNat n) n fun j => [T.int IntKind.i64 (x j)] then
    bif badF n fun j => x j then
    some (T.tup [T.nils, T.int IntKind.i64 (1 : Int)])
    else
    bif decide ((1 : Int) ≤ y) && (decide (y ≤ (6 : Int)) && true) then
    bif decide ((1 : Int) ≤ y) && (decide (y ≤ (6 : Int)) && true) then
    some (T.tup
      [T.fresh true (1 : Nat) (1 : Nat) (fun j => [[T.int IntKind.i64 (1 : Int)]].getD j []) (1 : Nat) none,
        T.int IntKind.i64 (0 : Int)])
    else
    none
    else
    none
    else
    none
    else
    none
    else
    none) from by kernel_rfl)]
  have hy : 1 ≤ y ∧ y ≤ 6 := by simpa [valid] using hv
  rw [gs_lit x hn]
  by_cases hl : n = 0
  · subst hl
    cases hb : badF 0 x with
    | true => simp [resO, hb, hy, needsV]
    | false =>
      simp [resO, hb, hy, needsV, makesV, fullF, outF, List.replicate]
  · have hl' : ¬ ((n : Int) = 0) := by omega
    simp [resO, hl', hl, hy, needsV]
theorem q11_300 (y : Int) (hv : valid 3 y 0 0 false = true) : stepC P12 G12 A12 Kv 10 11 [stT 3 y 0 0 false, .nils] = resO 3 0 0 0 (fun _ => 0) none := by
  rw [(show stepC P12 G12 A12 Kv 10 11 [stT 3 y 0 0 false, .nils] =
(    bif decide ((1 : Int) ≤ y) && (decide (y ≤ (6 : Int)) && true) then
    bif decide ((1 : Int) ≤ y) && (decide (y ≤ (6 : Int)) && true) then
    bif decide ((1 : Int) ≤ y) && (decide (y ≤ (6 : Int)) && true) then
    bif decide ((1 : Int) ≤ y) && (decide (y ≤ (6 : Int)) && true) then
    some (T.tup
      [T.fresh true (1 : Nat) (1 : Nat) (fun j => [[T.int IntKind.i64 (1 : Int)]].getD j []) (1 : Nat) none,
        T.int IntKind.i64 (0 : Int)])
    else
    none
    else
    none
    else
    none
    else
    none) from by kernel_rfl)]
  have hy : 1 ≤ y ∧ y ≤ 6 := by simpa [valid] using hv
  simp [hy, resO, needsV, makesV, badF, fullF, outF, List.replicate]
theorem r10_400 (y : Int) (n : Nat) (x : Nat → Int) (c : Option Nat) (hv : valid 4 y 0 0 false = true) (hn : Nat.ble n 9223372036854775807 = true) :
    stepLC P12 G12 A12 Kv 10 10 [(6, spec10L)] [stT 4 y 0 0 false, .view 1 n (fun j => [.int .i64 (x j)]) c] = resO 4 0 0 n x (some 1) := by
  rw [(show stepLC P12 G12 A12 Kv 10 10 [(6, spec10L)] [stT 4 y 0 0 false, .view 1 n (fun j => [.int .i64 (x j)]) c] =
(    bif decide ((1 : Int) ≤ y) && (decide (y ≤ (6 : Int)) && true) then
    bif decide ((1 : Int) ≤ y) && (decide (y ≤ (6 : Int)) && true) then
    bif !decide (Int.ofNat n = (2 : Int)) then
    some (T.tup [T.nils, T.int IntKind.i64 (5 : Int)])
    else
    bif gs10F (0 : Int) (Int.ofNat n) n fun j => [T.int IntKind.i64 (x j)] then
    bif badF n fun j => x j then
    some (T.tup [T.nils, T.int IntKind.i64 (1 : Int)])
    else
    bif decide ((1 : Int) ≤ y) && (decide (y ≤ (6 : Int)) && true) then
    bif true && decide ((0 : Int) < Int.ofNat n) then
    bif true && decide ((1 : Int) < Int.ofNat n) then
    bif decide ((4 : Int) < IntKind.i64.wrap (x (0 : Nat) + x (1 : Nat))) then
    some (T.tup [T.nils, T.int IntKind.i64 (9 : Int)])
    else
    some (T.tup
      [T.fresh true (1 : Nat) (1 : Nat) (fun j => [[T.int IntKind.i64 (1 : Int)]].getD j []) (1 : Nat) (some (1 : Nat)),
        T.int IntKind.i64 (0 : Int)])
    else
    none
    else
    none
    else
    none
    else
    none
    else
    none
    else
    none) from by kernel_rfl)]
  have hy : 1 ≤ y ∧ y ≤ 6 := by simpa [valid] using hv
  rw [gs_lit x hn]
  by_cases hl : n = 2
  · subst hl
    cases hb : badF 2 x with
    | true => simp [resO, hb, hy, needsV]
    | false =>
      have hr := bad_iff.1 hb
      have h0 := hr 0 (by omega)
      have h1 := hr 1 (by omega)
      rw [wr64 (x := x 0 + x 1) (by omega) (by omega)]
      by_cases hf : 4 < x 0 + x 1 <;> simp [resO, hb, hy, needsV, makesV, fullF, outF, hf, List.replicate]
  · have hl' : ¬ ((n : Int) = 2) := by omega
    simp [resO, hl', hl, hy, needsV]
theorem q10_400 (y : Int) (hv : valid 4 y 0 0 false = true) : stepC P12 G12 A12 Kv 10 10 [stT 4 y 0 0 false, .nils] = some (.tup [.nils, .int .i64 5]) := by
  rw [(show stepC P12 G12 A12 Kv 10 10 [stT 4 y 0 0 false, .nils] =
(    bif decide ((1 : Int) ≤ y) && (decide (y ≤ (6 : Int)) && true) then
    bif decide ((1 : Int) ≤ y) && (decide (y ≤ (6 : Int)) && true) then
    some (T.tup [T.nils, T.int IntKind.i64 (5 : Int)])
    else
    none
    else
    none) from by kernel_rfl)]
  have hy : 1 ≤ y ∧ y ≤ 6 := by simpa [valid] using hv
  simp [hy, resO, needsV, makesV, badF, fullF, outF, List.replicate]
theorem r11_400 (y : Int) (n : Nat) (x : Nat → Int) (c : Option Nat) (hv : valid 4 y 0 0 false = true) (hn : Nat.ble n 9223372036854775807 = true) :
    stepLC P12 G12 A12 Kv 10 11 [(6, spec11L)] [stT 4 y 0 0 false, .view 1 n (fun j => [.int .i64 (x j)]) c] = resO 4 0 0 n x (some 1) := by
  rw [(show stepLC P12 G12 A12 Kv 10 11 [(6, spec11L)] [stT 4 y 0 0 false, .view 1 n (fun j => [.int .i64 (x j)]) c] =
(    bif decide ((1 : Int) ≤ y) && (decide (y ≤ (6 : Int)) && true) then
    bif decide ((1 : Int) ≤ y) && (decide (y ≤ (6 : Int)) && true) then
    bif !decide (Int.ofNat n = (2 : Int)) then
    some (T.tup [T.nils, T.int IntKind.i64 (5 : Int)])
    else
    bif gs10F (0 : Int) (Int.ofNat n) n fun j => [T.int IntKind.i64 (x j)] then
    bif badF n fun j => x j then
    some (T.tup [T.nils, T.int IntKind.i64 (1 : Int)])
    else
    bif true && decide ((0 : Int) < Int.ofNat n) then
    bif true && decide ((1 : Int) < Int.ofNat n) then
    bif decide ((4 : Int) < IntKind.i64.wrap (x (0 : Nat) + x (1 : Nat))) then
    some (T.tup [T.nils, T.int IntKind.i64 (9 : Int)])
    else
    some (T.tup
      [T.fresh true (1 : Nat) (1 : Nat) (fun j => [[T.int IntKind.i64 (1 : Int)]].getD j []) (1 : Nat) (some (1 : Nat)),
        T.int IntKind.i64 (0 : Int)])
    else
    none
    else
    none
    else
    none
    else
    none
    else
    none) from by kernel_rfl)]
  have hy : 1 ≤ y ∧ y ≤ 6 := by simpa [valid] using hv
  rw [gs_lit x hn]
  by_cases hl : n = 2
  · subst hl
    cases hb : badF 2 x with
    | true => simp [resO, hb, hy, needsV]
    | false =>
      have hr := bad_iff.1 hb
      have h0 := hr 0 (by omega)
      have h1 := hr 1 (by omega)
      rw [wr64 (x := x 0 + x 1) (by omega) (by omega)]
      by_cases hf : 4 < x 0 + x 1 <;> simp [resO, hb, hy, needsV, makesV, fullF, outF, hf, List.replicate]
  · have hl' : ¬ ((n : Int) = 2) := by omega
    simp [resO, hl', hl, hy, needsV]
theorem q11_400 (y : Int) (hv : valid 4 y 0 0 false = true) : stepC P12 G12 A12 Kv 10 11 [stT 4 y 0 0 false, .nils] = some (.tup [.nils, .int .i64 5]) := by
  rw [(show stepC P12 G12 A12 Kv 10 11 [stT 4 y 0 0 false, .nils] =
(    bif decide ((1 : Int) ≤ y) && (decide (y ≤ (6 : Int)) && true) then
    bif decide ((1 : Int) ≤ y) && (decide (y ≤ (6 : Int)) && true) then
    some (T.tup [T.nils, T.int IntKind.i64 (5 : Int)])
    else
    none
    else
    none) from by kernel_rfl)]
  have hy : 1 ≤ y ∧ y ≤ 6 := by simpa [valid] using hv
  simp [hy, resO, needsV, makesV, badF, fullF, outF, List.replicate]
theorem r10_500 (y : Int) (n : Nat) (x : Nat → Int) (c : Option Nat) (hv : valid 5 y 0 0 false = true) (hn : Nat.ble n 9223372036854775807 = true) :
    stepLC P12 G12 A12 Kv 10 10 [(6, spec10L)] [stT 5 y 0 0 false, .view 1 n (fun j => [.int .i64 (x j)]) c] = resO 5 0 0 n x (some 1) := by
  rw [(show stepLC P12 G12 A12 Kv 10 10 [(6, spec10L)] [stT 5 y 0 0 false, .view 1 n (fun j => [.int .i64 (x j)]) c] =
(    bif decide ((1 : Int) ≤ y) && (decide (y ≤ (6 : Int)) && true) then
    bif decide ((1 : Int) ≤ y) && (decide (y ≤ (6 : Int)) && true) then
    bif !decide (Int.ofNat n = (2 : Int)) then
    some (T.tup [T.nils, T.int IntKind.i64 (5 : Int)])
    else
    bif gs10F (0 : Int) (Int.ofNat n) n fun j => [T.int IntKind.i64 (x j)] then
    bif badF n fun j => x j then
    some (T.tup [T.nils, T.int IntKind.i64 (1 : Int)])
    else
    bif decide ((1 : Int) ≤ y) && (decide (y ≤ (6 : Int)) && true) then
    bif true && decide ((0 : Int) < Int.ofNat n) then
    bif true && decide ((1 : Int) < Int.ofNat n) then
    bif decide ((4 : Int) < IntKind.i64.wrap (x (0 : Nat) + x (1 : Nat))) then
    some (T.tup [T.nils, T.int IntKind.i64 (9 : Int)])
    else
    some (T.tup
      [T.fresh true (1 : Nat) (1 : Nat) (fun j => [[T.int IntKind.i64 (1 : Int)]].getD j []) (1 : Nat) (some (1 : Nat)),
        T.int IntKind.i64 (0 : Int)])
    else
    none
    else
    none
    else
    none
    else
    none
    else
    none
    else
    none) from by kernel_rfl)]
  have hy : 1 ≤ y ∧ y ≤ 6 := by simpa [valid] using hv
  rw [gs_lit x hn]
  by_cases hl : n = 2
  · subst hl
    cases hb : badF 2 x with
    | true => simp [resO, hb, hy, needsV]
    | false =>
      have hr := bad_iff.1 hb
      have h0 := hr 0 (by omega)
      have h1 := hr 1 (by omega)
      rw [wr64 (x := x 0 + x 1) (by omega) (by omega)]
      by_cases hf : 4 < x 0 + x 1 <;> simp [resO, hb, hy, needsV, makesV, fullF, outF, hf, List.replicate]
  · have hl' : ¬ ((n : Int) = 2) := by omega
    simp [resO, hl', hl, hy, needsV]
theorem q10_500 (y : Int) (hv : valid 5 y 0 0 false = true) : stepC P12 G12 A12 Kv 10 10 [stT 5 y 0 0 false, .nils] = some (.tup [.nils, .int .i64 5]) := by
  rw [(show stepC P12 G12 A12 Kv 10 10 [stT 5 y 0 0 false, .nils] =
(    bif decide ((1 : Int) ≤ y) && (decide (y ≤ (6 : Int)) && true) then
    bif decide ((1 : Int) ≤ y) && (decide (y ≤ (6 : Int)) && true) then
    some (T.tup [T.nils, T.int IntKind.i64 (5 : Int)])
    else
    none
    else
    none) from by kernel_rfl)]
  have hy : 1 ≤ y ∧ y ≤ 6 := by simpa [valid] using hv
  simp [hy, resO, needsV, makesV, badF, fullF, outF, List.replicate]
theorem r11_500 (y : Int) (n : Nat) (x : Nat → Int) (c : Option Nat) (hv : valid 5 y 0 0 false = true) (hn : Nat.ble n 9223372036854775807 = true) :
    stepLC P12 G12 A12 Kv 10 11 [(6, spec11L)] [stT 5 y 0 0 false, .view 1 n (fun j => [.int .i64 (x j)]) c] = resO 5 0 0 n x (some 1) := by
  rw [(show stepLC P12 G12 A12 Kv 10 11 [(6, spec11L)] [stT 5 y 0 0 false, .view 1 n (fun j => [.int .i64 (x j)]) c] =
(    bif decide ((1 : Int) ≤ y) && (decide (y ≤ (6 : Int)) && true) then
    bif decide ((1 : Int) ≤ y) && (decide (y ≤ (6 : Int)) && true) then
    bif !decide (Int.ofNat n = (2 : Int)) then
    some (T.tup [T.nils, T.int IntKind.i64 (5 : Int)])
    else
    bif gs10F (0 : Int) (Int.ofNat n) n fun j => [T.int IntKind.i64 (x j)] then
    bif badF n fun j => x j then
    some (T.tup [T.nils, T.int IntKind.i64 (1 : Int)])
    else
    bif true && decide ((0 : Int) < Int.ofNat n) then
    bif true && decide ((1 : Int) < Int.ofNat n) then
    bif decide ((4 : Int) < IntKind.i64.wrap (x (0 : Nat) + x (1 : Nat))) then
    some (T.tup [T.nils, T.int IntKind.i64 (9 : Int)])
    else
    some (T.tup
      [T.fresh true (1 : Nat) (1 : Nat) (fun j => [[T.int IntKind.i64 (1 : Int)]].getD j []) (1 : Nat) (some (1 : Nat)),
        T.int IntKind.i64 (0 : Int)])
    else
    none
    else
    none
    else
    none
    else
    none
    else
    none) from by kernel_rfl)]
  have hy : 1 ≤ y ∧ y ≤ 6 := by simpa [valid] using hv
  rw [gs_lit x hn]
  by_cases hl : n = 2
  · subst hl
    cases hb : badF 2 x with
    | true => simp [resO, hb, hy, needsV]
    | false =>
      have hr := bad_iff.1 hb
      have h0 := hr 0 (by omega)
      have h1 := hr 1 (by omega)
      rw [wr64 (x := x 0 + x 1) (by omega) (by omega)]
      by_cases hf : 4 < x 0 + x 1 <;> simp [resO, hb, hy, needsV, makesV, fullF, outF, hf, List.replicate]
  · have hl' : ¬ ((n : Int) = 2) := by omega
    simp [resO, hl', hl, hy, needsV]
theorem q11_500 (y : Int) (hv : valid 5 y 0 0 false = true) : stepC P12 G12 A12 Kv 10 11 [stT 5 y 0 0 false, .nils] = some (.tup [.nils, .int .i64 5]) := by
  rw [(show stepC P12 G12 A12 Kv 10 11 [stT 5 y 0 0 false, .nils] =
(    bif decide ((1 : Int) ≤ y) && (decide (y ≤ (6 : Int)) && true) then
    bif decide ((1 : Int) ≤ y) && (decide (y ≤ (6 : Int)) && true) then
    some (T.tup [T.nils, T.int IntKind.i64 (5 : Int)])
    else
    none
    else
    none) from by kernel_rfl)]
  have hy : 1 ≤ y ∧ y ≤ 6 := by simpa [valid] using hv
  simp [hy, resO, needsV, makesV, badF, fullF, outF, List.replicate]
theorem r10_600 (y : Int) (n : Nat) (x : Nat → Int) (c : Option Nat) (hv : valid 6 y 0 0 false = true) (hn : Nat.ble n 9223372036854775807 = true) :
    stepLC P12 G12 A12 Kv 10 10 [(6, spec10L)] [stT 6 y 0 0 false, .view 1 n (fun j => [.int .i64 (x j)]) c] = resO 6 0 0 n x (some 1) := by
  rw [(show stepLC P12 G12 A12 Kv 10 10 [(6, spec10L)] [stT 6 y 0 0 false, .view 1 n (fun j => [.int .i64 (x j)]) c] =
(    bif decide ((1 : Int) ≤ y) && (decide (y ≤ (6 : Int)) && true) then
    bif decide ((1 : Int) ≤ y) && (decide (y ≤ (6 : Int)) && true) then
    bif !decide (Int.ofNat n = (1 : Int)) then
    some (T.tup [T.nils, T.int IntKind.i64 (5 : Int)])
    else
    bif gs10F (0 : Int) (Int.ofNat n) n fun j => [T.int IntKind.i64 (x j)] then
    bif badF n fun j => x j then
    some (T.tup [T.nils, T.int IntKind.i64 (1 : Int)])
    else
    bif decide ((1 : Int) ≤ y) && (decide (y ≤ (6 : Int)) && true) then
    bif true && decide ((0 : Int) < Int.ofNat n) then
    bif decide (x (0 : Nat) = (3 : Int)) then
    some (T.tup [T.nils, T.int IntKind.i64 (9 : Int)])
    else
    bif true && decide ((0 : Int) < Int.ofNat n) then
    some (T.tup
      [T.fresh true (1 : Nat) (1 : Nat)
          (fun j => [[T.int IntKind.i64 (IntKind.i64.wrap (x (0 : Nat) + (1 : Int)))]].getD j []) (1 : Nat)
          (some (1 : Nat)),
        T.int IntKind.i64 (0 : Int)])
    else
    none
    else
    none
    else
    none
    else
    none
    else
    none
    else
    none) from by kernel_rfl)]
  have hy : 1 ≤ y ∧ y ≤ 6 := by simpa [valid] using hv
  rw [gs_lit x hn]
  by_cases hl : n = 1
  · subst hl
    cases hb : badF 1 x with
    | true => simp [resO, hb, hy, needsV]
    | false =>
      have hr := bad_iff.1 hb
      have h0 := hr 0 (by omega)
      rw [wr64 (x := x 0 + 1) (by omega) (by omega)]
      by_cases hf : x 0 = 3 <;> simp [resO, hb, hy, needsV, makesV, fullF, outF, hf, List.replicate]
  · have hl' : ¬ ((n : Int) = 1) := by omega
    simp [resO, hl', hl, hy, needsV]
theorem q10_600 (y : Int) (hv : valid 6 y 0 0 false = true) : stepC P12 G12 A12 Kv 10 10 [stT 6 y 0 0 false, .nils] = some (.tup [.nils, .int .i64 5]) := by
  rw [(show stepC P12 G12 A12 Kv 10 10 [stT 6 y 0 0 false, .nils] =
(    bif decide ((1 : Int) ≤ y) && (decide (y ≤ (6 : Int)) && true) then
    bif decide ((1 : Int) ≤ y) && (decide (y ≤ (6 : Int)) && true) then
    some (T.tup [T.nils, T.int IntKind.i64 (5 : Int)])
    else
    none
    else
    none) from by kernel_rfl)]
  have hy : 1 ≤ y ∧ y ≤ 6 := by simpa [valid] using hv
  simp [hy, resO, needsV, makesV, badF, fullF, outF, List.replicate]
theorem r11_600 (y : Int) (n : Nat) (x : Nat → Int) (c : Option Nat) (hv : valid 6 y 0 0 false = true) (hn : Nat.ble n 9223372036854775807 = true) :
    stepLC P12 G12 A12 Kv 10 11 [(6, spec11L)] [stT 6 y 0 0 false, .view 1 n (fun j => [.int .i64 (x j)]) c] = resO 6 0 0 n x (some 1) := by
  rw [(show stepLC P12 G12 A12 Kv 10 11 [(6, spec11L)] [stT 6 y 0 0 false, .view 1 n (fun j => [.int .i64 (x j)]) c] =
(    bif decide ((1 : Int) ≤ y) && (decide (y ≤ (6 : Int)) && true) then
    bif decide ((1 : Int) ≤ y) && (decide (y ≤ (6 : Int)) && true) then
    bif !decide (Int.ofNat n = (1 : Int)) then
    some (T.tup [T.nils, T.int IntKind.i64 (5 : Int)])
    else
    bif gs10F (0 : Int) (Int.ofNat n) n fun j => [T.int IntKind.i64 (x j)] then
    bif badF n fun j => x j then
    some (T.tup [T.nils, T.int IntKind.i64 (1 : Int)])
    else
    bif true && decide ((0 : Int) < Int.ofNat n) then
    bif decide (x (0 : Nat) = (3 : Int)) then
    some (T.tup [T.nils, T.int IntKind.i64 (9 : Int)])
    else
    bif true && decide ((0 : Int) < Int.ofNat n) then
    some (T.tup
      [T.fresh true (1 : Nat) (1 : Nat)
          (fun j => [[T.int IntKind.i64 (IntKind.i64.wrap (x (0 : Nat) + (1 : Int)))]].getD j []) (1 : Nat)
          (some (1 : Nat)),
        T.int IntKind.i64 (0 : Int)])
    else
    none
    else
    none
    else
    none
    else
    none
    else
    none) from by kernel_rfl)]
  have hy : 1 ≤ y ∧ y ≤ 6 := by simpa [valid] using hv
  rw [gs_lit x hn]
  by_cases hl : n = 1
  · subst hl
    cases hb : badF 1 x with
    | true => simp [resO, hb, hy, needsV]
    | false =>
      have hr := bad_iff.1 hb
      have h0 := hr 0 (by omega)
      rw [wr64 (x := x 0 + 1) (by omega) (by omega)]
      by_cases hf : x 0 = 3 <;> simp [resO, hb, hy, needsV, makesV, fullF, outF, hf, List.replicate]
  · have hl' : ¬ ((n : Int) = 1) := by omega
    simp [resO, hl', hl, hy, needsV]
theorem q11_600 (y : Int) (hv : valid 6 y 0 0 false = true) : stepC P12 G12 A12 Kv 10 11 [stT 6 y 0 0 false, .nils] = some (.tup [.nils, .int .i64 5]) := by
  rw [(show stepC P12 G12 A12 Kv 10 11 [stT 6 y 0 0 false, .nils] =
(    bif decide ((1 : Int) ≤ y) && (decide (y ≤ (6 : Int)) && true) then
    bif decide ((1 : Int) ≤ y) && (decide (y ≤ (6 : Int)) && true) then
    some (T.tup [T.nils, T.int IntKind.i64 (5 : Int)])
    else
    none
    else
    none) from by kernel_rfl)]
  have hy : 1 ≤ y ∧ y ≤ 6 := by simpa [valid] using hv
  simp [hy, resO, needsV, makesV, badF, fullF, outF, List.replicate]
theorem r10_700 (y : Int) (n : Nat) (x : Nat → Int) (c : Option Nat) (hv : valid 7 y 0 0 false = true) (hn : Nat.ble n 9223372036854775807 = true) :
    stepLC P12 G12 A12 Kv 10 10 [(6, spec10L)] [stT 7 y 0 0 false, .view 1 n (fun j => [.int .i64 (x j)]) c] = resO 7 0 0 n x (some 1) := by
  rw [(show stepLC P12 G12 A12 Kv 10 10 [(6, spec10L)] [stT 7 y 0 0 false, .view 1 n (fun j => [.int .i64 (x j)]) c] =
(    bif decide ((1 : Int) ≤ y) && (decide (y ≤ (6 : Int)) && true) then
    bif decide ((1 : Int) ≤ y) && (decide (y ≤ (6 : Int)) && true) then
    bif !decide (Int.ofNat n = (1 : Int)) then
    some (T.tup [T.nils, T.int IntKind.i64 (5 : Int)])
    else
    bif gs10F (0 : Int) (Int.ofNat n) n fun j => [T.int IntKind.i64 (x j)] then
    bif badF n fun j => x j then
    some (T.tup [T.nils, T.int IntKind.i64 (1 : Int)])
    else
    bif decide ((1 : Int) ≤ y) && (decide (y ≤ (6 : Int)) && true) then
    bif true && decide ((0 : Int) < Int.ofNat n) then
    some (T.tup
      [T.fresh true (1 : Nat) (1 : Nat) (fun j => [[T.int IntKind.i64 (x (0 : Nat))]].getD j []) (1 : Nat) (some (1 : Nat)),
        T.int IntKind.i64 (0 : Int)])
    else
    none
    else
    none
    else
    none
    else
    none
    else
    none) from by kernel_rfl)]
  have hy : 1 ≤ y ∧ y ≤ 6 := by simpa [valid] using hv
  rw [gs_lit x hn]
  by_cases hl : n = 1
  · subst hl
    cases hb : badF 1 x with
    | true => simp [resO, hb, hy, needsV]
    | false =>
      simp [resO, hb, hy, needsV, makesV, fullF, outF, List.replicate]
  · have hl' : ¬ ((n : Int) = 1) := by omega
    simp [resO, hl', hl, hy, needsV]
theorem q10_700 (y : Int) (hv : valid 7 y 0 0 false = true) : stepC P12 G12 A12 Kv 10 10 [stT 7 y 0 0 false, .nils] = some (.tup [.nils, .int .i64 5]) := by
  rw [(show stepC P12 G12 A12 Kv 10 10 [stT 7 y 0 0 false, .nils] =
(    bif decide ((1 : Int) ≤ y) && (decide (y ≤ (6 : Int)) && true) then
    bif decide ((1 : Int) ≤ y) && (decide (y ≤ (6 : Int)) && true) then
    some (T.tup [T.nils, T.int IntKind.i64 (5 : Int)])
    else
    none
    else
    none) from by kernel_rfl)]
  have hy : 1 ≤ y ∧ y ≤ 6 := by simpa [valid] using hv
  simp [hy, resO, needsV, makesV, badF, fullF, outF, List.replicate]
theorem r11_700 (y : Int) (n : Nat) (x : Nat → Int) (c : Option Nat) (hv : valid 7 y 0 0 false = true) (hn : Nat.ble n 9223372036854775807 = true) :
    stepLC P12 G12 A12 Kv 10 11 [(6, spec11L)] [stT 7 y 0 0 false, .view 1 n (fun j => [.int .i64 (x j)]) c] = resO 7 0 0 n x (some 1) := by
  rw [(show stepLC P12 G12 A12 Kv 10 11 [(6, spec11L)] [stT 7 y 0 0 false, .view 1 n (fun j => [.int .i64 (x j)]) c] =
(    bif decide ((1 : Int) ≤ y) && (decide (y ≤ (6 : Int)) && true) then
    bif decide ((1 : Int) ≤ y) && (decide (y ≤ (6 : Int)) && true) then
    bif !decide (Int.ofNat n = (1 : Int)) then
    some (T.tup [T.nils, T.int IntKind.i64 (5 : Int)])
    else
    bif gs10F (0 : Int) (Int.ofNat n) n fun j => [T.int IntKind.i64 (x j)] then
    bif badF n fun j => x j then
    some (T.tup [T.nils, T.int IntKind.i64 (1 : Int)])
    else
    bif true && decide ((0 : Int) < Int.ofNat n) then
    some (T.tup
      [T.fresh true (1 : Nat) (1 : Nat) (fun j => [[T.int IntKind.i64 (x (0 : Nat))]].getD j []) (1 : Nat) (some (1 : Nat)),
        T.int IntKind.i64 (0 : Int)])
    else
    none
    else
    none
    else
    none
    else
    none) from by kernel_rfl)]
  have hy : 1 ≤ y ∧ y ≤ 6 := by simpa [valid] using hv
  rw [gs_lit x hn]
  by_cases hl : n = 1
  · subst hl
    cases hb : badF 1 x with
    | true => simp [resO, hb, hy, needsV]
    | false =>
      simp [resO, hb, hy, needsV, makesV, fullF, outF, List.replicate]
  · have hl' : ¬ ((n : Int) = 1) := by omega
    simp [resO, hl', hl, hy, needsV]
theorem q11_700 (y : Int) (hv : valid 7 y 0 0 false = true) : stepC P12 G12 A12 Kv 10 11 [stT 7 y 0 0 false, .nils] = some (.tup [.nils, .int .i64 5]) := by
  rw [(show stepC P12 G12 A12 Kv 10 11 [stT 7 y 0 0 false, .nils] =
(    bif decide ((1 : Int) ≤ y) && (decide (y ≤ (6 : Int)) && true) then
    bif decide ((1 : Int) ≤ y) && (decide (y ≤ (6 : Int)) && true) then
    some (T.tup [T.nils, T.int IntKind.i64 (5 : Int)])
    else
    none
    else
    none) from by kernel_rfl)]
  have hy : 1 ≤ y ∧ y ≤ 6 := by simpa [valid] using hv
  simp [hy, resO, needsV, makesV, badF, fullF, outF, List.replicate]
theorem r10_811 (y : Int) (f : Bool) (n : Nat) (x : Nat → Int) (c : Option Nat) (hv : valid 8 y 1 1 f = true) (hn : Nat.ble n 9223372036854775807 = true) :
    stepLC P12 G12 A12 Kv 10 10 [(6, spec10L)] [stT 8 y 1 1 f, .view 1 n (fun j => [.int .i64 (x j)]) c] = resO 8 1 1 n x (some 2) := by
  rw [(show stepLC P12 G12 A12 Kv 10 10 [(6, spec10L)] [stT 8 y 1 1 f, .view 1 n (fun j => [.int .i64 (x j)]) c] =
(    bif decide ((1 : Int) ≤ y) && (decide (y ≤ (6 : Int)) && true) then
    bif decide ((1 : Int) ≤ y) && (decide (y ≤ (6 : Int)) && true) then
    bif !decide (Int.ofNat n = (2 : Int)) then
    some (T.tup [T.nils, T.int IntKind.i64 (5 : Int)])
    else
    bif gs10F (0 : Int) (Int.ofNat n) n fun j => [T.int IntKind.i64 (x j)] then
    bif badF n fun j => x j then
    some (T.tup [T.nils, T.int IntKind.i64 (1 : Int)])
    else
    bif decide ((1 : Int) ≤ y) && (decide (y ≤ (6 : Int)) && true) then
    some (T.tup
      [T.fresh true (1 : Nat) (2 : Nat) (fun j => [[T.int IntKind.i64 (1 : Int)], [T.int IntKind.i64 (1 : Int)]].getD j [])
          (2 : Nat) (some (2 : Nat)),
        T.int IntKind.i64 (0 : Int)])
    else
    none
    else
    none
    else
    none
    else
    none) from by kernel_rfl)]
  have hy : 1 ≤ y ∧ y ≤ 6 := by simpa [valid] using hv
  rw [gs_lit x hn]
  by_cases hl : n = 2
  · subst hl
    cases hb : badF 2 x with
    | true => simp [resO, hb, hy, needsV]
    | false =>
      simp [resO, hb, hy, needsV, makesV, fullF, outF, List.replicate]
  · have hl' : ¬ ((n : Int) = 2) := by omega
    simp [resO, hl', hl, hy, needsV]
theorem q10_811 (y : Int) (f : Bool) (hv : valid 8 y 1 1 f = true) : stepC P12 G12 A12 Kv 10 10 [stT 8 y 1 1 f, .nils] = some (.tup [.nils, .int .i64 5]) := by
  rw [(show stepC P12 G12 A12 Kv 10 10 [stT 8 y 1 1 f, .nils] =
(    bif decide ((1 : Int) ≤ y) && (decide (y ≤ (6 : Int)) && true) then
    bif decide ((1 : Int) ≤ y) && (decide (y ≤ (6 : Int)) && true) then
    some (T.tup [T.nils, T.int IntKind.i64 (5 : Int)])
    else
    none
    else
    none) from by kernel_rfl)]
  have hy : 1 ≤ y ∧ y ≤ 6 := by simpa [valid] using hv
  simp [hy, resO, needsV, makesV, badF, fullF, outF, List.replicate]
theorem r11_811 (y : Int) (f : Bool) (n : Nat) (x : Nat → Int) (c : Option Nat) (hv : valid 8 y 1 1 f = true) (hn : Nat.ble n 9223372036854775807 = true) :
    stepLC P12 G12 A12 Kv 10 11 [(6, spec11L)] [stT 8 y 1 1 f, .view 1 n (fun j => [.int .i64 (x j)]) c] = resO 8 1 1 n x none := by
  rw [(show stepLC P12 G12 A12 Kv 10 11 [(6, spec11L)] [stT 8 y 1 1 f, .view 1 n (fun j => [.int .i64 (x j)]) c] =
(    bif decide ((1 : Int) ≤ y) && (decide (y ≤ (6 : Int)) && true) then
    bif decide ((1 : Int) ≤ y) && (decide (y ≤ (6 : Int)) && true) then
    bif !decide (Int.ofNat n = (2 : Int)) then
    some (T.tup [T.nils, T.int IntKind.i64 (5 : Int)])
    else
    bif gs10F (0 : Int) (Int.ofNat n) n fun j => [T.int IntKind.i64 (x j)] then
    bif badF n fun j => x j then
    some (T.tup [T.nils, T.int IntKind.i64 (1 : Int)])
    else
    bif decide ((1 : Int) ≤ y) && (decide (y ≤ (6 : Int)) && true) then
    bif decide ((1 : Int) ≤ y) && (decide (y ≤ (6 : Int)) && true) then
    bif decide ((1 : Int) ≤ y) && (decide (y ≤ (6 : Int)) && true) then
    some (T.tup
      [T.fresh true (1 : Nat) (2 : Nat) (fun j => [[T.int IntKind.i64 (1 : Int)], [T.int IntKind.i64 (1 : Int)]].getD j [])
          (2 : Nat) none,
        T.int IntKind.i64 (0 : Int)])
    else
    none
    else
    none
    else
    none
    else
    none
    else
    none
    else
    none) from by kernel_rfl)]
  have hy : 1 ≤ y ∧ y ≤ 6 := by simpa [valid] using hv
  rw [gs_lit x hn]
  by_cases hl : n = 2
  · subst hl
    cases hb : badF 2 x with
    | true => simp [resO, hb, hy, needsV]
    | false =>
      simp [resO, hb, hy, needsV, makesV, fullF, outF, List.replicate]
  · have hl' : ¬ ((n : Int) = 2) := by omega
    simp [resO, hl', hl, hy, needsV]
theorem q11_811 (y : Int) (f : Bool) (hv : valid 8 y 1 1 f = true) : stepC P12 G12 A12 Kv 10 11 [stT 8 y 1 1 f, .nils] = some (.tup [.nils, .int .i64 5]) := by
  rw [(show stepC P12 G12 A12 Kv 10 11 [stT 8 y 1 1 f, .nils] =
(    bif decide ((1 : Int) ≤ y) && (decide (y ≤ (6 : Int)) && true) then
    bif decide ((1 : Int) ≤ y) && (decide (y ≤ (6 : Int)) && true) then
    some (T.tup [T.nils, T.int IntKind.i64 (5 : Int)])
    else
    none
    else
    none) from by kernel_rfl)]
  have hy : 1 ≤ y ∧ y ≤ 6 := by simpa [valid] using hv
  simp [hy, resO, needsV, makesV, badF, fullF, outF, List.replicate]
theorem r10_812 (y : Int) (f : Bool) (n : Nat) (x : Nat → Int) (c : Option Nat) (hv : valid 8 y 1 2 f = true) (hn : Nat.ble n 9223372036854775807 = true) :
    stepLC P12 G12 A12 Kv 10 10 [(6, spec10L)] [stT 8 y 1 2 f, .view 1 n (fun j => [.int .i64 (x j)]) c] = resO 8 1 2 n x (some 3) := by
  rw [(show stepLC P12 G12 A12 Kv 10 10 [(6, spec10L)] [stT 8 y 1 2 f, .view 1 n (fun j => [.int .i64 (x j)]) c] =
(    bif decide ((1 : Int) ≤ y) && (decide (y ≤ (6 : Int)) && true) then
    bif decide ((1 : Int) ≤ y) && (decide (y ≤ (6 : Int)) && true) then
    bif !decide (Int.ofNat n = (3 : Int)) then
    some (T.tup [T.nils, T.int IntKind.i64 (5 : Int)])
    else
    bif gs10F (0 : Int) (Int.ofNat n) n fun j => [T.int IntKind.i64 (x j)] then
    bif badF n fun j => x j then
    some (T.tup [T.nils, T.int IntKind.i64 (1 : Int)])
    else
    bif decide ((1 : Int) ≤ y) && (decide (y ≤ (6 : Int)) && true) then
    some (T.tup
      [T.fresh true (1 : Nat) (3 : Nat)
          (fun j => [[T.int IntKind.i64 (1 : Int)], [T.int IntKind.i64 (1 : Int)], [T.int IntKind.i64 (1 : Int)]].getD j [])
          (3 : Nat) (some (3 : Nat)),
        T.int IntKind.i64 (0 : Int)])
    else
    none
    else
    none
    else
    none
    else
    none) from by kernel_rfl)]
  have hy : 1 ≤ y ∧ y ≤ 6 := by simpa [valid] using hv
  rw [gs_lit x hn]
  by_cases hl : n = 3
  · subst hl
    cases hb : badF 3 x with
    | true => simp [resO, hb, hy, needsV]
    | false =>
      simp [resO, hb, hy, needsV, makesV, fullF, outF, List.replicate]
  · have hl' : ¬ ((n : Int) = 3) := by omega
    simp [resO, hl', hl, hy, needsV]
theorem q10_812 (y : Int) (f : Bool) (hv : valid 8 y 1 2 f = true) : stepC P12 G12 A12 Kv 10 10 [stT 8 y 1 2 f, .nils] = some (.tup [.nils, .int .i64 5]) := by
  rw [(show stepC P12 G12 A12 Kv 10 10 [stT 8 y 1 2 f, .nils] =
(    bif decide ((1 : Int) ≤ y) && (decide (y ≤ (6 : Int)) && true) then
    bif decide ((1 : Int) ≤ y) && (decide (y ≤ (6 : Int)) && true) then
    some (T.tup [T.nils, T.int IntKind.i64 (5 : Int)])
    else
    none
    else
    none) from by kernel_rfl)]
  have hy : 1 ≤ y ∧ y ≤ 6 := by simpa [valid] using hv
  simp [hy, resO, needsV, makesV, badF, fullF, outF, List.replicate]
theorem r11_812 (y : Int) (f : Bool) (n : Nat) (x : Nat → Int) (c : Option Nat) (hv : valid 8 y 1 2 f = true) (hn : Nat.ble n 9223372036854775807 = true) :
    stepLC P12 G12 A12 Kv 10 11 [(6, spec11L)] [stT 8 y 1 2 f, .view 1 n (fun j => [.int .i64 (x j)]) c] = resO 8 1 2 n x none := by
  rw [(show stepLC P12 G12 A12 Kv 10 11 [(6, spec11L)] [stT 8 y 1 2 f, .view 1 n (fun j => [.int .i64 (x j)]) c] =
(    bif decide ((1 : Int) ≤ y) && (decide (y ≤ (6 : Int)) && true) then
    bif decide ((1 : Int) ≤ y) && (decide (y ≤ (6 : Int)) && true) then
    bif !decide (Int.ofNat n = (3 : Int)) then
    some (T.tup [T.nils, T.int IntKind.i64 (5 : Int)])
    else
    bif gs10F (0 : Int) (Int.ofNat n) n fun j => [T.int IntKind.i64 (x j)] then
    bif badF n fun j => x j then
    some (T.tup [T.nils, T.int IntKind.i64 (1 : Int)])
    else
    bif decide ((1 : Int) ≤ y) && (decide (y ≤ (6 : Int)) && true) then
    bif decide ((1 : Int) ≤ y) && (decide (y ≤ (6 : Int)) && true) then
    bif decide ((1 : Int) ≤ y) && (decide (y ≤ (6 : Int)) && true) then
    bif decide ((1 : Int) ≤ y) && (decide (y ≤ (6 : Int)) && true) then
    some (T.tup
      [T.fresh true (1 : Nat) (3 : Nat)
          (fun j => [[T.int IntKind.i64 (1 : Int)], [T.int IntKind.i64 (1 : Int)], [T.int IntKind.i64 (1 : Int)]].getD j [])
          (3 : Nat) none,
        T.int IntKind.i64 (0 : Int)])
    else
    none
    else
    none
    else
    none
    else
    none
    else
    none
    else
    none
    else
    none) from by kernel_rfl)]
  have hy : 1 ≤ y ∧ y ≤ 6 := by simpa [valid] using hv
  rw [gs_lit x hn]
  by_cases hl : n = 3
  · subst hl
    cases hb : badF 3 x with
    | true => simp [resO, hb, hy, needsV]
    | false =>
      simp [resO, hb, hy, needsV, makesV, fullF, outF, List.replicate]
  · have hl' : ¬ ((n : Int) = 3) := by omega
    simp [resO, hl', hl, hy, needsV]
theorem q11_812 (y : Int) (f : Bool) (hv : valid 8 y 1 2 f = true) : stepC P12 G12 A12 Kv 10 11 [stT 8 y 1 2 f, .nils] = some (.tup [.nils, .int .i64 5]) := by
  rw [(show stepC P12 G12 A12 Kv 10 11 [stT 8 y 1 2 f, .nils] =
(    bif decide ((1 : Int) ≤ y) && (decide (y ≤ (6 : Int)) && true) then
    bif decide ((1 : Int) ≤ y) && (decide (y ≤ (6 : Int)) && true) then
    some (T.tup [T.nils, T.int IntKind.i64 (5 : Int)])
    else
    none
    else
    none) from by kernel_rfl)]
  have hy : 1 ≤ y ∧ y ≤ 6 := by simpa [valid] using hv
  simp [hy, resO, needsV, makesV, badF, fullF, outF, List.replicate]
theorem r10_821 (y : Int) (f : Bool) (n : Nat) (x : Nat → Int) (c : Option Nat) (hv : valid 8 y 2 1 f = true) (hn : Nat.ble n 9223372036854775807 = true) :
    stepLC P12 G12 A12 Kv 10 10 [(6, spec10L)] [stT 8 y 2 1 f, .view 1 n (fun j => [.int .i64 (x j)]) c] = resO 8 2 1 n x (some 3) := by
  rw [(show stepLC P12 G12 A12 Kv 10 10 [(6, spec10L)] [stT 8 y 2 1 f, .view 1 n (fun j => [.int .i64 (x j)]) c] =
(    bif decide ((1 : Int) ≤ y) && (decide (y ≤ (6 : Int)) && true) then
    bif decide ((1 : Int) ≤ y) && (decide (y ≤ (6 : Int)) && true) then
    bif !decide (Int.ofNat n = (3 : Int)) then
    some (T.tup [T.nils, T.int IntKind.i64 (5 : Int)])
    else
    bif gs10F (0 : Int) (Int.ofNat n) n fun j => [T.int IntKind.i64 (x j)] then
    bif badF n fun j => x j then
    some (T.tup [T.nils, T.int IntKind.i64 (1 : Int)])
    else
    bif decide ((1 : Int) ≤ y) && (decide (y ≤ (6 : Int)) && true) then
    some (T.tup
      [T.fresh true (1 : Nat) (3 : Nat)
          (fun j => [[T.int IntKind.i64 (1 : Int)], [T.int IntKind.i64 (1 : Int)], [T.int IntKind.i64 (1 : Int)]].getD j [])
          (3 : Nat) (some (3 : Nat)),
        T.int IntKind.i64 (0 : Int)])
    else
    none
    else
    none
    else
    none
    else
    none) from by kernel_rfl)]
  have hy : 1 ≤ y ∧ y ≤ 6 := by simpa [valid] using hv
  rw [gs_lit x hn]
  by_cases hl : n = 3
  · subst hl
    cases hb : badF 3 x with
    | true => simp [resO, hb, hy, needsV]
    | false =>
      simp [resO, hb, hy, needsV, makesV, fullF, outF, List.replicate]
  · have hl' : ¬ ((n : Int) = 3) := by omega
    simp [resO, hl', hl, hy, needsV]
theorem q10_821 (y : Int) (f : Bool) (hv : valid 8 y 2 1 f = true) : stepC P12 G12 A12 Kv 10 10 [stT 8 y 2 1 f, .nils] = some (.tup [.nils, .int .i64 5]) := by
  rw [(show stepC P12 G12 A12 Kv 10 10 [stT 8 y 2 1 f, .nils] =
(    bif decide ((1 : Int) ≤ y) && (decide (y ≤ (6 : Int)) && true) then
    bif decide ((1 : Int) ≤ y) && (decide (y ≤ (6 : Int)) && true) then
    some (T.tup [T.nils, T.int IntKind.i64 (5 : Int)])
    else
    none
    else
    none) from by kernel_rfl)]
  have hy : 1 ≤ y ∧ y ≤ 6 := by simpa [valid] using hv
  simp [hy, resO, needsV, makesV, badF, fullF, outF, List.replicate]
theorem r11_821 (y : Int) (f : Bool) (n : Nat) (x : Nat → Int) (c : Option Nat) (hv : valid 8 y 2 1 f = true) (hn : Nat.ble n 9223372036854775807 = true) :
    stepLC P12 G12 A12 Kv 10 11 [(6, spec11L)] [stT 8 y 2 1 f, .view 1 n (fun j => [.int .i64 (x j)]) c] = resO 8 2 1 n x none := by
  rw [(show stepLC P12 G12 A12 Kv 10 11 [(6, spec11L)] [stT 8 y 2 1 f, .view 1 n (fun j => [.int .i64 (x j)]) c] =
(    bif decide ((1 : Int) ≤ y) && (decide (y ≤ (6 : Int)) && true) then
    bif decide ((1 : Int) ≤ y) && (decide (y ≤ (6 : Int)) && true) then
    bif !decide (Int.ofNat n = (3 : Int)) then
    some (T.tup [T.nils, T.int IntKind.i64 (5 : Int)])
    else
    bif gs10F (0 : Int) (Int.ofNat n) n fun j => [T.int IntKind.i64 (x j)] then
    bif badF n fun j => x j then
    some (T.tup [T.nils, T.int IntKind.i64 (1 : Int)])
    else
    bif decide ((1 : Int) ≤ y) && (decide (y ≤ (6 : Int)) && true) then
    bif decide ((1 : Int) ≤ y) && (decide (y ≤ (6 : Int)) && true) then
    bif decide ((1 : Int) ≤ y) && (decide (y ≤ (6 : Int)) && true) then
    bif decide ((1 : Int) ≤ y) && (decide (y ≤ (6 : Int)) && true) then
    some (T.tup
      [T.fresh true (1 : Nat) (3 : Nat)
          (fun j => [[T.int IntKind.i64 (1 : Int)], [T.int IntKind.i64 (1 : Int)], [T.int IntKind.i64 (1 : Int)]].getD j [])
          (3 : Nat) none,
        T.int IntKind.i64 (0 : Int)])
    else
    none
    else
    none
    else
    none
    else
    none
    else
    none
    else
    none
    else
    none) from by kernel_rfl)]
  have hy : 1 ≤ y ∧ y ≤ 6 := by simpa [valid] using hv
  rw [gs_lit x hn]
  by_cases hl : n = 3
  · subst hl
    cases hb : badF 3 x with
    | true => simp [resO, hb, hy, needsV]
    | false =>
      simp [resO, hb, hy, needsV, makesV, fullF, outF, List.replicate]
  · have hl' : ¬ ((n : Int) = 3) := by omega
    simp [resO, hl', hl, hy, needsV]
theorem q11_821 (y : Int) (f : Bool) (hv : valid 8 y 2 1 f = true) : stepC P12 G12 A12 Kv 10 11 [stT 8 y 2 1 f, .nils] = some (.tup [.nils, .int .i64 5]) := by
  rw [(show stepC P12 G12 A12 Kv 10 11 [stT 8 y 2 1 f, .nils] =
(    bif decide ((1 : Int) ≤ y) && (decide (y ≤ (6 : Int)) && true) then
    bif decide ((1 : Int) ≤ y) && (decide (y ≤ (6 : Int)) && true) then
    some (T.tup [T.nils, T.int IntKind.i64 (5 : Int)])
    else
    none
    else
    none) from by kernel_rfl)]
  have hy : 1 ≤ y ∧ y ≤ 6 := by simpa [valid] using hv
  simp [hy, resO, needsV, makesV, badF, fullF, outF, List.replicate]
theorem r10_822 (y : Int) (f : Bool) (n : Nat) (x : Nat → Int) (c : Option Nat) (hv : valid 8 y 2 2 f = true) (hn : Nat.ble n 9223372036854775807 = true) :
    stepLC P12 G12 A12 Kv 10 10 [(6, spec10L)] [stT 8 y 2 2 f, .view 1 n (fun j => [.int .i64 (x j)]) c] = resO 8 2 2 n x (some 4) := by
  rw [(show stepLC P12 G12 A12 Kv 10 10 [(6, spec10L)] [stT 8 y 2 2 f, .view 1 n (fun j => [.int .i64 (x j)]) c] =
(    bif decide ((1 : Int) ≤ y) && (decide (y ≤ (6 : Int)) && true) then
    bif decide ((1 : Int) ≤ y) && (decide (y ≤ (6 : Int)) && true) then
    bif !decide (Int.ofNat n = (4 : Int)) then
    some (T.tup [T.nils, T.int IntKind.i64 (5 : Int)])
    else
    bif gs10F (0 : Int) (Int.ofNat n) n fun j => [T.int IntKind.i64 (x j)] then
    bif badF n fun j => x j then
    some (T.tup [T.nils, T.int IntKind.i64 (1 : Int)])
    else
    bif decide ((1 : Int) ≤ y) && (decide (y ≤ (6 : Int)) && true) then
    some (T.tup
      [T.fresh true (1 : Nat) (4 : Nat)
          (fun j =>
            [[T.int IntKind.i64 (1 : Int)], [T.int IntKind.i64 (1 : Int)], [T.int IntKind.i64 (1 : Int)],
                  [T.int IntKind.i64 (1 : Int)]].getD
              j [])
          (4 : Nat) (some (4 : Nat)),
        T.int IntKind.i64 (0 : Int)])
    else
    none
    else
    none
    else
    none
    else
    none) from by kernel_rfl)]
  have hy : 1 ≤ y ∧ y ≤ 6 := by simpa [valid] using hv
  rw [gs_lit x hn]
  by_cases hl : n = 4
  · subst hl
    cases hb : badF 4 x with
    | true => simp [resO, hb, hy, needsV]
    | false =>
      simp [resO, hb, hy, needsV, makesV, fullF, outF, List.replicate]
  · have hl' : ¬ ((n : Int) = 4) := by omega
    simp [resO, hl', hl, hy, needsV]
theorem q10_822 (y : Int) (f : Bool) (hv : valid 8 y 2 2 f = true) : stepC P12 G12 A12 Kv 10 10 [stT 8 y 2 2 f, .nils] = some (.tup [.nils, .int .i64 5]) := by
  rw [(show stepC P12 G12 A12 Kv 10 10 [stT 8 y 2 2 f, .nils] =
(    bif decide ((1 : Int) ≤ y) && (decide (y ≤ (6 : Int)) && true) then
    bif decide ((1 : Int) ≤ y) && (decide (y ≤ (6 : Int)) && true) then
    some (T.tup [T.nils, T.int IntKind.i64 (5 : Int)])
    else
    none
    else
    none) from by kernel_rfl)]
  have hy : 1 ≤ y ∧ y ≤ 6 := by simpa [valid] using hv
  simp [hy, resO, needsV, makesV, badF, fullF, outF, List.replicate]
theorem r11_822 (y : Int) (f : Bool) (n : Nat) (x : Nat → Int) (c : Option Nat) (hv : valid 8 y 2 2 f = true) (hn : Nat.ble n 9223372036854775807 = true) :
    stepLC P12 G12 A12 Kv 10 11 [(6, spec11L)] [stT 8 y 2 2 f, .view 1 n (fun j => [.int .i64 (x j)]) c] = resO 8 2 2 n x none := by
  rw [(show stepLC P12 G12 A12 Kv 10 11 [(6, spec11L)] [stT 8 y 2 2 f, .view 1 n (fun j => [.int .i64 (x j)]) c] =
(    bif decide ((1 : Int) ≤ y) && (decide (y ≤ (6 : Int)) && true) then
    bif decide ((1 : Int) ≤ y) && (decide (y ≤ (6 : Int)) && true) then
    bif !decide (Int.ofNat n = (4 : Int)) then
    some (T.tup [T.nils, T.int IntKind.i64 (5 : Int)])
    else
    bif gs10F (0 : Int) (Int.ofNat n) n fun j => [T.int IntKind.i64 (x j)] then
    bif badF n fun j => x j then
    some (T.tup [T.nils, T.int IntKind.i64 (1 : Int)])
    else
    bif decide ((1 : Int) ≤ y) && (decide (y ≤ (6 : Int)) && true) then
    bif decide ((1 : Int) ≤ y) && (decide (y ≤ (6 : Int)) && true) then
    bif decide ((1 : Int) ≤ y) && (decide (y ≤ (6 : Int)) && true) then
    bif decide ((1 : Int) ≤ y) && (decide (y ≤ (6 : Int)) && true) then
    bif decide ((1 : Int) ≤ y) && (decide (y ≤ (6 : Int)) && true) then
    some (T.tup
      [T.fresh true (1 : Nat) (4 : Nat)
          (fun j =>
            [[T.int IntKind.i64 (1 : Int)], [T.int IntKind.i64 (1 : Int)], [T.int IntKind.i64 (1 : Int)],
                  [T.int IntKind.i64 (1 : Int)]].getD
              j [])
          (4 : Nat) none,
        T.int IntKind.i64 (0 : Int)])
    else
    none
    else
    none
    else
    none
    else
    none
    else
    none
    else
    none
    else
    none
    else
    none) from by kernel_rfl)]
  have hy : 1 ≤ y ∧ y ≤ 6 := by simpa [valid] using hv
  rw [gs_lit x hn]
  by_cases hl : n = 4
  · subst hl
    cases hb : badF 4 x with
    | true => simp [resO, hb, hy, needsV]
    | false =>
      simp [resO, hb, hy, needsV, makesV, fullF, outF, List.replicate]
  · have hl' : ¬ ((n : Int) = 4) := by omega
    simp [resO, hl', hl, hy, needsV]
theorem q11_822 (y : Int) (f : Bool) (hv : valid 8 y 2 2 f = true) : stepC P12 G12 A12 Kv 10 11 [stT 8 y 2 2 f, .nils] = some (.tup [.nils, .int .i64 5]) := by
  rw [(show stepC P12 G12 A12 Kv 10 11 [stT 8 y 2 2 f, .nils] =
(    bif decide ((1 : Int) ≤ y) && (decide (y ≤ (6 : Int)) && true) then
    bif decide ((1 : Int) ≤ y) && (decide (y ≤ (6 : Int)) && true) then
    some (T.tup [T.nils, T.int IntKind.i64 (5 : Int)])
    else
    none
    else
    none) from by kernel_rfl)]
  have hy : 1 ≤ y ∧ y ≤ 6 := by simpa [valid] using hv
  simp [hy, resO, needsV, makesV, badF, fullF, outF, List.replicate]
theorem r10_813 (y : Int) (f : Bool) (n : Nat) (x : Nat → Int) (c : Option Nat) (hv : valid 8 y 1 3 f = true) (hn : Nat.ble n 9223372036854775807 = true) :
    stepLC P12 G12 A12 Kv 10 10 [(6, spec10L)] [stT 8 y 1 3 f, .view 1 n (fun j => [.int .i64 (x j)]) c] = resO 8 1 3 n x (some 4) := by
  rw [(show stepLC P12 G12 A12 Kv 10 10 [(6, spec10L)] [stT 8 y 1 3 f, .view 1 n (fun j => [.int .i64 (x j)]) c] =
(    bif decide ((1 : Int) ≤ y) && (decide (y ≤ (6 : Int)) && true) then
    bif decide ((1 : Int) ≤ y) && (decide (y ≤ (6 : Int)) && true) then
    bif !decide (Int.ofNat n = (4 : Int)) then
    some (T.tup [T.nils, T.int IntKind.i64 (5 : Int)])
    else
    bif gs10F (0 : Int) (Int.ofNat n) n fun j => [T.int IntKind.i64 (x j)] then
    bif badF n fun j => x j then
    some (T.tup [T.nils, T.int IntKind.i64 (1 : Int)])
    else
    bif decide ((1 : Int) ≤ y) && (decide (y ≤ (6 : Int)) && true) then
    some (T.tup
      [T.fresh true (1 : Nat) (4 : Nat)
          (fun j =>
            [[T.int IntKind.i64 (1 : Int)], [T.int IntKind.i64 (1 : Int)], [T.int IntKind.i64 (1 : Int)],
                  [T.int IntKind.i64 (1 : Int)]].getD
              j [])
          (4 : Nat) (some (4 : Nat)),
        T.int IntKind.i64 (0 : Int)])
    else
    none
    else
    none
    else
    none
    else
    none) from by kernel_rfl)]
  have hy : 1 ≤ y ∧ y ≤ 6 := by simpa [valid] using hv
  rw [gs_lit x hn]
  by_cases hl : n = 4
  · subst hl
    cases hb : badF 4 x with
    | true => simp [resO, hb, hy, needsV]
    | false =>
      simp [resO, hb, hy, needsV, makesV, fullF, outF, List.replicate]
  · have hl' : ¬ ((n : Int) = 4) := by omega
    simp [resO, hl', hl, hy, needsV]
theorem q10_813 (y : Int) (f : Bool) (hv : valid 8 y 1 3 f = true) : stepC P12 G12 A12 Kv 10 10 [stT 8 y 1 3 f, .nils] = some (.tup [.nils, .int .i64 5]) := by
  rw [(show stepC P12 G12 A12 Kv 10 10 [stT 8 y 1 3 f, .nils] =
(    bif decide ((1 : Int) ≤ y) && (decide (y ≤ (6 : Int)) && true) then
    bif decide ((1 : Int) ≤ y) && (decide (y ≤ (6 : Int)) && true) then
    some (T.tup [T.nils, T.int IntKind.i64 (5 : Int)])
    else
    none
    else
    none) from by kernel_rfl)]
  have hy : 1 ≤ y ∧ y ≤ 6 := by simpa [valid] using hv
  simp [hy, resO, needsV, makesV, badF, fullF, outF, List.replicate]
theorem r11_813 (y : Int) (f : Bool) (n : Nat) (x : Nat → Int) (c : Option Nat) (hv : valid 8 y 1 3 f = true) (hn : Nat.ble n 9223372036854775807 = true) :
    stepLC P12 G12 A12 Kv 10 11 [(6, spec11L)] [stT 8 y 1 3 f, .view 1 n (fun j => [.int .i64 (x j)]) c] = resO 8 1 3 n x none := by
  rw [(show stepLC P12 G12 A12 Kv 10 11 [(6, spec11L)] [stT 8 y 1 3 f, .view 1 n (fun j => [.int .i64 (x j)]) c] =
(    bif decide ((1 : Int) ≤ y) && (decide (y ≤ (6 : Int)) && true) then
    bif decide ((1 : Int) ≤ y) && (decide (y ≤ (6 : Int)) && true) then
    bif !decide (Int.ofNat n = (4 : Int)) then
    some (T.tup [T.nils, T.int IntKind.i64 (5 : Int)])
    else
    bif gs10F (0 : Int) (Int.ofNat n) n fun j => [T.int IntKind.i64 (x j)] then
    bif badF n fun j => x j then
    some (T.tup [T.nils, T.int IntKind.i64 (1 : Int)])
    else
    bif decide ((1 : Int) ≤ y) && (decide (y ≤ (6 : Int)) && true) then
    bif decide ((1 : Int) ≤ y) && (decide (y ≤ (6 : Int)) && true) then
    bif decide ((1 : Int) ≤ y) && (decide (y ≤ (6 : Int)) && true) then
    bif decide ((1 : Int) ≤ y) && (decide (y ≤ (6 : Int)) && true) then
    bif decide ((1 : Int) ≤ y) && (decide (y ≤ (6 : Int)) && true) then
    some (T.tup
      [T.fresh true (1 : Nat) (4 : Nat)
          (fun j =>
            [[T.int IntKind.i64 (1 : Int)], [T.int IntKind.i64 (1 : Int)], [T.int IntKind.i64 (1 : Int)],
                  [T.int IntKind.i64 (1 : Int)]].getD
              j [])
          (4 : Nat) none,
        T.int IntKind.i64 (0 : Int)])
    else
    none
    else
    none
    else
    none
    else
    none
    else
    none
    else
    none
    else
    none
    else
    none) from by kernel_rfl)]
  have hy : 1 ≤ y ∧ y ≤ 6 := by simpa [valid] using hv
  rw [gs_lit x hn]
  by_cases hl : n = 4
  · subst hl
    cases hb : badF 4 x with
    | true => simp [resO, hb, hy, needsV]
    | false =>
      simp [resO, hb, hy, needsV, makesV, fullF, outF, List.replicate]
  · have hl' : ¬ ((n : Int) = 4) := by omega
    simp [resO, hl', hl, hy, needsV]
theorem q11_813 (y : Int) (f : Bool) (hv : valid 8 y 1 3 f = true) : stepC P12 G12 A12 Kv 10 11 [stT 8 y 1 3 f, .nils] = some (.tup [.nils, .int .i64 5]) := by
  rw [(show stepC P12 G12 A12 Kv 10 11 [stT 8 y 1 3 f, .nils] =
(    bif decide ((1 : Int) ≤ y) && (decide (y ≤ (6 : Int)) && true) then
    bif decide ((1 : Int) ≤ y) && (decide (y ≤ (6 : Int)) && true) then
    some (T.tup [T.nils, T.int IntKind.i64 (5 : Int)])
    else
    none
    else
    none) from by kernel_rfl)]
  have hy : 1 ≤ y ∧ y ≤ 6 := by simpa [valid] using hv
  simp [hy, resO, needsV, makesV, badF, fullF, outF, List.replicate]
theorem r10_831 (y : Int) (f : Bool) (n : Nat) (x : Nat → Int) (c : Option Nat) (hv : valid 8 y 3 1 f = true) (hn : Nat.ble n 9223372036854775807 = true) :
    stepLC P12 G12 A12 Kv 10 10 [(6, spec10L)] [stT 8 y 3 1 f, .view 1 n (fun j => [.int .i64 (x j)]) c] = resO 8 3 1 n x (some 4) := by
  rw [(show stepLC P12 G12 A12 Kv 10 10 [(6, spec10L)] [stT 8 y 3 1 f, .view 1 n (fun j => [.int .i64 (x j)]) c] =
(    bif decide ((1 : Int) ≤ y) && (decide (y ≤ (6 : Int)) && true) then
    bif decide ((1 : Int) ≤ y) && (decide (y ≤ (6 : Int)) && true) then
    bif !decide (Int.ofNat n = (4 : Int)) then
    some (T.tup [T.nils, T.int IntKind.i64 (5 : Int)])
    else
    bif gs10F (0 : Int) (Int.ofNat n) n fun j => [T.int IntKind.i64 (x j)] then
    bif badF n fun j => x j then
    some (T.tup [T.nils, T.int IntKind.i64 (1 : Int)])
    else
    bif decide ((1 : Int) ≤ y) && (decide (y ≤ (6 : Int)) && true) then
    some (T.tup
      [T.fresh true (1 : Nat) (4 : Nat)
          (fun j =>
            [[T.int IntKind.i64 (1 : Int)], [T.int IntKind.i64 (1 : Int)], [T.int IntKind.i64 (1 : Int)],
                  [T.int IntKind.i64 (1 : Int)]].getD
              j [])
          (4 : Nat) (some (4 : Nat)),
        T.int IntKind.i64 (0 : Int)])
    else
    none
    else
    none
    else
    none
    else
    none) from by kernel_rfl)]
  have hy : 1 ≤ y ∧ y ≤ 6 := by simpa [valid] using hv
  rw [gs_lit x hn]
  by_cases hl : n = 4
  · subst hl
    cases hb : badF 4 x with
    | true => simp [resO, hb, hy, needsV]
    | false =>
      simp [resO, hb, hy, needsV, makesV, fullF, outF, List.replicate]
  · have hl' : ¬ ((n : Int) = 4) := by omega
    simp [resO, hl', hl, hy, needsV]
theorem q10_831 (y : Int) (f : Bool) (hv : valid 8 y 3 1 f = true) : stepC P12 G12 A12 Kv 10 10 [stT 8 y 3 1 f, .nils] = some (.tup [.nils, .int .i64 5]) := by
  rw [(show stepC P12 G12 A12 Kv 10 10 [stT 8 y 3 1 f, .nils] =
(    bif decide ((1 : Int) ≤ y) && (decide (y ≤ (6 : Int)) && true) then
    bif decide ((1 : Int) ≤ y) && (decide (y ≤ (6 : Int)) && true) then
    some (T.tup [T.nils, T.int IntKind.i64 (5 : Int)])
    else
    none
    else
    none) from by kernel_rfl)]
  have hy : 1 ≤ y ∧ y ≤ 6 := by simpa [valid] using hv
  simp [hy, resO, needsV, makesV, badF, fullF, outF, List.replicate]
theorem r11_831 (y : Int) (f : Bool) (n : Nat) (x : Nat → Int) (c : Option Nat) (hv : valid 8 y 3 1 f = true) (hn : Nat.ble n 9223372036854775807 = true) :
    stepLC P12 G12 A12 Kv 10 11 [(6, spec11L)] [stT 8 y 3 1 f, .view 1 n (fun j => [.int .i64 (x j)]) c] = resO 8 3 1 n x none := by
  rw [(show stepLC P12 G12 A12 Kv 10 11 [(6, spec11L)] [stT 8 y 3 1 f, .view 1 n (fun j => [.int .i64 (x j)]) c] =
(    bif decide ((1 : Int) ≤ y) && (decide (y ≤ (6 : Int)) && true) then
    bif decide ((1 : Int) ≤ y) && (decide (y ≤ (6 : Int)) && true) then
    bif !decide (Int.ofNat n = (4 : Int)) then
    some (T.tup [T.nils, T.int IntKind.i64 (5 : Int)])
    else
    bif gs10F (0 : Int) (Int.ofNat n) n fun j => [T.int IntKind.i64 (x j)] then
    bif badF n fun j => x j then
    some (T.tup [T.nils, T.int IntKind.i64 (1 : Int)])
    else
    bif decide ((1 : Int) ≤ y) && (decide (y ≤ (6 : Int)) && true) then
    bif decide ((1 : Int) ≤ y) && (decide (y ≤ (6 : Int)) && true) then
    bif decide ((1 : Int) ≤ y) && (decide (y ≤ (6 : Int)) && true) then
    bif decide ((1 : Int) ≤ y) && (decide (y ≤ (6 : Int)) && true) then
    bif decide ((1 : Int) ≤ y) && (decide (y ≤ (6 : Int)) && true) then
    some (T.tup
      [T.fresh true (1 : Nat) (4 : Nat)
          (fun j =>
            [[T.int IntKind.i64 (1 : Int)], [T.int IntKind.i64 (1 : Int)], [T.int IntKind.i64 (1 : Int)],
                  [T.int IntKind.i64 (1 : Int)]].getD
              j [])
          (4 : Nat) none,
        T.int IntKind.i64 (0 : Int)])
    else
    none
    else
    none
    else
    none
    else
    none
    else
    none
    else
    none
    else
    none
    else
    none) from by kernel_rfl)]
  have hy : 1 ≤ y ∧ y ≤ 6 := by simpa [valid] using hv
  rw [gs_lit x hn]
  by_cases hl : n = 4
  · subst hl
    cases hb : badF 4 x with
    | true => simp [resO, hb, hy, needsV]
    | false =>
      simp [resO, hb, hy, needsV, makesV, fullF, outF, List.replicate]
  · have hl' : ¬ ((n : Int) = 4) := by omega
    simp [resO, hl', hl, hy, needsV]
theorem q11_831 (y : Int) (f : Bool) (hv : valid 8 y 3 1 f = true) : stepC P12 G12 A12 Kv 10 11 [stT 8 y 3 1 f, .nils] = some (.tup [.nils, .int .i64 5]) := by
  rw [(show stepC P12 G12 A12 Kv 10 11 [stT 8 y 3 1 f, .nils] =
(    bif decide ((1 : Int) ≤ y) && (decide (y ≤ (6 : Int)) && true) then
    bif decide ((1 : Int) ≤ y) && (decide (y ≤ (6 : Int)) && true) then
    some (T.tup [T.nils, T.int IntKind.i64 (5 : Int)])
    else
    none
    else
    none) from by kernel_rfl)]
  have hy : 1 ≤ y ∧ y ≤ 6 := by simpa [valid] using hv
  simp [hy, resO, needsV, makesV, badF, fullF, outF, List.replicate]
end Go.Ab

namespace Go.Ab
open Go.Proofs
def A10i : FuncId → Ann := annWith (annWith A12 10 [(1, 12, true)]) 11 [(1, 11, true)]
end Go.Ab

namespace Go.Ab
open Go.Proofs
def resT (k a b : Int) (n : Nat) (x : Nat → Int) (cp : Option Nat) : T :=
  if (n : Int) ≠ needsV k a b then .tup [.nils, .int .i64 5] else if badF n x = true then .tup [.nils, .int .i64 1] else if fullF k x = true then .tup [.nils, .int .i64 9] else
    .tup [.fresh true 1 (makesV k a b).toNat (fun j => (List.replicate (makesV k a b).toNat [T.int .i64 (outF k x)]).getD j []) (makesV k a b).toNat cp, .int .i64 0]
theorem resO_eq (k a b : Int) (n : Nat) (x : Nat → Int) (cp : Option Nat) : resO k a b n x cp = some (resT k a b n x cp) := by
  unfold resO resT
  split
  · rfl
  · split
    · rfl
    · split <;> rfl
def cap11 (k : Int) : Option Nat := if k = 4 ∨ k = 5 ∨ k = 6 ∨ k = 7 then some 1 else none
theorem classes {k y a b : Int} {f : Bool} (h : valid k y a b f = true) : (1 ≤ y ∧ y ≤ 6) ∧ ((a = 0 ∧ b = 0 ∧ f = false ∧ (k = 1 ∨ k = 2 ∨ k = 3 ∨ k = 4 ∨ k = 5 ∨ k = 6 ∨ k = 7)) ∨
    (k = 8 ∧ ((a = 1 ∧ b = 1) ∨ (a = 1 ∧ b = 2) ∨ (a = 2 ∧ b = 1) ∨ (a = 2 ∧ b = 2) ∨ (a = 1 ∧ b = 3) ∨ (a = 3 ∧ b = 1)))) := by
  simp only [valid, Bool.and_eq_true, decide_eq_true_eq] at h
  obtain ⟨h1, h2, h3, h4, h5⟩ := h
  refine ⟨⟨h1, h2⟩, ?_⟩
  by_cases h8 : k = 8
  · subst h8
    simp only [decide_true, cond_true, Bool.and_eq_true, decide_eq_true_eq] at h5
    exact .inr ⟨rfl, by omega⟩
  · simp only [h8, decide_false, cond_false, Bool.and_eq_true, decide_eq_true_eq, Bool.not_eq_true'] at h5
    exact .inl ⟨h5.1, h5.2.1, h5.2.2, by omega⟩
theorem l10s : ∀ p ∈ [((6 : Nat), spec10L)], LoopOk P12 G12 (A12 10) 10 p.1 p.2 := by
  intro p hp
  obtain rfl : p = (6, spec10L) := by simpa using hp
  exact loop10
theorem l11s : ∀ p ∈ [((6 : Nat), spec11L)], LoopOk P12 G12 (A12 11) 11 p.1 p.2 := by
  intro p hp
  obtain rfl : p = (6, spec11L) := by simpa using hp
  exact loop11
theorem of10 {args : List T} {k a b : Int} {n : Nat} {x : Nat → Int} {cp : Option Nat} (h : stepLC P12 G12 A12 Kv 10 10 [(6, spec10L)] args = resO k a b n x cp) : ToldOk P12 G12 10 args (resT k a b n x cp) :=
  stepLC_told hm12 hn12 okV apart10 l10s (h.trans (resO_eq ..))
theorem of11 {args : List T} {k a b : Int} {n : Nat} {x : Nat → Int} {cp : Option Nat} (h : stepLC P12 G12 A12 Kv 10 11 [(6, spec11L)] args = resO k a b n x cp) : ToldOk P12 G12 11 args (resT k a b n x cp) :=
  stepLC_told hm12 hn12 okV apart11 l11s (h.trans (resO_eq ..))
theorem told10 {k y a b : Int} {f : Bool} (hv : valid k y a b f = true) (n : Nat) (x : Nat → Int) (c : Option Nat) (hn : Nat.ble n 9223372036854775807 = true) :
    ToldOk P12 G12 10 [stT k y a b f, .view 1 n (fun j => [.int .i64 (x j)]) c] (resT k a b n x (some (makesV k a b).toNat)) := by
  obtain ⟨_, ⟨rfl, rfl, rfl, rfl | rfl | rfl | rfl | rfl | rfl | rfl⟩ | ⟨rfl, ⟨rfl, rfl⟩ | ⟨rfl, rfl⟩ | ⟨rfl, rfl⟩ | ⟨rfl, rfl⟩ | ⟨rfl, rfl⟩ | ⟨rfl, rfl⟩⟩⟩ := classes hv
  · exact of10 (r10_100 y n x c hv hn)
  · exact of10 (r10_200 y n x c hv hn)
  · exact of10 (r10_300 y n x c hv hn)
  · exact of10 (r10_400 y n x c hv hn)
  · exact of10 (r10_500 y n x c hv hn)
  · exact of10 (r10_600 y n x c hv hn)
  · exact of10 (r10_700 y n x c hv hn)
  · exact of10 (r10_811 y f n x c hv hn)
  · exact of10 (r10_812 y f n x c hv hn)
  · exact of10 (r10_821 y f n x c hv hn)
  · exact of10 (r10_822 y f n x c hv hn)
  · exact of10 (r10_813 y f n x c hv hn)
  · exact of10 (r10_831 y f n x c hv hn)
theorem told11 {k y a b : Int} {f : Bool} (hv : valid k y a b f = true) (n : Nat) (x : Nat → Int) (c : Option Nat) (hn : Nat.ble n 9223372036854775807 = true) :
    ToldOk P12 G12 11 [stT k y a b f, .view 1 n (fun j => [.int .i64 (x j)]) c] (resT k a b n x (cap11 k)) := by
  obtain ⟨_, ⟨rfl, rfl, rfl, rfl | rfl | rfl | rfl | rfl | rfl | rfl⟩ | ⟨rfl, ⟨rfl, rfl⟩ | ⟨rfl, rfl⟩ | ⟨rfl, rfl⟩ | ⟨rfl, rfl⟩ | ⟨rfl, rfl⟩ | ⟨rfl, rfl⟩⟩⟩ := classes hv
  · exact of11 (r11_100 y n x c hv hn)
  · exact of11 (r11_200 y n x c hv hn)
  · exact of11 (r11_300 y n x c hv hn)
  · exact of11 (r11_400 y n x c hv hn)
  · exact of11 (r11_500 y n x c hv hn)
  · exact of11 (r11_600 y n x c hv hn)
  · exact of11 (r11_700 y n x c hv hn)
  · exact of11 (r11_811 y f n x c hv hn)
  · exact of11 (r11_812 y f n x c hv hn)
  · exact of11 (r11_821 y f n x c hv hn)
  · exact of11 (r11_822 y f n x c hv hn)
  · exact of11 (r11_813 y f n x c hv hn)
  · exact of11 (r11_831 y f n x c hv hn)
theorem ofn {fn : FuncId} {args : List T} {k a b : Int} {x : Nat → Int} {cp : Option Nat} {o : Option T} (h : stepC P12 G12 A12 Kv 10 fn args = o) (ho : o = resO k a b 0 x cp) : ToldOk P12 G12 fn args (resT k a b 0 x cp) :=
  stepC_told hm12 hn12 okV (h.trans (ho.trans (resO_eq ..)))
theorem told10n {k y a b : Int} {f : Bool} (hv : valid k y a b f = true) : ToldOk P12 G12 10 [stT k y a b f, .nils] (resT k a b 0 (fun _ => 0) (some (makesV k a b).toNat)) := by
  obtain ⟨_, ⟨rfl, rfl, rfl, rfl | rfl | rfl | rfl | rfl | rfl | rfl⟩ | ⟨rfl, ⟨rfl, rfl⟩ | ⟨rfl, rfl⟩ | ⟨rfl, rfl⟩ | ⟨rfl, rfl⟩ | ⟨rfl, rfl⟩ | ⟨rfl, rfl⟩⟩⟩ := classes hv
  · exact ofn (q10_100 y hv) (by simp [resO, needsV])
  · exact ofn (q10_200 y hv) (by simp [resO, needsV])
  · exact ofn (q10_300 y hv) rfl
  · exact ofn (q10_400 y hv) (by simp [resO, needsV])
  · exact ofn (q10_500 y hv) (by simp [resO, needsV])
  · exact ofn (q10_600 y hv) (by simp [resO, needsV])
  · exact ofn (q10_700 y hv) (by simp [resO, needsV])
  · exact ofn (q10_811 y f hv) (by simp [resO, needsV])
  · exact ofn (q10_812 y f hv) (by simp [resO, needsV])
  · exact ofn (q10_821 y f hv) (by simp [resO, needsV])
  · exact ofn (q10_822 y f hv) (by simp [resO, needsV])
  · exact ofn (q10_813 y f hv) (by simp [resO, needsV])
  · exact ofn (q10_831 y f hv) (by simp [resO, needsV])
theorem told11n {k y a b : Int} {f : Bool} (hv : valid k y a b f = true) : ToldOk P12 G12 11 [stT k y a b f, .nils] (resT k a b 0 (fun _ => 0) (cap11 k)) := by
  obtain ⟨_, ⟨rfl, rfl, rfl, rfl | rfl | rfl | rfl | rfl | rfl | rfl⟩ | ⟨rfl, ⟨rfl, rfl⟩ | ⟨rfl, rfl⟩ | ⟨rfl, rfl⟩ | ⟨rfl, rfl⟩ | ⟨rfl, rfl⟩ | ⟨rfl, rfl⟩⟩⟩ := classes hv
  · exact ofn (q11_100 y hv) (by simp [resO, needsV])
  · exact ofn (q11_200 y hv) (by simp [resO, needsV])
  · exact ofn (q11_300 y hv) rfl
  · exact ofn (q11_400 y hv) (by simp [resO, needsV])
  · exact ofn (q11_500 y hv) (by simp [resO, needsV])
  · exact ofn (q11_600 y hv) (by simp [resO, needsV])
  · exact ofn (q11_700 y hv) (by simp [resO, needsV])
  · exact ofn (q11_811 y f hv) (by simp [resO, needsV])
  · exact ofn (q11_812 y f hv) (by simp [resO, needsV])
  · exact ofn (q11_821 y f hv) (by simp [resO, needsV])
  · exact ofn (q11_822 y f hv) (by simp [resO, needsV])
  · exact ofn (q11_813 y f hv) (by simp [resO, needsV])
  · exact ofn (q11_831 y f hv) (by simp [resO, needsV])
theorem bad10 {k y a b : Int} {f : Bool} (hv : valid k y a b f = false) (sl : T) : ToldOk P12 G12 10 [stT k y a b f, sl] (.tup [.nils, .int .i64 1]) := by
  refine stepV_told hm12 hn12 ok17 (A := A10i) (m := 10) ?_
  rw [(show stepV P12 G12 A10i K17 10 10 [stT k y a b f, sl] =
(    bif !decide (checkF k y a b f = (0 : Int)) then
    some (T.tup [T.nils, T.int IntKind.i64 (1 : Int)])
    else
    none) from by kernel_rfl)]
  simp [checkF, hv]
theorem bad11 {k y a b : Int} {f : Bool} (hv : valid k y a b f = false) (hp : posF k y = true) (sl : T) : ToldOk P12 G12 11 [stT k y a b f, sl] (.tup [.nils, .int .i64 1]) := by
  refine stepV_told hm12 hn12 ok22 (A := A10i) (m := 10) ?_
  rw [(show stepV P12 G12 A10i K22 10 11 [stT k y a b f, sl] =
(    bif posF k y then
    bif decide ((1 : Int) - checkF k y a b f = (0 : Int)) then
    some (T.tup [T.nils, T.int IntKind.i64 (1 : Int)])
    else
    none
    else
    none) from by kernel_rfl)]
  simp [checkF, hv, hp]
end Go.Ab

namespace Go.Ab
open Go.Proofs
def errF (k y a b : Int) (f : Bool) (n : Nat) (x : Nat → Int) : Int := bif valid k y a b f then (bif decide ((n : Int) = needsV k a b) then (bif badF n x then 1 else bif fullF k x then 9 else 0) else 5) else 1
def slOkF (n : Nat) (g : Nat → List T) : Bool := allInt .i64 n g && Nat.ble n 9223372036854775807
theorem slOk_lit (n : Nat) (x : Nat → Int) : slOkF n (fun j => [.int .i64 (x j)]) = Nat.ble n 9223372036854775807 := by simp [slOkF, allInt_lit]
def okT (k a b : Int) (x : Nat → Int) (cp : Option Nat) : T := .tup [.fresh true 1 (makesV k a b).toNat (fun j => (List.replicate (makesV k a b).toNat [T.int .i64 (outF k x)]).getD j []) (makesV k a b).toNat cp, .int .i64 0]
theorem resT_err {k y a b : Int} {f : Bool} {n : Nat} {x : Nat → Int} {cp : Option Nat} (hv : valid k y a b f = true) (h : errF k y a b f n x ≠ 0) : resT k a b n x cp = .tup [.nils, .int .i64 (errF k y a b f n x)] := by
  unfold resT
  unfold errF at h ⊢
  rw [hv] at h ⊢
  by_cases h1 : (n : Int) = needsV k a b
  · simp only [h1, decide_true, cond_true, ne_eq, not_true, if_false] at h ⊢
    cases h2 : badF n x with
    | true => simp
    | false =>
      cases h3 : fullF k x with
      | true => simp
      | false => rw [h2, h3] at h; simp at h
  · simp [h1]
theorem resT_ok {k y a b : Int} {f : Bool} {n : Nat} {x : Nat → Int} {cp : Option Nat} (h : errF k y a b f n x = 0) : valid k y a b f = true ∧ resT k a b n x cp = okT k a b x cp := by
  unfold errF at h
  cases hv : valid k y a b f with
  | false => rw [hv] at h; simp at h
  | true =>
    rw [hv] at h
    refine ⟨rfl, ?_⟩
    unfold resT okT
    by_cases h1 : (n : Int) = needsV k a b
    · simp only [h1, decide_true, cond_true] at h
      cases h2 : badF n x with
      | true => rw [h2] at h; simp at h
      | false =>
        rw [h2] at h
        cases h3 : fullF k x with
        | true => rw [h3] at h; simp at h
        | false => simp [h1]
    · simp [h1] at h
def spec10E : List T → Tree
  | [.agg [.int .u8 k, .int .u8 y, .int .i64 a, .int .i64 b, .bool f], .view 1 n g _] => .ite (slOkF n g && (posF k y && !decide (errF k y a b f n (fun j => intAt (g j)) = 0))) (.ret (.tup [.nils, .int .i64 (errF k y a b f n (fun j => intAt (g j)))])) .none
  | [.agg [.int .u8 k, .int .u8 y, .int .i64 a, .int .i64 b, .bool f], .nils] => .ite (posF k y && !decide (errF k y a b f 0 (fun _ => 0) = 0)) (.ret (.tup [.nils, .int .i64 (errF k y a b f 0 (fun _ => 0))])) .none
  | _ => .none
def spec10K : List T → Tree
  | [.agg [.int .u8 k, .int .u8 y, .int .i64 a, .int .i64 b, .bool f], .view 1 n g _] => .ite (slOkF n g && decide (errF k y a b f n (fun j => intAt (g j)) = 0)) (.ret (okT k a b (fun j => intAt (g j)) (some (makesV k a b).toNat))) .none
  | [.agg [.int .u8 k, .int .u8 y, .int .i64 a, .int .i64 b, .bool f], .nils] => .ite (decide (errF k y a b f 0 (fun _ => 0) = 0)) (.ret (okT k a b (fun _ => 0) (some (makesV k a b).toNat))) .none
  | _ => .none
def spec11K : List T → Tree
  | [.agg [.int .u8 k, .int .u8 y, .int .i64 a, .int .i64 b, .bool f], .view 1 n g _] => .ite (slOkF n g && decide (errF k y a b f n (fun j => intAt (g j)) = 0)) (.ret (okT k a b (fun j => intAt (g j)) (cap11 k))) .none
  | [.agg [.int .u8 k, .int .u8 y, .int .i64 a, .int .i64 b, .bool f], .nils] => .ite (decide (errF k y a b f 0 (fun _ => 0) = 0)) (.ret (okT k a b (fun _ => 0) (cap11 k))) .none
  | _ => .none
theorem sims_view {st : T} {n : Nat} {g : Nat → List T} {c : Option Nat} (h : slOkF n g = true) : Sims [st, .view 1 n g c] [st, .view 1 n (fun j => [.int .i64 (intAt (g j))]) c] := by
  simp only [slOkF, Bool.and_eq_true] at h
  exact .cons (.refl _) (.cons (view_int h.1).sim .nil)
theorem sl_n {n : Nat} {g : Nat → List T} (h : slOkF n g = true) : Nat.ble n 9223372036854775807 = true := by
  simp only [slOkF, Bool.and_eq_true] at h
  exact h.2
theorem ok10E {args : List T} {r : T} (h : (spec10E args).run some = some r) : ToldOk P12 G12 10 args r ∧ ToldOk P12 G12 11 args r := by
  unfold spec10E at h; split at h
  · rename_i k y a b f n g c
    obtain ⟨hc, h⟩ := ite_run h
    obtain rfl := Option.some.inj h
    simp only [Bool.and_eq_true, Bool.not_eq_true', decide_eq_false_iff_not] at hc
    obtain ⟨h1, h2, h3⟩ := hc
    cases hv : valid k y a b f with
    | true =>
      rw [← resT_err hv h3 (cp := some (makesV k a b).toNat)]
      refine ⟨(told10 hv n _ c (sl_n h1)).sim (sims_view h1), ?_⟩
      rw [resT_err hv h3, ← resT_err hv h3 (cp := cap11 k)]
      exact (told11 hv n _ c (sl_n h1)).sim (sims_view h1)
    | false =>
      rw [show errF k y a b f n (fun j => intAt (g j)) = 1 by simp [errF, hv]]
      exact ⟨bad10 hv _, bad11 hv h2 _⟩
  · rename_i k y a b f
    obtain ⟨hc, h⟩ := ite_run h
    obtain rfl := Option.some.inj h
    simp only [Bool.and_eq_true, Bool.not_eq_true', decide_eq_false_iff_not] at hc
    obtain ⟨h2, h3⟩ := hc
    cases hv : valid k y a b f with
    | true =>
      rw [← resT_err hv h3 (cp := some (makesV k a b).toNat)]
      refine ⟨told10n hv, ?_⟩
      rw [resT_err hv h3, ← resT_err hv h3 (cp := cap11 k)]
      exact told11n hv
    | false =>
      rw [show errF k y a b f 0 (fun _ => 0) = 1 by simp [errF, hv]]
      exact ⟨bad10 hv _, bad11 hv h2 _⟩
  · cases h
theorem ok10K {args : List T} {r : T} (h : (spec10K args).run some = some r) : ToldOk P12 G12 10 args r := by
  unfold spec10K at h; split at h
  · rename_i k y a b f n g c
    obtain ⟨hc, h⟩ := ite_run h
    obtain rfl := Option.some.inj h
    simp only [Bool.and_eq_true, decide_eq_true_eq] at hc
    obtain ⟨h1, h3⟩ := hc
    obtain ⟨hv, e⟩ := resT_ok (cp := some (makesV k a b).toNat) h3
    rw [← e]
    exact (told10 hv n _ c (sl_n h1)).sim (sims_view h1)
  · rename_i k y a b f
    obtain ⟨h3, h⟩ := ite_run h
    obtain rfl := Option.some.inj h
    obtain ⟨hv, e⟩ := resT_ok (cp := some (makesV k a b).toNat) (of_decide_eq_true h3)
    rw [← e]
    exact told10n hv
  · cases h
theorem ok11K {args : List T} {r : T} (h : (spec11K args).run some = some r) : ToldOk P12 G12 11 args r := by
  unfold spec11K at h; split at h
  · rename_i k y a b f n g c
    obtain ⟨hc, h⟩ := ite_run h
    obtain rfl := Option.some.inj h
    simp only [Bool.and_eq_true, decide_eq_true_eq] at hc
    obtain ⟨h1, h3⟩ := hc
    obtain ⟨hv, e⟩ := resT_ok (cp := cap11 k) h3
    rw [← e]
    exact (told11 hv n _ c (sl_n h1)).sim (sims_view h1)
  · rename_i k y a b f
    obtain ⟨h3, h⟩ := ite_run h
    obtain rfl := Option.some.inj h
    obtain ⟨hv, e⟩ := resT_ok (cp := cap11 k) (of_decide_eq_true h3)
    rw [← e]
    exact told11n hv
  · cases h
noncomputable def KA : Orc := (Kc.add 10 spec10K).add 11 spec11K
noncomputable def KB : Orc := (Kc.add 10 spec10E).add 11 spec10E
theorem okKA : OrcOk P12 G12 KA := told_add (told_add okC fun _ _ h => ok10K h) fun _ _ h => ok11K h
theorem okKB : OrcOk P12 G12 KB := told_add (told_add okC fun _ _ h => (ok10E h).1) fun _ _ h => (ok10E h).2
def A3C : FuncId → Ann := annWith A12 3 [(1, 14, true)]
end Go.Ab

namespace Go.Ab
open Go.Proofs
theorem l3A_100 (y : Int) (x : Nat → Int) (h : errF 1 y 0 0 false 1 x = 0) : stepV P12 G12 A12 KA 20 3 [stT 1 y 0 0 false, .view 1 1 (fun j => [.int .i64 (x j)]) none] = some (.bool true) := by
  rw [(show stepV P12 G12 A12 KA 20 3 [stT 1 y 0 0 false, .view 1 1 (fun j => [.int .i64 (x j)]) none] =
(    bif (slOkF (1 : Nat) fun j => [T.int IntKind.i64 (x j)]) &&
      decide ((errF (1 : Int) y (0 : Int) (0 : Int) false (1 : Nat) fun j => x j) = (0 : Int)) then
    bif (slOkF (1 : Nat) fun j => [T.int IntKind.i64 (x j)]) &&
      decide ((errF (1 : Int) y (0 : Int) (0 : Int) false (1 : Nat) fun j => x j) = (0 : Int)) then
    bif !decide (x (0 : Nat) = x (0 : Nat)) then
    some (T.bool false)
    else
    some (T.bool true)
    else
    none
    else
    none) from by kernel_rfl)]
  simp [slOk_lit, show Nat.ble 1 9223372036854775807 = true from rfl, h]
theorem l3A_200 (y : Int) (x : Nat → Int) (h : errF 2 y 0 0 false 1 x = 0) : stepV P12 G12 A12 KA 20 3 [stT 2 y 0 0 false, .view 1 1 (fun j => [.int .i64 (x j)]) none] = some (.bool true) := by
  rw [(show stepV P12 G12 A12 KA 20 3 [stT 2 y 0 0 false, .view 1 1 (fun j => [.int .i64 (x j)]) none] =
(    bif (slOkF (1 : Nat) fun j => [T.int IntKind.i64 (x j)]) &&
      decide ((errF (2 : Int) y (0 : Int) (0 : Int) false (1 : Nat) fun j => x j) = (0 : Int)) then
    bif (slOkF (1 : Nat) fun j => [T.int IntKind.i64 (x j)]) &&
      decide ((errF (2 : Int) y (0 : Int) (0 : Int) false (1 : Nat) fun j => x j) = (0 : Int)) then
    bif !decide (x (0 : Nat) = x (0 : Nat)) then
    some (T.bool false)
    else
    some (T.bool true)
    else
    none
    else
    none) from by kernel_rfl)]
  simp [slOk_lit, show Nat.ble 1 9223372036854775807 = true from rfl, h]
theorem l3A_300 (y : Int) (x : Nat → Int) (h : errF 3 y 0 0 false 0 x = 0) : stepV P12 G12 A12 KA 20 3 [stT 3 y 0 0 false, .view 1 0 (fun j => [.int .i64 (x j)]) none] = some (.bool true) := by
  rw [(show stepV P12 G12 A12 KA 20 3 [stT 3 y 0 0 false, .view 1 0 (fun j => [.int .i64 (x j)]) none] =
(    bif (slOkF (0 : Nat) fun j => [T.int IntKind.i64 (x j)]) &&
      decide ((errF (3 : Int) y (0 : Int) (0 : Int) false (0 : Nat) fun j => x j) = (0 : Int)) then
    bif (slOkF (0 : Nat) fun j => [T.int IntKind.i64 (x j)]) &&
      decide ((errF (3 : Int) y (0 : Int) (0 : Int) false (0 : Nat) fun j => x j) = (0 : Int)) then
    some (T.bool true)
    else
    none
    else
    none) from by kernel_rfl)]
  simp [slOk_lit, show Nat.ble 0 9223372036854775807 = true from rfl, h]
theorem l3A_400 (y : Int) (x : Nat → Int) (h : errF 4 y 0 0 false 2 x = 0) : stepV P12 G12 A12 KA 20 3 [stT 4 y 0 0 false, .view 1 2 (fun j => [.int .i64 (x j)]) none] = some (.bool true) := by
  rw [(show stepV P12 G12 A12 KA 20 3 [stT 4 y 0 0 false, .view 1 2 (fun j => [.int .i64 (x j)]) none] =
(    bif (slOkF (2 : Nat) fun j => [T.int IntKind.i64 (x j)]) &&
      decide ((errF (4 : Int) y (0 : Int) (0 : Int) false (2 : Nat) fun j => x j) = (0 : Int)) then
    bif (slOkF (2 : Nat) fun j => [T.int IntKind.i64 (x j)]) &&
      decide ((errF (4 : Int) y (0 : Int) (0 : Int) false (2 : Nat) fun j => x j) = (0 : Int)) then
    bif !decide (x (0 : Nat) = x (0 : Nat)) then
    some (T.bool false)
    else
    bif !decide (x (1 : Nat) = x (1 : Nat)) then
    some (T.bool false)
    else
    some (T.bool true)
    else
    none
    else
    none) from by kernel_rfl)]
  simp [slOk_lit, show Nat.ble 2 9223372036854775807 = true from rfl, h]
theorem l3A_500 (y : Int) (x : Nat → Int) (h : errF 5 y 0 0 false 2 x = 0) : stepV P12 G12 A12 KA 20 3 [stT 5 y 0 0 false, .view 1 2 (fun j => [.int .i64 (x j)]) none] = some (.bool true) := by
  rw [(show stepV P12 G12 A12 KA 20 3 [stT 5 y 0 0 false, .view 1 2 (fun j => [.int .i64 (x j)]) none] =
(    bif (slOkF (2 : Nat) fun j => [T.int IntKind.i64 (x j)]) &&
      decide ((errF (5 : Int) y (0 : Int) (0 : Int) false (2 : Nat) fun j => x j) = (0 : Int)) then
    bif (slOkF (2 : Nat) fun j => [T.int IntKind.i64 (x j)]) &&
      decide ((errF (5 : Int) y (0 : Int) (0 : Int) false (2 : Nat) fun j => x j) = (0 : Int)) then
    bif !decide (x (0 : Nat) = x (0 : Nat)) then
    some (T.bool false)
    else
    bif !decide (x (1 : Nat) = x (1 : Nat)) then
    some (T.bool false)
    else
    some (T.bool true)
    else
    none
    else
    none) from by kernel_rfl)]
  simp [slOk_lit, show Nat.ble 2 9223372036854775807 = true from rfl, h]
theorem l3A_600 (y : Int) (x : Nat → Int) (h : errF 6 y 0 0 false 1 x = 0) : stepV P12 G12 A12 KA 20 3 [stT 6 y 0 0 false, .view 1 1 (fun j => [.int .i64 (x j)]) none] = some (.bool true) := by
  rw [(show stepV P12 G12 A12 KA 20 3 [stT 6 y 0 0 false, .view 1 1 (fun j => [.int .i64 (x j)]) none] =
(    bif (slOkF (1 : Nat) fun j => [T.int IntKind.i64 (x j)]) &&
      decide ((errF (6 : Int) y (0 : Int) (0 : Int) false (1 : Nat) fun j => x j) = (0 : Int)) then
    bif (slOkF (1 : Nat) fun j => [T.int IntKind.i64 (x j)]) &&
      decide ((errF (6 : Int) y (0 : Int) (0 : Int) false (1 : Nat) fun j => x j) = (0 : Int)) then
    bif !decide ((outF (6 : Int) fun j => x j) = outF (6 : Int) fun j => x j) then
    some (T.bool false)
    else
    bif !decide (x (0 : Nat) = x (0 : Nat)) then
    some (T.bool false)
    else
    some (T.bool true)
    else
    none
    else
    none) from by kernel_rfl)]
  simp [slOk_lit, show Nat.ble 1 9223372036854775807 = true from rfl, h]
theorem l3A_700 (y : Int) (x : Nat → Int) (h : errF 7 y 0 0 false 1 x = 0) : stepV P12 G12 A12 KA 20 3 [stT 7 y 0 0 false, .view 1 1 (fun j => [.int .i64 (x j)]) none] = some (.bool true) := by
  rw [(show stepV P12 G12 A12 KA 20 3 [stT 7 y 0 0 false, .view 1 1 (fun j => [.int .i64 (x j)]) none] =
(    bif (slOkF (1 : Nat) fun j => [T.int IntKind.i64 (x j)]) &&
      decide ((errF (7 : Int) y (0 : Int) (0 : Int) false (1 : Nat) fun j => x j) = (0 : Int)) then
    bif (slOkF (1 : Nat) fun j => [T.int IntKind.i64 (x j)]) &&
      decide ((errF (7 : Int) y (0 : Int) (0 : Int) false (1 : Nat) fun j => x j) = (0 : Int)) then
    bif !decide ((outF (7 : Int) fun j => x j) = outF (7 : Int) fun j => x j) then
    some (T.bool false)
    else
    bif !decide (x (0 : Nat) = x (0 : Nat)) then
    some (T.bool false)
    else
    some (T.bool true)
    else
    none
    else
    none) from by kernel_rfl)]
  simp [slOk_lit, show Nat.ble 1 9223372036854775807 = true from rfl, h]
theorem l3A_811 (y : Int) (f : Bool) (x : Nat → Int) (h : errF 8 y 1 1 f 2 x = 0) : stepV P12 G12 A12 KA 20 3 [stT 8 y 1 1 f, .view 1 2 (fun j => [.int .i64 (x j)]) none] = some (.bool true) := by
  rw [(show stepV P12 G12 A12 KA 20 3 [stT 8 y 1 1 f, .view 1 2 (fun j => [.int .i64 (x j)]) none] =
(    bif (slOkF (2 : Nat) fun j => [T.int IntKind.i64 (x j)]) &&
      decide ((errF (8 : Int) y (1 : Int) (1 : Int) f (2 : Nat) fun j => x j) = (0 : Int)) then
    bif (slOkF (2 : Nat) fun j => [T.int IntKind.i64 (x j)]) &&
      decide ((errF (8 : Int) y (1 : Int) (1 : Int) f (2 : Nat) fun j => x j) = (0 : Int)) then
    bif !decide (x (0 : Nat) = x (0 : Nat)) then
    some (T.bool false)
    else
    bif !decide (x (1 : Nat) = x (1 : Nat)) then
    some (T.bool false)
    else
    some (T.bool true)
    else
    none
    else
    none) from by kernel_rfl)]
  simp [slOk_lit, show Nat.ble 2 9223372036854775807 = true from rfl, h]
theorem l3A_812 (y : Int) (f : Bool) (x : Nat → Int) (h : errF 8 y 1 2 f 3 x = 0) : stepV P12 G12 A12 KA 20 3 [stT 8 y 1 2 f, .view 1 3 (fun j => [.int .i64 (x j)]) none] = some (.bool true) := by
  rw [(show stepV P12 G12 A12 KA 20 3 [stT 8 y 1 2 f, .view 1 3 (fun j => [.int .i64 (x j)]) none] =
(    bif (slOkF (3 : Nat) fun j => [T.int IntKind.i64 (x j)]) &&
      decide ((errF (8 : Int) y (1 : Int) (2 : Int) f (3 : Nat) fun j => x j) = (0 : Int)) then
    bif (slOkF (3 : Nat) fun j => [T.int IntKind.i64 (x j)]) &&
      decide ((errF (8 : Int) y (1 : Int) (2 : Int) f (3 : Nat) fun j => x j) = (0 : Int)) then
    bif !decide (x (0 : Nat) = x (0 : Nat)) then
    some (T.bool false)
    else
    bif !decide (x (1 : Nat) = x (1 : Nat)) then
    some (T.bool false)
    else
    bif !decide (x (2 : Nat) = x (2 : Nat)) then
    some (T.bool false)
    else
    some (T.bool true)
    else
    none
    else
    none) from by kernel_rfl)]
  simp [slOk_lit, show Nat.ble 3 9223372036854775807 = true from rfl, h]
theorem l3A_821 (y : Int) (f : Bool) (x : Nat → Int) (h : errF 8 y 2 1 f 3 x = 0) : stepV P12 G12 A12 KA 20 3 [stT 8 y 2 1 f, .view 1 3 (fun j => [.int .i64 (x j)]) none] = some (.bool true) := by
  rw [(show stepV P12 G12 A12 KA 20 3 [stT 8 y 2 1 f, .view 1 3 (fun j => [.int .i64 (x j)]) none] =
(    bif (slOkF (3 : Nat) fun j => [T.int IntKind.i64 (x j)]) &&
      decide ((errF (8 : Int) y (2 : Int) (1 : Int) f (3 : Nat) fun j => x j) = (0 : Int)) then
    bif (slOkF (3 : Nat) fun j => [T.int IntKind.i64 (x j)]) &&
      decide ((errF (8 : Int) y (2 : Int) (1 : Int) f (3 : Nat) fun j => x j) = (0 : Int)) then
    bif !decide (x (0 : Nat) = x (0 : Nat)) then
    some (T.bool false)
    else
    bif !decide (x (1 : Nat) = x (1 : Nat)) then
    some (T.bool false)
    else
    bif !decide (x (2 : Nat) = x (2 : Nat)) then
    some (T.bool false)
    else
    some (T.bool true)
    else
    none
    else
    none) from by kernel_rfl)]
  simp [slOk_lit, show Nat.ble 3 9223372036854775807 = true from rfl, h]
theorem l3A_822 (y : Int) (f : Bool) (x : Nat → Int) (h : errF 8 y 2 2 f 4 x = 0) : stepV P12 G12 A12 KA 20 3 [stT 8 y 2 2 f, .view 1 4 (fun j => [.int .i64 (x j)]) none] = some (.bool true) := by
  rw [(show stepV P12 G12 A12 KA 20 3 [stT 8 y 2 2 f, .view 1 4 (fun j => [.int .i64 (x j)]) none] =
(    bif (slOkF (4 : Nat) fun j => [T.int IntKind.i64 (x j)]) &&
      decide ((errF (8 : Int) y (2 : Int) (2 : Int) f (4 : Nat) fun j => x j) = (0 : Int)) then
    bif (slOkF (4 : Nat) fun j => [T.int IntKind.i64 (x j)]) &&
      decide ((errF (8 : Int) y (2 : Int) (2 : Int) f (4 : Nat) fun j => x j) = (0 : Int)) then
    bif !decide (x (0 : Nat) = x (0 : Nat)) then
    some (T.bool false)
    else
    bif !decide (x (1 : Nat) = x (1 : Nat)) then
    some (T.bool false)
    else
    bif !decide (x (2 : Nat) = x (2 : Nat)) then
    some (T.bool false)
    else
    bif !decide (x (3 : Nat) = x (3 : Nat)) then
    some (T.bool false)
    else
    some (T.bool true)
    else
    none
    else
    none) from by kernel_rfl)]
  simp [slOk_lit, show Nat.ble 4 9223372036854775807 = true from rfl, h]
theorem l3A_813 (y : Int) (f : Bool) (x : Nat → Int) (h : errF 8 y 1 3 f 4 x = 0) : stepV P12 G12 A12 KA 20 3 [stT 8 y 1 3 f, .view 1 4 (fun j => [.int .i64 (x j)]) none] = some (.bool true) := by
  rw [(show stepV P12 G12 A12 KA 20 3 [stT 8 y 1 3 f, .view 1 4 (fun j => [.int .i64 (x j)]) none] =
(    bif (slOkF (4 : Nat) fun j => [T.int IntKind.i64 (x j)]) &&
      decide ((errF (8 : Int) y (1 : Int) (3 : Int) f (4 : Nat) fun j => x j) = (0 : Int)) then
    bif (slOkF (4 : Nat) fun j => [T.int IntKind.i64 (x j)]) &&
      decide ((errF (8 : Int) y (1 : Int) (3 : Int) f (4 : Nat) fun j => x j) = (0 : Int)) then
    bif !decide (x (0 : Nat) = x (0 : Nat)) then
    some (T.bool false)
    else
    bif !decide (x (1 : Nat) = x (1 : Nat)) then
    some (T.bool false)
    else
    bif !decide (x (2 : Nat) = x (2 : Nat)) then
    some (T.bool false)
    else
    bif !decide (x (3 : Nat) = x (3 : Nat)) then
    some (T.bool false)
    else
    some (T.bool true)
    else
    none
    else
    none) from by kernel_rfl)]
  simp [slOk_lit, show Nat.ble 4 9223372036854775807 = true from rfl, h]
theorem l3A_831 (y : Int) (f : Bool) (x : Nat → Int) (h : errF 8 y 3 1 f 4 x = 0) : stepV P12 G12 A12 KA 20 3 [stT 8 y 3 1 f, .view 1 4 (fun j => [.int .i64 (x j)]) none] = some (.bool true) := by
  rw [(show stepV P12 G12 A12 KA 20 3 [stT 8 y 3 1 f, .view 1 4 (fun j => [.int .i64 (x j)]) none] =
(    bif (slOkF (4 : Nat) fun j => [T.int IntKind.i64 (x j)]) &&
      decide ((errF (8 : Int) y (3 : Int) (1 : Int) f (4 : Nat) fun j => x j) = (0 : Int)) then
    bif (slOkF (4 : Nat) fun j => [T.int IntKind.i64 (x j)]) &&
      decide ((errF (8 : Int) y (3 : Int) (1 : Int) f (4 : Nat) fun j => x j) = (0 : Int)) then
    bif !decide (x (0 : Nat) = x (0 : Nat)) then
    some (T.bool false)
    else
    bif !decide (x (1 : Nat) = x (1 : Nat)) then
    some (T.bool false)
    else
    bif !decide (x (2 : Nat) = x (2 : Nat)) then
    some (T.bool false)
    else
    bif !decide (x (3 : Nat) = x (3 : Nat)) then
    some (T.bool false)
    else
    some (T.bool true)
    else
    none
    else
    none) from by kernel_rfl)]
  simp [slOk_lit, show Nat.ble 4 9223372036854775807 = true from rfl, h]
theorem l3A_nil (y : Int) (h : errF 3 y 0 0 false 0 (fun _ => 0) = 0) : stepV P12 G12 A12 KA 20 3 [stT 3 y 0 0 false, .nils] = some (.bool true) := by
  rw [(show stepV P12 G12 A12 KA 20 3 [stT 3 y 0 0 false, .nils] =
(    bif decide ((errF (3 : Int) y (0 : Int) (0 : Int) false (0 : Nat) fun x => (0 : Int)) = (0 : Int)) then
    bif decide ((errF (3 : Int) y (0 : Int) (0 : Int) false (0 : Nat) fun x => (0 : Int)) = (0 : Int)) then
    some (T.bool true)
    else
    none
    else
    none) from by kernel_rfl)]
  simp [h]
theorem l3B_0 (k y a b : Int) (f : Bool) (x : Nat → Int) (hp : posF k y = true) (h : errF k y a b f 0 x ≠ 0) : stepV P12 G12 A12 KB 20 3 [stT k y a b f, .view 1 0 (fun j => [.int .i64 (x j)]) none] = some (.bool true) := by
  rw [(show stepV P12 G12 A12 KB 20 3 [stT k y a b f, .view 1 0 (fun j => [.int .i64 (x j)]) none] =
(    bif (slOkF (0 : Nat) fun j => [T.int IntKind.i64 (x j)]) &&
      (posF k y && !decide ((errF k y a b f (0 : Nat) fun j => x j) = (0 : Int))) then
    bif (slOkF (0 : Nat) fun j => [T.int IntKind.i64 (x j)]) &&
      (posF k y && !decide ((errF k y a b f (0 : Nat) fun j => x j) = (0 : Int))) then
    bif !decide ((errF k y a b f (0 : Nat) fun j => x j) = errF k y a b f (0 : Nat) fun j => x j) then
    some (T.bool false)
    else
    some (T.bool true)
    else
    none
    else
    none) from by kernel_rfl)]
  simp [slOk_lit, show Nat.ble 0 9223372036854775807 = true from rfl, hp, h]
theorem l3B_1 (k y a b : Int) (f : Bool) (x : Nat → Int) (hp : posF k y = true) (h : errF k y a b f 1 x ≠ 0) : stepV P12 G12 A12 KB 20 3 [stT k y a b f, .view 1 1 (fun j => [.int .i64 (x j)]) none] = some (.bool true) := by
  rw [(show stepV P12 G12 A12 KB 20 3 [stT k y a b f, .view 1 1 (fun j => [.int .i64 (x j)]) none] =
(    bif (slOkF (1 : Nat) fun j => [T.int IntKind.i64 (x j)]) &&
      (posF k y && !decide ((errF k y a b f (1 : Nat) fun j => x j) = (0 : Int))) then
    bif (slOkF (1 : Nat) fun j => [T.int IntKind.i64 (x j)]) &&
      (posF k y && !decide ((errF k y a b f (1 : Nat) fun j => x j) = (0 : Int))) then
    bif !decide ((errF k y a b f (1 : Nat) fun j => x j) = errF k y a b f (1 : Nat) fun j => x j) then
    some (T.bool false)
    else
    bif !decide (x (0 : Nat) = x (0 : Nat)) then
    some (T.bool false)
    else
    some (T.bool true)
    else
    none
    else
    none) from by kernel_rfl)]
  simp [slOk_lit, show Nat.ble 1 9223372036854775807 = true from rfl, hp, h]
theorem l3B_2 (k y a b : Int) (f : Bool) (x : Nat → Int) (hp : posF k y = true) (h : errF k y a b f 2 x ≠ 0) : stepV P12 G12 A12 KB 20 3 [stT k y a b f, .view 1 2 (fun j => [.int .i64 (x j)]) none] = some (.bool true) := by
  rw [(show stepV P12 G12 A12 KB 20 3 [stT k y a b f, .view 1 2 (fun j => [.int .i64 (x j)]) none] =
(    bif (slOkF (2 : Nat) fun j => [T.int IntKind.i64 (x j)]) &&
      (posF k y && !decide ((errF k y a b f (2 : Nat) fun j => x j) = (0 : Int))) then
    bif (slOkF (2 : Nat) fun j => [T.int IntKind.i64 (x j)]) &&
      (posF k y && !decide ((errF k y a b f (2 : Nat) fun j => x j) = (0 : Int))) then
    bif !decide ((errF k y a b f (2 : Nat) fun j => x j) = errF k y a b f (2 : Nat) fun j => x j) then
    some (T.bool false)
    else
    bif !decide (x (0 : Nat) = x (0 : Nat)) then
    some (T.bool false)
    else
    bif !decide (x (1 : Nat) = x (1 : Nat)) then
    some (T.bool false)
    else
    some (T.bool true)
    else
    none
    else
    none) from by kernel_rfl)]
  simp [slOk_lit, show Nat.ble 2 9223372036854775807 = true from rfl, hp, h]
theorem l3B_3 (k y a b : Int) (f : Bool) (x : Nat → Int) (hp : posF k y = true) (h : errF k y a b f 3 x ≠ 0) : stepV P12 G12 A12 KB 20 3 [stT k y a b f, .view 1 3 (fun j => [.int .i64 (x j)]) none] = some (.bool true) := by
  rw [(show stepV P12 G12 A12 KB 20 3 [stT k y a b f, .view 1 3 (fun j => [.int .i64 (x j)]) none] =
(    bif (slOkF (3 : Nat) fun j => [T.int IntKind.i64 (x j)]) &&
      (posF k y && !decide ((errF k y a b f (3 : Nat) fun j => x j) = (0 : Int))) then
    bif (slOkF (3 : Nat) fun j => [T.int IntKind.i64 (x j)]) &&
      (posF k y && !decide ((errF k y a b f (3 : Nat) fun j => x j) = (0 : Int))) then
    bif !decide ((errF k y a b f (3 : Nat) fun j => x j) = errF k y a b f (3 : Nat) fun j => x j) then
    some (T.bool false)
    else
    bif !decide (x (0 : Nat) = x (0 : Nat)) then
    some (T.bool false)
    else
    bif !decide (x (1 : Nat) = x (1 : Nat)) then
    some (T.bool false)
    else
    bif !decide (x (2 : Nat) = x (2 : Nat)) then
    some (T.bool false)
    else
    some (T.bool true)
    else
    none
    else
    none) from by kernel_rfl)]
  simp [slOk_lit, show Nat.ble 3 9223372036854775807 = true from rfl, hp, h]
theorem l3B_4 (k y a b : Int) (f : Bool) (x : Nat → Int) (hp : posF k y = true) (h : errF k y a b f 4 x ≠ 0) : stepV P12 G12 A12 KB 20 3 [stT k y a b f, .view 1 4 (fun j => [.int .i64 (x j)]) none] = some (.bool true) := by
  rw [(show stepV P12 G12 A12 KB 20 3 [stT k y a b f, .view 1 4 (fun j => [.int .i64 (x j)]) none] =
(    bif (slOkF (4 : Nat) fun j => [T.int IntKind.i64 (x j)]) &&
      (posF k y && !decide ((errF k y a b f (4 : Nat) fun j => x j) = (0 : Int))) then
    bif (slOkF (4 : Nat) fun j => [T.int IntKind.i64 (x j)]) &&
      (posF k y && !decide ((errF k y a b f (4 : Nat) fun j => x j) = (0 : Int))) then
    bif !decide ((errF k y a b f (4 : Nat) fun j => x j) = errF k y a b f (4 : Nat) fun j => x j) then
    some (T.bool false)
    else
    bif !decide (x (0 : Nat) = x (0 : Nat)) then
    some (T.bool false)
    else
    bif !decide (x (1 : Nat) = x (1 : Nat)) then
    some (T.bool false)
    else
    bif !decide (x (2 : Nat) = x (2 : Nat)) then
    some (T.bool false)
    else
    bif !decide (x (3 : Nat) = x (3 : Nat)) then
    some (T.bool false)
    else
    some (T.bool true)
    else
    none
    else
    none) from by kernel_rfl)]
  simp [slOk_lit, show Nat.ble 4 9223372036854775807 = true from rfl, hp, h]
theorem l3B_5 (k y a b : Int) (f : Bool) (x : Nat → Int) (hp : posF k y = true) (h : errF k y a b f 5 x ≠ 0) : stepV P12 G12 A12 KB 20 3 [stT k y a b f, .view 1 5 (fun j => [.int .i64 (x j)]) none] = some (.bool true) := by
  rw [(show stepV P12 G12 A12 KB 20 3 [stT k y a b f, .view 1 5 (fun j => [.int .i64 (x j)]) none] =
(    bif (slOkF (5 : Nat) fun j => [T.int IntKind.i64 (x j)]) &&
      (posF k y && !decide ((errF k y a b f (5 : Nat) fun j => x j) = (0 : Int))) then
    bif (slOkF (5 : Nat) fun j => [T.int IntKind.i64 (x j)]) &&
      (posF k y && !decide ((errF k y a b f (5 : Nat) fun j => x j) = (0 : Int))) then
    bif !decide ((errF k y a b f (5 : Nat) fun j => x j) = errF k y a b f (5 : Nat) fun j => x j) then
    some (T.bool false)
    else
    bif !decide (x (0 : Nat) = x (0 : Nat)) then
    some (T.bool false)
    else
    bif !decide (x (1 : Nat) = x (1 : Nat)) then
    some (T.bool false)
    else
    bif !decide (x (2 : Nat) = x (2 : Nat)) then
    some (T.bool false)
    else
    bif !decide (x (3 : Nat) = x (3 : Nat)) then
    some (T.bool false)
    else
    bif !decide (x (4 : Nat) = x (4 : Nat)) then
    some (T.bool false)
    else
    some (T.bool true)
    else
    none
    else
    none) from by kernel_rfl)]
  simp [slOk_lit, show Nat.ble 5 9223372036854775807 = true from rfl, hp, h]
theorem l3B_6 (k y a b : Int) (f : Bool) (x : Nat → Int) (hp : posF k y = true) (h : errF k y a b f 6 x ≠ 0) : stepV P12 G12 A12 KB 20 3 [stT k y a b f, .view 1 6 (fun j => [.int .i64 (x j)]) none] = some (.bool true) := by
  rw [(show stepV P12 G12 A12 KB 20 3 [stT k y a b f, .view 1 6 (fun j => [.int .i64 (x j)]) none] =
(    bif (slOkF (6 : Nat) fun j => [T.int IntKind.i64 (x j)]) &&
      (posF k y && !decide ((errF k y a b f (6 : Nat) fun j => x j) = (0 : Int))) then
    bif (slOkF (6 : Nat) fun j => [T.int IntKind.i64 (x j)]) &&
      (posF k y && !decide ((errF k y a b f (6 : Nat) fun j => x j) = (0 : Int))) then
    bif !decide ((errF k y a b f (6 : Nat) fun j => x j) = errF k y a b f (6 : Nat) fun j => x j) then
    some (T.bool false)
    else
    bif !decide (x (0 : Nat) = x (0 : Nat)) then
    some (T.bool false)
    else
    bif !decide (x (1 : Nat) = x (1 : Nat)) then
    some (T.bool false)
    else
    bif !decide (x (2 : Nat) = x (2 : Nat)) then
    some (T.bool false)
    else
    bif !decide (x (3 : Nat) = x (3 : Nat)) then
    some (T.bool false)
    else
    bif !decide (x (4 : Nat) = x (4 : Nat)) then
    some (T.bool false)
    else
    bif !decide (x (5 : Nat) = x (5 : Nat)) then
    some (T.bool false)
    else
    some (T.bool true)
    else
    none
    else
    none) from by kernel_rfl)]
  simp [slOk_lit, show Nat.ble 6 9223372036854775807 = true from rfl, hp, h]
theorem l3B_7 (k y a b : Int) (f : Bool) (x : Nat → Int) (hp : posF k y = true) (h : errF k y a b f 7 x ≠ 0) : stepV P12 G12 A12 KB 20 3 [stT k y a b f, .view 1 7 (fun j => [.int .i64 (x j)]) none] = some (.bool true) := by
  rw [(show stepV P12 G12 A12 KB 20 3 [stT k y a b f, .view 1 7 (fun j => [.int .i64 (x j)]) none] =
(    bif (slOkF (7 : Nat) fun j => [T.int IntKind.i64 (x j)]) &&
      (posF k y && !decide ((errF k y a b f (7 : Nat) fun j => x j) = (0 : Int))) then
    bif (slOkF (7 : Nat) fun j => [T.int IntKind.i64 (x j)]) &&
      (posF k y && !decide ((errF k y a b f (7 : Nat) fun j => x j) = (0 : Int))) then
    bif !decide ((errF k y a b f (7 : Nat) fun j => x j) = errF k y a b f (7 : Nat) fun j => x j) then
    some (T.bool false)
    else
    bif !decide (x (0 : Nat) = x (0 : Nat)) then
    some (T.bool false)
    else
    bif !decide (x (1 : Nat) = x (1 : Nat)) then
    some (T.bool false)
    else
    bif !decide (x (2 : Nat) = x (2 : Nat)) then
    some (T.bool false)
    else
    bif !decide (x (3 : Nat) = x (3 : Nat)) then
    some (T.bool false)
    else
    bif !decide (x (4 : Nat) = x (4 : Nat)) then
    some (T.bool false)
    else
    bif !decide (x (5 : Nat) = x (5 : Nat)) then
    some (T.bool false)
    else
    bif !decide (x (6 : Nat) = x (6 : Nat)) then
    some (T.bool false)
    else
    some (T.bool true)
    else
    none
    else
    none) from by kernel_rfl)]
  simp [slOk_lit, show Nat.ble 7 9223372036854775807 = true from rfl, hp, h]
theorem l3B_8 (k y a b : Int) (f : Bool) (x : Nat → Int) (hp : posF k y = true) (h : errF k y a b f 8 x ≠ 0) : stepV P12 G12 A12 KB 20 3 [stT k y a b f, .view 1 8 (fun j => [.int .i64 (x j)]) none] = some (.bool true) := by
  rw [(show stepV P12 G12 A12 KB 20 3 [stT k y a b f, .view 1 8 (fun j => [.int .i64 (x j)]) none] =
(    bif (slOkF (8 : Nat) fun j => [T.int IntKind.i64 (x j)]) &&
      (posF k y && !decide ((errF k y a b f (8 : Nat) fun j => x j) = (0 : Int))) then
    bif (slOkF (8 : Nat) fun j => [T.int IntKind.i64 (x j)]) &&
      (posF k y && !decide ((errF k y a b f (8 : Nat) fun j => x j) = (0 : Int))) then
    bif !decide ((errF k y a b f (8 : Nat) fun j => x j) = errF k y a b f (8 : Nat) fun j => x j) then
    some (T.bool false)
    else
    bif !decide (x (0 : Nat) = x (0 : Nat)) then
    some (T.bool false)
    else
    bif !decide (x (1 : Nat) = x (1 : Nat)) then
    some (T.bool false)
    else
    bif !decide (x (2 : Nat) = x (2 : Nat)) then
    some (T.bool false)
    else
    bif !decide (x (3 : Nat) = x (3 : Nat)) then
    some (T.bool false)
    else
    bif !decide (x (4 : Nat) = x (4 : Nat)) then
    some (T.bool false)
    else
    bif !decide (x (5 : Nat) = x (5 : Nat)) then
    some (T.bool false)
    else
    bif !decide (x (6 : Nat) = x (6 : Nat)) then
    some (T.bool false)
    else
    bif !decide (x (7 : Nat) = x (7 : Nat)) then
    some (T.bool false)
    else
    some (T.bool true)
    else
    none
    else
    none) from by kernel_rfl)]
  simp [slOk_lit, show Nat.ble 8 9223372036854775807 = true from rfl, hp, h]
theorem l3B_9 (k y a b : Int) (f : Bool) (x : Nat → Int) (hp : posF k y = true) (h : errF k y a b f 9 x ≠ 0) : stepV P12 G12 A12 KB 20 3 [stT k y a b f, .view 1 9 (fun j => [.int .i64 (x j)]) none] = some (.bool true) := by
  rw [(show stepV P12 G12 A12 KB 20 3 [stT k y a b f, .view 1 9 (fun j => [.int .i64 (x j)]) none] =
(    bif (slOkF (9 : Nat) fun j => [T.int IntKind.i64 (x j)]) &&
      (posF k y && !decide ((errF k y a b f (9 : Nat) fun j => x j) = (0 : Int))) then
    bif (slOkF (9 : Nat) fun j => [T.int IntKind.i64 (x j)]) &&
      (posF k y && !decide ((errF k y a b f (9 : Nat) fun j => x j) = (0 : Int))) then
    bif !decide ((errF k y a b f (9 : Nat) fun j => x j) = errF k y a b f (9 : Nat) fun j => x j) then
    some (T.bool false)
    else
    bif !decide (x (0 : Nat) = x (0 : Nat)) then
    some (T.bool false)
    else
    bif !decide (x (1 : Nat) = x (1 : Nat)) then
    some (T.bool false)
    else
    bif !decide (x (2 : Nat) = x (2 : Nat)) then
    some (T.bool false)
    else
    bif !decide (x (3 : Nat) = x (3 : Nat)) then
    some (T.bool false)
    else
    bif !decide (x (4 : Nat) = x (4 : Nat)) then
    some (T.bool false)
    else
    bif !decide (x (5 : Nat) = x (5 : Nat)) then
    some (T.bool false)
    else
    bif !decide (x (6 : Nat) = x (6 : Nat)) then
    some (T.bool false)
    else
    bif !decide (x (7 : Nat) = x (7 : Nat)) then
    some (T.bool false)
    else
    bif !decide (x (8 : Nat) = x (8 : Nat)) then
    some (T.bool false)
    else
    some (T.bool true)
    else
    none
    else
    none) from by kernel_rfl)]
  simp [slOk_lit, show Nat.ble 9 9223372036854775807 = true from rfl, hp, h]
theorem l3B_10 (k y a b : Int) (f : Bool) (x : Nat → Int) (hp : posF k y = true) (h : errF k y a b f 10 x ≠ 0) : stepV P12 G12 A12 KB 20 3 [stT k y a b f, .view 1 10 (fun j => [.int .i64 (x j)]) none] = some (.bool true) := by
  rw [(show stepV P12 G12 A12 KB 20 3 [stT k y a b f, .view 1 10 (fun j => [.int .i64 (x j)]) none] =
(    bif (slOkF (10 : Nat) fun j => [T.int IntKind.i64 (x j)]) &&
      (posF k y && !decide ((errF k y a b f (10 : Nat) fun j => x j) = (0 : Int))) then
    bif (slOkF (10 : Nat) fun j => [T.int IntKind.i64 (x j)]) &&
      (posF k y && !decide ((errF k y a b f (10 : Nat) fun j => x j) = (0 : Int))) then
    bif !decide ((errF k y a b f (10 : Nat) fun j => x j) = errF k y a b f (10 : Nat) fun j => x j) then
    some (T.bool false)
    else
    bif !decide (x (0 : Nat) = x (0 : Nat)) then
    some (T.bool false)
    else
    bif !decide (x (1 : Nat) = x (1 : Nat)) then
    some (T.bool false)
    else
    bif !decide (x (2 : Nat) = x (2 : Nat)) then
    some (T.bool false)
    else
    bif !decide (x (3 : Nat) = x (3 : Nat)) then
    some (T.bool false)
    else
    bif !decide (x (4 : Nat) = x (4 : Nat)) then
    some (T.bool false)
    else
    bif !decide (x (5 : Nat) = x (5 : Nat)) then
    some (T.bool false)
    else
    bif !decide (x (6 : Nat) = x (6 : Nat)) then
    some (T.bool false)
    else
    bif !decide (x (7 : Nat) = x (7 : Nat)) then
    some (T.bool false)
    else
    bif !decide (x (8 : Nat) = x (8 : Nat)) then
    some (T.bool false)
    else
    bif !decide (x (9 : Nat) = x (9 : Nat)) then
    some (T.bool false)
    else
    some (T.bool true)
    else
    none
    else
    none) from by kernel_rfl)]
  simp [slOk_lit, show Nat.ble 10 9223372036854775807 = true from rfl, hp, h]
theorem l3B_11 (k y a b : Int) (f : Bool) (x : Nat → Int) (hp : posF k y = true) (h : errF k y a b f 11 x ≠ 0) : stepV P12 G12 A12 KB 20 3 [stT k y a b f, .view 1 11 (fun j => [.int .i64 (x j)]) none] = some (.bool true) := by
  rw [(show stepV P12 G12 A12 KB 20 3 [stT k y a b f, .view 1 11 (fun j => [.int .i64 (x j)]) none] =
(    bif (slOkF (11 : Nat) fun j => [T.int IntKind.i64 (x j)]) &&
      (posF k y && !decide ((errF k y a b f (11 : Nat) fun j => x j) = (0 : Int))) then
    bif (slOkF (11 : Nat) fun j => [T.int IntKind.i64 (x j)]) &&
      (posF k y && !decide ((errF k y a b f (11 : Nat) fun j => x j) = (0 : Int))) then
    bif !decide ((errF k y a b f (11 : Nat) fun j => x j) = errF k y a b f (11 : Nat) fun j => x j) then
    some (T.bool false)
    else
    bif !decide (x (0 : Nat) = x (0 : Nat)) then
    some (T.bool false)
    else
    bif !decide (x (1 : Nat) = x (1 : Nat)) then
    some (T.bool false)
    else
    bif !decide (x (2 : Nat) = x (2 : Nat)) then
    some (T.bool false)
    else
    bif !decide (x (3 : Nat) = x (3 : Nat)) then
    some (T.bool false)
    else
    bif !decide (x (4 : Nat) = x (4 : Nat)) then
    some (T.bool false)
    else
    bif !decide (x (5 : Nat) = x (5 : Nat)) then
    some (T.bool false)
    else
    bif !decide (x (6 : Nat) = x (6 : Nat)) then
    some (T.bool false)
    else
    bif !decide (x (7 : Nat) = x (7 : Nat)) then
    some (T.bool false)
    else
    bif !decide (x (8 : Nat) = x (8 : Nat)) then
    some (T.bool false)
    else
    bif !decide (x (9 : Nat) = x (9 : Nat)) then
    some (T.bool false)
    else
    bif !decide (x (10 : Nat) = x (10 : Nat)) then
    some (T.bool false)
    else
    some (T.bool true)
    else
    none
    else
    none) from by kernel_rfl)]
  simp [slOk_lit, show Nat.ble 11 9223372036854775807 = true from rfl, hp, h]
theorem l3B_12 (k y a b : Int) (f : Bool) (x : Nat → Int) (hp : posF k y = true) (h : errF k y a b f 12 x ≠ 0) : stepV P12 G12 A12 KB 20 3 [stT k y a b f, .view 1 12 (fun j => [.int .i64 (x j)]) none] = some (.bool true) := by
  rw [(show stepV P12 G12 A12 KB 20 3 [stT k y a b f, .view 1 12 (fun j => [.int .i64 (x j)]) none] =
(    bif (slOkF (12 : Nat) fun j => [T.int IntKind.i64 (x j)]) &&
      (posF k y && !decide ((errF k y a b f (12 : Nat) fun j => x j) = (0 : Int))) then
    bif (slOkF (12 : Nat) fun j => [T.int IntKind.i64 (x j)]) &&
      (posF k y && !decide ((errF k y a b f (12 : Nat) fun j => x j) = (0 : Int))) then
    bif !decide ((errF k y a b f (12 : Nat) fun j => x j) = errF k y a b f (12 : Nat) fun j => x j) then
    some (T.bool false)
    else
    bif !decide (x (0 : Nat) = x (0 : Nat)) then
    some (T.bool false)
    else
    bif !decide (x (1 : Nat) = x (1 : Nat)) then
    some (T.bool false)
    else
    bif !decide (x (2 : Nat) = x (2 : Nat)) then
    some (T.bool false)
    else
    bif !decide (x (3 : Nat) = x (3 : Nat)) then
    some (T.bool false)
    else
    bif !decide (x (4 : Nat) = x (4 : Nat)) then
    some (T.bool false)
    else
    bif !decide (x (5 : Nat) = x (5 : Nat)) then
    some (T.bool false)
    else
    bif !decide (x (6 : Nat) = x (6 : Nat)) then
    some (T.bool false)
    else
    bif !decide (x (7 : Nat) = x (7 : Nat)) then
    some (T.bool false)
    else
    bif !decide (x (8 : Nat) = x (8 : Nat)) then
    some (T.bool false)
    else
    bif !decide (x (9 : Nat) = x (9 : Nat)) then
    some (T.bool false)
    else
    bif !decide (x (10 : Nat) = x (10 : Nat)) then
    some (T.bool false)
    else
    bif !decide (x (11 : Nat) = x (11 : Nat)) then
    some (T.bool false)
    else
    some (T.bool true)
    else
    none
    else
    none) from by kernel_rfl)]
  simp [slOk_lit, show Nat.ble 12 9223372036854775807 = true from rfl, hp, h]
theorem l3B_nil (k y a b : Int) (f : Bool) (hp : posF k y = true) (h : errF k y a b f 0 (fun _ => 0) ≠ 0) : stepV P12 G12 A12 KB 20 3 [stT k y a b f, .nils] = some (.bool true) := by
  rw [(show stepV P12 G12 A12 KB 20 3 [stT k y a b f, .nils] =
(    bif posF k y && !decide ((errF k y a b f (0 : Nat) fun x => (0 : Int)) = (0 : Int)) then
    bif posF k y && !decide ((errF k y a b f (0 : Nat) fun x => (0 : Int)) = (0 : Int)) then
    bif !decide ((errF k y a b f (0 : Nat) fun x => (0 : Int)) = errF k y a b f (0 : Nat) fun x => (0 : Int)) then
    some (T.bool false)
    else
    some (T.bool true)
    else
    none
    else
    none) from by kernel_rfl)]
  simp [hp, h]
theorem l3C (k y a b : Int) (f : Bool) (n : Nat) (x : Nat → Int) (h : 12 < n) : stepV P12 G12 A3C KB 20 3 [stT k y a b f, .view 1 n (fun j => [.int .i64 (x j)]) none] = some (.bool true) := by
  rw [(show stepV P12 G12 A3C KB 20 3 [stT k y a b f, .view 1 n (fun j => [.int .i64 (x j)]) none] =
(    bif decide ((12 : Int) < Int.ofNat n) then
    some (T.bool true)
    else
    none) from by kernel_rfl)]
  have : (12 : Int) < (n : Int) := by omega
  simp [this]
end Go.Ab

namespace Go.Ab
open Go.Proofs
theorem err_ok {k y a b : Int} {f : Bool} {n : Nat} {x : Nat → Int} (h : errF k y a b f n x = 0) : valid k y a b f = true ∧ (n : Int) = needsV k a b := by
  unfold errF at h
  cases hv : valid k y a b f with
  | false => rw [hv] at h; simp at h
  | true =>
    rw [hv] at h
    refine ⟨rfl, ?_⟩
    by_cases h1 : (n : Int) = needsV k a b
    · exact h1
    · simp [h1] at h
theorem law3v (k y a b : Int) (f : Bool) (hk : 0 ≤ k) (hy : 0 ≤ y) (n : Nat) (x : Nat → Int) : ToldOk P12 G12 3 [stT k y a b f, .view 1 n (fun j => [.int .i64 (x j)]) none] (.bool true) := by
  have hp : posF k y = true := by simp [posF, hk, hy]
  by_cases hn : 12 < n
  · exact stepV_told hm12 hn12 okKB (l3C k y a b f n x hn)
  by_cases he : errF k y a b f n x = 0
  · obtain ⟨hv, hnn⟩ := err_ok he
    obtain ⟨_, ⟨rfl, rfl, rfl, rfl | rfl | rfl | rfl | rfl | rfl | rfl⟩ | ⟨rfl, ⟨rfl, rfl⟩ | ⟨rfl, rfl⟩ | ⟨rfl, rfl⟩ | ⟨rfl, rfl⟩ | ⟨rfl, rfl⟩ | ⟨rfl, rfl⟩⟩⟩ := classes hv
    · obtain rfl : n = 1 := by simp [needsV] at hnn; omega
      exact stepV_told hm12 hn12 okKA (l3A_100 y x he)
    · obtain rfl : n = 1 := by simp [needsV] at hnn; omega
      exact stepV_told hm12 hn12 okKA (l3A_200 y x he)
    · obtain rfl : n = 0 := by simp [needsV] at hnn; omega
      exact stepV_told hm12 hn12 okKA (l3A_300 y x he)
    · obtain rfl : n = 2 := by simp [needsV] at hnn; omega
      exact stepV_told hm12 hn12 okKA (l3A_400 y x he)
    · obtain rfl : n = 2 := by simp [needsV] at hnn; omega
      exact stepV_told hm12 hn12 okKA (l3A_500 y x he)
    · obtain rfl : n = 1 := by simp [needsV] at hnn; omega
      exact stepV_told hm12 hn12 okKA (l3A_600 y x he)
    · obtain rfl : n = 1 := by simp [needsV] at hnn; omega
      exact stepV_told hm12 hn12 okKA (l3A_700 y x he)
    · obtain rfl : n = 2 := by simp [needsV] at hnn; omega
      exact stepV_told hm12 hn12 okKA (l3A_811 y f x he)
    · obtain rfl : n = 3 := by simp [needsV] at hnn; omega
      exact stepV_told hm12 hn12 okKA (l3A_812 y f x he)
    · obtain rfl : n = 3 := by simp [needsV] at hnn; omega
      exact stepV_told hm12 hn12 okKA (l3A_821 y f x he)
    · obtain rfl : n = 4 := by simp [needsV] at hnn; omega
      exact stepV_told hm12 hn12 okKA (l3A_822 y f x he)
    · obtain rfl : n = 4 := by simp [needsV] at hnn; omega
      exact stepV_told hm12 hn12 okKA (l3A_813 y f x he)
    · obtain rfl : n = 4 := by simp [needsV] at hnn; omega
      exact stepV_told hm12 hn12 okKA (l3A_831 y f x he)
  · have hd : n = 0 ∨ n = 1 ∨ n = 2 ∨ n = 3 ∨ n = 4 ∨ n = 5 ∨ n = 6 ∨ n = 7 ∨ n = 8 ∨ n = 9 ∨ n = 10 ∨ n = 11 ∨ n = 12 := by omega
    rcases hd with rfl | rfl | rfl | rfl | rfl | rfl | rfl | rfl | rfl | rfl | rfl | rfl | rfl
    · exact stepV_told hm12 hn12 okKB (l3B_0 k y a b f x hp he)
    · exact stepV_told hm12 hn12 okKB (l3B_1 k y a b f x hp he)
    · exact stepV_told hm12 hn12 okKB (l3B_2 k y a b f x hp he)
    · exact stepV_told hm12 hn12 okKB (l3B_3 k y a b f x hp he)
    · exact stepV_told hm12 hn12 okKB (l3B_4 k y a b f x hp he)
    · exact stepV_told hm12 hn12 okKB (l3B_5 k y a b f x hp he)
    · exact stepV_told hm12 hn12 okKB (l3B_6 k y a b f x hp he)
    · exact stepV_told hm12 hn12 okKB (l3B_7 k y a b f x hp he)
    · exact stepV_told hm12 hn12 okKB (l3B_8 k y a b f x hp he)
    · exact stepV_told hm12 hn12 okKB (l3B_9 k y a b f x hp he)
    · exact stepV_told hm12 hn12 okKB (l3B_10 k y a b f x hp he)
    · exact stepV_told hm12 hn12 okKB (l3B_11 k y a b f x hp he)
    · exact stepV_told hm12 hn12 okKB (l3B_12 k y a b f x hp he)
theorem law3n (k y a b : Int) (f : Bool) (hk : 0 ≤ k) (hy : 0 ≤ y) : ToldOk P12 G12 3 [stT k y a b f, .nils] (.bool true) := by
  have hp : posF k y = true := by simp [posF, hk, hy]
  by_cases he : errF k y a b f 0 (fun _ => 0) = 0
  · obtain ⟨hv, hnn⟩ := err_ok he
    obtain ⟨_, ⟨rfl, rfl, rfl, rfl | rfl | rfl | rfl | rfl | rfl | rfl⟩ | ⟨rfl, ⟨rfl, rfl⟩ | ⟨rfl, rfl⟩ | ⟨rfl, rfl⟩ | ⟨rfl, rfl⟩ | ⟨rfl, rfl⟩ | ⟨rfl, rfl⟩⟩⟩ := classes hv
    · exact absurd hnn (by decide)
    · exact absurd hnn (by decide)
    · exact stepV_told hm12 hn12 okKA (l3A_nil y he)
    · exact absurd hnn (by decide)
    · exact absurd hnn (by decide)
    · exact absurd hnn (by decide)
    · exact absurd hnn (by decide)
    · exact absurd hnn (by decide)
    · exact absurd hnn (by decide)
    · exact absurd hnn (by decide)
    · exact absurd hnn (by decide)
    · exact absurd hnn (by decide)
    · exact absurd hnn (by decide)
  · exact stepV_told hm12 hn12 okKB (l3B_nil k y a b f hp he)
end Go.Ab

namespace Go.Ab
open Go.Proofs
def slOkV (n : Nat) (g : Nat → List T) : Bool := allInt .i64 n g && Nat.ble n 9223372036854775807
def xsV (n : Nat) (g : Nat → List T) : List Int := (List.range n).map fun j => intAt (g j)
def badLF (xs : List Int) : Bool := xs.any fun v => !(decide (1 ≤ v) && decide (v ≤ 3))
def fullLF (k : Int) (xs : List Int) : Bool := fullF k fun j => xs.getD j 0
def outLF (k : Int) (xs : List Int) : Int := outF k fun j => xs.getD j 0
theorem bad_list (n : Nat) (g : Nat → List T) : badLF (xsV n g) = badF n (fun j => intAt (g j)) := by
  simp [badLF, xsV, badF, List.any_map, Function.comp_def]
theorem xsV_get (n : Nat) (g : Nat → List T) (j : Nat) (h : j < n) : (xsV n g).getD j 0 = intAt (g j) := by
  simp [xsV, h]
theorem dep {k a b : Int} {n : Nat} {x x' : Nat → Int} (hn : (n : Int) = needsV k a b) (hx : ∀ j, j < n → x' j = x j) : fullF k x' = fullF k x ∧ outF k x' = outF k x := by
  by_cases h4 : k = 4
  · subst h4
    obtain rfl : n = 2 := by simp [needsV] at hn; omega
    simp [fullF, outF, hx 0 (by omega), hx 1 (by omega)]
  by_cases h5 : k = 5
  · subst h5
    obtain rfl : n = 2 := by simp [needsV] at hn; omega
    simp [fullF, outF, hx 0 (by omega), hx 1 (by omega)]
  by_cases h6 : k = 6
  · subst h6
    obtain rfl : n = 1 := by simp [needsV] at hn; omega
    simp [fullF, outF, hx 0 (by omega)]
  by_cases h7 : k = 7
  · subst h7
    obtain rfl : n = 1 := by simp [needsV] at hn; omega
    simp [fullF, outF, hx 0 (by omega)]
  · simp [fullF, outF, h4, h5, h6, h7]
def okLT (k a b : Int) (xs : List Int) : T := .tup [.fresh true 1 (makesV k a b).toNat (fun j => (List.replicate (makesV k a b).toNat [T.int .i64 (outLF k xs)]).getD j []) (makesV k a b).toNat (some (makesV k a b).toNat), .int .i64 0]
/-- Loads of a valid stitch, with both ends that may come. -/
def spec10W : List T → Tree
  | [.agg [.int .u8 k, .int .u8 y, .int .i64 a, .int .i64 b, .bool f], .view 1 n g _] => .ite (slOkV n g) (.ite (valid k y a b f) (.ite (decide ((n : Int) = needsV k a b)) (.ite (badLF (xsV n g)) .none (.ite (fullLF k (xsV n g)) (.ret (.tup [.nils, .int .i64 9])) (.ret (okLT k a b (xsV n g))))) .none) .none) .none
  | [.agg [.int .u8 k, .int .u8 y, .int .i64 a, .int .i64 b, .bool f], .nils] => .ite (valid k y a b f) (.ite (decide ((0 : Int) = needsV k a b)) (.ite (fullLF k []) .none (.ret (okLT k a b []))) .none) .none
  | _ => .none
theorem ok10W {args : List T} {r : T} (h : (spec10W args).run some = some r) : ToldOk P12 G12 10 args r := by
  unfold spec10W at h; split at h
  · rename_i k y a b f n g c
    obtain ⟨h1, h⟩ := ite_run h
    obtain ⟨hv, h⟩ := ite_run h
    obtain ⟨h2, h⟩ := ite_run h
    have h2 := of_decide_eq_true h2
    have t := (told10 hv n _ c (sl_n h1)).sim (sims_view (st := stT k y a b f) (c := c) h1)
    obtain ⟨d1, d2⟩ := dep (x := fun j => intAt (g j)) (x' := fun j => (xsV n g).getD j 0) h2 (fun j hj => xsV_get n g j hj)
    simp only [Tree.run, bad_list, fullLF, okLT, outLF, d1, d2] at h
    unfold resT at t
    simp only [h2, ne_eq, not_true, if_false] at t
    cases hb : badF n (fun j => intAt (g j)) with
    | true => rw [hb] at h; cases h
    | false =>
      rw [hb] at h t
      simp only [cond_false, Bool.false_eq_true, if_false] at h t
      cases hf : fullF k (fun j => intAt (g j)) with
      | true =>
        rw [hf] at h t
        obtain rfl := Option.some.inj h
        exact t
      | false =>
        rw [hf] at h t
        obtain rfl := Option.some.inj h
        exact t
  · rename_i k y a b f
    obtain ⟨hv, h⟩ := ite_run h
    obtain ⟨h2, h⟩ := ite_run h
    have h2 := of_decide_eq_true h2
    have t := told10n hv
    obtain ⟨d1, d2⟩ := dep (n := 0) (x := fun _ => 0) (x' := fun j => ([] : List Int).getD j 0) h2 (fun j hj => by omega)
    simp only [Tree.run, fullLF, okLT, outLF, d1, d2] at h
    unfold resT at t
    simp only [show badF 0 (fun _ => 0) = false from rfl, Int.natCast_zero, ← h2, ne_eq, not_true, if_false, Bool.false_eq_true] at t
    cases hf : fullF k (fun _ => 0) with
    | true => rw [hf] at h; cases h
    | false =>
      rw [hf] at h t
      obtain rfl := Option.some.inj h
      exact t
  · cases h
/-- The stitch of a 'K', of one kind. -/
def isF (K A B : Int) (k y a : Int) : Bool := kposF k y a && (decide (kkF k = K) && (decide (aaF k a = A) && decide (bbF k a = B)))
def spec13K (K A B : Int) (F : Int → Bool → Bool) : List T → Tree
  | [.agg [.int .u8 k, .int .u8 y, .int .u8 a, .bool f]] => .ite (isF K A B k y a && (F k f == ffF k f)) (.ret (stT K (yyF y) A B (F k f))) .none
  | _ => .none
theorem ok13K {K A B : Int} {F : Int → Bool → Bool} {args : List T} {r : T} (h : (spec13K K A B F args).run some = some r) : ToldOk P12 G12 13 args r := by
  unfold spec13K at h; split at h
  · rename_i k y a f
    obtain ⟨hc, h⟩ := ite_run h
    obtain rfl := Option.some.inj h
    simp only [isF, Bool.and_eq_true, decide_eq_true_eq, beq_iff_eq] at hc
    obtain ⟨⟨h0, h1, h2, h3⟩, h4⟩ := hc
    have := stepV_told hm12 hn12 none_ok (e13 k y a f h0)
    rwa [h1, h2, h3, ← h4] at this
  · cases h
noncomputable def KF (K A B : Int) (F : Int → Bool → Bool) : Orc := ((((((noneO.add 10 spec10W).add 13 (spec13K K A B F)).add 14 specVn).add 15 specVm).add 12 spec12))
theorem okKF {K A B : Int} {F : Int → Bool → Bool} : OrcOk P12 G12 (KF K A B F) := by
  refine told_add (told_add (told_add (told_add (told_add none_ok fun _ _ h => ok10W h) fun _ _ h => ok13K h) ?_) ?_) ?_ <;> intro args r h
  · unfold specVn at h; split at h
    · obtain ⟨hc, h⟩ := ite_run h
      obtain rfl := Option.some.inj h
      exact tv14 hc
    · cases h
  · unfold specVm at h; split at h
    · obtain ⟨hc, h⟩ := ite_run h
      obtain rfl := Option.some.inj h
      exact tv15 hc
    · cases h
  · unfold spec12 at h; split at h
    · obtain rfl := Option.some.inj h
      exact stepV_told hm12 hn12 (arun_ok hm12 hn12 1000 7) lives12
    · cases h
theorem v_bd {l : Int} (h : 0 ≤ l) : 1 ≤ IntKind.i64.wrap ((1 : Int) + IntKind.i64.wrap (l.tmod (3 : Int))) ∧ IntKind.i64.wrap ((1 : Int) + IntKind.i64.wrap (l.tmod (3 : Int))) ≤ 3 := by
  rw [Int.tmod_eq_emod_of_nonneg h, wr64 (x := l % 3) (by omega) (by omega), wr64 (by omega) (by omega)]
  omega
def cF (_ : Int) (_ : Bool) : Bool := false
end Go.Ab

namespace Go.Ab
open Go.Proofs
theorem l4_100 (k y a l0 l1 l2 l3 : Int) (f : Bool) (h0 : isF 1 0 0 k y a = true) (q0 : 0 ≤ l0) (q1 : 0 ≤ l1) (q2 : 0 ≤ l2) (q3 : 0 ≤ l3) : stepV P12 G12 A12 (KF 1 0 0 cF) 20 4 [kT k y a f, .agg [.int .u8 l0, .int .u8 l1, .int .u8 l2, .int .u8 l3]] = some (.bool true) := by
  rw [(show stepV P12 G12 A12 (KF 1 0 0 cF) 20 4 [kT k y a f, .agg [.int .u8 l0, .int .u8 l1, .int .u8 l2, .int .u8 l3]] =
(    bif isF (1 : Int) (0 : Int) (0 : Int) k y a && cF k f == ffF k f then
    bif decide ((1 : Int) ≤ yyF y) && (decide (yyF y ≤ (6 : Int)) && (true && (true && (true && (true && !cF k f))))) then
    bif decide ((1 : Int) ≤ yyF y) && (decide (yyF y ≤ (6 : Int)) && (true && (true && (true && (true && !cF k f))))) then
    bif decide ((1 : Int) ≤ yyF y) && (decide (yyF y ≤ (6 : Int)) && (true && (true && (true && (true && !cF k f))))) then
    bif decide ((1 : Int) ≤ yyF y) && (decide (yyF y ≤ (6 : Int)) && (true && (true && (true && (true && !cF k f))))) then
    bif badLF [IntKind.i64.wrap ((1 : Int) + IntKind.i64.wrap (l0.tmod (3 : Int)))] then
    none
    else
    some (T.bool true)
    else
    none
    else
    none
    else
    none
    else
    none
    else
    none) from by kernel_rfl)]
  have h := h0
  simp only [isF, kposF, Bool.and_eq_true, decide_eq_true_eq] at h
  obtain ⟨hp, hk, ha, hb⟩ := h
  have hy := yy_bd (k := y) (by omega)
  have hc : (cF k f == ffF k f) = true := by simp [cF, ffF, hk]
  have b0 := v_bd q0
  have b1 := v_bd q1
  have b2 := v_bd q2
  have b3 := v_bd q3
  rw [h0, hc]
  simp [hy, cF, badLF, b0, b1, b2, b3]
theorem l4_200 (k y a l0 l1 l2 l3 : Int) (f : Bool) (h0 : isF 2 0 0 k y a = true) (q0 : 0 ≤ l0) (q1 : 0 ≤ l1) (q2 : 0 ≤ l2) (q3 : 0 ≤ l3) : stepV P12 G12 A12 (KF 2 0 0 cF) 20 4 [kT k y a f, .agg [.int .u8 l0, .int .u8 l1, .int .u8 l2, .int .u8 l3]] = some (.bool true) := by
  rw [(show stepV P12 G12 A12 (KF 2 0 0 cF) 20 4 [kT k y a f, .agg [.int .u8 l0, .int .u8 l1, .int .u8 l2, .int .u8 l3]] =
(    bif isF (2 : Int) (0 : Int) (0 : Int) k y a && cF k f == ffF k f then
    bif decide ((1 : Int) ≤ yyF y) && (decide (yyF y ≤ (6 : Int)) && (true && (true && (true && (true && !cF k f))))) then
    bif decide ((1 : Int) ≤ yyF y) && (decide (yyF y ≤ (6 : Int)) && (true && (true && (true && (true && !cF k f))))) then
    bif decide ((1 : Int) ≤ yyF y) && (decide (yyF y ≤ (6 : Int)) && (true && (true && (true && (true && !cF k f))))) then
    bif decide ((1 : Int) ≤ yyF y) && (decide (yyF y ≤ (6 : Int)) && (true && (true && (true && (true && !cF k f))))) then
    bif badLF [IntKind.i64.wrap ((1 : Int) + IntKind.i64.wrap (l0.tmod (3 : Int)))] then
    none
    else
    some (T.bool true)
    else
    none
    else
    none
    else
    none
    else
    none
    else
    none) from by kernel_rfl)]
  have h := h0
  simp only [isF, kposF, Bool.and_eq_true, decide_eq_true_eq] at h
  obtain ⟨hp, hk, ha, hb⟩ := h
  have hy := yy_bd (k := y) (by omega)
  have hc : (cF k f == ffF k f) = true := by simp [cF, ffF, hk]
  have b0 := v_bd q0
  have b1 := v_bd q1
  have b2 := v_bd q2
  have b3 := v_bd q3
  rw [h0, hc]
  simp [hy, cF, badLF, b0, b1, b2, b3]
theorem l4_300 (k y a l0 l1 l2 l3 : Int) (f : Bool) (h0 : isF 3 0 0 k y a = true) (q0 : 0 ≤ l0) (q1 : 0 ≤ l1) (q2 : 0 ≤ l2) (q3 : 0 ≤ l3) : stepV P12 G12 A12 (KF 3 0 0 cF) 20 4 [kT k y a f, .agg [.int .u8 l0, .int .u8 l1, .int .u8 l2, .int .u8 l3]] = some (.bool true) := by
  rw [(show stepV P12 G12 A12 (KF 3 0 0 cF) 20 4 [kT k y a f, .agg [.int .u8 l0, .int .u8 l1, .int .u8 l2, .int .u8 l3]] =
(    bif isF (3 : Int) (0 : Int) (0 : Int) k y a && cF k f == ffF k f then
    bif decide ((1 : Int) ≤ yyF y) && (decide (yyF y ≤ (6 : Int)) && (true && (true && (true && (true && !cF k f))))) then
    bif decide ((1 : Int) ≤ yyF y) && (decide (yyF y ≤ (6 : Int)) && (true && (true && (true && (true && !cF k f))))) then
    bif decide ((1 : Int) ≤ yyF y) && (decide (yyF y ≤ (6 : Int)) && (true && (true && (true && (true && !cF k f))))) then
    bif decide ((1 : Int) ≤ yyF y) && (decide (yyF y ≤ (6 : Int)) && (true && (true && (true && (true && !cF k f))))) then
    some (T.bool true)
    else
    none
    else
    none
    else
    none
    else
    none
    else
    none) from by kernel_rfl)]
  have h := h0
  simp only [isF, kposF, Bool.and_eq_true, decide_eq_true_eq] at h
  obtain ⟨hp, hk, ha, hb⟩ := h
  have hy := yy_bd (k := y) (by omega)
  have hc : (cF k f == ffF k f) = true := by simp [cF, ffF, hk]
  have b0 := v_bd q0
  have b1 := v_bd q1
  have b2 := v_bd q2
  have b3 := v_bd q3
  rw [h0, hc]
  simp [hy, cF, badLF, b0, b1, b2, b3]
theorem l4_400 (k y a l0 l1 l2 l3 : Int) (f : Bool) (h0 : isF 4 0 0 k y a = true) (q0 : 0 ≤ l0) (q1 : 0 ≤ l1) (q2 : 0 ≤ l2) (q3 : 0 ≤ l3) : stepV P12 G12 A12 (KF 4 0 0 cF) 20 4 [kT k y a f, .agg [.int .u8 l0, .int .u8 l1, .int .u8 l2, .int .u8 l3]] = some (.bool true) := by
  rw [(show stepV P12 G12 A12 (KF 4 0 0 cF) 20 4 [kT k y a f, .agg [.int .u8 l0, .int .u8 l1, .int .u8 l2, .int .u8 l3]] =
(    bif isF (4 : Int) (0 : Int) (0 : Int) k y a && cF k f == ffF k f then
    bif decide ((1 : Int) ≤ yyF y) && (decide (yyF y ≤ (6 : Int)) && (true && (true && (true && (true && !cF k f))))) then
    bif decide ((1 : Int) ≤ yyF y) && (decide (yyF y ≤ (6 : Int)) && (true && (true && (true && (true && !cF k f))))) then
    bif decide ((1 : Int) ≤ yyF y) && (decide (yyF y ≤ (6 : Int)) && (true && (true && (true && (true && !cF k f))))) then
    bif decide ((1 : Int) ≤ yyF y) && (decide (yyF y ≤ (6 : Int)) && (true && (true && (true && (true && !cF k f))))) then
    bif badLF
      [IntKind.i64.wrap ((1 : Int) + IntKind.i64.wrap (l0.tmod (3 : Int))),
        IntKind.i64.wrap ((1 : Int) + IntKind.i64.wrap (l1.tmod (3 : Int)))] then
    none
    else
    bif fullLF (4 : Int)
      [IntKind.i64.wrap ((1 : Int) + IntKind.i64.wrap (l0.tmod (3 : Int))),
        IntKind.i64.wrap ((1 : Int) + IntKind.i64.wrap (l1.tmod (3 : Int)))] then
    some (T.bool true)
    else
    some (T.bool true)
    else
    none
    else
    none
    else
    none
    else
    none
    else
    none) from by kernel_rfl)]
  have h := h0
  simp only [isF, kposF, Bool.and_eq_true, decide_eq_true_eq] at h
  obtain ⟨hp, hk, ha, hb⟩ := h
  have hy := yy_bd (k := y) (by omega)
  have hc : (cF k f == ffF k f) = true := by simp [cF, ffF, hk]
  have b0 := v_bd q0
  have b1 := v_bd q1
  have b2 := v_bd q2
  have b3 := v_bd q3
  rw [h0, hc]
  simp [hy, cF, badLF, b0, b1, b2, b3]
theorem l4_500 (k y a l0 l1 l2 l3 : Int) (f : Bool) (h0 : isF 5 0 0 k y a = true) (q0 : 0 ≤ l0) (q1 : 0 ≤ l1) (q2 : 0 ≤ l2) (q3 : 0 ≤ l3) : stepV P12 G12 A12 (KF 5 0 0 cF) 20 4 [kT k y a f, .agg [.int .u8 l0, .int .u8 l1, .int .u8 l2, .int .u8 l3]] = some (.bool true) := by
  rw [(show stepV P12 G12 A12 (KF 5 0 0 cF) 20 4 [kT k y a f, .agg [.int .u8 l0, .int .u8 l1, .int .u8 l2, .int .u8 l3]] =
(    bif isF (5 : Int) (0 : Int) (0 : Int) k y a && cF k f == ffF k f then
    bif decide ((1 : Int) ≤ yyF y) && (decide (yyF y ≤ (6 : Int)) && (true && (true && (true && (true && !cF k f))))) then
    bif decide ((1 : Int) ≤ yyF y) && (decide (yyF y ≤ (6 : Int)) && (true && (true && (true && (true && !cF k f))))) then
    bif decide ((1 : Int) ≤ yyF y) && (decide (yyF y ≤ (6 : Int)) && (true && (true && (true && (true && !cF k f))))) then
    bif decide ((1 : Int) ≤ yyF y) && (decide (yyF y ≤ (6 : Int)) && (true && (true && (true && (true && !cF k f))))) then
    bif badLF
      [IntKind.i64.wrap ((1 : Int) + IntKind.i64.wrap (l0.tmod (3 : Int))),
        IntKind.i64.wrap ((1 : Int) + IntKind.i64.wrap (l1.tmod (3 : Int)))] then
    none
    else
    bif fullLF (5 : Int)
      [IntKind.i64.wrap ((1 : Int) + IntKind.i64.wrap (l0.tmod (3 : Int))),
        IntKind.i64.wrap ((1 : Int) + IntKind.i64.wrap (l1.tmod (3 : Int)))] then
    some (T.bool true)
    else
    some (T.bool true)
    else
    none
    else
    none
    else
    none
    else
    none
    else
    none) from by kernel_rfl)]
  have h := h0
  simp only [isF, kposF, Bool.and_eq_true, decide_eq_true_eq] at h
  obtain ⟨hp, hk, ha, hb⟩ := h
  have hy := yy_bd (k := y) (by omega)
  have hc : (cF k f == ffF k f) = true := by simp [cF, ffF, hk]
  have b0 := v_bd q0
  have b1 := v_bd q1
  have b2 := v_bd q2
  have b3 := v_bd q3
  rw [h0, hc]
  simp [hy, cF, badLF, b0, b1, b2, b3]
theorem l4_600 (k y a l0 l1 l2 l3 : Int) (f : Bool) (h0 : isF 6 0 0 k y a = true) (q0 : 0 ≤ l0) (q1 : 0 ≤ l1) (q2 : 0 ≤ l2) (q3 : 0 ≤ l3) : stepV P12 G12 A12 (KF 6 0 0 cF) 20 4 [kT k y a f, .agg [.int .u8 l0, .int .u8 l1, .int .u8 l2, .int .u8 l3]] = some (.bool true) := by
  rw [(show stepV P12 G12 A12 (KF 6 0 0 cF) 20 4 [kT k y a f, .agg [.int .u8 l0, .int .u8 l1, .int .u8 l2, .int .u8 l3]] =
(    bif isF (6 : Int) (0 : Int) (0 : Int) k y a && cF k f == ffF k f then
    bif decide ((1 : Int) ≤ yyF y) && (decide (yyF y ≤ (6 : Int)) && (true && (true && (true && (true && !cF k f))))) then
    bif decide ((1 : Int) ≤ yyF y) && (decide (yyF y ≤ (6 : Int)) && (true && (true && (true && (true && !cF k f))))) then
    bif decide ((1 : Int) ≤ yyF y) && (decide (yyF y ≤ (6 : Int)) && (true && (true && (true && (true && !cF k f))))) then
    bif decide ((1 : Int) ≤ yyF y) && (decide (yyF y ≤ (6 : Int)) && (true && (true && (true && (true && !cF k f))))) then
    bif badLF [IntKind.i64.wrap ((1 : Int) + IntKind.i64.wrap (l0.tmod (3 : Int)))] then
    none
    else
    bif fullLF (6 : Int) [IntKind.i64.wrap ((1 : Int) + IntKind.i64.wrap (l0.tmod (3 : Int)))] then
    some (T.bool true)
    else
    bif decide (outLF (6 : Int) [IntKind.i64.wrap ((1 : Int) + IntKind.i64.wrap (l0.tmod (3 : Int)))] < (1 : Int)) then
    some (T.bool false)
    else
    bif decide ((3 : Int) < outLF (6 : Int) [IntKind.i64.wrap ((1 : Int) + IntKind.i64.wrap (l0.tmod (3 : Int)))]) then
    some (T.bool false)
    else
    some (T.bool true)
    else
    none
    else
    none
    else
    none
    else
    none
    else
    none) from by kernel_rfl)]
  have h := h0
  simp only [isF, kposF, Bool.and_eq_true, decide_eq_true_eq] at h
  obtain ⟨hp, hk, ha, hb⟩ := h
  have hy := yy_bd (k := y) (by omega)
  have hc : (cF k f == ffF k f) = true := by simp [cF, ffF, hk]
  have b0 := v_bd q0
  have b1 := v_bd q1
  have b2 := v_bd q2
  have b3 := v_bd q3
  rw [h0, hc]
  simp only [badLF, fullLF, outLF, fullF, outF, cF]
  generalize IntKind.i64.wrap ((1 : Int) + IntKind.i64.wrap (l0.tmod (3 : Int))) = v at b0
  by_cases h3 : v = 3
  · simp [hy, h3]
  · simp [hy, h3, b0, show ¬ v + 1 < 1 by omega, show ¬ 3 < v + 1 by omega]
theorem l4_700 (k y a l0 l1 l2 l3 : Int) (f : Bool) (h0 : isF 7 0 0 k y a = true) (q0 : 0 ≤ l0) (q1 : 0 ≤ l1) (q2 : 0 ≤ l2) (q3 : 0 ≤ l3) : stepV P12 G12 A12 (KF 7 0 0 cF) 20 4 [kT k y a f, .agg [.int .u8 l0, .int .u8 l1, .int .u8 l2, .int .u8 l3]] = some (.bool true) := by
  rw [(show stepV P12 G12 A12 (KF 7 0 0 cF) 20 4 [kT k y a f, .agg [.int .u8 l0, .int .u8 l1, .int .u8 l2, .int .u8 l3]] =
(    bif isF (7 : Int) (0 : Int) (0 : Int) k y a && cF k f == ffF k f then
    bif decide ((1 : Int) ≤ yyF y) && (decide (yyF y ≤ (6 : Int)) && (true && (true && (true && (true && !cF k f))))) then
    bif decide ((1 : Int) ≤ yyF y) && (decide (yyF y ≤ (6 : Int)) && (true && (true && (true && (true && !cF k f))))) then
    bif decide ((1 : Int) ≤ yyF y) && (decide (yyF y ≤ (6 : Int)) && (true && (true && (true && (true && !cF k f))))) then
    bif decide ((1 : Int) ≤ yyF y) && (decide (yyF y ≤ (6 : Int)) && (true && (true && (true && (true && !cF k f))))) then
    bif badLF [IntKind.i64.wrap ((1 : Int) + IntKind.i64.wrap (l0.tmod (3 : Int)))] then
    none
    else
    bif decide (outLF (7 : Int) [IntKind.i64.wrap ((1 : Int) + IntKind.i64.wrap (l0.tmod (3 : Int)))] < (1 : Int)) then
    some (T.bool false)
    else
    bif decide ((3 : Int) < outLF (7 : Int) [IntKind.i64.wrap ((1 : Int) + IntKind.i64.wrap (l0.tmod (3 : Int)))]) then
    some (T.bool false)
    else
    some (T.bool true)
    else
    none
    else
    none
    else
    none
    else
    none
    else
    none) from by kernel_rfl)]
  have h := h0
  simp only [isF, kposF, Bool.and_eq_true, decide_eq_true_eq] at h
  obtain ⟨hp, hk, ha, hb⟩ := h
  have hy := yy_bd (k := y) (by omega)
  have hc : (cF k f == ffF k f) = true := by simp [cF, ffF, hk]
  have b0 := v_bd q0
  have b1 := v_bd q1
  have b2 := v_bd q2
  have b3 := v_bd q3
  rw [h0, hc]
  simp only [badLF, fullLF, outLF, fullF, outF, cF]
  generalize IntKind.i64.wrap ((1 : Int) + IntKind.i64.wrap (l0.tmod (3 : Int))) = v at b0
  simp [hy, b0, show ¬ v < 1 by omega, show ¬ 3 < v by omega]
theorem l4_811 (k y a l0 l1 l2 l3 : Int) (f : Bool) (h0 : isF 8 1 1 k y a = true) (q0 : 0 ≤ l0) (q1 : 0 ≤ l1) (q2 : 0 ≤ l2) (q3 : 0 ≤ l3) : stepV P12 G12 A12 (KF 8 1 1 ffF) 20 4 [kT k y a f, .agg [.int .u8 l0, .int .u8 l1, .int .u8 l2, .int .u8 l3]] = some (.bool true) := by
  rw [(show stepV P12 G12 A12 (KF 8 1 1 ffF) 20 4 [kT k y a f, .agg [.int .u8 l0, .int .u8 l1, .int .u8 l2, .int .u8 l3]] =
(    bif isF (8 : Int) (1 : Int) (1 : Int) k y a && ffF k f == ffF k f then
    bif decide ((1 : Int) ≤ yyF y) && (decide (yyF y ≤ (6 : Int)) && true) then
    bif decide ((1 : Int) ≤ yyF y) && (decide (yyF y ≤ (6 : Int)) && true) then
    bif decide ((1 : Int) ≤ yyF y) && (decide (yyF y ≤ (6 : Int)) && true) then
    bif decide ((1 : Int) ≤ yyF y) && (decide (yyF y ≤ (6 : Int)) && true) then
    bif badLF
      [IntKind.i64.wrap ((1 : Int) + IntKind.i64.wrap (l0.tmod (3 : Int))),
        IntKind.i64.wrap ((1 : Int) + IntKind.i64.wrap (l1.tmod (3 : Int)))] then
    none
    else
    some (T.bool true)
    else
    none
    else
    none
    else
    none
    else
    none
    else
    none) from by kernel_rfl)]
  have h := h0
  simp only [isF, kposF, Bool.and_eq_true, decide_eq_true_eq] at h
  obtain ⟨hp, hk, ha, hb⟩ := h
  have hy := yy_bd (k := y) (by omega)
  have hc : (ffF k f == ffF k f) = true := by simp
  have b0 := v_bd q0
  have b1 := v_bd q1
  have b2 := v_bd q2
  have b3 := v_bd q3
  rw [h0, hc]
  simp [hy, cF, badLF, b0, b1, b2, b3]
theorem l4_812 (k y a l0 l1 l2 l3 : Int) (f : Bool) (h0 : isF 8 1 2 k y a = true) (q0 : 0 ≤ l0) (q1 : 0 ≤ l1) (q2 : 0 ≤ l2) (q3 : 0 ≤ l3) : stepV P12 G12 A12 (KF 8 1 2 ffF) 20 4 [kT k y a f, .agg [.int .u8 l0, .int .u8 l1, .int .u8 l2, .int .u8 l3]] = some (.bool true) := by
  rw [(show stepV P12 G12 A12 (KF 8 1 2 ffF) 20 4 [kT k y a f, .agg [.int .u8 l0, .int .u8 l1, .int .u8 l2, .int .u8 l3]] =
(    bif isF (8 : Int) (1 : Int) (2 : Int) k y a && ffF k f == ffF k f then
    bif decide ((1 : Int) ≤ yyF y) && (decide (yyF y ≤ (6 : Int)) && true) then
    bif decide ((1 : Int) ≤ yyF y) && (decide (yyF y ≤ (6 : Int)) && true) then
    bif decide ((1 : Int) ≤ yyF y) && (decide (yyF y ≤ (6 : Int)) && true) then
    bif decide ((1 : Int) ≤ yyF y) && (decide (yyF y ≤ (6 : Int)) && true) then
    bif badLF
      [IntKind.i64.wrap ((1 : Int) + IntKind.i64.wrap (l0.tmod (3 : Int))),
        IntKind.i64.wrap ((1 : Int) + IntKind.i64.wrap (l1.tmod (3 : Int))),
        IntKind.i64.wrap ((1 : Int) + IntKind.i64.wrap (l2.tmod (3 : Int)))] then
    none
    else
    some (T.bool true)
    else
    none
    else
    none
    else
    none
    else
    none
    else
    none) from by kernel_rfl)]
  have h := h0
  simp only [isF, kposF, Bool.and_eq_true, decide_eq_true_eq] at h
  obtain ⟨hp, hk, ha, hb⟩ := h
  have hy := yy_bd (k := y) (by omega)
  have hc : (ffF k f == ffF k f) = true := by simp
  have b0 := v_bd q0
  have b1 := v_bd q1
  have b2 := v_bd q2
  have b3 := v_bd q3
  rw [h0, hc]
  simp [hy, cF, badLF, b0, b1, b2, b3]
theorem l4_821 (k y a l0 l1 l2 l3 : Int) (f : Bool) (h0 : isF 8 2 1 k y a = true) (q0 : 0 ≤ l0) (q1 : 0 ≤ l1) (q2 : 0 ≤ l2) (q3 : 0 ≤ l3) : stepV P12 G12 A12 (KF 8 2 1 ffF) 20 4 [kT k y a f, .agg [.int .u8 l0, .int .u8 l1, .int .u8 l2, .int .u8 l3]] = some (.bool true) := by
  rw [(show stepV P12 G12 A12 (KF 8 2 1 ffF) 20 4 [kT k y a f, .agg [.int .u8 l0, .int .u8 l1, .int .u8 l2, .int .u8 l3]] =
(    bif isF (8 : Int) (2 : Int) (1 : Int) k y a && ffF k f == ffF k f then
    bif decide ((1 : Int) ≤ yyF y) && (decide (yyF y ≤ (6 : Int)) && true) then
    bif decide ((1 : Int) ≤ yyF y) && (decide (yyF y ≤ (6 : Int)) && true) then
    bif decide ((1 : Int) ≤ yyF y) && (decide (yyF y ≤ (6 : Int)) && true) then
    bif decide ((1 : Int) ≤ yyF y) && (decide (yyF y ≤ (6 : Int)) && true) then
    bif badLF
      [IntKind.i64.wrap ((1 : Int) + IntKind.i64.wrap (l0.tmod (3 : Int))),
        IntKind.i64.wrap ((1 : Int) + IntKind.i64.wrap (l1.tmod (3 : Int))),
        IntKind.i64.wrap ((1 : Int) + IntKind.i64.wrap (l2.tmod (3 : Int)))] then
    none
    else
    some (T.bool true)
    else
    none
    else
    none
    else
    none
    else
    none
    else
    none) from by kernel_rfl)]
  have h := h0
  simp only [isF, kposF, Bool.and_eq_true, decide_eq_true_eq] at h
  obtain ⟨hp, hk, ha, hb⟩ := h
  have hy := yy_bd (k := y) (by omega)
  have hc : (ffF k f == ffF k f) = true := by simp
  have b0 := v_bd q0
  have b1 := v_bd q1
  have b2 := v_bd q2
  have b3 := v_bd q3
  rw [h0, hc]
  simp [hy, cF, badLF, b0, b1, b2, b3]
theorem l4_822 (k y a l0 l1 l2 l3 : Int) (f : Bool) (h0 : isF 8 2 2 k y a = true) (q0 : 0 ≤ l0) (q1 : 0 ≤ l1) (q2 : 0 ≤ l2) (q3 : 0 ≤ l3) : stepV P12 G12 A12 (KF 8 2 2 ffF) 20 4 [kT k y a f, .agg [.int .u8 l0, .int .u8 l1, .int .u8 l2, .int .u8 l3]] = some (.bool true) := by
  rw [(show stepV P12 G12 A12 (KF 8 2 2 ffF) 20 4 [kT k y a f, .agg [.int .u8 l0, .int .u8 l1, .int .u8 l2, .int .u8 l3]] =
(    bif isF (8 : Int) (2 : Int) (2 : Int) k y a && ffF k f == ffF k f then
    bif decide ((1 : Int) ≤ yyF y) && (decide (yyF y ≤ (6 : Int)) && true) then
    bif decide ((1 : Int) ≤ yyF y) && (decide (yyF y ≤ (6 : Int)) && true) then
    bif decide ((1 : Int) ≤ yyF y) && (decide (yyF y ≤ (6 : Int)) && true) then
    bif decide ((1 : Int) ≤ yyF y) && (decide (yyF y ≤ (6 : Int)) && true) then
    bif badLF
      [IntKind.i64.wrap ((1 : Int) + IntKind.i64.wrap (l0.tmod (3 : Int))),
        IntKind.i64.wrap ((1 : Int) + IntKind.i64.wrap (l1.tmod (3 : Int))),
        IntKind.i64.wrap ((1 : Int) + IntKind.i64.wrap (l2.tmod (3 : Int))),
        IntKind.i64.wrap ((1 : Int) + IntKind.i64.wrap (l3.tmod (3 : Int)))] then
    none
    else
    some (T.bool true)
    else
    none
    else
    none
    else
    none
    else
    none
    else
    none) from by kernel_rfl)]
  have h := h0
  simp only [isF, kposF, Bool.and_eq_true, decide_eq_true_eq] at h
  obtain ⟨hp, hk, ha, hb⟩ := h
  have hy := yy_bd (k := y) (by omega)
  have hc : (ffF k f == ffF k f) = true := by simp
  have b0 := v_bd q0
  have b1 := v_bd q1
  have b2 := v_bd q2
  have b3 := v_bd q3
  rw [h0, hc]
  simp [hy, cF, badLF, b0, b1, b2, b3]
theorem l4_813 (k y a l0 l1 l2 l3 : Int) (f : Bool) (h0 : isF 8 1 3 k y a = true) (q0 : 0 ≤ l0) (q1 : 0 ≤ l1) (q2 : 0 ≤ l2) (q3 : 0 ≤ l3) : stepV P12 G12 A12 (KF 8 1 3 ffF) 20 4 [kT k y a f, .agg [.int .u8 l0, .int .u8 l1, .int .u8 l2, .int .u8 l3]] = some (.bool true) := by
  rw [(show stepV P12 G12 A12 (KF 8 1 3 ffF) 20 4 [kT k y a f, .agg [.int .u8 l0, .int .u8 l1, .int .u8 l2, .int .u8 l3]] =
(    bif isF (8 : Int) (1 : Int) (3 : Int) k y a && ffF k f == ffF k f then
    bif decide ((1 : Int) ≤ yyF y) && (decide (yyF y ≤ (6 : Int)) && true) then
    bif decide ((1 : Int) ≤ yyF y) && (decide (yyF y ≤ (6 : Int)) && true) then
    bif decide ((1 : Int) ≤ yyF y) && (decide (yyF y ≤ (6 : Int)) && true) then
    bif decide ((1 : Int) ≤ yyF y) && (decide (yyF y ≤ (6 : Int)) && true) then
    bif badLF
      [IntKind.i64.wrap ((1 : Int) + IntKind.i64.wrap (l0.tmod (3 : Int))),
        IntKind.i64.wrap ((1 : Int) + IntKind.i64.wrap (l1.tmod (3 : Int))),
        IntKind.i64.wrap ((1 : Int) + IntKind.i64.wrap (l2.tmod (3 : Int))),
        IntKind.i64.wrap ((1 : Int) + IntKind.i64.wrap (l3.tmod (3 : Int)))] then
    none
    else
    some (T.bool true)
    else
    none
    else
    none
    else
    none
    else
    none
    else
    none) from by kernel_rfl)]
  have h := h0
  simp only [isF, kposF, Bool.and_eq_true, decide_eq_true_eq] at h
  obtain ⟨hp, hk, ha, hb⟩ := h
  have hy := yy_bd (k := y) (by omega)
  have hc : (ffF k f == ffF k f) = true := by simp
  have b0 := v_bd q0
  have b1 := v_bd q1
  have b2 := v_bd q2
  have b3 := v_bd q3
  rw [h0, hc]
  simp [hy, cF, badLF, b0, b1, b2, b3]
theorem l4_831 (k y a l0 l1 l2 l3 : Int) (f : Bool) (h0 : isF 8 3 1 k y a = true) (q0 : 0 ≤ l0) (q1 : 0 ≤ l1) (q2 : 0 ≤ l2) (q3 : 0 ≤ l3) : stepV P12 G12 A12 (KF 8 3 1 ffF) 20 4 [kT k y a f, .agg [.int .u8 l0, .int .u8 l1, .int .u8 l2, .int .u8 l3]] = some (.bool true) := by
  rw [(show stepV P12 G12 A12 (KF 8 3 1 ffF) 20 4 [kT k y a f, .agg [.int .u8 l0, .int .u8 l1, .int .u8 l2, .int .u8 l3]] =
(    bif isF (8 : Int) (3 : Int) (1 : Int) k y a && ffF k f == ffF k f then
    bif decide ((1 : Int) ≤ yyF y) && (decide (yyF y ≤ (6 : Int)) && true) then
    bif decide ((1 : Int) ≤ yyF y) && (decide (yyF y ≤ (6 : Int)) && true) then
    bif decide ((1 : Int) ≤ yyF y) && (decide (yyF y ≤ (6 : Int)) && true) then
    bif decide ((1 : Int) ≤ yyF y) && (decide (yyF y ≤ (6 : Int)) && true) then
    bif badLF
      [IntKind.i64.wrap ((1 : Int) + IntKind.i64.wrap (l0.tmod (3 : Int))),
        IntKind.i64.wrap ((1 : Int) + IntKind.i64.wrap (l1.tmod (3 : Int))),
        IntKind.i64.wrap ((1 : Int) + IntKind.i64.wrap (l2.tmod (3 : Int))),
        IntKind.i64.wrap ((1 : Int) + IntKind.i64.wrap (l3.tmod (3 : Int)))] then
    none
    else
    some (T.bool true)
    else
    none
    else
    none
    else
    none
    else
    none
    else
    none) from by kernel_rfl)]
  have h := h0
  simp only [isF, kposF, Bool.and_eq_true, decide_eq_true_eq] at h
  obtain ⟨hp, hk, ha, hb⟩ := h
  have hy := yy_bd (k := y) (by omega)
  have hc : (ffF k f == ffF k f) = true := by simp
  have b0 := v_bd q0
  have b1 := v_bd q1
  have b2 := v_bd q2
  have b3 := v_bd q3
  rw [h0, hc]
  simp [hy, cF, badLF, b0, b1, b2, b3]
end Go.Ab

namespace Go.Ab
open Go.Proofs
def go14F (t : List UInt8) (i : Int) : Bool := !parseOkF t && (decide (0 ≤ i) && decide (i ≤ 576))
def spec14L : List T → Heap → LT
  | [.str t, .int .i64 i], h => .ite (go14F t i) (.ret (.exit 0) [.undef] h) .none
  | _, _ => .none
def A6V : FuncId → Ann := annWith A12 6 [(1, 14, false), (5, 53, false), (5, 29, true), (8, 60, false), (10, 78, false), (12, 81, true)]
def A6I : FuncId → Ann := annWith A12 6 [(1, 14, false), (5, 53, false), (5, 29, false), (8, 60, false), (10, 78, false), (12, 81, true)]
theorem loop14at : loopAt P12 6 14 = true := by kernel_rfl
theorem apart6 : loopsApart P12 6 = true := by kernel_rfl
theorem parse_text {k y a b : Int} {f : Bool} (h : valid k y a b f = true) : parseOkF (textF k y a b f) = true ∧ pkF (textF k y a b f) = k ∧ pyF (textF k y a b f) = y ∧ paF (textF k y a b f) = a ∧ pbF (textF k y a b f) = b ∧ pfF (textF k y a b f) = f := by
  have h0 : parseOkF (textF k y a b f) = true := by
    unfold parseOkF
    rw [List.any_eq_true]
    exact ⟨(k, y, a, b, f), mem_all h, by simp⟩
  obtain ⟨h1, h2⟩ := parse_ok h0
  obtain ⟨e1, e2, e3, e4, e5⟩ := text_inj h1 h h2
  exact ⟨h0, e1, e2, e3, e4, e5⟩
theorem parse_nil : parseOkF [] = false := by kernel_rfl
theorem valid_pos {k y a b : Int} {f : Bool} (h : valid k y a b f = true) : posF k y = true := by
  simp only [valid, Bool.and_eq_true, decide_eq_true_eq] at h
  simp only [posF, Bool.and_eq_true, decide_eq_true_eq]
  omega
theorem u8_range (x : Int) : 0 ≤ IntKind.u8.wrap x ∧ IntKind.u8.wrap x ≤ 255 := by
  simp only [IntKind.wrap, IntKind.signed, IntKind.bits]
  simp
  omega
theorem kpos_wrap (x y z : Int) : kposF (IntKind.u8.wrap x) (IntKind.u8.wrap y) (IntKind.u8.wrap z) = true := by
  have h1 := u8_range x
  have h2 := u8_range y
  have h3 := u8_range z
  simp only [kposF, Bool.and_eq_true, decide_eq_true_eq]
  omega
theorem pos_wrap (x y : Int) : posF (kkF (IntKind.u8.wrap x)) (yyF (IntKind.u8.wrap y)) = true :=
  valid_pos (ofK_valid (a := IntKind.u8.wrap 0) (f := true) (kpos_wrap x y 0))
end Go.Ab

namespace Go.Ab
open Go.Proofs
theorem iter14 (t : List UInt8) (i : Int) (h : Heap) (hp : parseOkF t = false) : iterR P12 G12 A12 Kc 10 6 [] 14 [.str t, .int .i64 i] h =
    (bif decide (i < (576 : Int)) then some (Ex.normal, [T.str t, T.int IntKind.i64 (IntKind.i64.wrap (i + (1 : Int)))], h) else some (Ex.exit 0, [T.undef], h)) := by
  rw [(show iterR P12 G12 A12 Kc 10 6 [] 14 [.str t, .int .i64 i] h =
(    bif decide (i < (576 : Int)) then
    bif decide (IntKind.i64.wrap (i.tdiv (288 : Int)) = (1 : Int)) then
    bif kposF (IntKind.u8.wrap (i.tmod (8 : Int))) (IntKind.u8.wrap ((IntKind.i64.wrap (i.tdiv (8 : Int))).tmod (6 : Int)))
      (IntKind.u8.wrap ((IntKind.i64.wrap (i.tdiv (48 : Int))).tmod (6 : Int))) then
    bif posF (kkF (IntKind.u8.wrap (i.tmod (8 : Int))))
      (yyF (IntKind.u8.wrap ((IntKind.i64.wrap (i.tdiv (8 : Int))).tmod (6 : Int)))) then
    bif decide
      (textF (kkF (IntKind.u8.wrap (i.tmod (8 : Int))))
          (yyF (IntKind.u8.wrap ((IntKind.i64.wrap (i.tdiv (8 : Int))).tmod (6 : Int))))
          (aaF (IntKind.u8.wrap (i.tmod (8 : Int)))
            (IntKind.u8.wrap ((IntKind.i64.wrap (i.tdiv (48 : Int))).tmod (6 : Int))))
          (bbF (IntKind.u8.wrap (i.tmod (8 : Int)))
            (IntKind.u8.wrap ((IntKind.i64.wrap (i.tdiv (48 : Int))).tmod (6 : Int))))
          (ffF (IntKind.u8.wrap (i.tmod (8 : Int))) true) =
        t) then
    some ((Ex.ret, [T.bool false], h))
    else
    some ((Ex.normal, [T.str t, T.int IntKind.i64 (IntKind.i64.wrap (i + (1 : Int)))], h))
    else
    none
    else
    none
    else
    bif kposF (IntKind.u8.wrap (i.tmod (8 : Int))) (IntKind.u8.wrap ((IntKind.i64.wrap (i.tdiv (8 : Int))).tmod (6 : Int)))
      (IntKind.u8.wrap ((IntKind.i64.wrap (i.tdiv (48 : Int))).tmod (6 : Int))) then
    bif posF (kkF (IntKind.u8.wrap (i.tmod (8 : Int))))
      (yyF (IntKind.u8.wrap ((IntKind.i64.wrap (i.tdiv (8 : Int))).tmod (6 : Int)))) then
    bif decide
      (textF (kkF (IntKind.u8.wrap (i.tmod (8 : Int))))
          (yyF (IntKind.u8.wrap ((IntKind.i64.wrap (i.tdiv (8 : Int))).tmod (6 : Int))))
          (aaF (IntKind.u8.wrap (i.tmod (8 : Int)))
            (IntKind.u8.wrap ((IntKind.i64.wrap (i.tdiv (48 : Int))).tmod (6 : Int))))
          (bbF (IntKind.u8.wrap (i.tmod (8 : Int)))
            (IntKind.u8.wrap ((IntKind.i64.wrap (i.tdiv (48 : Int))).tmod (6 : Int))))
          (ffF (IntKind.u8.wrap (i.tmod (8 : Int))) false) =
        t) then
    some ((Ex.ret, [T.bool false], h))
    else
    some ((Ex.normal, [T.str t, T.int IntKind.i64 (IntKind.i64.wrap (i + (1 : Int)))], h))
    else
    none
    else
    none
    else
    some ((Ex.exit (0 : Nat), [T.undef], h))) from by kernel_rfl)]
  simp only [kpos_wrap, pos_wrap, decide_eq_false (parse_no hp (ofK_valid (kpos_wrap _ _ _))), cond_true, cond_false, Bool.cond_self]
theorem loop14 : LoopOk P12 G12 (A12 6) 6 14 spec14L := by
  intro fn hf hnt vs h e vs' h' hk
  unfold spec14L at hk
  split at hk
  · rename_i t i
    simp only [LT.run] at hk
    cases hg : go14F t i with
    | false => rw [hg] at hk; cases hk
    | true =>
      rw [hg] at hk
      simp only [cond_true, Option.some.injEq, Prod.mk.injEq] at hk
      obtain ⟨rfl, rfl, rfl⟩ := hk
      simp only [go14F, Bool.and_eq_true, Bool.not_eq_true', decide_eq_true_eq] at hg
      obtain ⟨hp, h0, h1⟩ := hg
      refine loop_told hm12 loop14at (an := A12 6) (fun n vs h2 => ∃ i : Int, vs = [.str t, .int .i64 i] ∧ h2 = h ∧ 0 ≤ i ∧ i ≤ 576 ∧ n = (576 - i).toNat) (fun n vs h2 hI => ?_) (n := (576 - i).toNat) ⟨i, rfl, rfl, h0, h1, rfl⟩ hf hnt
      obtain ⟨i, rfl, rfl, hi0, hi1, rfl⟩ := hI
      refine ⟨A12, Kc, 10, [], okC, rfl, rfl, fun p hp => (by cases hp), ?_⟩
      by_cases hi : i < 576
      · refine ⟨_, _, _, by rw [iter14 t i h2 hp, decide_eq_true hi]; rfl, .inl ⟨rfl, _, ?_, i + 1, ?_, rfl, by omega, by omega, rfl⟩⟩
        · omega
        · rw [wr64 (by omega) (by omega)]
      · exact ⟨_, _, _, by rw [iter14 t i h2 hp, decide_eq_false hi]; rfl, .inr ⟨by simp, rfl, rfl, rfl⟩⟩
  · cases hk
theorem loop14s : ∀ p ∈ [((14 : Nat), spec14L)], LoopOk P12 G12 (A12 6) 6 p.1 p.2 := by
  intro p hp
  obtain rfl : p = (14, spec14L) := by simpa using hp
  exact loop14
theorem law6 (k y a b : Int) (f : Bool) (t : List UInt8) (hk : 0 ≤ k) (hy : 0 ≤ y) : ToldOk P12 G12 6 [stT k y a b f, .str t] (.bool true) := by
  have hp : posF k y = true := by simp [posF, hk, hy]
  by_cases hs : t.length < 6 ∧ parseOkF t = false
  · obtain ⟨h6, hpt⟩ := hs
    have hg : go14F t (0 : Int) = true := by simp [go14F, hpt]
    have h100 : ¬ ((100 : Int) < Int.ofNat t.length) := by simp only [Int.ofNat_eq_natCast]; omega
    have h6' : (Int.ofNat t.length < (6 : Int)) := by simp only [Int.ofNat_eq_natCast]; omega
    cases hv : valid k y a b f with
    | true =>
      obtain ⟨q0, q1, q2, q3, q4, q5⟩ := parse_text hv
      refine stepL_told hm12 hn12 okC (A := A6V) (m := 10) apart6 (l := [(14, spec14L)]) (fun p hp => (loop14s p hp).assume _ (by obtain rfl : p = (14, spec14L) := by simpa using hp
                                                                                                                                  rfl)) ?_
      rw [(show stepL P12 G12 A6V Kc 10 6 [(14, spec14L)] [stT k y a b f, .str t] =
(    bif decide ((100 : Int) < Int.ofNat t.length) then
    none
    else
    bif parseOkF (textF k y a b f) then
    bif posF k y then
    bif !decide (textF k y a b f = textF k y a b f) then
    none
    else
    bif posF k y then
    bif decide ((1 : Int) - checkF k y a b f = (1 : Int)) then
    bif decide (pkF (textF k y a b f) = k) then
    bif decide (pyF (textF k y a b f) = y) then
    bif decide (paF (textF k y a b f) = a) then
    bif decide (pbF (textF k y a b f) = b) then
    bif match pfF (textF k y a b f) with
    | true => f
    | false => !f then
    bif posF k y then
    bif decide ((1 : Int) - checkF k y a b f = (0 : Int)) then
    none
    else
    bif parseOkF t then
    none
    else
    bif decide (Int.ofNat t.length < (6 : Int)) then
    bif go14F t (0 : Int) then
    some (T.bool true)
    else
    none
    else
    none
    else
    none
    else
    none
    else
    none
    else
    none
    else
    none
    else
    none
    else
    bif posF k y then
    bif decide ((1 : Int) - checkF k y a b f = (0 : Int)) then
    none
    else
    none
    else
    none
    else
    none
    else
    none
    else
    bif posF k y then
    bif !decide (textF k y a b f = textF k y a b f) then
    none
    else
    bif posF k y then
    bif decide ((1 : Int) - checkF k y a b f = (1 : Int)) then
    none
    else
    bif posF k y then
    bif decide ((1 : Int) - checkF k y a b f = (0 : Int)) then
    none
    else
    none
    else
    none
    else
    none
    else
    none) from by kernel_rfl)]
      cases f <;> simp only [q0, q1, q2, q3, q4, q5, hp, hpt, hg, checkF, hv, decide_eq_false h100, decide_eq_true h6', cond_true, cond_false, decide_true, Bool.not_true] <;> rfl
    | false =>
      have ht : textF k y a b f = [] := by simp [textF, hv]
      refine stepL_told hm12 hn12 okC (A := A6I) (m := 10) apart6 (l := [(14, spec14L)]) (fun p hp => (loop14s p hp).assume _ (by obtain rfl : p = (14, spec14L) := by simpa using hp
                                                                                                                                  rfl)) ?_
      rw [(show stepL P12 G12 A6I Kc 10 6 [(14, spec14L)] [stT k y a b f, .str t] =
(    bif decide ((100 : Int) < Int.ofNat t.length) then
    none
    else
    bif parseOkF (textF k y a b f) then
    bif posF k y then
    bif !decide (textF k y a b f = textF k y a b f) then
    none
    else
    bif posF k y then
    bif decide ((1 : Int) - checkF k y a b f = (1 : Int)) then
    bif decide (pkF (textF k y a b f) = k) then
    bif decide (pyF (textF k y a b f) = y) then
    bif decide (paF (textF k y a b f) = a) then
    bif decide (pbF (textF k y a b f) = b) then
    bif match pfF (textF k y a b f) with
    | true => f
    | false => !f then
    bif posF k y then
    bif decide ((1 : Int) - checkF k y a b f = (0 : Int)) then
    none
    else
    none
    else
    none
    else
    none
    else
    none
    else
    none
    else
    none
    else
    none
    else
    bif posF k y then
    bif decide ((1 : Int) - checkF k y a b f = (0 : Int)) then
    none
    else
    bif parseOkF t then
    none
    else
    bif decide (Int.ofNat t.length < (6 : Int)) then
    bif go14F t (0 : Int) then
    some (T.bool true)
    else
    none
    else
    none
    else
    none
    else
    none
    else
    none
    else
    bif posF k y then
    bif !decide (textF k y a b f = textF k y a b f) then
    none
    else
    bif posF k y then
    bif decide ((1 : Int) - checkF k y a b f = (1 : Int)) then
    none
    else
    bif posF k y then
    bif decide ((1 : Int) - checkF k y a b f = (0 : Int)) then
    bif parseOkF t then
    none
    else
    bif decide (Int.ofNat t.length < (6 : Int)) then
    bif go14F t (0 : Int) then
    some (T.bool true)
    else
    none
    else
    none
    else
    bif parseOkF t then
    none
    else
    bif decide (Int.ofNat t.length < (6 : Int)) then
    bif go14F t (0 : Int) then
    some (T.bool true)
    else
    none
    else
    none
    else
    none
    else
    none
    else
    none) from by kernel_rfl)]
      rw [ht]
      simp only [parse_nil, hp, hpt, hg, checkF, hv, decide_eq_false h100, decide_eq_true h6', cond_true, cond_false, decide_true, Bool.not_true]
      rfl
  · refine stepV_told hm12 hn12 okC (A := A6L) (m := 1000) ?_
    rw [(show stepV P12 G12 A6L Kc 1000 6 [stT k y a b f, .str t] =
(    bif decide ((100 : Int) < Int.ofNat t.length) then
    some (T.bool true)
    else
    bif parseOkF (textF k y a b f) then
    bif posF k y then
    bif !decide (textF k y a b f = textF k y a b f) then
    some (T.bool false)
    else
    bif posF k y then
    bif decide ((1 : Int) - checkF k y a b f = (1 : Int)) then
    bif decide (pkF (textF k y a b f) = k) then
    bif decide (pyF (textF k y a b f) = y) then
    bif decide (paF (textF k y a b f) = a) then
    bif decide (pbF (textF k y a b f) = b) then
    bif match pfF (textF k y a b f) with
    | true => f
    | false => !f then
    bif posF k y then
    bif decide ((1 : Int) - checkF k y a b f = (0 : Int)) then
    some (T.bool false)
    else
    bif parseOkF t then
    bif posF (pkF t) (pyF t) then
    bif decide (textF (pkF t) (pyF t) (paF t) (pbF t) (pfF t) = t) then
    bif !decide (t = []) then
    some (T.bool true)
    else
    some (T.bool false)
    else
    some (T.bool false)
    else
    none
    else
    bif decide (Int.ofNat t.length < (6 : Int)) then
    none
    else
    some (T.bool true)
    else
    none
    else
    some (T.bool false)
    else
    some (T.bool false)
    else
    some (T.bool false)
    else
    some (T.bool false)
    else
    some (T.bool false)
    else
    bif posF k y then
    bif decide ((1 : Int) - checkF k y a b f = (0 : Int)) then
    some (T.bool false)
    else
    bif parseOkF t then
    bif posF (pkF t) (pyF t) then
    bif decide (textF (pkF t) (pyF t) (paF t) (pbF t) (pfF t) = t) then
    bif !decide (t = []) then
    some (T.bool true)
    else
    some (T.bool false)
    else
    some (T.bool false)
    else
    none
    else
    bif decide (Int.ofNat t.length < (6 : Int)) then
    none
    else
    some (T.bool true)
    else
    none
    else
    none
    else
    none
    else
    bif posF k y then
    bif !decide (textF k y a b f = textF k y a b f) then
    some (T.bool false)
    else
    bif posF k y then
    bif decide ((1 : Int) - checkF k y a b f = (1 : Int)) then
    some (T.bool false)
    else
    bif posF k y then
    bif decide ((1 : Int) - checkF k y a b f = (0 : Int)) then
    bif parseOkF t then
    bif posF (pkF t) (pyF t) then
    bif decide (textF (pkF t) (pyF t) (paF t) (pbF t) (pfF t) = t) then
    bif !decide (t = []) then
    some (T.bool true)
    else
    some (T.bool false)
    else
    some (T.bool false)
    else
    none
    else
    bif decide (Int.ofNat t.length < (6 : Int)) then
    none
    else
    some (T.bool true)
    else
    bif parseOkF t then
    bif posF (pkF t) (pyF t) then
    bif decide (textF (pkF t) (pyF t) (paF t) (pbF t) (pfF t) = t) then
    bif !decide (t = []) then
    some (T.bool true)
    else
    some (T.bool false)
    else
    some (T.bool false)
    else
    none
    else
    bif decide (Int.ofNat t.length < (6 : Int)) then
    none
    else
    some (T.bool true)
    else
    none
    else
    none
    else
    none) from by kernel_rfl)]
    by_cases h100 : (100 : Int) < Int.ofNat t.length
    · rw [decide_eq_true h100]; rfl
    rw [decide_eq_false h100]
    have hE : (bif parseOkF t then
        bif posF (pkF t) (pyF t) then
        bif decide (textF (pkF t) (pyF t) (paF t) (pbF t) (pfF t) = t) then
        bif !decide (t = []) then some (T.bool true) else some (T.bool false)
        else some (T.bool false)
        else none
        else
        bif decide (Int.ofNat t.length < (6 : Int)) then none else some (T.bool true)) = some (T.bool true) := by
      cases hpt : parseOkF t with
      | true =>
        obtain ⟨h1, h2⟩ := parse_ok hpt
        have hne : t ≠ [] := by rw [← h2]; exact text_ne h1
        simp [valid_pos h1, h2, hne]
      | false =>
        have : ¬ t.length < 6 := fun h => hs ⟨h, hpt⟩
        have h6' : ¬ (Int.ofNat t.length < (6 : Int)) := by simp only [Int.ofNat_eq_natCast]; omega
        simp only [cond_false, decide_eq_false h6']
    rw [hE]
    cases hv : valid k y a b f with
    | true =>
      obtain ⟨q0, q1, q2, q3, q4, q5⟩ := parse_text hv
      cases f <;> simp only [q0, q1, q2, q3, q4, q5, hp, checkF, hv, cond_true, cond_false, decide_true, Bool.not_true] <;> rfl
    | false =>
      have ht : textF k y a b f = [] := by simp [textF, hv]
      rw [ht]
      simp only [parse_nil, hp, checkF, hv, cond_true, cond_false, decide_true, Bool.not_true]
      rfl
theorem law7 (k y a k' y' a' : Int) (f f' : Bool) (h : kposF k y a = true) (h' : kposF k' y' a' = true) : stepV P12 G12 A12 Kc 100 7 [kT k y a f, kT k' y' a' f'] = some (.bool true) := by
  rw [(show stepV P12 G12 A12 Kc 100 7 [kT k y a f, kT k' y' a' f'] =
(    bif kposF k y a then
    bif kposF k' y' a' then
    bif decide
      (textF (kkF k) (yyF y) (aaF k a) (bbF k a) (ffF k f) =
        textF (kkF k') (yyF y') (aaF k' a') (bbF k' a') (ffF k' f')) then
    bif decide (kkF k = kkF k') then
    bif decide (yyF y = yyF y') then
    bif decide (aaF k a = aaF k' a') then
    bif decide (bbF k a = bbF k' a') then
    bif match ffF k f with
    | true => ffF k' f'
    | false => !ffF k' f' then
    some (T.bool true)
    else
    some (T.bool false)
    else
    some (T.bool false)
    else
    some (T.bool false)
    else
    some (T.bool false)
    else
    some (T.bool false)
    else
    bif decide (kkF k = kkF k') then
    bif decide (yyF y = yyF y') then
    bif decide (aaF k a = aaF k' a') then
    bif decide (bbF k a = bbF k' a') then
    bif match ffF k f with
    | true => ffF k' f'
    | false => !ffF k' f' then
    some (T.bool false)
    else
    some (T.bool true)
    else
    some (T.bool true)
    else
    some (T.bool true)
    else
    some (T.bool true)
    else
    some (T.bool true)
    else
    none
    else
    none) from by kernel_rfl)]
  rw [h, h']
  simp only [cond_true]
  have v1 := ofK_valid (f := f) h
  have v2 := ofK_valid (f := f') h'
  by_cases e : textF (kkF k) (yyF y) (aaF k a) (bbF k a) (ffF k f) = textF (kkF k') (yyF y') (aaF k' a') (bbF k' a') (ffF k' f')
  · obtain ⟨e1, e2, e3, e4, e5⟩ := text_inj v1 v2 e
    rw [decide_eq_true e, e1, e2, e3, e4, e5]
    cases ffF k' f' <;> simp
  · rw [decide_eq_false e]
    simp only [cond_false]
    by_cases e1 : kkF k = kkF k'
    · by_cases e2 : yyF y = yyF y'
      · by_cases e3 : aaF k a = aaF k' a'
        · by_cases e4 : bbF k a = bbF k' a'
          · have e5 : ffF k f ≠ ffF k' f' := fun e5 => e (by rw [e1, e2, e3, e4, e5])
            cases h1 : ffF k f <;> cases h2 : ffF k' f' <;> simp_all
          · simp [e1, e2, e3, e4]
        · simp [e1, e2, e3]
      · simp [e1, e2]
    · simp [e1]
end Go.Ab

namespace Go.Ab
open Go.Proofs
/-- StitchesCheck -/
theorem law8 (k y a b : Int) (f : Bool) (hk : 0 ≤ k) (hy : 0 ≤ y) : stepV P12 G12 A12 Ka 100 8 [stT k y a b f] = some (.bool true) := by
  rw [(show stepV P12 G12 A12 Ka 100 8 [stT k y a b f] =
(    bif posF k y then
    bif decide ((1 : Int) - checkF k y a b f = (1 : Int)) then
    bif decide (k = (2 : Int)) then
    bif decide (checkF k y a b f = (0 : Int)) then
    bif posF k y then
    bif decide (needsF k y a b f = needsF k y a b f) then
    bif posF k y then
    bif decide (makesF k y a b f = makesF k y a b f) then
    bif decide (bedF k y a b f = (1 : Int)) then
    some (T.bool true)
    else
    some (T.bool false)
    else
    some (T.bool false)
    else
    none
    else
    some (T.bool false)
    else
    none
    else
    some (T.bool false)
    else
    bif decide (k = (5 : Int)) then
    bif decide (checkF k y a b f = (0 : Int)) then
    bif posF k y then
    bif decide (needsF k y a b f = needsF k y a b f) then
    bif posF k y then
    bif decide (makesF k y a b f = makesF k y a b f) then
    bif decide (bedF k y a b f = (1 : Int)) then
    some (T.bool true)
    else
    some (T.bool false)
    else
    some (T.bool false)
    else
    none
    else
    some (T.bool false)
    else
    none
    else
    some (T.bool false)
    else
    bif decide (checkF k y a b f = (0 : Int)) then
    bif posF k y then
    bif decide (needsF k y a b f = needsF k y a b f) then
    bif posF k y then
    bif decide (makesF k y a b f = makesF k y a b f) then
    bif decide (bedF k y a b f = (0 : Int)) then
    some (T.bool true)
    else
    some (T.bool false)
    else
    some (T.bool false)
    else
    none
    else
    some (T.bool false)
    else
    none
    else
    some (T.bool false)
    else
    bif decide (checkF k y a b f = (1 : Int)) then
    bif posF k y then
    bif decide (needsF k y a b f = needsF k y a b f) then
    bif posF k y then
    bif decide (makesF k y a b f = makesF k y a b f) then
    bif decide (bedF k y a b f = (0 : Int)) then
    some (T.bool true)
    else
    some (T.bool false)
    else
    some (T.bool false)
    else
    none
    else
    some (T.bool false)
    else
    none
    else
    some (T.bool false)
    else
    none) from by kernel_rfl)]
  have hp : posF k y = true := by simp [posF, hk, hy]
  rw [hp]
  grind [checkF, bedF]
/-- StitchesMirror -/
theorem law5 (k y a b : Int) (f : Bool) : stepV P12 G12 A12 Ka 100 5 [stT k y a b f] = some (.bool true) := by
  rw [(show stepV P12 G12 A12 Ka 100 5 [stT k y a b f] =
(    bif !decide (k = (8 : Int)) then
    bif decide (k = k) then
    bif decide (y = y) then
    bif decide
      ((match decide (k = (8 : Int)) with
        | true => b
        | false => a) =
        a) then
    bif decide
      ((match decide (k = (8 : Int)) with
        | true => a
        | false => b) =
        b) then
    bif match bif decide (k = (8 : Int)) then !f else f with
    | true => f
    | false => !f then
    bif decide (k = (8 : Int)) then
    bif !decide
        ((match decide (k = (8 : Int)) with
          | true => b
          | false => a) =
          b) then
    some (T.bool false)
    else
    bif !decide
        ((match decide (k = (8 : Int)) with
          | true => a
          | false => b) =
          a) then
    some (T.bool false)
    else
    bif match decide (k = (8 : Int)) with
    | true => !f
    | false => f then
    bif f then
    some (T.bool false)
    else
    bif !decide (k = k) then
    some (T.bool false)
    else
    bif !decide (y = y) then
    some (T.bool false)
    else
    bif decide (k = k) then
    bif decide (y = y) then
    bif decide
      ((match decide (k = (8 : Int)) with
        | true => bif decide (k = (8 : Int)) then a else b
        | false => bif decide (k = (8 : Int)) then b else a) =
        a) then
    bif decide
      ((match decide (k = (8 : Int)) with
        | true => bif decide (k = (8 : Int)) then b else a
        | false => bif decide (k = (8 : Int)) then a else b) =
        b) then
    bif match
      bif decide (k = (8 : Int)) then !bif decide (k = (8 : Int)) then !f else f
      else bif decide (k = (8 : Int)) then !f else f with
    | true => f
    | false => !f then
    bif decide
      (checkF k y
          (match decide (k = (8 : Int)) with
          | true => b
          | false => a)
          (match decide (k = (8 : Int)) with
          | true => a
          | false => b)
          (match decide (k = (8 : Int)) with
          | true => !f
          | false => f) =
        checkF k y a b f) then
    bif decide
      (needsF k y
          (match decide (k = (8 : Int)) with
          | true => b
          | false => a)
          (match decide (k = (8 : Int)) with
          | true => a
          | false => b)
          (match decide (k = (8 : Int)) with
          | true => !f
          | false => f) =
        needsF k y a b f) then
    bif decide
      (makesF k y
          (match decide (k = (8 : Int)) with
          | true => b
          | false => a)
          (match decide (k = (8 : Int)) with
          | true => a
          | false => b)
          (match decide (k = (8 : Int)) with
          | true => !f
          | false => f) =
        makesF k y a b f) then
    some (T.bool true)
    else
    some (T.bool false)
    else
    some (T.bool false)
    else
    some (T.bool false)
    else
    some (T.bool false)
    else
    some (T.bool false)
    else
    some (T.bool false)
    else
    some (T.bool false)
    else
    some (T.bool false)
    else
    bif f then
    bif !decide (k = k) then
    some (T.bool false)
    else
    bif !decide (y = y) then
    some (T.bool false)
    else
    bif decide (k = k) then
    bif decide (y = y) then
    bif decide
      ((match decide (k = (8 : Int)) with
        | true => bif decide (k = (8 : Int)) then a else b
        | false => bif decide (k = (8 : Int)) then b else a) =
        a) then
    bif decide
      ((match decide (k = (8 : Int)) with
        | true => bif decide (k = (8 : Int)) then b else a
        | false => bif decide (k = (8 : Int)) then a else b) =
        b) then
    bif match
      bif decide (k = (8 : Int)) then !bif decide (k = (8 : Int)) then !f else f
      else bif decide (k = (8 : Int)) then !f else f with
    | true => f
    | false => !f then
    bif decide
      (checkF k y
          (match decide (k = (8 : Int)) with
          | true => b
          | false => a)
          (match decide (k = (8 : Int)) with
          | true => a
          | false => b)
          (match decide (k = (8 : Int)) with
          | true => !f
          | false => f) =
        checkF k y a b f) then
    bif decide
      (needsF k y
          (match decide (k = (8 : Int)) with
          | true => b
          | false => a)
          (match decide (k = (8 : Int)) with
          | true => a
          | false => b)
          (match decide (k = (8 : Int)) with
          | true => !f
          | false => f) =
        needsF k y a b f) then
    bif decide
      (makesF k y
          (match decide (k = (8 : Int)) with
          | true => b
          | false => a)
          (match decide (k = (8 : Int)) with
          | true => a
          | false => b)
          (match decide (k = (8 : Int)) with
          | true => !f
          | false => f) =
        makesF k y a b f) then
    some (T.bool true)
    else
    some (T.bool false)
    else
    some (T.bool false)
    else
    some (T.bool false)
    else
    some (T.bool false)
    else
    some (T.bool false)
    else
    some (T.bool false)
    else
    some (T.bool false)
    else
    some (T.bool false)
    else
    some (T.bool false)
    else
    bif decide (k = k) then
    bif decide (y = y) then
    bif decide
      ((match decide (k = (8 : Int)) with
        | true => bif decide (k = (8 : Int)) then a else b
        | false => bif decide (k = (8 : Int)) then b else a) =
        a) then
    bif decide
      ((match decide (k = (8 : Int)) with
        | true => bif decide (k = (8 : Int)) then b else a
        | false => bif decide (k = (8 : Int)) then a else b) =
        b) then
    bif match
      bif decide (k = (8 : Int)) then !bif decide (k = (8 : Int)) then !f else f
      else bif decide (k = (8 : Int)) then !f else f with
    | true => f
    | false => !f then
    bif decide
      (checkF k y
          (match decide (k = (8 : Int)) with
          | true => b
          | false => a)
          (match decide (k = (8 : Int)) with
          | true => a
          | false => b)
          (match decide (k = (8 : Int)) with
          | true => !f
          | false => f) =
        checkF k y a b f) then
    bif decide
      (needsF k y
          (match decide (k = (8 : Int)) with
          | true => b
          | false => a)
          (match decide (k = (8 : Int)) with
          | true => a
          | false => b)
          (match decide (k = (8 : Int)) with
          | true => !f
          | false => f) =
        needsF k y a b f) then
    bif decide
      (makesF k y
          (match decide (k = (8 : Int)) with
          | true => b
          | false => a)
          (match decide (k = (8 : Int)) with
          | true => a
          | false => b)
          (match decide (k = (8 : Int)) with
          | true => !f
          | false => f) =
        makesF k y a b f) then
    some (T.bool true)
    else
    some (T.bool false)
    else
    some (T.bool false)
    else
    some (T.bool false)
    else
    some (T.bool false)
    else
    some (T.bool false)
    else
    some (T.bool false)
    else
    some (T.bool false)
    else
    some (T.bool false)
    else
    some (T.bool false)
    else
    some (T.bool false)
    else
    some (T.bool false)
    else
    some (T.bool false)
    else
    some (T.bool false)
    else
    bif decide (k = (8 : Int)) then
    bif !decide
        ((match decide (k = (8 : Int)) with
          | true => b
          | false => a) =
          b) then
    some (T.bool false)
    else
    bif !decide
        ((match decide (k = (8 : Int)) with
          | true => a
          | false => b) =
          a) then
    some (T.bool false)
    else
    bif match decide (k = (8 : Int)) with
    | true => !f
    | false => f then
    bif f then
    some (T.bool false)
    else
    bif !decide (k = k) then
    some (T.bool false)
    else
    bif !decide (y = y) then
    some (T.bool false)
    else
    bif decide (k = k) then
    bif decide (y = y) then
    bif decide
      ((match decide (k = (8 : Int)) with
        | true => bif decide (k = (8 : Int)) then a else b
        | false => bif decide (k = (8 : Int)) then b else a) =
        a) then
    bif decide
      ((match decide (k = (8 : Int)) with
        | true => bif decide (k = (8 : Int)) then b else a
        | false => bif decide (k = (8 : Int)) then a else b) =
        b) then
    bif match
      bif decide (k = (8 : Int)) then !bif decide (k = (8 : Int)) then !f else f
      else bif decide (k = (8 : Int)) then !f else f with
    | true => f
    | false => !f then
    bif decide
      (checkF k y
          (match decide (k = (8 : Int)) with
          | true => b
          | false => a)
          (match decide (k = (8 : Int)) with
          | true => a
          | false => b)
          (match decide (k = (8 : Int)) with
          | true => !f
          | false => f) =
        checkF k y a b f) then
    bif decide
      (needsF k y
          (match decide (k = (8 : Int)) with
          | true => b
          | false => a)
          (match decide (k = (8 : Int)) with
          | true => a
          | false => b)
          (match decide (k = (8 : Int)) with
          | true => !f
          | false => f) =
        needsF k y a b f) then
    bif decide
      (makesF k y
          (match decide (k = (8 : Int)) with
          | true => b
          | false => a)
          (match decide (k = (8 : Int)) with
          | true => a
          | false => b)
          (match decide (k = (8 : Int)) with
          | true => !f
          | false => f) =
        makesF k y a b f) then
    some (T.bool true)
    else
    some (T.bool false)
    else
    some (T.bool false)
    else
    some (T.bool false)
    else
    some (T.bool false)
    else
    some (T.bool false)
    else
    some (T.bool false)
    else
    some (T.bool false)
    else
    some (T.bool false)
    else
    bif f then
    bif !decide (k = k) then
    some (T.bool false)
    else
    bif !decide (y = y) then
    some (T.bool false)
    else
    bif decide (k = k) then
    bif decide (y = y) then
    bif decide
      ((match decide (k = (8 : Int)) with
        | true => bif decide (k = (8 : Int)) then a else b
        | false => bif decide (k = (8 : Int)) then b else a) =
        a) then
    bif decide
      ((match decide (k = (8 : Int)) with
        | true => bif decide (k = (8 : Int)) then b else a
        | false => bif decide (k = (8 : Int)) then a else b) =
        b) then
    bif match
      bif decide (k = (8 : Int)) then !bif decide (k = (8 : Int)) then !f else f
      else bif decide (k = (8 : Int)) then !f else f with
    | true => f
    | false => !f then
    bif decide
      (checkF k y
          (match decide (k = (8 : Int)) with
          | true => b
          | false => a)
          (match decide (k = (8 : Int)) with
          | true => a
          | false => b)
          (match decide (k = (8 : Int)) with
          | true => !f
          | false => f) =
        checkF k y a b f) then
    bif decide
      (needsF k y
          (match decide (k = (8 : Int)) with
          | true => b
          | false => a)
          (match decide (k = (8 : Int)) with
          | true => a
          | false => b)
          (match decide (k = (8 : Int)) with
          | true => !f
          | false => f) =
        needsF k y a b f) then
    bif decide
      (makesF k y
          (match decide (k = (8 : Int)) with
          | true => b
          | false => a)
          (match decide (k = (8 : Int)) with
          | true => a
          | false => b)
          (match decide (k = (8 : Int)) with
          | true => !f
          | false => f) =
        makesF k y a b f) then
    some (T.bool true)
    else
    some (T.bool false)
    else
    some (T.bool false)
    else
    some (T.bool false)
    else
    some (T.bool false)
    else
    some (T.bool false)
    else
    some (T.bool false)
    else
    some (T.bool false)
    else
    some (T.bool false)
    else
    some (T.bool false)
    else
    bif decide (k = k) then
    bif decide (y = y) then
    bif decide
      ((match decide (k = (8 : Int)) with
        | true => bif decide (k = (8 : Int)) then a else b
        | false => bif decide (k = (8 : Int)) then b else a) =
        a) then
    bif decide
      ((match decide (k = (8 : Int)) with
        | true => bif decide (k = (8 : Int)) then b else a
        | false => bif decide (k = (8 : Int)) then a else b) =
        b) then
    bif match
      bif decide (k = (8 : Int)) then !bif decide (k = (8 : Int)) then !f else f
      else bif decide (k = (8 : Int)) then !f else f with
    | true => f
    | false => !f then
    bif decide
      (checkF k y
          (match decide (k = (8 : Int)) with
          | true => b
          | false => a)
          (match decide (k = (8 : Int)) with
          | true => a
          | false => b)
          (match decide (k = (8 : Int)) with
          | true => !f
          | false => f) =
        checkF k y a b f) then
    bif decide
      (needsF k y
          (match decide (k = (8 : Int)) with
          | true => b
          | false => a)
          (match decide (k = (8 : Int)) with
          | true => a
          | false => b)
          (match decide (k = (8 : Int)) with
          | true => !f
          | false => f) =
        needsF k y a b f) then
    bif decide
      (makesF k y
          (match decide (k = (8 : Int)) with
          | true => b
          | false => a)
          (match decide (k = (8 : Int)) with
          | true => a
          | false => b)
          (match decide (k = (8 : Int)) with
          | true => !f
          | false => f) =
        makesF k y a b f) then
    some (T.bool true)
    else
    some (T.bool false)
    else
    some (T.bool false)
    else
    some (T.bool false)
    else
    some (T.bool false)
    else
    some (T.bool false)
    else
    some (T.bool false)
    else
    some (T.bool false)
    else
    some (T.bool false)) from by kernel_rfl)]
  grind [checkF, needsF, makesF, valid]
end Go.Ab

namespace Go.Ab
open Go.Proofs
theorem law4 (k y a l0 l1 l2 l3 : Int) (f : Bool) (hp : kposF k y a = true) (q0 : 0 ≤ l0) (q1 : 0 ≤ l1) (q2 : 0 ≤ l2) (q3 : 0 ≤ l3) :
    ToldOk P12 G12 4 [kT k y a f, .agg [.int .u8 l0, .int .u8 l1, .int .u8 l2, .int .u8 l3]] (.bool true) := by
  have hi : ∀ K A B : Int, kkF k = K → aaF k a = A → bbF k a = B → isF K A B k y a = true := fun K A B e1 e2 e3 => by simp [isF, hp, e1, e2, e3]
  obtain ⟨_, ⟨ha, hb, _, hk | hk | hk | hk | hk | hk | hk⟩ | ⟨hk, ⟨ha, hb⟩ | ⟨ha, hb⟩ | ⟨ha, hb⟩ | ⟨ha, hb⟩ | ⟨ha, hb⟩ | ⟨ha, hb⟩⟩⟩ := classes (ofK_valid (f := f) hp)
  · exact stepV_told hm12 hn12 okKF (l4_100 k y a l0 l1 l2 l3 f (hi _ _ _ hk ha hb) q0 q1 q2 q3)
  · exact stepV_told hm12 hn12 okKF (l4_200 k y a l0 l1 l2 l3 f (hi _ _ _ hk ha hb) q0 q1 q2 q3)
  · exact stepV_told hm12 hn12 okKF (l4_300 k y a l0 l1 l2 l3 f (hi _ _ _ hk ha hb) q0 q1 q2 q3)
  · exact stepV_told hm12 hn12 okKF (l4_400 k y a l0 l1 l2 l3 f (hi _ _ _ hk ha hb) q0 q1 q2 q3)
  · exact stepV_told hm12 hn12 okKF (l4_500 k y a l0 l1 l2 l3 f (hi _ _ _ hk ha hb) q0 q1 q2 q3)
  · exact stepV_told hm12 hn12 okKF (l4_600 k y a l0 l1 l2 l3 f (hi _ _ _ hk ha hb) q0 q1 q2 q3)
  · exact stepV_told hm12 hn12 okKF (l4_700 k y a l0 l1 l2 l3 f (hi _ _ _ hk ha hb) q0 q1 q2 q3)
  · exact stepV_told hm12 hn12 okKF (l4_811 k y a l0 l1 l2 l3 f (hi _ _ _ hk ha hb) q0 q1 q2 q3)
  · exact stepV_told hm12 hn12 okKF (l4_812 k y a l0 l1 l2 l3 f (hi _ _ _ hk ha hb) q0 q1 q2 q3)
  · exact stepV_told hm12 hn12 okKF (l4_821 k y a l0 l1 l2 l3 f (hi _ _ _ hk ha hb) q0 q1 q2 q3)
  · exact stepV_told hm12 hn12 okKF (l4_822 k y a l0 l1 l2 l3 f (hi _ _ _ hk ha hb) q0 q1 q2 q3)
  · exact stepV_told hm12 hn12 okKF (l4_813 k y a l0 l1 l2 l3 f (hi _ _ _ hk ha hb) q0 q1 q2 q3)
  · exact stepV_told hm12 hn12 okKF (l4_831 k y a l0 l1 l2 l3 f (hi _ _ _ hk ha hb) q0 q1 q2 q3)
/-- The laws themselves, as callees. -/
def spec8 : List T → Tree
  | [.agg [.int .u8 k, .int .u8 y, .int .i64 _, .int .i64 _, .bool _]] => .ite (posF k y) (.ret (.bool true)) .none
  | _ => .none
def spec5 : List T → Tree
  | [.agg [.int .u8 _, .int .u8 _, .int .i64 _, .int .i64 _, .bool _]] => .ret (.bool true)
  | _ => .none
def spec6 : List T → Tree
  | [.agg [.int .u8 k, .int .u8 y, .int .i64 _, .int .i64 _, .bool _], .str _] => .ite (posF k y) (.ret (.bool true)) .none
  | _ => .none
def spec3 : List T → Tree
  | [.agg [.int .u8 k, .int .u8 y, .int .i64 _, .int .i64 _, .bool _], .view 1 n g _] => .ite (posF k y) (.ite (slOkV n g) (.ret (.bool true)) .none) .none
  | _ => .none
def spec4 : List T → Tree
  | [.agg [.int .u8 k, .int .u8 y, .int .u8 a, .bool _], .agg [.int .u8 l0, .int .u8 l1, .int .u8 l2, .int .u8 l3]] => .ite (kposF k y a && (decide (0 ≤ l0) && (decide (0 ≤ l1) && (decide (0 ≤ l2) && decide (0 ≤ l3))))) (.ret (.bool true)) .none
  | _ => .none
def spec7 : List T → Tree
  | [.agg [.int .u8 k, .int .u8 y, .int .u8 a, .bool _], .agg [.int .u8 k', .int .u8 y', .int .u8 a', .bool _]] => .ite (kposF k y a && kposF k' y' a') (.ret (.bool true)) .none
  | _ => .none
theorem of_pos {k y : Int} (h : posF k y = true) : 0 ≤ k ∧ 0 ≤ y := by
  simpa only [posF, Bool.and_eq_true, decide_eq_true_eq] using h
noncomputable def K9 : Orc := ((((((Kc.add 8 spec8).add 5 spec5).add 6 spec6).add 3 spec3).add 4 spec4).add 7 spec7)
theorem okK9 : OrcOk P12 G12 K9 := by
  refine told_add (told_add (told_add (told_add (told_add (told_add okC ?_) ?_) ?_) ?_) ?_) ?_ <;> intro args r h
  · unfold spec8 at h; split at h
    · obtain ⟨hc, h⟩ := ite_run h
      obtain rfl := Option.some.inj h
      exact stepV_told hm12 hn12 okA (law8 _ _ _ _ _ (of_pos hc).1 (of_pos hc).2)
    · cases h
  · unfold spec5 at h; split at h
    · obtain rfl := Option.some.inj h
      exact stepV_told hm12 hn12 okA (law5 _ _ _ _ _)
    · cases h
  · unfold spec6 at h; split at h
    · obtain ⟨hc, h⟩ := ite_run h
      obtain rfl := Option.some.inj h
      exact law6 _ _ _ _ _ _ (of_pos hc).1 (of_pos hc).2
    · cases h
  · unfold spec3 at h; split at h
    · rename_i k y a b f n g c
      obtain ⟨hc, h⟩ := ite_run h
      obtain ⟨h1, h⟩ := ite_run h
      obtain rfl := Option.some.inj h
      have h1' : slOkF n g = true := h1
      simp only [slOkF, Bool.and_eq_true] at h1'
      refine (law3v k y a b f (of_pos hc).1 (of_pos hc).2 n fun j => intAt (g j)).sim (.cons (.refl _) (.cons (.view (.inr rfl) fun j hj => ?_) .nil))
      show Sims (g j) [.int .i64 (intAt (g j))]
      rw [← isInt_eq (List.all_eq_true.1 h1'.1 j (List.mem_range.2 hj))]
      exact .refl _
    · cases h
  · unfold spec4 at h; split at h
    · obtain ⟨hc, h⟩ := ite_run h
      obtain rfl := Option.some.inj h
      simp only [Bool.and_eq_true, decide_eq_true_eq] at hc
      exact law4 _ _ _ _ _ _ _ _ hc.1 hc.2.1 hc.2.2.1 hc.2.2.2.1 hc.2.2.2.2
    · cases h
  · unfold spec7 at h; split at h
    · obtain ⟨hc, h⟩ := ite_run h
      obtain rfl := Option.some.inj h
      simp only [Bool.and_eq_true] at hc
      exact stepV_told hm12 hn12 okC (law7 _ _ _ _ _ _ _ _ hc.1 hc.2)
    · cases h
end Go.Ab

