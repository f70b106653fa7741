/- A part of the proof: nothing is assumed. -/
import Derived.Test.YteoamlekamflbaaP10
import Derived.Test.YteoamlekamflbaaP11
import Derived.Test.YteoamlekamflbaaP9
import Derived.Test.YteoamlekamflbaaP8
import Derived.Test.YteoamlekamflbaaP4
set_option linter.all false
namespace Go.Ab
open Go.Proofs
def v70 (n : Nat) (a b lim : Nat) (bal par : Bool) : List T := [.own 0 0 0 n none, .int .i64 a, .int .i64 b, .int .i64 lim, .bool bal, .bool par]
def w70 (n : Nat) (a b lim : Nat) (bal par : Bool) (L : Nat) : List T := v70 n a b lim bal par ++ [.int .i64 L]
def x70 (n : Nat) (a b lim : Nat) (bal par : Bool) (L p : Nat) (hint : Int) : List T := w70 n a b lim bal par L ++ [.int .i64 p, .int .i64 hint]
def ch70 (k : Nat) (c : Code) : Code := match k with
  | 0 => inB (inB (inB (sq2 (sq2 c))))
  | k + 1 => sq2 (ch70 k c)
def pk70 (k : Nat) (c : Code) : Code := sq1 (ch70 k c)
noncomputable def KR (f : FuncId) (p : List T → Heap → T → Heap → Prop) (r : T) (h : Heap) : Orc := K82.addRef f (refF p fun _ _ => some (r, h))
noncomputable def KR2 (p84 p70 : List T → Heap → T → Heap → Prop) (n m : Nat) (d : Bool) (yp yg : Nat → Int) : Orc := (K82.addRef 84 (refF p84 fun _ _ => some (.tup [.int .i64 m, .bool d], [ub 0 n yp]))).addRef 70 (refF p70 fun _ _ => some (.tup [], [ub 0 n yg]))
structure I70 (x : Nat → Int) (n a b lim : Nat) (y : Nat → Int) : Prop where
  pr : Pr x y 0 n
  out : Out y n a b
  ab : a ≤ b
  bn : b ≤ n
  limB : 12 < b - a → b - a ≤ lim + 12
  limC : lim ≤ 10
noncomputable def c70 : Code := match P18.funcs[70]? with | some fn => fn.body.getD .skip | none => .skip
def lT : List Nat := [0, 1, 2, 3, 8, 9]
def lW : List Nat := [0, 1, 2, 3, 8, 9, 10]
def lX : List Nat := [0, 1, 2, 3, 8, 9, 10, 11, 12]
def Pc (k : Nat) (l : List Nat) (vs : List T) (h : Heap) (e : Ex) (l' : List Nat) (vs' : List T) (h' : Heap) : Prop := CodeGoes P18 G18 (A18 70).prom Try.f70.ntmps (pk70 k c70) (mkSt l vs h) e (mkSt l' vs' h')
def Ch (k : Nat) (l : List Nat) (vs : List T) (h : Heap) (e : Ex) (l' : List Nat) (vs' : List T) (h' : Heap) : Prop := CodeGoes P18 G18 (A18 70).prom Try.f70.ntmps (ch70 k c70) (mkSt l vs h) e (mkSt l' vs' h')
theorem b70 : Try.f70.body = some c70 := by kernel_rfl
theorem loops_ch (c : Code) : ∀ k, ∀ b ∈ loopsOf (ch70 k c), b ∈ loopsOf c
  | 0 => fun b hb => loops_sq2 _ _ (loops_sq2 _ _ (loops_inB _ _ (loops_inB _ _ (loops_inB _ _ hb))))
  | k + 1 => fun b hb => loops_ch c k b (loops_sq2 _ _ hb)
theorem pc {K : Orc} (hK : OrcOk P18 G18 K) (k : Nat) {l l' : List Nat} {vs vs' : List T} {h h' : Heap} {e : Ex} (hk : codeL P18 G18 A18 K 0 70 [] (pk70 k) l vs h l' = some (e, vs', h')) : Pc k l vs h e l' vs' h' :=
  goes_codeL hm18 hK Try.func70 b70 (Nat.le_of_ble_eq_true (by kernel_rfl)) (by kernel_rfl) loops0 (pk70 k) rfl (fun b hb => loops_ch _ k b (loops_sq1 _ _ hb)) hk
theorem pc8 {K : Orc} (hK : OrcOk P18 G18 K) {l l' : List Nat} {vs vs' : List T} {h h' : Heap} {e : Ex} (hk : codeL P18 G18 A18 K 0 70 [] (ch70 8) l vs h l' = some (e, vs', h')) : Ch 8 l vs h e l' vs' h' :=
  goes_codeL hm18 hK Try.func70 b70 (Nat.le_of_ble_eq_true (by kernel_rfl)) (by kernel_rfl) loops0 (ch70 8) rfl (fun b hb => loops_ch _ 8 b hb) hk
theorem ch_eq : (∀ k, k < 8 → ch70 k c70 = .seq (pk70 k c70) (ch70 (k + 1) c70)) := by
  intro k hk
  obtain rfl | rfl | rfl | rfl | rfl | rfl | rfl | rfl : k = 0 ∨ k = 1 ∨ k = 2 ∨ k = 3 ∨ k = 4 ∨ k = 5 ∨ k = 6 ∨ k = 7 := by omega
  all_goals kernel_rfl
theorem ch_next {k : Nat} (hk : k < 8) {l l1 l2 : List Nat} {vs v1 v2 : List T} {h h1 h2 : Heap} {e : Ex} (p : Pc k l vs h .normal l1 v1 h1) (q : Ch (k + 1) l1 v1 h1 e l2 v2 h2) : Ch k l vs h e l2 v2 h2 := by
  unfold Ch
  rw [ch_eq k hk]
  exact goes_seq p q
theorem ch_ret {k : Nat} (hk : k < 8) {l l1 : List Nat} {vs v1 : List T} {h h1 : Heap} (p : Pc k l vs h .ret l1 v1 h1) : Ch k l vs h .ret l1 v1 h1 := by
  unfold Ch
  rw [ch_eq k hk]
  exact goes_seq_ret p
theorem ch_exit {k i : Nat} (hk : k < 8) {l l1 : List Nat} {vs v1 : List T} {h h1 : Heap} (p : Pc k l vs h (.exit i) l1 v1 h1) : Ch k l vs h (.exit i) l1 v1 h1 := by
  unfold Ch
  rw [ch_eq k hk]
  exact goes_seq_exit p
theorem refK {f : FuncId} {p : List T → Heap → T → Heap → Prop} (hp : p = ToldRef P18 G18 f) (r : T) (h : Heap) : OrcOk P18 G18 (KR f p r h) := told_addRef ok82 (refF_told hp)
theorem pq12T (n a b : Nat) (x : Nat → Int) (lim : Int) (hn : n ≤ 1000) (hb : b ≤ n) (hab : a ≤ b) (h12 : b - a ≤ 12) :
    ∃ z, (Pr x z a b ∧ Asc z a b) ∧ ToldRef P18 G18 70 [.own 0 0 0 n none, .int .i64 a, .int .i64 b, .int .i64 lim] [ub 0 n x] (.tup []) [ub 0 n z] := by
  obtain ⟨z, hz, ht⟩ := insT n a b x hn hb hab
  obtain ⟨p, hp⟩ := is_ref P18 G18 76
  refine ⟨z, hz, ?_⟩
  refine stepR_told hm18 hn18 (K := K70 p n z) (told_addRef none_ok (refF_told hp)) (A := A18) (m := 1) (by kernel_rfl) (l := []) loops0 ?_
  rw [(show stepR P18 G18 A18 (K70 p n z) 1 70 [] [.own 0 0 0 n none, .int .i64 a, .int .i64 b, .int .i64 lim] [ub 0 n x] =
(
 bif decide (IntKind.i64.wrap (Int.ofNat b - Int.ofNat a) ≤ (12 : Int)) then
 bif decF (p [T.own 0 0 0 n
 none, T.int .i64 (Int.ofNat a), T.int .i64 (Int.ofNat b)] [Blk.mk 0 1 n (fun j => [T.int .u8 (x j)]) true false
 none] (T.tup []) [Blk.mk 0 1 n (fun j => [T.int .u8 (z j)]) true false
 none]) then
 some ((T.tup [], [Blk.mk 0 1 n (fun j => [T.int .u8 (z j)]) true false
 none]))
 else none else
 bif decide (lim = (0 : Int)) then none else
 none) from by kernel_rfl)]
  rw [ofNatE b, ofNatE a, wr64 (x := (b : Int) - a) (by omega) (by omega)]
  refine bift (by first | assumption | omega | (simp (disch := omega) only [numsE, List.length_cons, List.length_nil, Nat.reduceAdd]; done) | (simp (disch := omega) only [numsE, List.length_cons, List.length_nil, Nat.reduceAdd]; omega)) ?_
  exact bift (refF_yes hp ht) rfl
section
variable {n a b lim : Nat} {bal par : Bool} {y : Nat → Int}
theorem q0 (hb : b ≤ 1000) (hab : a ≤ b) : Pc 0 lT (v70 n a b lim bal par) [ub 0 n y] .normal lW (w70 n a b lim bal par (b - a)) [ub 0 n y] := by
  refine pc none_ok 0 ?_
  show codeL P18 G18 A18 noneO 0 70 [] (pk70 0) [0,1,2,3,8,9] (v70 n a b lim bal par) [ub 0 n y] [0,1,2,3,8,9,10] = _
  rw [(show codeL P18 G18 A18 noneO 0 70 [] (pk70 0) [0,1,2,3,8,9] (v70 n a b lim bal par) [ub 0 n y] [0,1,2,3,8,9,10] =
(
 some ((Ex.normal, [T.own 0 0 0 n
 none, T.int .i64 (Int.ofNat a), T.int .i64 (Int.ofNat b), T.int .i64 (Int.ofNat lim), T.bool bal, T.bool par, T.int .i64 (IntKind.i64.wrap (Int.ofNat b - Int.ofNat a))], [Blk.mk 0 1 n (fun j => [T.int .u8 (y j)]) true false
 none]))) from by kernel_rfl)]
  rw [ofNatE b, ofNatE a, show IntKind.i64.wrap ((b : Int) - a) = ((b - a : Nat) : Int) by rw [wr64 (by omega) (by omega)]; omega]
  rfl
theorem q1r {L : Nat} (hL : L ≤ 12) {z : Nat → Int} (t : ToldRef P18 G18 76 [.own 0 0 0 n none, .int .i64 a, .int .i64 b] [ub 0 n y] (.tup []) [ub 0 n z]) : Pc 1 lW (w70 n a b lim bal par L) [ub 0 n y] .ret [] [] [ub 0 n z] := by
  obtain ⟨q, hq⟩ := is_ref P18 G18 76
  refine pc (K := KR 76 q (.tup []) [ub 0 n z]) (refK hq _ _) 1 ?_
  show codeL P18 G18 A18 (KR 76 q (.tup []) [ub 0 n z]) 0 70 [] (pk70 1) [0,1,2,3,8,9,10] (w70 n a b lim bal par L) [ub 0 n y] [] = _
  rw [(show codeL P18 G18 A18 (KR 76 q (.tup []) [ub 0 n z]) 0 70 [] (pk70 1) [0,1,2,3,8,9,10] (w70 n a b lim bal par L) [ub 0 n y] [] =
(
 bif decide (Int.ofNat L ≤ (12 : Int)) then
 bif decF (q [T.own 0 0 0 n
 none, T.int .i64 (Int.ofNat a), T.int .i64 (Int.ofNat b)] [Blk.mk 0 1 n (fun j => [T.int .u8 (y j)]) true false
 none] (T.tup []) [Blk.mk 0 1 n (fun j => [T.int .u8 (z j)]) true false
 none]) then
 some ((Ex.ret, [], [Blk.mk 0 1 n (fun j => [T.int .u8 (z j)]) true false
 none]))
 else none else
 some ((Ex.normal, [], [Blk.mk 0 1 n (fun j => [T.int .u8 (y j)]) true false
 none]))) from by kernel_rfl)]
  refine bift (by first | assumption | omega | (simp (disch := omega) only [numsE, List.length_cons, List.length_nil, Nat.reduceAdd]; done) | (simp (disch := omega) only [numsE, List.length_cons, List.length_nil, Nat.reduceAdd]; omega)) ?_
  exact bift (refF_yes hq t) rfl
theorem q1n {L : Nat} (hL : 12 < L) : Pc 1 lW (w70 n a b lim bal par L) [ub 0 n y] .normal lW (w70 n a b lim bal par L) [ub 0 n y] := by
  refine pc none_ok 1 ?_
  show codeL P18 G18 A18 noneO 0 70 [] (pk70 1) [0,1,2,3,8,9,10] (w70 n a b lim bal par L) [ub 0 n y] [0,1,2,3,8,9,10] = _
  rw [(show codeL P18 G18 A18 noneO 0 70 [] (pk70 1) [0,1,2,3,8,9,10] (w70 n a b lim bal par L) [ub 0 n y] [0,1,2,3,8,9,10] =
(
 bif decide (Int.ofNat L ≤ (12 : Int)) then none else
 some ((Ex.normal, [T.own 0 0 0 n
 none, T.int .i64 (Int.ofNat a), T.int .i64 (Int.ofNat b), T.int .i64 (Int.ofNat lim), T.bool bal, T.bool par, T.int .i64 (Int.ofNat L)], [Blk.mk 0 1 n (fun j => [T.int .u8 (y j)]) true false
 none]))) from by kernel_rfl)]
  refine biff (by first | assumption | (simp (disch := omega) only [numsE, List.length_cons, List.length_nil, Nat.reduceAdd]; done) | (simp (disch := omega) only [numsE, List.length_cons, List.length_nil, Nat.reduceAdd]; omega)) ?_
  rfl
theorem q2 {L : Nat} (hl : 1 ≤ lim) : Pc 2 lW (w70 n a b lim bal par L) [ub 0 n y] .normal lW (w70 n a b lim bal par L) [ub 0 n y] := by
  refine pc none_ok 2 ?_
  show codeL P18 G18 A18 noneO 0 70 [] (pk70 2) [0,1,2,3,8,9,10] (w70 n a b lim bal par L) [ub 0 n y] [0,1,2,3,8,9,10] = _
  rw [(show codeL P18 G18 A18 noneO 0 70 [] (pk70 2) [0,1,2,3,8,9,10] (w70 n a b lim bal par L) [ub 0 n y] [0,1,2,3,8,9,10] =
(
 bif decide (Int.ofNat lim = (0 : Int)) then none else
 some ((Ex.normal, [T.own 0 0 0 n
 none, T.int .i64 (Int.ofNat a), T.int .i64 (Int.ofNat b), T.int .i64 (Int.ofNat lim), T.bool bal, T.bool par, T.int .i64 (Int.ofNat L)], [Blk.mk 0 1 n (fun j => [T.int .u8 (y j)]) true false
 none]))) from by kernel_rfl)]
  refine biff (by first | assumption | (simp (disch := omega) only [numsE, List.length_cons, List.length_nil, Nat.reduceAdd]; done) | (simp (disch := omega) only [numsE, List.length_cons, List.length_nil, Nat.reduceAdd]; omega)) ?_
  rfl
theorem q3t {L : Nat} : Pc 3 lW (w70 n a b lim true par L) [ub 0 n y] .normal lW (w70 n a b lim true par L) [ub 0 n y] := by
  refine pc none_ok 3 ?_
  show codeL P18 G18 A18 noneO 0 70 [] (pk70 3) [0,1,2,3,8,9,10] (w70 n a b lim true par L) [ub 0 n y] [0,1,2,3,8,9,10] = _
  rw [(show codeL P18 G18 A18 noneO 0 70 [] (pk70 3) [0,1,2,3,8,9,10] (w70 n a b lim true par L) [ub 0 n y] [0,1,2,3,8,9,10] =
(
 some ((Ex.normal, [T.own 0 0 0 n
 none, T.int .i64 (Int.ofNat a), T.int .i64 (Int.ofNat b), T.int .i64 (Int.ofNat lim), T.bool true, T.bool par, T.int .i64 (Int.ofNat L)], [Blk.mk 0 1 n (fun j => [T.int .u8 (y j)]) true false
 none]))) from by kernel_rfl)]
  rfl
theorem q3f {L : Nat} (hl : 1 ≤ lim) (hl2 : lim ≤ 10) {z : Nat → Int} (t : ToldRef P18 G18 78 [.own 0 0 0 n none, .int .i64 a, .int .i64 b] [ub 0 n y] (.tup []) [ub 0 n z]) : Pc 3 lW (w70 n a b lim false par L) [ub 0 n y] .normal lW (w70 n a b (lim - 1) false par L) [ub 0 n z] := by
  obtain ⟨q, hq⟩ := is_ref P18 G18 78
  refine pc (K := KR 78 q (.tup []) [ub 0 n z]) (refK hq _ _) 3 ?_
  show codeL P18 G18 A18 (KR 78 q (.tup []) [ub 0 n z]) 0 70 [] (pk70 3) [0,1,2,3,8,9,10] (w70 n a b lim false par L) [ub 0 n y] [0,1,2,3,8,9,10] = _
  rw [(show codeL P18 G18 A18 (KR 78 q (.tup []) [ub 0 n z]) 0 70 [] (pk70 3) [0,1,2,3,8,9,10] (w70 n a b lim false par L) [ub 0 n y] [0,1,2,3,8,9,10] =
(
 bif decF (q [T.own 0 0 0 n
 none, T.int .i64 (Int.ofNat a), T.int .i64 (Int.ofNat b)] [Blk.mk 0 1 n (fun j => [T.int .u8 (y j)]) true false
 none] (T.tup []) [Blk.mk 0 1 n (fun j => [T.int .u8 (z j)]) true false
 none]) then
 some ((Ex.normal, [T.own 0 0 0 n
 none, T.int .i64 (Int.ofNat a), T.int .i64 (Int.ofNat b), T.int .i64 (IntKind.i64.wrap (Int.ofNat lim - (1 : Int))), T.bool false, T.bool par, T.int .i64 (Int.ofNat L)], [Blk.mk 0 1 n (fun j => [T.int .u8 (z j)]) true false
 none]))
 else
 none) from by kernel_rfl)]
  refine bift (refF_yes hq t) ?_
  rw [ofNatE lim, show IntKind.i64.wrap ((lim : Int) - 1) = ((lim - 1 : Nat) : Int) by rw [wr64 (by omega) (by omega)]; omega]
  rfl
theorem q4 {L p : Nat} {hint : Int} (t : ToldRef P18 G18 79 [.own 0 0 0 n none, .int .i64 a, .int .i64 b] [ub 0 n y] (.tup [.int .i64 p, .int .i64 hint]) [ub 0 n y]) : Pc 4 lW (w70 n a b lim bal par L) [ub 0 n y] .normal lX (x70 n a b lim bal par L p hint) [ub 0 n y] := by
  obtain ⟨q, hq⟩ := is_ref P18 G18 79
  refine pc (K := KR 79 q (.tup [.int .i64 p, .int .i64 hint]) [ub 0 n y]) (refK hq _ _) 4 ?_
  show codeL P18 G18 A18 (KR 79 q (.tup [.int .i64 p, .int .i64 hint]) [ub 0 n y]) 0 70 [] (pk70 4) [0,1,2,3,8,9,10] (w70 n a b lim bal par L) [ub 0 n y] [0,1,2,3,8,9,10,11,12] = _
  rw [(show codeL P18 G18 A18 (KR 79 q (.tup [.int .i64 p, .int .i64 hint]) [ub 0 n y]) 0 70 [] (pk70 4) [0,1,2,3,8,9,10] (w70 n a b lim bal par L) [ub 0 n y] [0,1,2,3,8,9,10,11,12] =
(
 bif decF (q [T.own 0 0 0 n
 none, T.int .i64 (Int.ofNat a), T.int .i64 (Int.ofNat b)] [Blk.mk 0 1 n (fun j => [T.int .u8 (y j)]) true false
 none] (T.tup [T.int .i64 (Int.ofNat p), T.int .i64 hint]) [Blk.mk 0 1 n (fun j => [T.int .u8 (y j)]) true false
 none]) then
 some ((Ex.normal, [T.own 0 0 0 n
 none, T.int .i64 (Int.ofNat a), T.int .i64 (Int.ofNat b), T.int .i64 (Int.ofNat lim), T.bool bal, T.bool par, T.int .i64 (Int.ofNat L), T.int .i64 (Int.ofNat p), T.int .i64 hint], [Blk.mk 0 1 n (fun j => [T.int .u8 (y j)]) true false
 none]))
 else
 none) from by kernel_rfl)]
  exact bift (refF_yes hq t) rfl
theorem q5t {L p : Nat} {z : Nat → Int} (hb : b ≤ 1000) (hp : a ≤ p) (hp2 : p < b) (t : ToldRef P18 G18 80 [.own 0 0 0 n none, .int .i64 a, .int .i64 b] [ub 0 n y] (.tup []) [ub 0 n z]) : Pc 5 lX (x70 n a b lim bal par L p 2) [ub 0 n y] .normal lX (x70 n a b lim bal par L (b - 1 - (p - a)) 1) [ub 0 n z] := by
  obtain ⟨q, hq⟩ := is_ref P18 G18 80
  refine pc (K := KR 80 q (.tup []) [ub 0 n z]) (refK hq _ _) 5 ?_
  show codeL P18 G18 A18 (KR 80 q (.tup []) [ub 0 n z]) 0 70 [] (pk70 5) [0,1,2,3,8,9,10,11,12] (x70 n a b lim bal par L p 2) [ub 0 n y] [0,1,2,3,8,9,10,11,12] = _
  rw [(show codeL P18 G18 A18 (KR 80 q (.tup []) [ub 0 n z]) 0 70 [] (pk70 5) [0,1,2,3,8,9,10,11,12] (x70 n a b lim bal par L p 2) [ub 0 n y] [0,1,2,3,8,9,10,11,12] =
(
 bif decF (q [T.own 0 0 0 n
 none, T.int .i64 (Int.ofNat a), T.int .i64 (Int.ofNat b)] [Blk.mk 0 1 n (fun j => [T.int .u8 (y j)]) true false
 none] (T.tup []) [Blk.mk 0 1 n (fun j => [T.int .u8 (z j)]) true false
 none]) then
 some ((Ex.normal, [T.own 0 0 0 n
 none, T.int .i64 (Int.ofNat a), T.int .i64 (Int.ofNat b), T.int .i64 (Int.ofNat lim), T.bool bal, T.bool par, T.int .i64 (Int.ofNat L), T.int .i64 (IntKind.i64.wrap (IntKind.i64.wrap (Int.ofNat b - (1 : Int)) - IntKind.i64.wrap (Int.ofNat p - Int.ofNat a))), T.int .i64 (1 : Int)], [Blk.mk 0 1 n (fun j => [T.int .u8 (z j)]) true false
 none]))
 else
 none) from by kernel_rfl)]
  refine bift (refF_yes hq t) ?_
  rw [ofNatE b, ofNatE p, ofNatE a, wr64 (x := (b : Int) - 1) (by omega) (by omega), wr64 (x := (p : Int) - a) (by omega) (by omega), show IntKind.i64.wrap ((b : Int) - 1 - ((p : Int) - a)) = ((b - 1 - (p - a) : Nat) : Int) by rw [wr64 (by omega) (by omega)]; omega]
  rfl
theorem q5f {L p : Nat} {hint : Int} (hh : hint ≠ 2) : Pc 5 lX (x70 n a b lim bal par L p hint) [ub 0 n y] .normal lX (x70 n a b lim bal par L p hint) [ub 0 n y] := by
  refine pc none_ok 5 ?_
  show codeL P18 G18 A18 noneO 0 70 [] (pk70 5) [0,1,2,3,8,9,10,11,12] (x70 n a b lim bal par L p hint) [ub 0 n y] [0,1,2,3,8,9,10,11,12] = _
  rw [(show codeL P18 G18 A18 noneO 0 70 [] (pk70 5) [0,1,2,3,8,9,10,11,12] (x70 n a b lim bal par L p hint) [ub 0 n y] [0,1,2,3,8,9,10,11,12] =
(
 bif decide (hint = (2 : Int)) then none else
 some ((Ex.normal, [T.own 0 0 0 n
 none, T.int .i64 (Int.ofNat a), T.int .i64 (Int.ofNat b), T.int .i64 (Int.ofNat lim), T.bool bal, T.bool par, T.int .i64 (Int.ofNat L), T.int .i64 (Int.ofNat p), T.int .i64 hint], [Blk.mk 0 1 n (fun j => [T.int .u8 (y j)]) true false
 none]))) from by kernel_rfl)]
  rw [dF hh]
  rfl
end
end Go.Ab

namespace Go.Ab
open Go.Proofs
section
variable {n a b lim L p : Nat} {hint : Int} {bal par : Bool} {y : Nat → Int}
theorem q6n (hf : (bal && (par && decide (hint = 1))) = false) : Pc 6 lX (x70 n a b lim bal par L p hint) [ub 0 n y] .normal lX (x70 n a b lim bal par L p hint) [ub 0 n y] := by
  refine pc none_ok 6 ?_
  show codeL P18 G18 A18 noneO 0 70 [] (pk70 6) [0,1,2,3,8,9,10,11,12] (x70 n a b lim bal par L p hint) [ub 0 n y] [0,1,2,3,8,9,10,11,12] = _
  rw [(show codeL P18 G18 A18 noneO 0 70 [] (pk70 6) [0,1,2,3,8,9,10,11,12] (x70 n a b lim bal par L p hint) [ub 0 n y] [0,1,2,3,8,9,10,11,12] =
(
 bif bal then
 bif par then
 bif decide (hint = (1 : Int)) then none else
 some ((Ex.normal, [T.own 0 0 0 n
 none, T.int .i64 (Int.ofNat a), T.int .i64 (Int.ofNat b), T.int .i64 (Int.ofNat lim), T.bool bal, T.bool par, T.int .i64 (Int.ofNat L), T.int .i64 (Int.ofNat p), T.int .i64 hint], [Blk.mk 0 1 n (fun j => [T.int .u8 (y j)]) true false
 none]))
 else
 some ((Ex.normal, [T.own 0 0 0 n
 none, T.int .i64 (Int.ofNat a), T.int .i64 (Int.ofNat b), T.int .i64 (Int.ofNat lim), T.bool bal, T.bool par, T.int .i64 (Int.ofNat L), T.int .i64 (Int.ofNat p), T.int .i64 hint], [Blk.mk 0 1 n (fun j => [T.int .u8 (y j)]) true false
 none]))
 else
 some ((Ex.normal, [T.own 0 0 0 n
 none, T.int .i64 (Int.ofNat a), T.int .i64 (Int.ofNat b), T.int .i64 (Int.ofNat lim), T.bool bal, T.bool par, T.int .i64 (Int.ofNat L), T.int .i64 (Int.ofNat p), T.int .i64 hint], [Blk.mk 0 1 n (fun j => [T.int .u8 (y j)]) true false
 none]))) from by kernel_rfl)]
  cases bal
  · rfl
  · cases par
    · rfl
    · rw [Bool.true_and, Bool.true_and] at hf
      rw [hf]
      rfl
theorem q6c {ins : Bool} (t : ToldRef P18 G18 81 [.own 0 0 0 n none, .int .i64 a, .int .i64 b] [ub 0 n y] (.bool ins) [ub 0 n y]) :
    (ins = true → Pc 6 lX (x70 n a b lim true true L p 1) [ub 0 n y] .ret [] [] [ub 0 n y]) ∧ (ins = false → Pc 6 lX (x70 n a b lim true true L p 1) [ub 0 n y] .normal lX (x70 n a b lim true true L p 1) [ub 0 n y]) := by
  obtain ⟨q, hq⟩ := is_ref P18 G18 81
  constructor
  · rintro rfl
    refine pc (K := KR 81 q (.bool true) [ub 0 n y]) (refK hq _ _) 6 ?_
    show codeL P18 G18 A18 (KR 81 q (.bool true) [ub 0 n y]) 0 70 [] (pk70 6) [0,1,2,3,8,9,10,11,12] (x70 n a b lim true true L p 1) [ub 0 n y] [] = _
    rw [(show codeL P18 G18 A18 (KR 81 q (.bool true) [ub 0 n y]) 0 70 [] (pk70 6) [0,1,2,3,8,9,10,11,12] (x70 n a b lim true true L p 1) [ub 0 n y] [] =
(
 bif decF (q [T.own 0 0 0 n
 none, T.int .i64 (Int.ofNat a), T.int .i64 (Int.ofNat b)] [Blk.mk 0 1 n (fun j => [T.int .u8 (y j)]) true false
 none] (T.bool true) [Blk.mk 0 1 n (fun j => [T.int .u8 (y j)]) true false
 none]) then
 some ((Ex.ret, [], [Blk.mk 0 1 n (fun j => [T.int .u8 (y j)]) true false
 none]))
 else
 none) from by kernel_rfl)]
    exact bift (refF_yes hq t) rfl
  · rintro rfl
    refine pc (K := KR 81 q (.bool false) [ub 0 n y]) (refK hq _ _) 6 ?_
    show codeL P18 G18 A18 (KR 81 q (.bool false) [ub 0 n y]) 0 70 [] (pk70 6) [0,1,2,3,8,9,10,11,12] (x70 n a b lim true true L p 1) [ub 0 n y] [0,1,2,3,8,9,10,11,12] = _
    rw [(show codeL P18 G18 A18 (KR 81 q (.bool false) [ub 0 n y]) 0 70 [] (pk70 6) [0,1,2,3,8,9,10,11,12] (x70 n a b lim true true L p 1) [ub 0 n y] [0,1,2,3,8,9,10,11,12] =
(
 bif decF (q [T.own 0 0 0 n
 none, T.int .i64 (Int.ofNat a), T.int .i64 (Int.ofNat b)] [Blk.mk 0 1 n (fun j => [T.int .u8 (y j)]) true false
 none] (T.bool false) [Blk.mk 0 1 n (fun j => [T.int .u8 (y j)]) true false
 none]) then
 some ((Ex.normal, [T.own 0 0 0 n
 none, T.int .i64 (Int.ofNat a), T.int .i64 (Int.ofNat b), T.int .i64 (Int.ofNat lim), T.bool true, T.bool true, T.int .i64 (Int.ofNat L), T.int .i64 (Int.ofNat p), T.int .i64 (1 : Int)], [Blk.mk 0 1 n (fun j => [T.int .u8 (y j)]) true false
 none]))
 else
 none) from by kernel_rfl)]
    exact bift (refF_yes hq t) rfl
theorem q7n (hn : n ≤ 1000) (hp : p < n) (ha : a ≤ n) (hc : a = 0 ∨ y (a - 1) < y p) : Pc 7 lX (x70 n a b lim bal par L p hint) [ub 0 n y] .normal lX (x70 n a b lim bal par L p hint) [ub 0 n y] := by
  refine pc ok82 7 ?_
  show codeL P18 G18 A18 K82 0 70 [] (pk70 7) [0,1,2,3,8,9,10,11,12] (x70 n a b lim bal par L p hint) [ub 0 n y] [0,1,2,3,8,9,10,11,12] = _
  rw [(show codeL P18 G18 A18 K82 0 70 [] (pk70 7) [0,1,2,3,8,9,10,11,12] (x70 n a b lim bal par L p hint) [ub 0 n y] [0,1,2,3,8,9,10,11,12] =
(
 bif decide ((0 : Int) < Int.ofNat a) then
 bif decide ((0 : Int) ≤ IntKind.i64.wrap (Int.ofNat a - (1 : Int))) && decide (IntKind.i64.wrap (Int.ofNat a - (1 : Int)) < Int.ofNat n) then
 bif ((0 : Nat) + (IntKind.i64.wrap (Int.ofNat a - (1 : Int))).toNat).blt n then
 bif decide ((0 : Int) ≤ Int.ofNat p) && decide (Int.ofNat p < Int.ofNat n) then
 bif ((0 : Nat) + p).blt n then
 bif decide (y ((0 : Nat) + (IntKind.i64.wrap (Int.ofNat a - (1 : Int))).toNat) < y ((0 : Nat) + p)) then
 some ((Ex.normal, [T.own 0 0 0 n
 none, T.int .i64 (Int.ofNat a), T.int .i64 (Int.ofNat b), T.int .i64 (Int.ofNat lim), T.bool bal, T.bool par, T.int .i64 (Int.ofNat L), T.int .i64 (Int.ofNat p), T.int .i64 hint], [Blk.mk 0 1 n (fun j => [T.int .u8 (y j)]) true false
 none]))
 else none else none else none else none else none else
 some ((Ex.normal, [T.own 0 0 0 n
 none, T.int .i64 (Int.ofNat a), T.int .i64 (Int.ofNat b), T.int .i64 (Int.ofNat lim), T.bool bal, T.bool par, T.int .i64 (Int.ofNat L), T.int .i64 (Int.ofNat p), T.int .i64 hint], [Blk.mk 0 1 n (fun j => [T.int .u8 (y j)]) true false
 none]))) from by kernel_rfl)]
  rcases Nat.eq_zero_or_pos a with q | q
  · subst q
    refine biff (by first | assumption | (simp (disch := omega) only [numsE, List.length_cons, List.length_nil, Nat.reduceAdd]; done) | (simp (disch := omega) only [numsE, List.length_cons, List.length_nil, Nat.reduceAdd]; omega)) ?_
    rfl
  · have h := hc.resolve_left (by omega)
    rw [ofNatE a, show IntKind.i64.wrap ((a : Int) - 1) = ((a - 1 : Nat) : Int) by rw [wr64 (by omega) (by omega)]; omega, toNatE]
    refine bift (by first | assumption | omega | (simp (disch := omega) only [numsE, List.length_cons, List.length_nil, Nat.reduceAdd]; done) | (simp (disch := omega) only [numsE, List.length_cons, List.length_nil, Nat.reduceAdd]; omega)) ?_
    refine bift (by first | assumption | omega | (simp (disch := omega) only [numsE, List.length_cons, List.length_nil, Nat.reduceAdd]; done) | (simp (disch := omega) only [numsE, List.length_cons, List.length_nil, Nat.reduceAdd]; omega)) ?_
    refine bift (by first | assumption | omega | (simp (disch := omega) only [numsE, List.length_cons, List.length_nil, Nat.reduceAdd]; done) | (simp (disch := omega) only [numsE, List.length_cons, List.length_nil, Nat.reduceAdd]; omega)) ?_
    refine bift (by first | assumption | omega | (simp (disch := omega) only [numsE, List.length_cons, List.length_nil, Nat.reduceAdd]; done) | (simp (disch := omega) only [numsE, List.length_cons, List.length_nil, Nat.reduceAdd]; omega)) ?_
    refine bift (by first | assumption | omega | (simp (disch := omega) only [numsE, List.length_cons, List.length_nil, Nat.reduceAdd]; done) | (simp (disch := omega) only [numsE, List.length_cons, List.length_nil, Nat.reduceAdd]; omega)) ?_
    refine bift (by first | assumption | omega | (simp (disch := omega) only [numsE, List.length_cons, List.length_nil, Nat.reduceAdd]; done) | (simp (disch := omega) only [numsE, List.length_cons, List.length_nil, Nat.reduceAdd]; omega)) ?_
    rfl
theorem q7e (hn : n ≤ 1000) (hp : p < n) (ha : a ≤ n) (h0 : 0 < a) (hc : ¬ y (a - 1) < y p) {m : Nat} {z : Nat → Int} (t : ToldRef P18 G18 83 [.own 0 0 0 n none, .int .i64 a, .int .i64 b, .int .i64 p] [ub 0 n y] (.int .i64 m) [ub 0 n z]) : Pc 7 lX (x70 n a b lim bal par L p hint) [ub 0 n y] (.exit 1) lT (v70 n m b lim bal par) [ub 0 n z] := by
  obtain ⟨q, hq⟩ := is_ref P18 G18 83
  refine pc (K := KR 83 q (.int .i64 m) [ub 0 n z]) (refK hq _ _) 7 ?_
  show codeL P18 G18 A18 (KR 83 q (.int .i64 m) [ub 0 n z]) 0 70 [] (pk70 7) [0,1,2,3,8,9,10,11,12] (x70 n a b lim bal par L p hint) [ub 0 n y] [0,1,2,3,8,9] = _
  rw [(show codeL P18 G18 A18 (KR 83 q (.int .i64 m) [ub 0 n z]) 0 70 [] (pk70 7) [0,1,2,3,8,9,10,11,12] (x70 n a b lim bal par L p hint) [ub 0 n y] [0,1,2,3,8,9] =
(
 bif decide ((0 : Int) < Int.ofNat a) then
 bif decide ((0 : Int) ≤ IntKind.i64.wrap (Int.ofNat a - (1 : Int))) && decide (IntKind.i64.wrap (Int.ofNat a - (1 : Int)) < Int.ofNat n) then
 bif ((0 : Nat) + (IntKind.i64.wrap (Int.ofNat a - (1 : Int))).toNat).blt n then
 bif decide ((0 : Int) ≤ Int.ofNat p) && decide (Int.ofNat p < Int.ofNat n) then
 bif ((0 : Nat) + p).blt n then
 bif decide (y ((0 : Nat) + (IntKind.i64.wrap (Int.ofNat a - (1 : Int))).toNat) < y ((0 : Nat) + p)) then
 some ((Ex.normal, [T.own 0 0 0 n
 none, T.int .i64 (Int.ofNat a), T.int .i64 (Int.ofNat b), T.int .i64 (Int.ofNat lim), T.bool bal, T.bool par], [Blk.mk 0 1 n (fun j => [T.int .u8 (y j)]) true false
 none]))
 else
 bif decF (q [T.own 0 0 0 n
 none, T.int .i64 (Int.ofNat a), T.int .i64 (Int.ofNat b), T.int .i64 (Int.ofNat p)] [Blk.mk 0 1 n (fun j => [T.int .u8 (y j)]) true false
 none] (T.int .i64 (Int.ofNat m)) [Blk.mk 0 1 n (fun j => [T.int .u8 (z j)]) true false
 none]) then
 some ((Ex.exit 1, [T.own 0 0 0 n
 none, T.int .i64 (Int.ofNat m), T.int .i64 (Int.ofNat b), T.int .i64 (Int.ofNat lim), T.bool bal, T.bool par], [Blk.mk 0 1 n (fun j => [T.int .u8 (z j)]) true false
 none]))
 else none else none else none else none else none else
 some ((Ex.normal, [T.own 0 0 0 n
 none, T.int .i64 (Int.ofNat a), T.int .i64 (Int.ofNat b), T.int .i64 (Int.ofNat lim), T.bool bal, T.bool par], [Blk.mk 0 1 n (fun j => [T.int .u8 (y j)]) true false
 none]))) from by kernel_rfl)]
  rw [ofNatE a, show IntKind.i64.wrap ((a : Int) - 1) = ((a - 1 : Nat) : Int) by rw [wr64 (by omega) (by omega)]; omega, toNatE]
  refine bift (by first | assumption | omega | (simp (disch := omega) only [numsE, List.length_cons, List.length_nil, Nat.reduceAdd]; done) | (simp (disch := omega) only [numsE, List.length_cons, List.length_nil, Nat.reduceAdd]; omega)) ?_
  refine bift (by first | assumption | omega | (simp (disch := omega) only [numsE, List.length_cons, List.length_nil, Nat.reduceAdd]; done) | (simp (disch := omega) only [numsE, List.length_cons, List.length_nil, Nat.reduceAdd]; omega)) ?_
  refine bift (by first | assumption | omega | (simp (disch := omega) only [numsE, List.length_cons, List.length_nil, Nat.reduceAdd]; done) | (simp (disch := omega) only [numsE, List.length_cons, List.length_nil, Nat.reduceAdd]; omega)) ?_
  refine bift (by first | assumption | omega | (simp (disch := omega) only [numsE, List.length_cons, List.length_nil, Nat.reduceAdd]; done) | (simp (disch := omega) only [numsE, List.length_cons, List.length_nil, Nat.reduceAdd]; omega)) ?_
  refine bift (by first | assumption | omega | (simp (disch := omega) only [numsE, List.length_cons, List.length_nil, Nat.reduceAdd]; done) | (simp (disch := omega) only [numsE, List.length_cons, List.length_nil, Nat.reduceAdd]; omega)) ?_
  refine biff (by first | assumption | (simp (disch := omega) only [numsE, List.length_cons, List.length_nil, Nat.reduceAdd]; done) | (simp (disch := omega) only [numsE, List.length_cons, List.length_nil, Nat.reduceAdd]; omega)) ?_
  exact bift (refF_yes hq t) rfl
theorem q8 (hn : n ≤ 1000) (hb : b ≤ n) {m : Nat} {d : Bool} {yp : Nat → Int} (hm1 : a ≤ m) (hm2 : m < b) (t : ToldRef P18 G18 84 [.own 0 0 0 n none, .int .i64 a, .int .i64 b, .int .i64 p] [ub 0 n y] (.tup [.int .i64 m, .bool d]) [ub 0 n yp]) :
    (m - a < b - m → ∀ yg, ToldRef P18 G18 70 [.own 0 0 0 n none, .int .i64 a, .int .i64 m, .int .i64 lim] [ub 0 n yp] (.tup []) [ub 0 n yg] → ∃ bal2 par2, Ch 8 lX (x70 n a b lim bal par L p hint) [ub 0 n y] .normal lT (v70 n (m + 1) b lim bal2 par2) [ub 0 n yg]) ∧
    (¬ m - a < b - m → ∀ yg, ToldRef P18 G18 70 [.own 0 0 0 n none, .int .i64 (m + 1 : Nat), .int .i64 b, .int .i64 lim] [ub 0 n yp] (.tup []) [ub 0 n yg] → ∃ bal2 par2, Ch 8 lX (x70 n a b lim bal par L p hint) [ub 0 n y] .normal lT (v70 n a m lim bal2 par2) [ub 0 n yg]) := by
  obtain ⟨q, hq⟩ := is_ref P18 G18 84
  obtain ⟨q2, hq2⟩ := is_ref P18 G18 70
  have e1 : IntKind.i64.wrap (Int.ofNat m - Int.ofNat a) = ((m - a : Nat) : Int) := by rw [ofNatE, ofNatE, wr64 (by omega) (by omega)]; omega
  have e2 : IntKind.i64.wrap (Int.ofNat b - Int.ofNat m) = ((b - m : Nat) : Int) := by rw [ofNatE, ofNatE, wr64 (by omega) (by omega)]; omega
  have e3 : IntKind.i64.wrap (Int.ofNat m + 1) = ((m + 1 : Nat) : Int) := by rw [ofNatE, wr64 (by omega) (by omega)]; omega
  have tree := fun yg => (show codeL P18 G18 A18 (KR2 q q2 n m d yp yg) 0 70 [] (ch70 8) [0,1,2,3,8,9,10,11,12] (x70 n a b lim bal par L p hint) [ub 0 n y] [0,1,2,3,8,9] =
(
 bif decF (q [T.own 0 0 0 n
 none, T.int .i64 (Int.ofNat a), T.int .i64 (Int.ofNat b), T.int .i64 (Int.ofNat p)] [Blk.mk 0 1 n (fun j => [T.int .u8 (y j)]) true false
 none] (T.tup [T.int .i64 (Int.ofNat m), T.bool d]) [Blk.mk 0 1 n (fun j => [T.int .u8 (yp j)]) true false
 none]) then
 bif d then
 bif decide (IntKind.i64.wrap (Int.ofNat m - Int.ofNat a) < IntKind.i64.wrap (Int.ofNat b - Int.ofNat m)) then
 bif decide (IntKind.i64.wrap ((Int.ofNat L).tdiv (8 : Int)) ≤ IntKind.i64.wrap (Int.ofNat m - Int.ofNat a)) then
 bif decF (q2 [T.own 0 0 0 n
 none, T.int .i64 (Int.ofNat a), T.int .i64 (Int.ofNat m), T.int .i64 (Int.ofNat lim)] [Blk.mk 0 1 n (fun j => [T.int .u8 (yp j)]) true false
 none] (T.tup []) [Blk.mk 0 1 n (fun j => [T.int .u8 (yg j)]) true false
 none]) then
 some ((Ex.normal, [T.own 0 0 0 n
 none, T.int .i64 (IntKind.i64.wrap (Int.ofNat m + (1 : Int))), T.int .i64 (Int.ofNat b), T.int .i64 (Int.ofNat lim), T.bool true, T.bool true], [Blk.mk 0 1 n (fun j => [T.int .u8 (yg j)]) true false
 none]))
 else none else
 bif decF (q2 [T.own 0 0 0 n
 none, T.int .i64 (Int.ofNat a), T.int .i64 (Int.ofNat m), T.int .i64 (Int.ofNat lim)] [Blk.mk 0 1 n (fun j => [T.int .u8 (yp j)]) true false
 none] (T.tup []) [Blk.mk 0 1 n (fun j => [T.int .u8 (yg j)]) true false
 none]) then
 some ((Ex.normal, [T.own 0 0 0 n
 none, T.int .i64 (IntKind.i64.wrap (Int.ofNat m + (1 : Int))), T.int .i64 (Int.ofNat b), T.int .i64 (Int.ofNat lim), T.bool false, T.bool true], [Blk.mk 0 1 n (fun j => [T.int .u8 (yg j)]) true false
 none]))
 else none else
 bif decide (IntKind.i64.wrap ((Int.ofNat L).tdiv (8 : Int)) ≤ IntKind.i64.wrap (Int.ofNat b - Int.ofNat m)) then
 bif decF (q2 [T.own 0 0 0 n
 none, T.int .i64 (IntKind.i64.wrap (Int.ofNat m + (1 : Int))), T.int .i64 (Int.ofNat b), T.int .i64 (Int.ofNat lim)] [Blk.mk 0 1 n (fun j => [T.int .u8 (yp j)]) true false
 none] (T.tup []) [Blk.mk 0 1 n (fun j => [T.int .u8 (yg j)]) true false
 none]) then
 some ((Ex.normal, [T.own 0 0 0 n
 none, T.int .i64 (Int.ofNat a), T.int .i64 (Int.ofNat m), T.int .i64 (Int.ofNat lim), T.bool true, T.bool true], [Blk.mk 0 1 n (fun j => [T.int .u8 (yg j)]) true false
 none]))
 else none else
 bif decF (q2 [T.own 0 0 0 n
 none, T.int .i64 (IntKind.i64.wrap (Int.ofNat m + (1 : Int))), T.int .i64 (Int.ofNat b), T.int .i64 (Int.ofNat lim)] [Blk.mk 0 1 n (fun j => [T.int .u8 (yp j)]) true false
 none] (T.tup []) [Blk.mk 0 1 n (fun j => [T.int .u8 (yg j)]) true false
 none]) then
 some ((Ex.normal, [T.own 0 0 0 n
 none, T.int .i64 (Int.ofNat a), T.int .i64 (Int.ofNat m), T.int .i64 (Int.ofNat lim), T.bool false, T.bool true], [Blk.mk 0 1 n (fun j => [T.int .u8 (yg j)]) true false
 none]))
 else none else
 bif decide (IntKind.i64.wrap (Int.ofNat m - Int.ofNat a) < IntKind.i64.wrap (Int.ofNat b - Int.ofNat m)) then
 bif decide (IntKind.i64.wrap ((Int.ofNat L).tdiv (8 : Int)) ≤ IntKind.i64.wrap (Int.ofNat m - Int.ofNat a)) then
 bif decF (q2 [T.own 0 0 0 n
 none, T.int .i64 (Int.ofNat a), T.int .i64 (Int.ofNat m), T.int .i64 (Int.ofNat lim)] [Blk.mk 0 1 n (fun j => [T.int .u8 (yp j)]) true false
 none] (T.tup []) [Blk.mk 0 1 n (fun j => [T.int .u8 (yg j)]) true false
 none]) then
 some ((Ex.normal, [T.own 0 0 0 n
 none, T.int .i64 (IntKind.i64.wrap (Int.ofNat m + (1 : Int))), T.int .i64 (Int.ofNat b), T.int .i64 (Int.ofNat lim), T.bool true, T.bool false], [Blk.mk 0 1 n (fun j => [T.int .u8 (yg j)]) true false
 none]))
 else none else
 bif decF (q2 [T.own 0 0 0 n
 none, T.int .i64 (Int.ofNat a), T.int .i64 (Int.ofNat m), T.int .i64 (Int.ofNat lim)] [Blk.mk 0 1 n (fun j => [T.int .u8 (yp j)]) true false
 none] (T.tup []) [Blk.mk 0 1 n (fun j => [T.int .u8 (yg j)]) true false
 none]) then
 some ((Ex.normal, [T.own 0 0 0 n
 none, T.int .i64 (IntKind.i64.wrap (Int.ofNat m + (1 : Int))), T.int .i64 (Int.ofNat b), T.int .i64 (Int.ofNat lim), T.bool false, T.bool false], [Blk.mk 0 1 n (fun j => [T.int .u8 (yg j)]) true false
 none]))
 else none else
 bif decide (IntKind.i64.wrap ((Int.ofNat L).tdiv (8 : Int)) ≤ IntKind.i64.wrap (Int.ofNat b - Int.ofNat m)) then
 bif decF (q2 [T.own 0 0 0 n
 none, T.int .i64 (IntKind.i64.wrap (Int.ofNat m + (1 : Int))), T.int .i64 (Int.ofNat b), T.int .i64 (Int.ofNat lim)] [Blk.mk 0 1 n (fun j => [T.int .u8 (yp j)]) true false
 none] (T.tup []) [Blk.mk 0 1 n (fun j => [T.int .u8 (yg j)]) true false
 none]) then
 some ((Ex.normal, [T.own 0 0 0 n
 none, T.int .i64 (Int.ofNat a), T.int .i64 (Int.ofNat m), T.int .i64 (Int.ofNat lim), T.bool true, T.bool false], [Blk.mk 0 1 n (fun j => [T.int .u8 (yg j)]) true false
 none]))
 else none else
 bif decF (q2 [T.own 0 0 0 n
 none, T.int .i64 (IntKind.i64.wrap (Int.ofNat m + (1 : Int))), T.int .i64 (Int.ofNat b), T.int .i64 (Int.ofNat lim)] [Blk.mk 0 1 n (fun j => [T.int .u8 (yp j)]) true false
 none] (T.tup []) [Blk.mk 0 1 n (fun j => [T.int .u8 (yg j)]) true false
 none]) then
 some ((Ex.normal, [T.own 0 0 0 n
 none, T.int .i64 (Int.ofNat a), T.int .i64 (Int.ofNat m), T.int .i64 (Int.ofNat lim), T.bool false, T.bool false], [Blk.mk 0 1 n (fun j => [T.int .u8 (yg j)]) true false
 none]))
 else none else
 none) from by kernel_rfl)
  simp only [e1, e2, e3] at tree
  have hK : ∀ yg, OrcOk P18 G18 (KR2 q q2 n m d yp yg) := fun yg => told_addRef (told_addRef ok82 (refF_told hq)) (refF_told hq2)
  constructor
  · intro hlt yg t2
    have c1 : decide (((m - a : Nat) : Int) < ((b - m : Nat) : Int)) = true := dT (by omega)
    have tr := tree yg
    rw [c1] at tr
    simp only [cond_true] at tr
    cases hc : decide (IntKind.i64.wrap ((Int.ofNat L).tdiv 8) ≤ ((m - a : Nat) : Int)) <;> rw [hc] at tr <;> cases d
    · exact ⟨false, false, pc8 (hK yg) (tr.trans (bift (refF_yes hq t) (biff (by decide) (biff (by decide) (bift (refF_yes hq2 t2) rfl)))))⟩
    · exact ⟨false, true, pc8 (hK yg) (tr.trans (bift (refF_yes hq t) (bift rfl (biff (by decide) (bift (refF_yes hq2 t2) rfl)))))⟩
    · exact ⟨true, false, pc8 (hK yg) (tr.trans (bift (refF_yes hq t) (biff (by decide) (bift rfl (bift (refF_yes hq2 t2) rfl)))))⟩
    · exact ⟨true, true, pc8 (hK yg) (tr.trans (bift (refF_yes hq t) (bift rfl (bift rfl (bift (refF_yes hq2 t2) rfl)))))⟩
  · intro hlt yg t2
    have c1 : decide (((m - a : Nat) : Int) < ((b - m : Nat) : Int)) = false := dF (by omega)
    have tr := tree yg
    rw [c1] at tr
    simp only [cond_false] at tr
    cases hc : decide (IntKind.i64.wrap ((Int.ofNat L).tdiv 8) ≤ ((b - m : Nat) : Int)) <;> rw [hc] at tr <;> cases d
    · exact ⟨false, false, pc8 (hK yg) (tr.trans (bift (refF_yes hq t) (biff (by decide) (biff (by decide) (bift (refF_yes hq2 t2) rfl)))))⟩
    · exact ⟨false, true, pc8 (hK yg) (tr.trans (bift (refF_yes hq t) (bift rfl (biff (by decide) (bift (refF_yes hq2 t2) rfl)))))⟩
    · exact ⟨true, false, pc8 (hK yg) (tr.trans (bift (refF_yes hq t) (biff (by decide) (bift rfl (bift (refF_yes hq2 t2) rfl)))))⟩
    · exact ⟨true, true, pc8 (hK yg) (tr.trans (bift (refF_yes hq t) (bift rfl (bift rfl (bift (refF_yes hq2 t2) rfl)))))⟩
end
theorem ch_of_loop {e : Ex} {l : List Nat} {vs v1 : List T} {h h1 : Heap} : CodeGoes P18 G18 (A18 70).prom Try.f70.ntmps (.block 1 (ch70 0 c70)) (mkSt lT vs h) e (mkSt l v1 h1) → CodeGoes P18 G18 (A18 70).prom Try.f70.ntmps (bodyAt P18 70 2) (mkSt lT vs h) e (mkSt l v1 h1) := fun hh => by
  have e : bodyAt P18 70 2 = .block 1 (ch70 0 c70) := by kernel_rfl
  rw [e]
  exact hh
theorem r70 (x : Nat → Int) (n a b lim : Nat) (bal par : Bool) (y : Nat → Int) (hn : n ≤ 16) (hI : I70 x n a b lim y) :
    (∃ a2 b2 lim2 bal2 par2 y2, b2 - a2 < b - a ∧ I70 x n a2 b2 lim2 y2 ∧ CodeGoes P18 G18 (A18 70).prom Try.f70.ntmps (bodyAt P18 70 2) (mkSt lT (v70 n a b lim bal par) [ub 0 n y]) .normal (mkSt lT (v70 n a2 b2 lim2 bal2 par2) [ub 0 n y2])) ∨
    ∃ z, (Pr x z 0 n ∧ Asc z 0 n) ∧ CodeGoes P18 G18 (A18 70).prom Try.f70.ntmps (bodyAt P18 70 2) (mkSt lT (v70 n a b lim bal par) [ub 0 n y]) .ret (mkSt [] [] [ub 0 n z]) := by
  have hab := hI.ab
  have hbn := hI.bn
  have hlb := hI.limB
  have hlc := hI.limC
  have s0 := q0 (n := n) (lim := lim) (bal := bal) (par := par) (y := y) (show b ≤ 1000 by omega) hab
  rcases Nat.lt_or_ge 12 (b - a) with q | q
  · have hlb := hlb q
    have s1 := q1n (n := n) (a := a) (b := b) (lim := lim) (bal := bal) (par := par) (y := y) q
    have s2 := q2 (n := n) (a := a) (b := b) (bal := bal) (par := par) (y := y) (L := b - a) (show 1 ≤ lim by omega)
    have st3 : ∃ lim1 y1, lim ≤ lim1 + 1 ∧ lim1 ≤ 10 ∧ Pr y y1 a b ∧ Pc 3 lW (w70 n a b lim bal par (b - a)) [ub 0 n y] .normal lW (w70 n a b lim1 bal par (b - a)) [ub 0 n y1] := by
      cases bal
      · obtain ⟨z, B, hz, t⟩ := brkT n a b y (by omega) hbn (by omega) (by omega)
        have t2 := t.trim (k := 1) (Nat.le_refl _) rfl rfl
        exact ⟨lim - 1, z, by omega, by omega, hz, q3f (by omega) hlc t2⟩
      · exact ⟨lim, y, by omega, hlc, .refl _ _ _, q3t⟩
    obtain ⟨lim1, y1, k1, k2, hp1, s3⟩ := st3
    have ho1 := hI.out.move hp1 hbn
    have hx1 : Pr x y1 0 n := hI.pr.trans (hp1.wider (Nat.zero_le _) hbn)
    obtain ⟨p, hint, B, ⟨hpa, hpb⟩, t4⟩ := pivT n a b y1 (by omega) hbn (by omega) (by omega)
    have t4 := t4.trim (k := 1) (Nat.le_refl _) rfl rfl
    have s4 := q4 (lim := lim1) (bal := bal) (par := par) (L := b - a) t4
    have st5 : ∃ p2 hint2 y2, a ≤ p2 ∧ p2 < b ∧ Pr y1 y2 a b ∧ Pc 5 lX (x70 n a b lim1 bal par (b - a) p hint) [ub 0 n y1] .normal lX (x70 n a b lim1 bal par (b - a) p2 hint2) [ub 0 n y2] := by
      by_cases hh : hint = 2
      · subst hh
        obtain ⟨z, hz, t⟩ := revT n a b y1 (by omega) hbn (by omega)
        exact ⟨b - 1 - (p - a), 1, z, by omega, by omega, hz, q5t (by omega) hpa hpb t⟩
      · exact ⟨p, hint, y1, hpa, hpb, .refl _ _ _, q5f hh⟩
    obtain ⟨p2, hint2, y2, hp2a, hp2b, hp2, s5⟩ := st5
    have ho2 := ho1.move hp2 hbn
    have hx2 : Pr x y2 0 n := hx1.trans (hp2.wider (Nat.zero_le _) hbn)
    have pre : ∀ {e : Ex} {l : List Nat} {vs : List T} {h : Heap}, Ch 6 lX (x70 n a b lim1 bal par (b - a) p2 hint2) [ub 0 n y2] e l vs h → Ch 0 lT (v70 n a b lim bal par) [ub 0 n y] e l vs h := fun hc =>
      ch_next (by omega) s0 (ch_next (by omega) s1 (ch_next (by omega) s2 (ch_next (by omega) s3 (ch_next (by omega) s4 (ch_next (by omega) s5 hc)))))
    have st6 : (∃ _ : Asc y2 a b, Pc 6 lX (x70 n a b lim1 bal par (b - a) p2 hint2) [ub 0 n y2] .ret [] [] [ub 0 n y2]) ∨ Pc 6 lX (x70 n a b lim1 bal par (b - a) p2 hint2) [ub 0 n y2] .normal lX (x70 n a b lim1 bal par (b - a) p2 hint2) [ub 0 n y2] := by
      cases hf : (bal && (par && decide (hint2 = 1)))
      · exact .inr (q6n hf)
      · simp only [Bool.and_eq_true, decide_eq_true_eq] at hf
        obtain ⟨rfl, rfl, rfl⟩ := hf
        obtain ⟨ins, h1, t⟩ := pinsT n a b y2 (by omega) hbn (by omega) (by omega)
        cases ins
        · exact .inr ((q6c t).2 rfl)
        · exact .inl ⟨h1 rfl, (q6c t).1 rfl⟩
    rcases st6 with ⟨hs, s6⟩ | s6
    · refine .inr ⟨y2, ⟨hx2, ho2.asc hs⟩, ch_of_loop (goes_block_ret (pre (ch_ret (by omega) s6)))⟩
    · left
      by_cases he : 0 < a ∧ ¬ y2 (a - 1) < y2 p2
      ·
        have hmin : ∀ e, a ≤ e → e < b → y2 p2 ≤ y2 e := fun e g1 g2 => Int.le_trans (Int.not_lt.1 he.2) (ho2 (a - 1) e (by omega) (by omega) (.inl (by omega)))
        obtain ⟨z, m, z1, z2, z3, z4, t⟩ := peqT n a b p2 y2 (by omega) hbn hp2a hp2b (by omega) hmin
        have s7 := q7e (lim := lim1) (bal := bal) (par := par) (L := b - a) (hint := hint2) (by omega) (by omega) (by omega) he.1 he.2 t
        refine ⟨m, b, lim1, bal, par, z, by omega, ⟨hx2.trans (z1.wider (Nat.zero_le _) hbn), (ho2.move z1 hbn).equal (by omega) z3 z4, z3, hbn, fun _ => by omega, k2⟩, ?_⟩
        exact ch_of_loop (goes_block_exit (pre (ch_next (by omega) s6 (ch_exit (by omega) s7))))
      · have hc : a = 0 ∨ y2 (a - 1) < y2 p2 := by
          rcases Nat.eq_zero_or_pos a with g | g
          · exact .inl g
          · right
            by_cases g2 : y2 (a - 1) < y2 p2
            · exact g2
            · exact absurd ⟨g, g2⟩ he
        have s7 := q7n (a := a) (b := b) (lim := lim1) (bal := bal) (par := par) (L := b - a) (hint := hint2) (y := y2) (p := p2) (show n ≤ 1000 by omega) (by omega) (by omega) hc
        obtain ⟨yp, m, d, z1, z2, t⟩ := partT n a b p2 y2 (by omega) hbn hp2a hp2b (by omega)
        have hlo := z2.lo
        have hhi := z2.hi
        have ho3 := ho2.move z1 hbn
        have hx3 : Pr x yp 0 n := hx2.trans (z1.wider (Nat.zero_le _) hbn)
        obtain ⟨w1, w2⟩ := q8 (lim := lim1) (bal := bal) (par := par) (L := b - a) (hint := hint2) (by omega) hbn hlo hhi t
        by_cases hlt : m - a < b - m
        · obtain ⟨yg, ⟨g1, g2⟩, tg⟩ := pq12T n a m yp lim1 (by omega) (by omega) hlo (by omega)
          obtain ⟨bal2, par2, s8⟩ := w1 hlt yg tg
          refine ⟨m + 1, b, lim1, bal2, par2, yg, by omega, ⟨hx3.trans (g1.wider (Nat.zero_le _) (by omega)), z2.goRight ho3 g1 g2 hbn, by omega, hbn, fun _ => by omega, k2⟩, ?_⟩
          exact ch_of_loop (goes_block (pre (ch_next (by omega) s6 (ch_next (by omega) s7 s8))))
        · obtain ⟨yg, ⟨g1, g2⟩, tg⟩ := pq12T n (m + 1) b yp lim1 (by omega) hbn (by omega) (by omega)
          obtain ⟨bal2, par2, s8⟩ := w2 hlt yg tg
          refine ⟨a, m, lim1, bal2, par2, yg, by omega, ⟨hx3.trans (g1.wider (Nat.zero_le _) hbn), z2.goLeft ho3 g1 g2 hbn, hlo, by omega, fun _ => by omega, k2⟩, ?_⟩
          exact ch_of_loop (goes_block (pre (ch_next (by omega) s6 (ch_next (by omega) s7 s8))))
  · obtain ⟨z, ⟨h1, h2⟩, t⟩ := insT n a b y (by omega) hbn hab
    refine .inr ⟨z, ⟨hI.pr.trans (h1.wider (Nat.zero_le _) hbn), (hI.out.move h1 hbn).asc h2⟩, ?_⟩
    exact ch_of_loop (goes_block_ret (ch_next (by omega) s0 (ch_ret (by omega) (q1r q t))))
theorem l70 (x : Nat → Int) (n lim : Nat) (hn : n ≤ 16) (hl : 12 < n → n ≤ lim + 12) (hl2 : lim ≤ 10) :
    ∃ z, (Pr x z 0 n ∧ Asc z 0 n) ∧ LoopOk P18 G18 (A18 70) 70 2 (litS (v70 n 0 n lim true true) [ub 0 n x] .ret [] [ub 0 n z]) := by
  refine Exists.elim (goes_loop (P := P18) (Gl := G18) (prom := (A18 70).prom) (nt := Try.f70.ntmps) (b := bodyAt P18 70 2) (lin := lT) (lout := [])
    (fun m vs h => ∃ a b lim bal par y, m = b - a ∧ vs = v70 n a b lim bal par ∧ h = [ub 0 n y] ∧ I70 x n a b lim y)
    (fun e vs h => ∃ z, e = .ret ∧ vs = [] ∧ h = [ub 0 n z] ∧ (Pr x z 0 n ∧ Asc z 0 n))
    (fun m vs h ⟨a, b, lim, bal, par, y, hm, hv, hh, hI⟩ => ?_) (n := n - 0) (vs := v70 n 0 n lim true true) (h := [ub 0 n x]) ⟨0, n, lim, true, true, x, rfl, rfl, rfl, ⟨.refl _ _ _, .start _ _, Nat.zero_le _, Nat.le_refl _, fun h => hl (by omega), hl2⟩⟩) ?_
  · subst hm hv hh
    rcases r70 x n a b lim bal par y hn hI with ⟨a2, b2, lim2, bal2, par2, y2, g1, g2, g3⟩ | ⟨z, hz, g3⟩
    · exact .inl ⟨b2 - a2, _, _, g1, g3, a2, b2, lim2, bal2, par2, y2, rfl, rfl, rfl, g2⟩
    · exact .inr ⟨.ret, _, _, by simp, g3, z, rfl, rfl, rfl, hz⟩
  · rintro e ⟨vs1, h1, ⟨z, rfl, rfl, rfl, hz⟩, hg⟩
    refine ⟨z, hz, .lit fun fn hf hnt => ?_⟩
    rw [Try.func70] at hf
    obtain rfl := Option.some.inj hf
    have e : asLoop (bodyAt P18 70 2) = .loop (bodyAt P18 70 2) := by kernel_rfl
    rw [e]
    exact hg
theorem pdq16T (n lim : Nat) (x : Nat → Int) (hn : n ≤ 16) (hl : 12 < n → n ≤ lim + 12) (hl2 : lim ≤ 10) :
    ∃ z, (Pr x z 0 n ∧ Asc z 0 n) ∧ ToldRef P18 G18 70 [.own 0 0 0 n none, .int .i64 0, .int .i64 n, .int .i64 lim] [ub 0 n x] (.tup []) [ub 0 n z] := by
  obtain ⟨z, hz, hl⟩ := l70 x n lim hn hl hl2
  refine ⟨z, hz, ?_⟩
  refine stepR_told hm18 hn18 none_ok (A := A18) (m := 0) (by kernel_rfl) (loops1 hl) ?_
  rw [(show stepR P18 G18 A18 noneO 0 70 [(2, litS (v70 n 0 n lim true true) [ub 0 n x] .ret [] [ub 0 n z])] [.own 0 0 0 n none, .int .i64 0, .int .i64 n, .int .i64 lim] [ub 0 n x] =
(
 bif weakF [T.own 0 0 0 n
 none, T.int .i64 (0 : Int), T.int .i64 (Int.ofNat n), T.int .i64 (Int.ofNat lim), T.bool true, T.bool true] [Blk.mk 0 1 n (fun j => [T.int .u8 (x j)]) true false
 none] [T.own 0 0 0 n
 none, T.int .i64 (0 : Int), T.int .i64 (Int.ofNat n), T.int .i64 (Int.ofNat lim), T.bool true, T.bool true] [Blk.mk 0 1 n (fun j => [T.int .u8 (x j)]) true false
 none] then
 some ((T.tup [], [Blk.mk 0 1 n (fun j => [T.int .u8 (z j)]) true false
 none]))
 else
 none) from by kernel_rfl)]
  exact bift (weakF_of ⟨rfl, .refl _⟩) rfl
end Go.Ab

namespace Go.Ab
open Go.Proofs
def nmax : Nat := 16
theorem sortT (n : Nat) (x : Nat → Int) (hn : n ≤ nmax) :
    ∃ z, (Pr x z 0 n ∧ Asc z 0 n) ∧ ToldRef P18 G18 61 [.own 0 0 0 n none] [ub 0 n x] (.tup []) [ub 0 n z] := by
  have hn2 := hn
  unfold nmax at hn2
  obtain ⟨lim0, c1, c2, h71⟩ := lenT n (by omega)
  obtain ⟨z, hz, ht⟩ := pdq16T n lim0 x (by omega) c2 c1
  generalize ((lim0 : Nat) : Int) = lim at *
  obtain ⟨p, hp⟩ := is_ref P18 G18 70
  obtain ⟨p71, hp71⟩ := is_val P18 G18 71
  refine ⟨z, hz, ?_⟩
  refine stepR_told hm18 hn18 (K := K61 p71 lim p n z) (told_addRef (told_add none_ok (callF_told hp71)) (refF_told hp)) (A := A18) (m := 0) (by kernel_rfl) (l := []) loops0 ?_
  refine Eq.trans (show stepR P18 G18 A18 (K61 p71 lim p n z) 0 61 [] [.own 0 0 0 n none] [ub 0 n x] =
(
 bif decF (p71 [T.int .u64 (IntKind.u64.wrap (Int.ofNat n))] (T.int .i64 lim)) then
 bif decF (p [T.own 0 0 0 n
 none, T.int .i64 (0 : Int), T.int .i64 (Int.ofNat n), T.int .i64 lim] [Blk.mk 0 1 n (fun j => [T.int .u8 (x j)]) true false
 none] (T.tup []) [Blk.mk 0 1 n (fun j => [T.int .u8 (z j)]) true false
 none]) then
 some ((T.tup [], [Blk.mk 0 1 n (fun j => [T.int .u8 (z j)]) true false
 none]))
 else none else
 none) from by kernel_rfl) ?_
  have e : IntKind.u64.wrap (Int.ofNat n) = (n : Int) := by
    show IntKind.u64.wrap (n : Int) = n
    exact wru64 (by omega) (by omega)
  rw [e]
  refine bift (callF_yes hp71 h71) ?_
  exact bift (refF_yes hp ht) rfl
end Go.Ab

namespace Go.Ab
open Go.Proofs
noncomputable def K47 (p60 : List T → T → Prop) (p61 p62 : List T → Heap → T → Heap → Prop) (n : Nat) (x y z : Nat → Int) (k : Nat) : Orc :=
  ((noneO.add 60 (callF p60 fun _ => some (.fresh true 1 n (fun j => [.int .u8 (x j)]) n none))).addRef 61 (refF p61 fun _ _ => some (.tup [], [ub 0 n y]))).addRef 62 (refF p62 fun _ _ => some (.own 0 0 0 k none, [ub 0 n z]))
def kindL (x : Nat → Int) (n : Nat) : List Int := ((List.range 256).map Int.ofNat).filter fun v => (List.range n).any fun j => decide (x j = v)
def csK (x : Nat → Int) (n j : Nat) : Int := (kindL x n).getD j 0
def kK (x : Nat → Int) (n : Nat) : Nat := (kindL x n).length
theorem kindL_mem {x : Nat → Int} {n : Nat} (hx : ∀ j, j < n → 0 ≤ x j ∧ x j < 256) (v : Int) : v ∈ kindL x n ↔ Mem x 0 n v := by
  unfold kindL Mem
  simp only [List.mem_filter, List.mem_map, List.mem_range, List.any_eq_true, decide_eq_true_eq]
  constructor
  · rintro ⟨_, j, h1, h2⟩; exact ⟨j, Nat.zero_le _, h1, h2⟩
  · rintro ⟨j, _, h1, h2⟩
    have := hx j h1
    exact ⟨⟨v.toNat, by omega, by show ((v.toNat : Nat) : Int) = v; omega⟩, j, h1, h2⟩
theorem kindL_asc (x : Nat → Int) (n : Nat) : (kindL x n).Pairwise (· < ·) := by
  unfold kindL
  refine List.Pairwise.filter _ ?_
  rw [List.pairwise_map]
  exact List.pairwise_lt_range.imp (fun {a b} h => by show (a : Int) < (b : Int); omega)
theorem csK_mem {x : Nat → Int} {n : Nat} (hx : ∀ j, j < n → 0 ≤ x j ∧ x j < 256) (v : Int) : Mem (csK x n) 0 (kK x n) v ↔ Mem x 0 n v := by
  rw [← kindL_mem hx, List.mem_iff_getElem]
  unfold Mem csK kK
  constructor
  · rintro ⟨j, _, h1, h2⟩
    refine ⟨j, h1, ?_⟩
    rw [List.getD_eq_getElem?_getD, List.getElem?_eq_getElem h1] at h2
    exact h2
  · rintro ⟨j, h1, h2⟩
    exact ⟨j, Nat.zero_le _, h1, by rw [List.getD_eq_getElem?_getD, List.getElem?_eq_getElem h1]; exact h2⟩
theorem csK_asc (x : Nat → Int) (n : Nat) : SAsc (csK x n) (kK x n) := by
  intro p q h1 h2
  unfold kK at h2
  have := List.pairwise_iff_getElem.1 (kindL_asc x n) p q (by omega) h2 h1
  unfold csK
  rw [List.getD_eq_getElem?_getD, List.getElem?_eq_getElem (by omega), List.getD_eq_getElem?_getD, List.getElem?_eq_getElem h2]
  exact this
theorem cloneT (x : Nat → Int) (n : Nat) (c : Option Nat) (h1 : 1 ≤ n) (hn : n ≤ 1000) : ToldOk P18 G18 60 [rowV x n c] (.fresh true 1 n (fun j => [.int .u8 (x j)]) n none) := by
  refine stepV_told hm18 hn18 none_ok (K := noneO) (A := A18) (m := 0) ?_
  refine Eq.trans (show stepV P18 G18 A18 noneO 0 60 [rowV x n c] =
(
 bif Nat.blt 0 (match c with | some x => x | none => (0 : Nat)) || Nat.blt 0 n then
 bif n == (0 : Nat) then
 some (T.fresh true (1 : Nat) (0 : Nat) (fun j => []) (0 : Nat) (some 0))
 else
 bif (((0 : Nat) + n) * (2 : Nat)).ble 70368744177664 then
 bif ((0 : Nat) + n).ble 0 then
 bif ((0 : Nat) + n).ble 0 then
 some (bif ((0 : Nat) + ((0 : Nat) + n)).ble 0 then T.fresh true (1 : Nat) (0 : Nat) (fun j =>
 bif Nat.ble 0 ((0 : Nat) + j) && ((0 : Nat) + j).blt ((0 : Nat) + n) then [T.int .u8 (x ((0 : Nat) + j - (0 : Nat)))]
 else []) ((0 : Nat) + n) (some 0)
 else T.undef)
 else none else
 some (bif ((0 : Nat) + ((0 : Nat) + n)).ble ((0 : Nat) + n) then T.fresh true (1 : Nat) ((0 : Nat) + n - (0 : Nat)) (fun j => [T.int .u8 (x ((0 : Nat) + j - (0 : Nat)))]) ((0 : Nat) + n) none else T.undef)
 else none else
 none) from by kernel_rfl) ?_
  refine bift (by rw [Bool.or_eq_true]; exact .inr (bltT (by omega))) ?_
  simp only [Nat.zero_add, Nat.sub_zero]
  refine biff (by simp; omega) ?_
  refine bift (bleT (by omega)) ?_
  rw [bleF (show 0 < n by omega), cond_false, bleT (Nat.le_refl _), cond_true]
theorem kindsT (x : Nat → Int) (n : Nat) (c : Option Nat) (h1 : 1 ≤ n) (hn : n ≤ nmax) (hx : ∀ j, j < n → 0 ≤ x j ∧ x j < 256) : ToldOk P18 G18 47 [rowV x n c] (.new (rowV (csK x n) (kK x n) none)) := by
  have hn2 := hn
  unfold nmax at hn2
  have h60 := cloneT x n c h1 (by omega)
  obtain ⟨y, ⟨hy1, hy2⟩, h61⟩ := sortT n x hn
  obtain ⟨z, k, hz, h62⟩ := compT n y (by omega) h1 hy2
  obtain ⟨p60, hp60⟩ := is_val P18 G18 60
  obtain ⟨p61, hp61⟩ := is_ref P18 G18 61
  obtain ⟨p62, hp62⟩ := is_ref P18 G18 62
  have hu := SAsc.unique hz.asc (csK_asc x n) fun v => (hz.mem v).trans ((hy1.mem v).trans (csK_mem hx v).symm)
  refine ToldOk.resTo (r := .new (.view 1 k (fun j => [.int .u8 (z j)]) none)) ?_ (.new (by
    rw [← hu.1]
    refine .view (.inl rfl) fun j hj => ?_
    show Sims [T.int .u8 (z j)] [.int .u8 (csK x n j)]
    rw [hu.2 j hj]
    exact Sims.refl _))
  refine ToldOk.frz (r := .fresh true 1 n (fun j => [.int .u8 (z j)]) k none) ?_
  refine stepV_told hm18 hn18 (K := K47 p60 p61 p62 n x y z k) (told_addRef (told_addRef (told_add none_ok (callF_told hp60)) (refF_told hp61)) (refF_told hp62)) (A := A18) (m := 0) ?_
  have hk := hz.kn
  refine Eq.trans (show stepV P18 G18 A18 (K47 p60 p61 p62 n x y z k) 0 47 [rowV x n c] =
(
 bif decF (p60 [rowV x n c] (T.fresh true (1 : Nat) n (fun j => [T.int .u8 (x j)]) n
 none)) then
 bif decF (p61 [T.own 0 0 0 n
 none] [Blk.mk 0 1 n (fun j => [T.int .u8 (x j)]) true false
 none] (T.tup []) [Blk.mk 0 1 n (fun j => [T.int .u8 (y j)]) true false
 none]) then
 bif decF (p62 [T.own 0 0 0 n
 none] [Blk.mk 0 1 n (fun j => [T.int .u8 (y j)]) true false
 none] (T.own 0 0 0 k
 none) [Blk.mk 0 1 n (fun j => [T.int .u8 (z j)]) true false
 none]) then
 some (bif ((0 : Nat) + k).ble n then T.fresh true (1 : Nat) (n - (0 : Nat)) (fun j => [T.int .u8 (z ((0 : Nat) + j))]) k none else T.undef)
 else none else none else
 none) from by kernel_rfl) ?_
  refine bift (callF_yes hp60 h60) ?_
  refine bift (refF_yes hp61 h61) ?_
  refine bift (refF_yes hp62 h62) ?_
  simp only [Nat.zero_add, Nat.sub_zero]
  rw [bleT hk, cond_true]
end Go.Ab

namespace Go.Ab
open Go.Proofs
def mnF (r : Nat → Int) : Nat → Int
  | 0 => r 0
  | i + 1 => bif decide (r (i + 1) < mnF r i) then r (i + 1) else mnF r i
def mxF (r : Nat → Int) : Nat → Int
  | 0 => r 0
  | i + 1 => bif decide (mxF r i < r (i + 1)) then r (i + 1) else mxF r i
def v45 (r : Nat → Int) (n : Nat) (c : Option Nat) (a : Int) (i : Int) : List T := [rowV r n c, .int .u8 a, .int .i64 i]
def picV (R : Nat → Nat → Int) (n h : Nat) (rc c : Option Nat) : T := .view 1 h (fun i => [rowV (R i) n rc]) c
def v29 (R : Nat → Nat → Int) (n h : Nat) (rc c : Option Nat) (i : Int) : List T := [picV R n h rc c, picV R n h rc c, .int .i64 h, .int .i64 i]
def v29d (R : Nat → Nat → Int) (n h : Nat) (rc c : Option Nat) (i : Int) : List T := [picV R n h rc c, .int .i64 h, .int .i64 i]
structure PicOk (R : Nat → Nat → Int) (n h : Nat) : Prop where
  n1 : 1 ≤ n
  nm : n ≤ nmax
  h1 : h ≤ 31
  odd : h % 2 = 1
  col : ∀ i, i < h → ∀ j, j < n → 1 ≤ R i j ∧ R i j ≤ 6
  two : ∀ i, i < h → kK (R i) n ≤ 2
noncomputable def K29 (p q : List T → T → Prop) (a b : Int) : Orc := (noneO.add 45 (callF p fun _ => some (.int .u8 a))).add 46 (callF q fun _ => some (.int .u8 b))
noncomputable def K29k (p : List T → T → Prop) (r : T) : Orc := noneO.add 47 (callF p fun _ => some r)
theorem mnF_ge (r : Nat → Int) (lo : Int) : ∀ i, (∀ j, j ≤ i → lo ≤ r j) → lo ≤ mnF r i
  | 0, h => h 0 (Nat.le_refl _)
  | i + 1, h => by
    have h1 := mnF_ge r lo i (fun j hj => h j (by omega))
    have h2 := h (i + 1) (Nat.le_refl _)
    unfold mnF
    cases decide (r (i + 1) < mnF r i)
    · exact h1
    · exact h2
theorem mxF_le (r : Nat → Int) (hi : Int) : ∀ i, (∀ j, j ≤ i → r j ≤ hi) → mxF r i ≤ hi
  | 0, h => h 0 (Nat.le_refl _)
  | i + 1, h => by
    have h1 := mxF_le r hi i (fun j hj => h j (by omega))
    have h2 := h (i + 1) (Nat.le_refl _)
    unfold mxF
    cases decide (mxF r i < r (i + 1))
    · exact h1
    · exact h2
theorem minT (r : Nat → Int) (n : Nat) (c : Option Nat) (h1 : 1 ≤ n) (hn : n ≤ 1000) : ToldOk P18 G18 45 [rowV r n c] (.int .u8 (mnF r (n - 1))) := by
  have hl : LoopOk P18 G18 (A18 45) 45 5 (litS (v45 r n c (r 0) 1) [] (.exit 0) [.int .u8 (mnF r (n - 1))] []) := by
    refine loop_steps hm18 (by kernel_rfl) (fun i => v45 r n c (mnF r i) (i + 1 : Nat)) (fun _ => []) (n := n - 1) (fun i hi => ?_) ?_
    · refine Step.mk0 (A := A18) (m := 0) none_ok rfl rfl loops0 (h1 := []) ?_ .nil
      have e : mnF r (i + 1) = bif decide (r (i + 1) < mnF r i) then r (i + 1) else mnF r i := rfl
      rw [e]
      generalize mnF r i = a
      refine Eq.trans (show iterR P18 G18 A18 noneO 0 45 [] 5 (v45 r n c a (i + 1 : Nat)) [] =
(
 bif decide (Int.ofNat (i + (1 : Nat)) < Int.ofNat n) then
 bif decide ((0 : Int) ≤ Int.ofNat (i + (1 : Nat))) && decide (Int.ofNat (i + (1 : Nat)) < Int.ofNat n) then
 some ((Ex.normal, [rowV r n c, T.int .u8 (bif decide (r (i + (1 : Nat)) < a) then r (i + (1 : Nat))
 else a), T.int .i64 (IntKind.i64.wrap (Int.ofNat (i + (1 : Nat)) + (1 : Int)))], []))
 else none else
 some ((Ex.exit 0, [T.int .u8 a], []))) from by kernel_rfl) ?_
      (repeat (first | (refine bift (by first | assumption | omega | (simp (disch := omega) only [numsE, List.length_cons, List.length_nil, Nat.reduceAdd]; done) | (simp (disch := omega) only [numsE, List.length_cons, List.length_nil, Nat.reduceAdd]; omega)) ?_) | (refine biff (by first | assumption | (simp (disch := omega) only [numsE, List.length_cons, List.length_nil, Nat.reduceAdd]; done) | (simp (disch := omega) only [numsE, List.length_cons, List.length_nil, Nat.reduceAdd]; omega)) ?_)))
      rw [ofNatE (i + 1), wr64 (x := ((i + 1 : Nat) : Int) + 1) (by omega) (by omega)]
      rfl
    · generalize mnF r (n - 1) = a
      rw [show n - 1 + 1 = n by omega]
      refine Last.mk0 (A := A18) (m := 0) none_ok rfl rfl loops0 (h1 := []) (by simp) ?_ .nil
      refine Eq.trans (show iterR P18 G18 A18 noneO 0 45 [] 5 (v45 r n c a (n : Nat)) [] =
(
 bif decide (Int.ofNat n < Int.ofNat n) then
 bif decide ((0 : Int) ≤ Int.ofNat n) && decide (Int.ofNat n < Int.ofNat n) then
 some ((Ex.normal, [rowV r n c, T.int .u8 (bif decide (r n < a) then r n
 else a), T.int .i64 (IntKind.i64.wrap (Int.ofNat n + (1 : Int)))], []))
 else none else
 some ((Ex.exit 0, [T.int .u8 a], []))) from by kernel_rfl) ?_
      (repeat (first | (refine bift (by first | assumption | omega | (simp (disch := omega) only [numsE, List.length_cons, List.length_nil, Nat.reduceAdd]; done) | (simp (disch := omega) only [numsE, List.length_cons, List.length_nil, Nat.reduceAdd]; omega)) ?_) | (refine biff (by first | assumption | (simp (disch := omega) only [numsE, List.length_cons, List.length_nil, Nat.reduceAdd]; done) | (simp (disch := omega) only [numsE, List.length_cons, List.length_nil, Nat.reduceAdd]; omega)) ?_)))
      rfl
  generalize mnF r (n - 1) = a at *
  refine stepL_told hm18 hn18 none_ok (A := A18) (m := 0) (by kernel_rfl) (loops1 hl) ?_
  refine Eq.trans (show stepL P18 G18 A18 noneO 0 45 [(5, litS (v45 r n c (r 0) 1) [] (.exit 0) [.int .u8 a] [])] [rowV r n c] =
(
 bif decide (Int.ofNat n < (1 : Int)) then none else
 bif decide ((0 : Int) < Int.ofNat n) then
 bif weakF [rowV r n c, T.int .u8 (r (0 : Nat)), T.int .i64 (1 : Int)] [] [rowV r n c, T.int .u8 (r (0 : Nat)), T.int .i64 (1 : Int)] [] then
 some (T.int .u8 a)
 else none else
 none) from by kernel_rfl) ?_
  (repeat (first | (refine bift (by first | assumption | omega | (simp (disch := omega) only [numsE, List.length_cons, List.length_nil, Nat.reduceAdd]; done) | (simp (disch := omega) only [numsE, List.length_cons, List.length_nil, Nat.reduceAdd]; omega)) ?_) | (refine biff (by first | assumption | (simp (disch := omega) only [numsE, List.length_cons, List.length_nil, Nat.reduceAdd]; done) | (simp (disch := omega) only [numsE, List.length_cons, List.length_nil, Nat.reduceAdd]; omega)) ?_)))
  exact bift (weakF_of ⟨rfl, .refl _⟩) rfl
theorem maxT (r : Nat → Int) (n : Nat) (c : Option Nat) (h1 : 1 ≤ n) (hn : n ≤ 1000) : ToldOk P18 G18 46 [rowV r n c] (.int .u8 (mxF r (n - 1))) := by
  have hl : LoopOk P18 G18 (A18 46) 46 5 (litS (v45 r n c (r 0) 1) [] (.exit 0) [.int .u8 (mxF r (n - 1))] []) := by
    refine loop_steps hm18 (by kernel_rfl) (fun i => v45 r n c (mxF r i) (i + 1 : Nat)) (fun _ => []) (n := n - 1) (fun i hi => ?_) ?_
    · refine Step.mk0 (A := A18) (m := 0) none_ok rfl rfl loops0 (h1 := []) ?_ .nil
      have e : mxF r (i + 1) = bif decide (mxF r i < r (i + 1)) then r (i + 1) else mxF r i := rfl
      rw [e]
      generalize mxF r i = a
      refine Eq.trans (show iterR P18 G18 A18 noneO 0 46 [] 5 (v45 r n c a (i + 1 : Nat)) [] =
(
 bif decide (Int.ofNat (i + (1 : Nat)) < Int.ofNat n) then
 bif decide ((0 : Int) ≤ Int.ofNat (i + (1 : Nat))) && decide (Int.ofNat (i + (1 : Nat)) < Int.ofNat n) then
 some ((Ex.normal, [rowV r n c, T.int .u8 (bif decide (a < r (i + (1 : Nat))) then r (i + (1 : Nat))
 else a), T.int .i64 (IntKind.i64.wrap (Int.ofNat (i + (1 : Nat)) + (1 : Int)))], []))
 else none else
 some ((Ex.exit 0, [T.int .u8 a], []))) from by kernel_rfl) ?_
      (repeat (first | (refine bift (by first | assumption | omega | (simp (disch := omega) only [numsE, List.length_cons, List.length_nil, Nat.reduceAdd]; done) | (simp (disch := omega) only [numsE, List.length_cons, List.length_nil, Nat.reduceAdd]; omega)) ?_) | (refine biff (by first | assumption | (simp (disch := omega) only [numsE, List.length_cons, List.length_nil, Nat.reduceAdd]; done) | (simp (disch := omega) only [numsE, List.length_cons, List.length_nil, Nat.reduceAdd]; omega)) ?_)))
      rw [ofNatE (i + 1), wr64 (x := ((i + 1 : Nat) : Int) + 1) (by omega) (by omega)]
      rfl
    · generalize mxF r (n - 1) = a
      rw [show n - 1 + 1 = n by omega]
      refine Last.mk0 (A := A18) (m := 0) none_ok rfl rfl loops0 (h1 := []) (by simp) ?_ .nil
      refine Eq.trans (show iterR P18 G18 A18 noneO 0 46 [] 5 (v45 r n c a (n : Nat)) [] =
(
 bif decide (Int.ofNat n < Int.ofNat n) then
 bif decide ((0 : Int) ≤ Int.ofNat n) && decide (Int.ofNat n < Int.ofNat n) then
 some ((Ex.normal, [rowV r n c, T.int .u8 (bif decide (a < r n) then r n
 else a), T.int .i64 (IntKind.i64.wrap (Int.ofNat n + (1 : Int)))], []))
 else none else
 some ((Ex.exit 0, [T.int .u8 a], []))) from by kernel_rfl) ?_
      (repeat (first | (refine bift (by first | assumption | omega | (simp (disch := omega) only [numsE, List.length_cons, List.length_nil, Nat.reduceAdd]; done) | (simp (disch := omega) only [numsE, List.length_cons, List.length_nil, Nat.reduceAdd]; omega)) ?_) | (refine biff (by first | assumption | (simp (disch := omega) only [numsE, List.length_cons, List.length_nil, Nat.reduceAdd]; done) | (simp (disch := omega) only [numsE, List.length_cons, List.length_nil, Nat.reduceAdd]; omega)) ?_)))
      rfl
  generalize mxF r (n - 1) = a at *
  refine stepL_told hm18 hn18 none_ok (A := A18) (m := 0) (by kernel_rfl) (loops1 hl) ?_
  refine Eq.trans (show stepL P18 G18 A18 noneO 0 46 [(5, litS (v45 r n c (r 0) 1) [] (.exit 0) [.int .u8 a] [])] [rowV r n c] =
(
 bif decide (Int.ofNat n < (1 : Int)) then none else
 bif decide ((0 : Int) < Int.ofNat n) then
 bif weakF [rowV r n c, T.int .u8 (r (0 : Nat)), T.int .i64 (1 : Int)] [] [rowV r n c, T.int .u8 (r (0 : Nat)), T.int .i64 (1 : Int)] [] then
 some (T.int .u8 a)
 else none else
 none) from by kernel_rfl) ?_
  (repeat (first | (refine bift (by first | assumption | omega | (simp (disch := omega) only [numsE, List.length_cons, List.length_nil, Nat.reduceAdd]; done) | (simp (disch := omega) only [numsE, List.length_cons, List.length_nil, Nat.reduceAdd]; omega)) ?_) | (refine biff (by first | assumption | (simp (disch := omega) only [numsE, List.length_cons, List.length_nil, Nat.reduceAdd]; done) | (simp (disch := omega) only [numsE, List.length_cons, List.length_nil, Nat.reduceAdd]; omega)) ?_)))
  exact bift (weakF_of ⟨rfl, .refl _⟩) rfl
section
variable (R : Nat → Nat → Int) (n h : Nat) (rc c : Option Nat)
theorem l29a (hn : n ≤ 16) (hh : h ≤ 31) : LoopOk P18 G18 (A18 29) 29 4 (litS (v29 R n h rc c 0) [] (.exit 0) [picV R n h rc c, .undef] []) := by
  refine loop_steps hm18 (by kernel_rfl) (fun i => v29 R n h rc c (i : Nat)) (fun _ => []) (n := h) (fun i hi => ?_) ?_
  · refine Step.mk0 (A := A18) (m := 0) none_ok rfl rfl loops0 (h1 := []) ?_ .nil
    refine Eq.trans (show iterR P18 G18 A18 noneO 0 29 [] 4 (v29 R n h rc c i) [] =
(
 bif decide (Int.ofNat i < Int.ofNat h) then
 bif decide ((0 : Int) ≤ Int.ofNat i) && decide (Int.ofNat i < Int.ofNat h) then
 bif decide ((16 : Int) < Int.ofNat n) then
 some ((Ex.ret, [T.view 1 h (fun i => [T.view 1 n (fun j => [T.int .u8 (R i j)]) rc]) c, T.int .i64 (3 : Int)], []))
 else
 some ((Ex.normal, [T.view 1 h (fun i => [T.view 1 n (fun j => [T.int .u8 (R i j)]) rc]) c, T.view 1 h (fun i => [T.view 1 n (fun j => [T.int .u8 (R i j)]) rc]) c, T.int .i64 (Int.ofNat h), T.int .i64 (IntKind.i64.wrap (Int.ofNat i + (1 : Int)))], []))
 else none else
 some ((Ex.exit 0, [T.view 1 h (fun i => [T.view 1 n (fun j => [T.int .u8 (R i j)]) rc]) c, T.undef], []))) from by kernel_rfl) ?_
    (repeat (first | (refine bift (by first | assumption | omega | (simp (disch := omega) only [numsE, List.length_cons, List.length_nil, Nat.reduceAdd]; done) | (simp (disch := omega) only [numsE, List.length_cons, List.length_nil, Nat.reduceAdd]; omega)) ?_) | (refine biff (by first | assumption | (simp (disch := omega) only [numsE, List.length_cons, List.length_nil, Nat.reduceAdd]; done) | (simp (disch := omega) only [numsE, List.length_cons, List.length_nil, Nat.reduceAdd]; omega)) ?_)))
    rw [ofNatE i, wr64 (x := (i : Int) + 1) (by omega) (by omega)]
    rfl
  · refine Last.mk0 (A := A18) (m := 0) none_ok rfl rfl loops0 (h1 := []) (by simp) ?_ .nil
    refine Eq.trans (show iterR P18 G18 A18 noneO 0 29 [] 4 (v29 R n h rc c h) [] =
(
 bif decide (Int.ofNat h < Int.ofNat h) then
 bif decide ((0 : Int) ≤ Int.ofNat h) && decide (Int.ofNat h < Int.ofNat h) then
 bif decide ((16 : Int) < Int.ofNat n) then
 some ((Ex.ret, [T.view 1 h (fun i => [T.view 1 n (fun j => [T.int .u8 (R i j)]) rc]) c, T.int .i64 (3 : Int)], []))
 else
 some ((Ex.normal, [T.view 1 h (fun i => [T.view 1 n (fun j => [T.int .u8 (R i j)]) rc]) c, T.view 1 h (fun i => [T.view 1 n (fun j => [T.int .u8 (R i j)]) rc]) c, T.int .i64 (Int.ofNat h), T.int .i64 (IntKind.i64.wrap (Int.ofNat h + (1 : Int)))], []))
 else none else
 some ((Ex.exit 0, [T.view 1 h (fun i => [T.view 1 n (fun j => [T.int .u8 (R i j)]) rc]) c, T.undef], []))) from by kernel_rfl) ?_
    (repeat (first | (refine bift (by first | assumption | omega | (simp (disch := omega) only [numsE, List.length_cons, List.length_nil, Nat.reduceAdd]; done) | (simp (disch := omega) only [numsE, List.length_cons, List.length_nil, Nat.reduceAdd]; omega)) ?_) | (refine biff (by first | assumption | (simp (disch := omega) only [numsE, List.length_cons, List.length_nil, Nat.reduceAdd]; done) | (simp (disch := omega) only [numsE, List.length_cons, List.length_nil, Nat.reduceAdd]; omega)) ?_)))
    rfl
theorem l29b (hn1 : 1 ≤ n) (hn : n ≤ 16) (hh : h ≤ 31) (hc : ∀ i, i < h → ∀ j, j < n → 1 ≤ R i j ∧ R i j ≤ 6) : LoopOk P18 G18 (A18 29) 29 12 (litS (v29 R n h rc c 0) [] (.exit 2) [picV R n h rc c, .undef] []) := by
  obtain ⟨p, hp⟩ := is_val P18 G18 45
  obtain ⟨q, hq⟩ := is_val P18 G18 46
  refine loop_steps hm18 (by kernel_rfl) (fun i => v29 R n h rc c (i : Nat)) (fun _ => []) (n := h) (fun i hi => ?_) ?_
  · have t1 := minT (R i) n rc hn1 (by omega)
    have t2 := maxT (R i) n rc hn1 (by omega)
    have g1 := mnF_ge (R i) 1 (n - 1) fun j hj => (hc i hi j (by omega)).1
    have g2 := mxF_le (R i) 6 (n - 1) fun j hj => (hc i hi j (by omega)).2
    clear hc
    generalize mnF (R i) (n - 1) = a at *
    generalize mxF (R i) (n - 1) = b at *
    refine Step.mk0 (A := A18) (K := K29 p q a b) (m := 0) (told_add (told_add none_ok (callF_told hp)) (callF_told hq)) rfl rfl loops0 (h1 := []) ?_ .nil
    refine Eq.trans (show iterR P18 G18 A18 (K29 p q a b) 0 29 [] 12 (v29 R n h rc c i) [] =
(
 bif decide (Int.ofNat i < Int.ofNat h) then
 bif decide ((0 : Int) ≤ Int.ofNat i) && decide (Int.ofNat i < Int.ofNat h) then
 bif decide (Int.ofNat n = (0 : Int)) then
 some ((Ex.ret, [T.view 1 h (fun i => [T.view 1 n (fun j => [T.int .u8 (R i j)]) rc]) c, T.int .i64 (1 : Int)], []))
 else
 bif decF (p [T.view 1 n (fun j => [T.int .u8 (R i j)]) rc] (T.int .u8 a)) then
 bif decide (a < (1 : Int)) then
 some ((Ex.ret, [T.view 1 h (fun i => [T.view 1 n (fun j => [T.int .u8 (R i j)]) rc]) c, T.int .i64 (1 : Int)], []))
 else
 bif decF (q [T.view 1 n (fun j => [T.int .u8 (R i j)]) rc] (T.int .u8 b)) then
 bif decide ((6 : Int) < b) then
 some ((Ex.ret, [T.view 1 h (fun i => [T.view 1 n (fun j => [T.int .u8 (R i j)]) rc]) c, T.int .i64 (1 : Int)], []))
 else
 some ((Ex.normal, [T.view 1 h (fun i => [T.view 1 n (fun j => [T.int .u8 (R i j)]) rc]) c, T.view 1 h (fun i => [T.view 1 n (fun j => [T.int .u8 (R i j)]) rc]) c, T.int .i64 (Int.ofNat h), T.int .i64 (IntKind.i64.wrap (Int.ofNat i + (1 : Int)))], []))
 else none else none else none else
 some ((Ex.exit 2, [T.view 1 h (fun i => [T.view 1 n (fun j => [T.int .u8 (R i j)]) rc]) c, T.undef], []))) from by kernel_rfl) ?_
    refine bift (by first | assumption | omega | (simp (disch := omega) only [numsE, List.length_cons, List.length_nil, Nat.reduceAdd]; done) | (simp (disch := omega) only [numsE, List.length_cons, List.length_nil, Nat.reduceAdd]; omega)) ?_
    refine bift (by first | assumption | omega | (simp (disch := omega) only [numsE, List.length_cons, List.length_nil, Nat.reduceAdd]; done) | (simp (disch := omega) only [numsE, List.length_cons, List.length_nil, Nat.reduceAdd]; omega)) ?_
    refine biff (by first | assumption | (simp (disch := omega) only [numsE, List.length_cons, List.length_nil, Nat.reduceAdd]; done) | (simp (disch := omega) only [numsE, List.length_cons, List.length_nil, Nat.reduceAdd]; omega)) ?_
    refine bift (callF_yes hp t1) ?_
    refine biff (by first | assumption | (simp (disch := omega) only [numsE, List.length_cons, List.length_nil, Nat.reduceAdd]; done) | (simp (disch := omega) only [numsE, List.length_cons, List.length_nil, Nat.reduceAdd]; omega)) ?_
    refine bift (callF_yes hq t2) ?_
    refine biff (by first | assumption | (simp (disch := omega) only [numsE, List.length_cons, List.length_nil, Nat.reduceAdd]; done) | (simp (disch := omega) only [numsE, List.length_cons, List.length_nil, Nat.reduceAdd]; omega)) ?_
    rw [ofNatE i, wr64 (x := (i : Int) + 1) (by omega) (by omega)]
    rfl
  · clear hc
    refine Last.mk0 (A := A18) (m := 0) none_ok rfl rfl loops0 (h1 := []) (by simp) ?_ .nil
    refine Eq.trans (show iterR P18 G18 A18 noneO 0 29 [] 12 (v29 R n h rc c h) [] =
(
 bif decide (Int.ofNat h < Int.ofNat h) then
 bif decide ((0 : Int) ≤ Int.ofNat h) && decide (Int.ofNat h < Int.ofNat h) then
 bif decide (Int.ofNat n = (0 : Int)) then
 some ((Ex.ret, [T.view 1 h (fun i => [T.view 1 n (fun j => [T.int .u8 (R i j)]) rc]) c, T.int .i64 (1 : Int)], []))
 else none else none else
 some ((Ex.exit 2, [T.view 1 h (fun i => [T.view 1 n (fun j => [T.int .u8 (R i j)]) rc]) c, T.undef], []))) from by kernel_rfl) ?_
    (repeat (first | (refine bift (by first | assumption | omega | (simp (disch := omega) only [numsE, List.length_cons, List.length_nil, Nat.reduceAdd]; done) | (simp (disch := omega) only [numsE, List.length_cons, List.length_nil, Nat.reduceAdd]; omega)) ?_) | (refine biff (by first | assumption | (simp (disch := omega) only [numsE, List.length_cons, List.length_nil, Nat.reduceAdd]; done) | (simp (disch := omega) only [numsE, List.length_cons, List.length_nil, Nat.reduceAdd]; omega)) ?_)))
    rfl
theorem l29c (hh : h ≤ 31) : LoopOk P18 G18 (A18 29) 29 18 (litS (v29 R n h rc c 0) [] (.exit 4) [picV R n h rc c, .undef] []) := by
  refine loop_steps hm18 (by kernel_rfl) (fun i => v29 R n h rc c (i : Nat)) (fun _ => []) (n := h) (fun i hi => ?_) ?_
  · refine Step.mk0 (A := A18) (m := 0) none_ok rfl rfl loops0 (h1 := []) ?_ .nil
    refine Eq.trans (show iterR P18 G18 A18 noneO 0 29 [] 18 (v29 R n h rc c i) [] =
(
 bif decide (Int.ofNat i < Int.ofNat h) then
 bif decide ((0 : Int) ≤ Int.ofNat i) && decide (Int.ofNat i < Int.ofNat h) then
 bif decide ((0 : Int) < Int.ofNat h) then
 bif !decide (Int.ofNat n = Int.ofNat n) then
 some ((Ex.ret, [T.view 1 h (fun i => [T.view 1 n (fun j => [T.int .u8 (R i j)]) rc]) c, T.int .i64 (5 : Int)], []))
 else
 some ((Ex.normal, [T.view 1 h (fun i => [T.view 1 n (fun j => [T.int .u8 (R i j)]) rc]) c, T.view 1 h (fun i => [T.view 1 n (fun j => [T.int .u8 (R i j)]) rc]) c, T.int .i64 (Int.ofNat h), T.int .i64 (IntKind.i64.wrap (Int.ofNat i + (1 : Int)))], []))
 else none else none else
 some ((Ex.exit 4, [T.view 1 h (fun i => [T.view 1 n (fun j => [T.int .u8 (R i j)]) rc]) c, T.undef], []))) from by kernel_rfl) ?_
    (repeat (first | (refine bift (by first | assumption | omega | (simp (disch := omega) only [numsE, List.length_cons, List.length_nil, Nat.reduceAdd]; done) | (simp (disch := omega) only [numsE, List.length_cons, List.length_nil, Nat.reduceAdd]; omega)) ?_) | (refine biff (by first | assumption | (simp (disch := omega) only [numsE, List.length_cons, List.length_nil, Nat.reduceAdd]; done) | (simp (disch := omega) only [numsE, List.length_cons, List.length_nil, Nat.reduceAdd]; omega)) ?_)))
    refine biff (by simp) ?_
    rw [ofNatE i, wr64 (x := (i : Int) + 1) (by omega) (by omega)]
    rfl
  · refine Last.mk0 (A := A18) (m := 0) none_ok rfl rfl loops0 (h1 := []) (by simp) ?_ .nil
    refine Eq.trans (show iterR P18 G18 A18 noneO 0 29 [] 18 (v29 R n h rc c h) [] =
(
 bif decide (Int.ofNat h < Int.ofNat h) then
 bif decide ((0 : Int) ≤ Int.ofNat h) && decide (Int.ofNat h < Int.ofNat h) then
 bif decide ((0 : Int) < Int.ofNat h) then
 bif !decide (Int.ofNat n = Int.ofNat n) then
 some ((Ex.ret, [T.view 1 h (fun i => [T.view 1 n (fun j => [T.int .u8 (R i j)]) rc]) c, T.int .i64 (5 : Int)], []))
 else
 some ((Ex.normal, [T.view 1 h (fun i => [T.view 1 n (fun j => [T.int .u8 (R i j)]) rc]) c, T.view 1 h (fun i => [T.view 1 n (fun j => [T.int .u8 (R i j)]) rc]) c, T.int .i64 (Int.ofNat h), T.int .i64 (IntKind.i64.wrap (Int.ofNat h + (1 : Int)))], []))
 else none else none else
 some ((Ex.exit 4, [T.view 1 h (fun i => [T.view 1 n (fun j => [T.int .u8 (R i j)]) rc]) c, T.undef], []))) from by kernel_rfl) ?_
    (repeat (first | (refine bift (by first | assumption | omega | (simp (disch := omega) only [numsE, List.length_cons, List.length_nil, Nat.reduceAdd]; done) | (simp (disch := omega) only [numsE, List.length_cons, List.length_nil, Nat.reduceAdd]; omega)) ?_) | (refine biff (by first | assumption | (simp (disch := omega) only [numsE, List.length_cons, List.length_nil, Nat.reduceAdd]; done) | (simp (disch := omega) only [numsE, List.length_cons, List.length_nil, Nat.reduceAdd]; omega)) ?_)))
    rfl
theorem l29d (hn1 : 1 ≤ n) (hn : n ≤ nmax) (hh : h ≤ 31) (hc : ∀ i, i < h → ∀ j, j < n → 1 ≤ R i j ∧ R i j ≤ 6) (h2 : ∀ i, i < h → kK (R i) n ≤ 2) : LoopOk P18 G18 (A18 29) 29 24 (litS (v29d R n h rc c 0) [] (.exit 6) [.undef] []) := by
  obtain ⟨p, hp⟩ := is_val P18 G18 47
  refine loop_steps hm18 (by kernel_rfl) (fun i => v29d R n h rc c (i : Nat)) (fun _ => []) (n := h) (fun i hi => ?_) ?_
  · have t1 := kindsT (R i) n rc hn1 hn fun j hj => by have := hc i hi j hj; omega
    have g1 := h2 i hi
    clear hc h2
    generalize kK (R i) n = k at *
    generalize csK (R i) n = cs at *
    refine Step.mk0 (A := A18) (K := K29k p (.new (rowV cs k none))) (m := 0) (told_add none_ok (callF_told hp)) rfl rfl loops0 (h1 := []) ?_ .nil
    refine Eq.trans (show iterR P18 G18 A18 (K29k p (.new (rowV cs k none))) 0 29 [] 24 (v29d R n h rc c i) [] =
(
 bif decide (Int.ofNat i < Int.ofNat h) then
 bif decide ((0 : Int) ≤ Int.ofNat i) && decide (Int.ofNat i < Int.ofNat h) then
 bif decF (p [T.view 1 n (fun j => [T.int .u8 (R i j)]) rc] (rowV cs k
 none).new) then
 bif decide ((2 : Int) < Int.ofNat k) then
 some ((Ex.ret, [T.int .i64 (14 : Int)], []))
 else
 some ((Ex.normal, [T.view 1 h (fun i => [T.view 1 n (fun j => [T.int .u8 (R i j)]) rc]) c, T.int .i64 (Int.ofNat h), T.int .i64 (IntKind.i64.wrap (Int.ofNat i + (1 : Int)))], []))
 else none else none else
 some ((Ex.exit 6, [T.undef], []))) from by kernel_rfl) ?_
    refine bift (by first | assumption | omega | (simp (disch := omega) only [numsE, List.length_cons, List.length_nil, Nat.reduceAdd]; done) | (simp (disch := omega) only [numsE, List.length_cons, List.length_nil, Nat.reduceAdd]; omega)) ?_
    refine bift (by first | assumption | omega | (simp (disch := omega) only [numsE, List.length_cons, List.length_nil, Nat.reduceAdd]; done) | (simp (disch := omega) only [numsE, List.length_cons, List.length_nil, Nat.reduceAdd]; omega)) ?_
    refine bift (callF_yes hp t1) ?_
    refine biff (by first | assumption | (simp (disch := omega) only [numsE, List.length_cons, List.length_nil, Nat.reduceAdd]; done) | (simp (disch := omega) only [numsE, List.length_cons, List.length_nil, Nat.reduceAdd]; omega)) ?_
    rw [ofNatE i, wr64 (x := (i : Int) + 1) (by omega) (by omega)]
    rfl
  · clear hc h2
    refine Last.mk0 (A := A18) (m := 0) none_ok rfl rfl loops0 (h1 := []) (by simp) ?_ .nil
    refine Eq.trans (show iterR P18 G18 A18 noneO 0 29 [] 24 (v29d R n h rc c h) [] =
(
 bif decide (Int.ofNat h < Int.ofNat h) then
 bif decide ((0 : Int) ≤ Int.ofNat h) && decide (Int.ofNat h < Int.ofNat h) then none else none else
 some ((Ex.exit 6, [T.undef], []))) from by kernel_rfl) ?_
    (repeat (first | (refine bift (by first | assumption | omega | (simp (disch := omega) only [numsE, List.length_cons, List.length_nil, Nat.reduceAdd]; done) | (simp (disch := omega) only [numsE, List.length_cons, List.length_nil, Nat.reduceAdd]; omega)) ?_) | (refine biff (by first | assumption | (simp (disch := omega) only [numsE, List.length_cons, List.length_nil, Nat.reduceAdd]; done) | (simp (disch := omega) only [numsE, List.length_cons, List.length_nil, Nat.reduceAdd]; omega)) ?_)))
    rfl
theorem checkT (ok : PicOk R n h) : ToldOk P18 G18 29 [picV R n h rc c] (.int .i64 0) := by
  have hn2 := ok.nm
  unfold nmax at hn2
  have h1 := ok.h1
  have h2 := ok.odd
  refine stepL_told hm18 hn18 none_ok (A := A18) (m := 0) (by kernel_rfl) (loopsC (l29a R n h rc c (by omega) h1) (loopsC (l29b R n h rc c ok.n1 (by omega) h1 ok.col) (loopsC (l29c R n h rc c h1) (loops1 (l29d R n h rc c ok.n1 ok.nm h1 ok.col ok.two))))) ?_
  refine Eq.trans (show stepL P18 G18 A18 noneO 0 29 [(4, litS (v29 R n h rc c 0) [] (.exit 0) [picV R n h rc c, .undef] []), (12, litS (v29 R n h rc c 0) [] (.exit 2) [picV R n h rc c, .undef] []), (18, litS (v29 R n h rc c 0) [] (.exit 4) [picV R n h rc c, .undef] []), (24, litS (v29d R n h rc c 0) [] (.exit 6) [.undef] [])] [picV R n h rc c] =
(
 bif decide ((31 : Int) < Int.ofNat h) then
 some (T.int .i64 (3 : Int))
 else
 bif weakF [T.view 1 h (fun i => [T.view 1 n (fun j => [T.int .u8 (R i j)]) rc]) c, T.view 1 h (fun i => [T.view 1 n (fun j => [T.int .u8 (R i j)]) rc]) c, T.int .i64 (Int.ofNat h), T.int .i64 (0 : Int)] [] [T.view 1 h (fun i => [T.view 1 n (fun j => [T.int .u8 (R i j)]) rc]) c, T.view 1 h (fun i => [T.view 1 n (fun j => [T.int .u8 (R i j)]) rc]) c, T.int .i64 (Int.ofNat h), T.int .i64 (0 : Int)] [] then
 bif decide ((Int.ofNat h).tmod (2 : Int) = (0 : Int)) then
 some (T.int .i64 (1 : Int))
 else
 bif weakF [T.view 1 h (fun i => [T.view 1 n (fun j => [T.int .u8 (R i j)]) rc]) c, T.view 1 h (fun i => [T.view 1 n (fun j => [T.int .u8 (R i j)]) rc]) c, T.int .i64 (Int.ofNat h), T.int .i64 (0 : Int)] [] [T.view 1 h (fun i => [T.view 1 n (fun j => [T.int .u8 (R i j)]) rc]) c, T.view 1 h (fun i => [T.view 1 n (fun j => [T.int .u8 (R i j)]) rc]) c, T.int .i64 (Int.ofNat h), T.int .i64 (0 : Int)] [] then
 bif weakF [T.view 1 h (fun i => [T.view 1 n (fun j => [T.int .u8 (R i j)]) rc]) c, T.view 1 h (fun i => [T.view 1 n (fun j => [T.int .u8 (R i j)]) rc]) c, T.int .i64 (Int.ofNat h), T.int .i64 (0 : Int)] [] [T.view 1 h (fun i => [T.view 1 n (fun j => [T.int .u8 (R i j)]) rc]) c, T.view 1 h (fun i => [T.view 1 n (fun j => [T.int .u8 (R i j)]) rc]) c, T.int .i64 (Int.ofNat h), T.int .i64 (0 : Int)] [] then
 bif weakF [T.view 1 h (fun i => [T.view 1 n (fun j => [T.int .u8 (R i j)]) rc]) c, T.int .i64 (Int.ofNat h), T.int .i64 (0 : Int)] [] [T.view 1 h (fun i => [T.view 1 n (fun j => [T.int .u8 (R i j)]) rc]) c, T.int .i64 (Int.ofNat h), T.int .i64 (0 : Int)] [] then
 some (T.int .i64 (0 : Int))
 else none else none else none else
 none) from by kernel_rfl) ?_
  refine biff (by first | assumption | (simp (disch := omega) only [numsE, List.length_cons, List.length_nil, Nat.reduceAdd]; done) | (simp (disch := omega) only [numsE, List.length_cons, List.length_nil, Nat.reduceAdd]; omega)) ?_
  refine bift (weakF_of ⟨rfl, .refl _⟩) ?_
  refine biff (by
    have e : (Int.ofNat h).tmod 2 = ((h % 2 : Nat) : Int) := rfl
    rw [e, h2]
    simp) ?_
  refine bift (weakF_of ⟨rfl, .refl _⟩) ?_
  refine bift (weakF_of ⟨rfl, .refl _⟩) ?_
  exact bift (weakF_of ⟨rfl, .refl _⟩) rfl
end
end Go.Ab

namespace Go.Ab
open Go.Proofs
def sumN (N : Nat → Int) : Nat → Int
  | 0 => 0
  | i + 1 => sumN N i + N i
def h14 (h : Nat) (w : Nat → T) : Heap := [⟨0, 1, h, fun e => [w e], false, false, none⟩]
def v14 (R : Nat → Nat → Int) (n h : Nat) (rc c : Option Nat) (most tot i : Int) : List T := [.int .i64 most, .own 0 0 0 h (some h), .int .i64 tot, picV R n h rc c, .int .i64 h, .int .i64 i]
def wrow (n : Nat) (W : Nat → Int) : T := .view 1 n (fun j => [.int .u8 (W j)]) (some n)
noncomputable def K14 (p : List T → T → Prop) (r : T) : Orc := noneO.add 30 (callF p fun _ => some r)
noncomputable def K14c (p : List T → T → Prop) : Orc := noneO.add 29 (callF p fun _ => some (.int .i64 0))
theorem sumN_bd {N : Nat → Int} {h : Nat} (hN : ∀ i, i < h → 0 ≤ N i ∧ N i ≤ 1001) : ∀ i, i ≤ h → 0 ≤ sumN N i ∧ sumN N i ≤ 1001 * i
  | 0, _ => by unfold sumN; omega
  | i + 1, hi => by
    have h1 := sumN_bd hN i (by omega)
    have h2 := hN i (by omega)
    unfold sumN
    omega
theorem l14 (R : Nat → Nat → Int) (n h : Nat) (rc c : Option Nat) (most : Int) (W : Nat → Nat → Int) (N : Nat → Int) (hh : h ≤ 31) (hN : ∀ i, i < h → 0 ≤ N i ∧ N i ≤ 1001)
    (hW : ∀ i, i < h → ToldOk P18 G18 30 [rowV (R i) n rc, .int .i64 most] (.tup [.new (wrow n (W i)), .int .i64 (N i)])) :
    LoopOk P18 G18 (A18 14) 14 9 (litS (v14 R n h rc c most 0 0) (h14 h fun _ => .nils) (.exit 0) [.own 0 0 0 h (some h), .int .i64 (sumN N h)] (h14 h fun e => wrow n (W e))) := by
  obtain ⟨p, hp⟩ := is_val P18 G18 30
  refine loop_steps hm18 (by kernel_rfl) (fun i => v14 R n h rc c most (sumN N i) (i : Nat)) (fun i => h14 h fun e => bif Nat.blt e i then wrow n (W e) else .nils) (n := h) (fun i hi => ?_) ?_
  · have t1 := hW i hi
    have hb := sumN_bd hN i (by omega)
    have hb2 := hN i hi
    have e : sumN N (i + 1) = sumN N i + N i := rfl
    rw [e]
    obtain ⟨w, hw⟩ : ∃ w : Nat → T, w = fun e => bif Nat.blt e i then wrow n (W e) else .nils := ⟨_, rfl⟩
    have ew : (fun e => bif Nat.blt e (i + 1) then wrow n (W e) else .nils) = fun e => bif e == 0 + i then wrow n (W i) else w e := by
      subst hw
      funext e
      show _ = bif e == 0 + i then wrow n (W i) else (bif Nat.blt e i then wrow n (W e) else .nils)
      rw [Nat.zero_add]
      by_cases q : e = i
      · subst q; rw [beq_self_eq_true, cond_true, bltT (by omega), cond_true]
      · rw [show (e == i) = false by simpa using q, cond_false]
        by_cases q2 : e < i
        · rw [bltT q2, bltT (by omega)]
        · rw [bltF (by omega), bltF (by omega)]
    rw [ew, ← hw]
    clear hN hW ew hw
    generalize W i = Wi at *
    generalize sumN N i = tot at *
    generalize N i = a at *
    refine Step.mk0 (A := A18) (K := K14 p (.tup [.new (wrow n Wi), .int .i64 a])) (m := 0) (told_add none_ok (callF_told hp)) rfl rfl loops0 (h1 := h14 h fun e => bif e == 0 + i then wrow n Wi else w e) ?_ (.refl _)
    refine Eq.trans (show iterR P18 G18 A18 (K14 p (.tup [.new (wrow n Wi), .int .i64 a])) 0 14 [] 9 (v14 R n h rc c most tot i) (h14 h w) =
(
 bif decide (Int.ofNat i < Int.ofNat h) then
 bif decide ((0 : Int) ≤ Int.ofNat i) && decide (Int.ofNat i < Int.ofNat h) then
 bif decF (p [T.view 1 n (fun j => [T.int .u8 (R i j)]) rc, T.int .i64 most] (T.tup [(rowV Wi n (some n)).new, T.int .i64 a])) then
 bif decide ((0 : Int) ≤ Int.ofNat i) && decide (Int.ofNat i < Int.ofNat h) then
 bif ((0 : Nat) + i).blt h && [rowV Wi n (some n)].length == (1 : Nat) && true && true then
 some ((Ex.normal, [T.int .i64 most, T.own 0 0 0 h (some h), T.int .i64 (IntKind.i64.wrap (tot + a)), T.view 1 h (fun i => [T.view 1 n (fun j => [T.int .u8 (R i j)]) rc]) c, T.int .i64 (Int.ofNat h), T.int .i64 (IntKind.i64.wrap (Int.ofNat i + (1 : Int)))], [Blk.mk 0 1 h (fun e => [bif e == (0 : Nat) + i then rowV Wi n (some n)
 else w e]) false false
 none]))
 else none else none else none else none else
 some ((Ex.exit 0, [T.own 0 0 0 h (some h), T.int .i64 tot], [Blk.mk 0 1 h (fun e => [w e]) false false
 none]))) from by kernel_rfl) ?_
    refine bift (by first | assumption | omega | (simp (disch := omega) only [numsE, List.length_cons, List.length_nil, Nat.reduceAdd]; done) | (simp (disch := omega) only [numsE, List.length_cons, List.length_nil, Nat.reduceAdd]; omega)) ?_
    refine bift (by first | assumption | omega | (simp (disch := omega) only [numsE, List.length_cons, List.length_nil, Nat.reduceAdd]; done) | (simp (disch := omega) only [numsE, List.length_cons, List.length_nil, Nat.reduceAdd]; omega)) ?_
    refine bift (callF_yes hp t1) ?_
    refine bift (by first | assumption | omega | (simp (disch := omega) only [numsE, List.length_cons, List.length_nil, Nat.reduceAdd]; done) | (simp (disch := omega) only [numsE, List.length_cons, List.length_nil, Nat.reduceAdd]; omega)) ?_
    refine bift (by first | assumption | omega | (simp (disch := omega) only [numsE, List.length_cons, List.length_nil, Nat.reduceAdd]; done) | (simp (disch := omega) only [numsE, List.length_cons, List.length_nil, Nat.reduceAdd]; omega)) ?_
    rw [ofNatE i, wr64 (x := (i : Int) + 1) (by omega) (by omega), wr64 (x := tot + a) (by omega) (by omega)]
    rfl
  · generalize sumN N h = tot at *
    refine Last.mk0 (A := A18) (m := 0) none_ok rfl rfl loops0 (h1 := h14 h fun e => bif Nat.blt e h then wrow n (W e) else .nils) (by simp) ?_ (.cons ⟨rfl, rfl, rfl, id, fun j hj => ?_⟩ .nil)
    · generalize (fun e => bif Nat.blt e h then wrow n (W e) else .nils) = w at *
      refine Eq.trans (show iterR P18 G18 A18 noneO 0 14 [] 9 (v14 R n h rc c most tot h) (h14 h w) =
(
 bif decide (Int.ofNat h < Int.ofNat h) then
 bif decide ((0 : Int) ≤ Int.ofNat h) && decide (Int.ofNat h < Int.ofNat h) then none else none else
 some ((Ex.exit 0, [T.own 0 0 0 h (some h), T.int .i64 tot], [Blk.mk 0 1 h (fun e => [w e]) false false
 none]))) from by kernel_rfl) ?_
      (repeat (first | (refine bift (by first | assumption | omega | (simp (disch := omega) only [numsE, List.length_cons, List.length_nil, Nat.reduceAdd]; done) | (simp (disch := omega) only [numsE, List.length_cons, List.length_nil, Nat.reduceAdd]; omega)) ?_) | (refine biff (by first | assumption | (simp (disch := omega) only [numsE, List.length_cons, List.length_nil, Nat.reduceAdd]; done) | (simp (disch := omega) only [numsE, List.length_cons, List.length_nil, Nat.reduceAdd]; omega)) ?_)))
      rfl
    · show [wrow n (W j)] = [bif Nat.blt j h then wrow n (W j) else .nils]
      rw [bltT hj, cond_true]
theorem WeaveT (R : Nat → Nat → Int) (n h : Nat) (rc c : Option Nat) (most : Int) (W : Nat → Nat → Int) (N : Nat → Int) (ok : PicOk R n h) (hm : 1 ≤ most ∧ most ≤ 16) (hN : ∀ i, i < h → 0 ≤ N i ∧ N i ≤ 1001)
    (hW : ∀ i, i < h → ToldOk P18 G18 30 [rowV (R i) n rc, .int .i64 most] (.tup [.new (wrow n (W i)), .int .i64 (N i)])) :
    ToldOk P18 G18 14 [picV R n h rc c, .int .i64 most] (.tup [.fresh false 1 h (fun i => [wrow n (W i)]) h (some h), .int .i64 (sumN N h), .int .i64 0]) := by
  obtain ⟨p, hp⟩ := is_val P18 G18 29
  have h1 := ok.h1
  have t1 := checkT R n h rc c ok
  have hl := l14 R n h rc c most W N h1 hN hW
  generalize sumN N h = tot at *
  clear hW hN
  refine stepL_told hm18 hn18 (K := K14c p) (told_add none_ok (callF_told hp)) (A := A18) (m := 0) (by kernel_rfl) (loops1 hl) ?_
  refine Eq.trans (show stepL P18 G18 A18 (K14c p) 0 14 [(9, litS (v14 R n h rc c most 0 0) (h14 h fun _ => .nils) (.exit 0) [.own 0 0 0 h (some h), .int .i64 tot] (h14 h fun e => wrow n (W e)))] [picV R n h rc c, .int .i64 most] =
(
 bif decF (p [T.view 1 h (fun i => [T.view 1 n (fun j => [T.int .u8 (R i j)]) rc]) c] (T.int .i64 (0 : Int))) then
 bif decide (most < (1 : Int)) then
 some (T.tup [T.nils, T.int .i64 (0 : Int), T.int .i64 (1 : Int)])
 else
 bif decide ((16 : Int) < most) then
 some (T.tup [T.nils, T.int .i64 (0 : Int), T.int .i64 (1 : Int)])
 else
 bif decide ((0 : Int) ≤ Int.ofNat h) && decide (Int.ofNat h ≤ Int.ofNat h) && decide (Int.ofNat h * (24 : Int) ≤ (140737488355328 : Int)) && decide (Int.ofNat h ≤ (9223372036854775807 : Int)) then
 bif weakF [T.int .i64 most, T.own 0 0 0 h (some h), T.int .i64 (0 : Int), T.view 1 h (fun i => [T.view 1 n (fun j => [T.int .u8 (R i j)]) rc]) c, T.int .i64 (Int.ofNat h), T.int .i64 (0 : Int)] [Blk.mk 0 1 h (fun x => [T.nils]) false false
 none] [T.int .i64 most, T.own 0 0 0 h (some h), T.int .i64 (0 : Int), T.view 1 h (fun i => [T.view 1 n (fun j => [T.int .u8 (R i j)]) rc]) c, T.int .i64 (Int.ofNat h), T.int .i64 (0 : Int)] [Blk.mk 0 1 h (fun e => [T.nils]) false false
 none] then
 some (T.tup [bif ((0 : Nat) + h).ble h then T.fresh false (1 : Nat) (h - (0 : Nat)) (fun j => [T.view 1 n (fun j_1 => [T.int .u8 (W ((0 : Nat) + j) j_1)]) (some n)]) h (some h)
 else T.undef, T.int .i64 tot, T.int .i64 (0 : Int)])
 else none else none else
 none) from by kernel_rfl) ?_
  refine bift (callF_yes hp t1) ?_
  refine biff (by first | assumption | (simp (disch := omega) only [numsE, List.length_cons, List.length_nil, Nat.reduceAdd]; done) | (simp (disch := omega) only [numsE, List.length_cons, List.length_nil, Nat.reduceAdd]; omega)) ?_
  refine biff (by first | assumption | (simp (disch := omega) only [numsE, List.length_cons, List.length_nil, Nat.reduceAdd]; done) | (simp (disch := omega) only [numsE, List.length_cons, List.length_nil, Nat.reduceAdd]; omega)) ?_
  refine bift (by first | assumption | omega | (simp (disch := omega) only [numsE, List.length_cons, List.length_nil, Nat.reduceAdd]; done) | (simp (disch := omega) only [numsE, List.length_cons, List.length_nil, Nat.reduceAdd]; omega)) ?_
  refine bift (weakF_of ⟨rfl, .refl _⟩) ?_
  simp only [Nat.zero_add, Nat.sub_zero, bleT (Nat.le_refl _), cond_true]
  rfl
end Go.Ab

namespace Go.Ab
open Go.Proofs
section
variable (r : Nat → Int) (n : Nat) (cs : Nat → Int) (k : Nat) (most : Int)
def lkB (f : PS → Int) (a : Nat) (s : PS) : Nat → Int
  | 0 => (n : Int) + 1
  | i + 1 => bif s.ok most (cs i) then (bif decide (f (s.nx (cs i)) + chg (r a) (cs i) < lkB f a s i) then f (s.nx (cs i)) + chg (r a) (cs i) else lkB f a s i) else lkB f a s i
def lk : Nat → PS → Int
  | 0, _ => 0
  | m + 1, s => lkB r n cs most (lk m) (n - (m + 1)) s k
end
def Good (r : Nat → Int) (n : Nat) (cs : Nat → Int) (k : Nat) (most : Int) (m : MapD) (a : Nat) (s : PS) : Prop := m.val (s.key a) = lk r n cs k most (n - a) s
theorem b2i_inj {a b : Bool} (h : b2i a = b2i b) : a = b := by
  cases a <;> cases b <;> first | rfl | (simp [b2i] at h)
theorem key_inj {s t : PS} {a b : Int} (h : s.key a = t.key b) : a = b ∧ s = t := by
  obtain ⟨c, ru, i⟩ := s
  obtain ⟨c2, ru2, i2⟩ := t
  simp only [PS.key, List.cons.injEq, and_true] at h
  obtain ⟨h1, h2, h3, h4⟩ := h
  obtain rfl := b2i_inj h4
  subst h1 h2 h3
  exact ⟨rfl, rfl⟩
section
variable {r : Nat → Int} {n : Nat} {cs : Nat → Int} {k : Nat} {most : Int}
theorem bestF_lk (val : List Int → Int) (f : PS → Int) (a : Nat) (s : PS) : ∀ i, (∀ j, j < i → val ((s.nx (cs j)).key ((a : Int) + 1)) = f (s.nx (cs j))) → bestF r n cs most val a s.c s.run s.inn i = lkB r n cs most f a s i
  | 0, _ => rfl
  | i + 1, h => by
    have ih := bestF_lk val f a s i fun j hj => h j (by omega)
    have hi := h i (by omega)
    unfold bestF lkB
    rw [ih]
    have e : tryF r most val a s.c s.run s.inn (cs i) = f (s.nx (cs i)) + chg (r a) (cs i) := by
      rw [← hi]; rfl
    rw [e]
    rfl
theorem fillM_val (a : Nat) (s : PS) (m : MapD) (l : List Int) : (fillM r n cs k most a s.c s.run s.inn m).val l = if l = s.key a then fillZ r n cs k most m.val a s.c s.run s.inn else m.val l := by
  show (bif keq l [(a : Int), s.c, s.run, b2i s.inn] then fillZ r n cs k most m.val ((a : Int)).toNat s.c s.run s.inn else m.val l) = _
  by_cases q : l = s.key a
  · rw [if_pos q, q]
    show (bif keq [(a : Int), s.c, s.run, b2i s.inn] [(a : Int), s.c, s.run, b2i s.inn] then _ else _) = _
    rw [keq_self, cond_true]
    rfl
  · rw [if_neg q, show keq l [(a : Int), s.c, s.run, b2i s.inn] = false from keq_ne q, cond_false]
theorem Good.fill {m : MapD} {a b : Nat} {s t : PS} (ha : a ≤ n) (h : Good r n cs k most m b t ∨ (b = a ∧ t = s)) (hs : a < n → ∀ j, j < k → Good r n cs k most m (a + 1) (s.nx (cs j))) : Good r n cs k most (fillM r n cs k most a s.c s.run s.inn m) b t := by
  unfold Good
  rw [fillM_val]
  by_cases q : t.key b = s.key a
  · rw [if_pos q]
    obtain ⟨q1, rfl⟩ := key_inj q
    obtain rfl : b = a := by omega
    unfold fillZ
    by_cases q2 : b = n
    · subst q2
      rw [if_pos rfl, Nat.sub_self]
      rfl
    · rw [if_neg q2]
      obtain ⟨m', hm'⟩ : ∃ m', n - b = m' + 1 := ⟨n - b - 1, by omega⟩
      rw [hm', bestF_lk (f := lk r n cs k most m') m.val b t k fun j hj => ?_]
      · show _ = lkB r n cs most (lk r n cs k most m') (n - (m' + 1)) t k
        rw [show n - (m' + 1) = b by omega]
      · have := hs (by omega) j hj
        unfold Good at this
        rw [show n - (b + 1) = m' by omega] at this
        rw [← this]
        rfl
  · rw [if_neg q]
    rcases h with h | ⟨rfl, rfl⟩
    · exact h
    · exact absurd rfl q
def Pl (cs : Nat → Int) (k a : Nat) (s : PS) : Prop := ∃ i j, i < k ∧ 1 ≤ j ∧ j ≤ a ∧ s.c = cs i ∧ s.run = ((j : Nat) : Int)
theorem fold1_good {m : MapD} {a j : Nat} (ha : a ≤ n) (hs : a < n → ∀ i b, i < k → ∀ e, e < k → Good r n cs k most m (a + 1) (PS.nx ⟨cs i, (j : Nat), b⟩ (cs e))) : ∀ i, i ≤ k → (∀ b t, Good r n cs k most m b t → Good r n cs k most (fold1 (fillM r n cs k most) cs a j m i) b t) ∧ ∀ i', i' < i → ∀ b, Good r n cs k most (fold1 (fillM r n cs k most) cs a j m i) a ⟨cs i', (j : Nat), b⟩
  | 0, _ => ⟨fun _ _ h => h, fun i' h => by omega⟩
  | i + 1, hi => by
    obtain ⟨h1, h2⟩ := fold1_good ha hs i (by omega)
    have s1 : a < n → ∀ e, e < k → Good r n cs k most (fold1 (fillM r n cs k most) cs a j m i) (a + 1) (PS.nx ⟨cs i, (j : Nat), false⟩ (cs e)) := fun q e he => h1 _ _ (hs q i false (by omega) e he)
    have f1 : ∀ b t, (Good r n cs k most (fold1 (fillM r n cs k most) cs a j m i) b t ∨ (b = a ∧ t = ⟨cs i, (j : Nat), false⟩)) → Good r n cs k most (fillM r n cs k most a (cs i) (j : Nat) false (fold1 (fillM r n cs k most) cs a j m i)) b t := fun b t h => Good.fill (s := ⟨cs i, (j : Nat), false⟩) ha h s1
    have s2 : a < n → ∀ e, e < k → Good r n cs k most (fillM r n cs k most a (cs i) (j : Nat) false (fold1 (fillM r n cs k most) cs a j m i)) (a + 1) (PS.nx ⟨cs i, (j : Nat), true⟩ (cs e)) := fun q e he => f1 _ _ (.inl (h1 _ _ (hs q i true (by omega) e he)))
    have f2 : ∀ b t, (Good r n cs k most (fold1 (fillM r n cs k most) cs a j m i) b t ∨ (b = a ∧ t = ⟨cs i, (j : Nat), false⟩) ∨ (b = a ∧ t = ⟨cs i, (j : Nat), true⟩)) → Good r n cs k most (fold1 (fillM r n cs k most) cs a j m (i + 1)) b t := fun b t h =>
      Good.fill (s := ⟨cs i, (j : Nat), true⟩) ha (h.elim (fun h => .inl (f1 b t (.inl h))) fun h => h.elim (fun h => .inl (f1 b t (.inr h))) .inr) s2
    refine ⟨fun b t h => f2 b t (.inl (h1 b t h)), fun i' hi' b => ?_⟩
    by_cases q : i' = i
    · subst q
      cases b
      · exact f2 _ _ (.inr (.inl ⟨rfl, rfl⟩))
      · exact f2 _ _ (.inr (.inr ⟨rfl, rfl⟩))
    · exact f2 _ _ (.inl (h2 i' (by omega) b))
theorem nx_pl {a i j e : Nat} (hi : i < k) (he : e < k) (h1 : 1 ≤ j) (hj : j ≤ a) (b : Bool) : Pl cs k (a + 1) (PS.nx ⟨cs i, (j : Nat), b⟩ (cs e)) := by
  unfold PS.nx
  dsimp only
  unfold nK
  rw [decide_eq_false (show ¬ ((j : Int) = 0) by omega), cond_false]
  by_cases q : cs i = cs e
  · rw [decide_eq_true q, cond_true]
    exact ⟨e, j + 1, he, by omega, by omega, rfl, by show (j : Int) + 1 = ((j + 1 : Nat) : Int); omega⟩
  · rw [decide_eq_false q, cond_false]
    exact ⟨e, 1, he, by omega, by omega, rfl, rfl⟩
theorem fold2_good {m : MapD} {a : Nat} (ha : a ≤ n) (hs : a < n → ∀ s, Pl cs k (a + 1) s → Good r n cs k most m (a + 1) s) : ∀ j, j ≤ a → (∀ b t, Good r n cs k most m b t → Good r n cs k most (fold2 (fillM r n cs k most) cs k a m j) b t) ∧ ∀ j', 1 ≤ j' → j' ≤ j → ∀ i, i < k → ∀ b, Good r n cs k most (fold2 (fillM r n cs k most) cs k a m j) a ⟨cs i, (j' : Nat), b⟩
  | 0, _ => ⟨fun _ _ h => h, fun j' h1 h2 => by omega⟩
  | j + 1, hj => by
    obtain ⟨h1, h2⟩ := fold2_good ha hs j (by omega)
    obtain ⟨g1, g2⟩ := fold1_good (m := fold2 (fillM r n cs k most) cs k a m j) (j := j + 1) ha (fun q i b hi e he => h1 _ _ (hs q _ (nx_pl hi he (by omega) (by omega) b))) k (Nat.le_refl _)
    refine ⟨fun b t h => g1 b t (h1 b t h), fun j' q1 q2 i hi b => ?_⟩
    by_cases q : j' = j + 1
    · subst q; exact g2 i hi b
    · exact g1 _ _ (h2 j' q1 (by omega) i hi b)
theorem fold3_good : ∀ i, i ≤ n → ∀ a, n - i < a → a ≤ n → ∀ s, Pl cs k a s → Good r n cs k most (fold3 (fillM r n cs k most) cs k n i) a s
  | 0, _, a, h1, h2, s, _ => by omega
  | i + 1, hi, a, h1, h2, s, hp => by
    have ih := fold3_good i (by omega)
    obtain ⟨g1, g2⟩ := fold2_good (m := fold3 (fillM r n cs k most) cs k n i) (a := n - i) (by omega) (fun q s hp => ih (n - i + 1) (by omega) (by omega) s hp) (n - i) (Nat.le_refl _)
    by_cases q : a = n - i
    · obtain ⟨c, j, hc, hj1, hj2, e1, e2⟩ := hp
      obtain ⟨sc, sr, sb⟩ := s
      dsimp only at e1 e2
      subst e1 e2
      rw [q]
      exact g2 j hj1 (by omega) c hc sb
    · exact g1 _ _ (ih a (by omega) h2 s hp)
theorem least_good {a : Nat} {s : PS} (h1 : 1 ≤ n) (ha : a ≤ n) (h : Pl cs k a s ∨ (a = 0 ∧ s = ⟨0, 0, false⟩)) : Good r n cs k most (leastM r n cs k most) a s := by
  have g := fold3_good (r := r) (n := n) (cs := cs) (k := k) (most := most) n (Nat.le_refl _)
  refine Good.fill (a := 0) (s := ⟨0, 0, false⟩) (Nat.zero_le _) ?_ fun _ j hj => ?_
  · rcases h with h | h
    · obtain ⟨c, j, hc, hj1, hj2, e1, e2⟩ := h
      exact .inl (g a (by omega) ha s ⟨c, j, hc, hj1, hj2, e1, e2⟩)
    · exact .inr h
  · refine g 1 (by omega) h1 _ ⟨j, 1, hj, Nat.le_refl _, Nat.le_refl _, rfl, ?_⟩
    rfl
end
end Go.Ab

namespace Go.Ab
open Go.Proofs
def PlS (cs : Nat → Int) (k a : Nat) (s : PS) : Prop := Pl cs k a s ∨ (a = 0 ∧ s = ⟨0, 0, false⟩)
section
variable (r : Nat → Int) (n : Nat) (cs : Nat → Int) (k : Nat) (most : Int)
def tstL (i : Nat) (s : PS) (d : Int) : Bool := s.ok most d && decide (lk r n cs k most (n - (i + 1)) (s.nx d) + chg (r i) d = lk r n cs k most (n - i) s)
def psCL (i : Nat) (s : PS) : Nat := fnd (fun j => tstL r n cs k most i s (cs j)) k 0
def psL : Nat → PS
  | 0 => ⟨0, 0, false⟩
  | i + 1 => (psL i).nx (cs (psCL r n cs k most i (psL i)))
def wvL (i : Nat) : Int := (psL r n cs k most (i + 1)).c
end
section
variable {r : Nat → Int} {n : Nat} {cs : Nat → Int} {k : Nat} {most : Int}
theorem PlS.ok {a : Nat} {s : PS} (hk : 1 ≤ k) (h : PlS cs k a s) : ∃ j, j < k ∧ s.ok most (cs j) = true := by
  rcases h with ⟨i, j, hi, hj1, hj2, e1, e2⟩ | ⟨rfl, rfl⟩
  · refine ⟨i, hi, ?_⟩
    unfold PS.ok nO
    rw [e2, decide_eq_false (show ¬ ((j : Int) = 0) by omega), cond_false, decide_eq_true e1, cond_true]
  · exact ⟨0, hk, rfl⟩
theorem PlS.nx {a e : Nat} {s : PS} (he : e < k) (h : PlS cs k a s) : Pl cs k (a + 1) (s.nx (cs e)) := by
  rcases h with ⟨i, j, hi, hj1, hj2, e1, e2⟩ | ⟨rfl, rfl⟩
  · obtain ⟨c, ru, b⟩ := s
    dsimp only at e1 e2
    subst e1 e2
    exact nx_pl hi he hj1 hj2 b
  · exact ⟨e, 1, he, Nat.le_refl _, Nat.le_refl _, rfl, rfl⟩
theorem lkB_le (f : PS → Int) (a : Nat) (s : PS) : ∀ i j, j < i → s.ok most (cs j) = true → lkB r n cs most f a s i ≤ f (s.nx (cs j)) + chg (r a) (cs j)
  | i + 1, j, hj, ho => by
    unfold lkB
    have ih := lkB_le f a s i
    by_cases q : j = i
    · subst q
      rw [ho, cond_true]
      by_cases q2 : f (s.nx (cs j)) + chg (r a) (cs j) < lkB r n cs most f a s j
      · rw [decide_eq_true q2, cond_true]; exact Int.le_refl _
      · rw [decide_eq_false q2, cond_false]; omega
    · have := ih j (by omega) ho
      cases s.ok most (cs i)
      · exact this
      · rw [cond_true]
        by_cases q2 : f (s.nx (cs i)) + chg (r a) (cs i) < lkB r n cs most f a s i
        · rw [decide_eq_true q2, cond_true]; omega
        · rw [decide_eq_false q2, cond_false]; exact this
theorem lkB_at (f : PS → Int) (a : Nat) (s : PS) : ∀ i, lkB r n cs most f a s i = (n : Int) + 1 ∨ ∃ j, j < i ∧ s.ok most (cs j) = true ∧ f (s.nx (cs j)) + chg (r a) (cs j) = lkB r n cs most f a s i
  | 0 => .inl rfl
  | i + 1 => by
    have ih := lkB_at f a s i
    have key : lkB r n cs most f a s i = (n : Int) + 1 ∨ ∃ j, j < i + 1 ∧ s.ok most (cs j) = true ∧ f (s.nx (cs j)) + chg (r a) (cs j) = lkB r n cs most f a s i := by
      rcases ih with h | ⟨j, h1, h2, h3⟩
      · exact .inl h
      · exact .inr ⟨j, by omega, h2, h3⟩
    unfold lkB
    cases q : s.ok most (cs i)
    · exact key
    · rw [cond_true]
      by_cases q2 : f (s.nx (cs i)) + chg (r a) (cs i) < lkB r n cs most f a s i
      · rw [decide_eq_true q2, cond_true]; exact .inr ⟨i, by omega, q, rfl⟩
      · rw [decide_eq_false q2, cond_false]; exact key
theorem lk_le (hk : 1 ≤ k) : ∀ m a s, a + m = n → PlS cs k a s → lk r n cs k most m s ≤ m
  | 0, _, _, _, _ => Int.le_refl _
  | m + 1, a, s, ha, h => by
    obtain ⟨j, hj, ho⟩ := h.ok (most := most) hk
    have h1 := lk_le hk m (a + 1) (s.nx (cs j)) (by omega) (.inl (h.nx hj))
    have h2 := lkB_le (r := r) (n := n) (lk r n cs k most m) (n - (m + 1)) s k j hj ho
    have h3 := chg_bd (r (n - (m + 1))) (cs j)
    show lkB r n cs most (lk r n cs k most m) (n - (m + 1)) s k ≤ _
    omega
theorem lk_at (hk : 1 ≤ k) {m a : Nat} {s : PS} (ha : a + (m + 1) = n) (h : PlS cs k a s) : ∃ j, j < k ∧ s.ok most (cs j) = true ∧ lk r n cs k most m (s.nx (cs j)) + chg (r a) (cs j) = lk r n cs k most (m + 1) s := by
  have h1 := lk_le (r := r) (most := most) hk (m + 1) a s ha h
  have h2 := lkB_at (r := r) (n := n) (cs := cs) (most := most) (lk r n cs k most m) a s k
  have e : n - (m + 1) = a := by omega
  show ∃ j, j < k ∧ s.ok most (cs j) = true ∧ lk r n cs k most m (s.nx (cs j)) + chg (r a) (cs j) = lkB r n cs most (lk r n cs k most m) (n - (m + 1)) s k
  rw [e]
  rcases h2 with h2 | h2
  · exfalso
    change lkB r n cs most (lk r n cs k most m) (n - (m + 1)) s k ≤ _ at h1
    rw [e, h2] at h1
    omega
  · exact h2
theorem fnd_lt {t : Nat → Bool} {m j : Nat} (h : ∃ i, j ≤ i ∧ i < j + m ∧ t i = true) : fnd t m j < j + m := by
  obtain ⟨i, h1, h2, h3⟩ := h
  have := fnd_ge t m j
  rcases Nat.lt_or_ge (fnd t m j) (j + m) with q | q
  · exact q
  · have := fnd_ne t m j i h1 (by omega)
    rw [h3] at this; cases this
theorem psCL_lt (hk : 1 ≤ k) {i : Nat} {s : PS} (hi : i < n) (h : PlS cs k i s) : psCL r n cs k most i s < k := by
  obtain ⟨m, hm⟩ : ∃ m, n = i + (m + 1) := ⟨n - i - 1, by omega⟩
  obtain ⟨j, hj, ho, he⟩ := lk_at (r := r) (most := most) hk hm.symm h
  have := @fnd_lt (fun j => tstL r n cs k most i s (cs j)) k 0 ⟨j, Nat.zero_le _, by omega, by
    unfold tstL
    rw [ho, Bool.true_and, decide_eq_true_eq, show n - (i + 1) = m by omega, show n - i = m + 1 by omega]
    exact he⟩
  unfold psCL
  omega
theorem psL_pl (hk : 1 ≤ k) : ∀ i, i ≤ n → PlS cs k i (psL r n cs k most i)
  | 0, _ => .inr ⟨rfl, rfl⟩
  | i + 1, hi => by
    have ih := psL_pl hk i (by omega)
    exact .inl (ih.nx (psCL_lt hk (by omega) ih))
theorem tst_L (h1 : 1 ≤ n) (hk : 1 ≤ k) {i j : Nat} {s : PS} (hi : i < n) (hj : j < k) (h : PlS cs k i s) : tst r most (leastM r n cs k most).val i s (cs j) = tstL r n cs k most i s (cs j) := by
  have g1 := least_good (r := r) (most := most) h1 (Nat.le_of_lt hi) h
  have g2 := least_good (r := r) (most := most) (a := i + 1) h1 hi (.inl (h.nx hj))
  unfold Good at g1 g2
  unfold tst tstL
  rw [show ((i : Int) + 1) = ((i + 1 : Nat) : Int) by omega, g1, g2]
theorem fnd_congr {t u : Nat → Bool} : ∀ {m j : Nat}, (∀ i, j ≤ i → i < j + m → t i = u i) → fnd t m j = fnd u m j
  | 0, _, _ => rfl
  | m + 1, j, h => by
    unfold fnd
    rw [h j (Nat.le_refl _) (by omega), fnd_congr (fun i h1 h2 => h i (by omega) (by omega))]
theorem psC_L (h1 : 1 ≤ n) (hk : 1 ≤ k) {i : Nat} {s : PS} (hi : i < n) (h : PlS cs k i s) : psC r cs k most (leastM r n cs k most).val i s = psCL r n cs k most i s := by
  unfold psC psCL
  exact fnd_congr fun j _ hj => tst_L h1 hk hi (by omega) h
theorem psT_L (h1 : 1 ≤ n) (hk : 1 ≤ k) : ∀ i, i ≤ n → psT r cs k most (leastM r n cs k most).val i = psL r n cs k most i
  | 0, _ => rfl
  | i + 1, hi => by
    have ih := psT_L h1 hk i (by omega)
    unfold psT psL
    rw [ih, psC_L h1 hk (by omega) (psL_pl hk i (by omega))]
theorem wvn_L (h1 : 1 ≤ n) (hk : 1 ≤ k) {i : Nat} (hi : i < n) : wvn r cs k most (leastM r n cs k most).val i = wvL r n cs k most i := by
  unfold wvn wvL
  rw [psT_L h1 hk (i + 1) (by omega)]
theorem least_L (h1 : 1 ≤ n) : (leastM r n cs k most).val [0, 0, 0, 0] = lk r n cs k most n ⟨0, 0, false⟩ := least_good (r := r) (most := most) (a := 0) h1 (Nat.zero_le _) (.inr ⟨rfl, rfl⟩)
theorem found_L (h1 : 1 ≤ n) (hk : 1 ≤ k) (i : Nat) (hi : i < n) : psC r cs k most (leastM r n cs k most).val i (psT r cs k most (leastM r n cs k most).val i) < k := by
  rw [psT_L h1 hk i (by omega), psC_L h1 hk hi (psL_pl hk i (by omega))]
  exact psCL_lt hk hi (psL_pl hk i (by omega))
end
theorem weaveT (r : Nat → Int) (n : Nat) (c : Option Nat) (most : Int) (h1 : 1 ≤ n) (hn : n ≤ nmax) (hr : ∀ j, j < n → 0 ≤ r j ∧ r j < 256) :
    ToldOk P18 G18 30 [rowV r n c, .int .i64 most] (.tup [.new (wrow n (wvL r n (csK r n) (kK r n) most)), .int .i64 (lk r n (csK r n) (kK r n) most n ⟨0, 0, false⟩)]) := by
  have hn2 := hn
  unfold nmax at hn2
  have hk : 1 ≤ kK r n := by
    obtain ⟨j, _, h2, _⟩ := (csK_mem hr (r 0)).2 ⟨0, Nat.le_refl _, h1, rfl⟩
    omega
  have hk2 : kK r n ≤ 256 := by
    unfold kK kindL
    refine Nat.le_trans (List.length_filter_le _ _) ?_
    simp
  have t := (weave1T r n c (csK r n) (kK r n) none most (by omega) (by omega) (kindsT r n c h1 hn hr) (found_L h1 hk)).frz
  rw [least_L h1] at t
  refine ToldOk.tupTo t (.cons (.new (.view (.inl rfl) fun j hj => ?_)) (.cons (.refl _) .nil))
  show Sims [T.int .u8 (wvn r (csK r n) (kK r n) most (leastM r n (csK r n) (kK r n) most).val j)] [T.int .u8 (wvL r n (csK r n) (kK r n) most j)]
  rw [wvn_L h1 hk hj]
  exact .refl _
end Go.Ab

namespace Go.Ab
open Go.Proofs
def costR (r w : Nat → Int) : Nat → Nat → Int
  | 0, _ => 0
  | m + 1, a => chg (r a) (w a) + costR r w m (a + 1)
def admR (most : Int) (w : Nat → Int) : Nat → Nat → PS → Bool
  | 0, _, _ => true
  | m + 1, a, s => s.ok most (w a) && admR most w m (a + 1) (s.nx (w a))
def wb (lo hi : Int) (n b j : Nat) : Int := if b.testBit (n - 1 - j) = true then hi else lo
theorem costR_congr {r w v : Nat → Int} : ∀ {m a : Nat}, (∀ j, a ≤ j → j < a + m → w j = v j) → costR r w m a = costR r v m a
  | 0, _, _ => rfl
  | m + 1, a, h => by
    unfold costR
    rw [h a (Nat.le_refl _) (by omega), costR_congr fun j h1 h2 => h j (by omega) (by omega)]
theorem admR_congr {most : Int} {w v : Nat → Int} : ∀ {m a : Nat} {s : PS}, (∀ j, a ≤ j → j < a + m → w j = v j) → admR most w m a s = admR most v m a s
  | 0, _, _, _ => rfl
  | m + 1, a, s, h => by
    unfold admR
    rw [h a (Nat.le_refl _) (by omega), admR_congr fun j h1 h2 => h j (by omega) (by omega)]
theorem wb_low (lo hi : Int) {n m a b j : Nat} (ha : a + (m + 1) = n) (hj : a + 1 ≤ j) (hj2 : j < n) : wb lo hi n (2 ^ m + b) j = wb lo hi n b j := by
  unfold wb
  by_cases q : n - 1 - j < m
  · rw [Nat.testBit_two_pow_add_gt q]
  · omega
theorem wb_top (lo hi : Int) {n m a b : Nat} (ha : a + (m + 1) = n) (hb : b < 2 ^ m) : wb lo hi n b a = lo ∧ wb lo hi n (2 ^ m + b) a = hi := by
  unfold wb
  have e : n - 1 - a = m := by omega
  have h1 : b.testBit m = false := Nat.testBit_lt_two_pow hb
  constructor
  · rw [e, h1]; simp
  · rw [e, Nat.testBit_two_pow_add_eq, h1]; simp
section
variable {r : Nat → Int} {n : Nat} {cs : Nat → Int} {most : Int}
def Fol (r : Nat → Int) (n : Nat) (cs : Nat → Int) (most : Int) (w : Nat → Int) : Nat → Nat → PS → Prop
  | 0, _, _ => True
  | m + 1, a, s => w a = cs (psCL r n cs 2 most a s) ∧ Fol r n cs most w m (a + 1) (s.nx (w a))
theorem Fol.congr {w v : Nat → Int} : ∀ {m a : Nat} {s : PS}, (∀ j, a ≤ j → j < a + m → w j = v j) → Fol r n cs most v m a s → Fol r n cs most w m a s
  | 0, _, _, _, _ => trivial
  | m + 1, a, s, h, hf => by
    have e := h a (Nat.le_refl _) (by omega)
    refine ⟨e.trans hf.1, ?_⟩
    rw [e]
    exact Fol.congr (fun j h1 h2 => h j (by omega) (by omega)) hf.2
theorem psCL2 (i : Nat) (s : PS) : psCL r n cs 2 most i s = if tstL r n cs 2 most i s (cs 0) = true then 0 else if tstL r n cs 2 most i s (cs 1) = true then 1 else 2 := rfl
theorem firstBest : ∀ m a s, a + m = n → PlS cs 2 a s → ∃ b0, b0 < 2 ^ m ∧ Fol r n cs most (wb (cs 0) (cs 1) n b0) m a s ∧ admR most (wb (cs 0) (cs 1) n b0) m a s = true ∧ costR r (wb (cs 0) (cs 1) n b0) m a = lk r n cs 2 most m s ∧
    ∀ b, b < 2 ^ m → admR most (wb (cs 0) (cs 1) n b) m a s = true → lk r n cs 2 most m s ≤ costR r (wb (cs 0) (cs 1) n b) m a ∧ (b < b0 → lk r n cs 2 most m s < costR r (wb (cs 0) (cs 1) n b) m a)
  | 0, a, s, _, _ => ⟨0, by simp, trivial, rfl, rfl, fun b hb _ => ⟨Int.le_refl _, fun h => by omega⟩⟩
  | m + 1, a, s, ha, hs => by
    have hx := psCL_lt (r := r) (n := n) (most := most) (i := a) (by omega : 1 ≤ 2) (by omega) hs
    have e1 : n - (a + 1) = m := by omega
    have e2 : n - a = m + 1 := by omega
    obtain ⟨c0, p1, p2, p3, p4, p5⟩ := firstBest m (a + 1) (s.nx (cs 0)) (by omega) (.inl (hs.nx (by omega)))
    obtain ⟨c1, q1, q2, q3, q4, q5⟩ := firstBest m (a + 1) (s.nx (cs 1)) (by omega) (.inl (hs.nx (by omega)))
    have l0 : s.ok most (cs 0) = true → lk r n cs 2 most (m + 1) s ≤ lk r n cs 2 most m (s.nx (cs 0)) + chg (r a) (cs 0) := fun h => by
      have := lkB_le (r := r) (n := n) (lk r n cs 2 most m) (n - (m + 1)) s 2 0 (by omega) h
      rw [show n - (m + 1) = a by omega] at this
      show lkB r n cs most (lk r n cs 2 most m) (n - (m + 1)) s 2 ≤ _
      rw [show n - (m + 1) = a by omega]
      exact this
    have l1 : s.ok most (cs 1) = true → lk r n cs 2 most (m + 1) s ≤ lk r n cs 2 most m (s.nx (cs 1)) + chg (r a) (cs 1) := fun h => by
      have := lkB_le (r := r) (n := n) (lk r n cs 2 most m) (n - (m + 1)) s 2 1 (by omega) h
      rw [show n - (m + 1) = a by omega] at this
      show lkB r n cs most (lk r n cs 2 most m) (n - (m + 1)) s 2 ≤ _
      rw [show n - (m + 1) = a by omega]
      exact this
    have low : ∀ b, b < 2 ^ m → costR r (wb (cs 0) (cs 1) n b) (m + 1) a = chg (r a) (cs 0) + costR r (wb (cs 0) (cs 1) n b) m (a + 1) ∧ (admR most (wb (cs 0) (cs 1) n b) (m + 1) a s = true ↔ s.ok most (cs 0) = true ∧ admR most (wb (cs 0) (cs 1) n b) m (a + 1) (s.nx (cs 0)) = true) := fun b hb => by
      have h := (wb_top (cs 0) (cs 1) ha hb).1
      constructor
      · show chg (r a) (wb (cs 0) (cs 1) n b a) + _ = _
        rw [h]
      · show (s.ok most (wb (cs 0) (cs 1) n b a) && admR most (wb (cs 0) (cs 1) n b) m (a + 1) (s.nx (wb (cs 0) (cs 1) n b a))) = true ↔ _
        rw [h, Bool.and_eq_true]
    have high : ∀ b, b < 2 ^ m → costR r (wb (cs 0) (cs 1) n (2 ^ m + b)) (m + 1) a = chg (r a) (cs 1) + costR r (wb (cs 0) (cs 1) n b) m (a + 1) ∧ (admR most (wb (cs 0) (cs 1) n (2 ^ m + b)) (m + 1) a s = true ↔ s.ok most (cs 1) = true ∧ admR most (wb (cs 0) (cs 1) n b) m (a + 1) (s.nx (cs 1)) = true) := fun b hb => by
      have h := (wb_top (cs 0) (cs 1) ha hb).2
      have hc : ∀ j, a + 1 ≤ j → j < a + 1 + m → wb (cs 0) (cs 1) n (2 ^ m + b) j = wb (cs 0) (cs 1) n b j := fun j h1 h2 => wb_low _ _ ha h1 (by omega)
      constructor
      · show chg (r a) (wb (cs 0) (cs 1) n (2 ^ m + b) a) + costR r (wb (cs 0) (cs 1) n (2 ^ m + b)) m (a + 1) = _
        rw [h, costR_congr hc]
      · show (s.ok most (wb (cs 0) (cs 1) n (2 ^ m + b) a) && admR most (wb (cs 0) (cs 1) n (2 ^ m + b)) m (a + 1) (s.nx (wb (cs 0) (cs 1) n (2 ^ m + b) a))) = true ↔ _
        rw [h, Bool.and_eq_true, admR_congr hc]
    have part : ∀ b, b < 2 ^ (m + 1) → b < 2 ^ m ∨ ∃ b', b' < 2 ^ m ∧ b = 2 ^ m + b' := fun b hb => by
      rw [Nat.pow_succ] at hb
      rcases Nat.lt_or_ge b (2 ^ m) with h | h
      · exact .inl h
      · exact .inr ⟨b - 2 ^ m, by omega, by omega⟩
    have hpw : 2 ^ (m + 1) = 2 ^ m + 2 ^ m := by rw [Nat.pow_succ]; omega
    rw [psCL2] at hx
    by_cases t0 : tstL r n cs 2 most a s (cs 0) = true
    · have hc0 : psCL r n cs 2 most a s = 0 := by rw [psCL2, if_pos t0]
      unfold tstL at t0
      rw [e1, e2, Bool.and_eq_true, decide_eq_true_eq] at t0
      obtain ⟨t1, t2⟩ := t0
      refine ⟨c0, by omega, ⟨?_, ?_⟩, ?_, ?_, fun b hb hadm => ?_⟩
      · rw [(wb_top (cs 0) (cs 1) ha p1).1, hc0]
      · rw [(wb_top (cs 0) (cs 1) ha p1).1]; exact p2
      · exact (low c0 p1).2.2 ⟨t1, p3⟩
      · rw [(low c0 p1).1, p4]; omega
      · rcases part b hb with h | ⟨b', h, rfl⟩
        · obtain ⟨_, h2⟩ := (low b h).2.1 hadm
          have := p5 b h h2
          rw [(low b h).1]
          refine ⟨by omega, fun h3 => ?_⟩
          have := this.2 h3
          omega
        · obtain ⟨h1, h2⟩ := (high b' h).2.1 hadm
          have := q5 b' h h2
          have := l1 h1
          rw [(high b' h).1]
          exact ⟨by omega, fun h3 => by omega⟩
    · rw [if_neg t0] at hx
      have t1 : tstL r n cs 2 most a s (cs 1) = true := by
        by_cases q : tstL r n cs 2 most a s (cs 1) = true
        · exact q
        · rw [if_neg q] at hx; omega
      have hc1 : psCL r n cs 2 most a s = 1 := by rw [psCL2, if_neg t0, if_pos t1]
      unfold tstL at t0 t1
      rw [e1, e2, Bool.and_eq_true, decide_eq_true_eq] at t0 t1
      obtain ⟨t1, t2⟩ := t1
      refine ⟨2 ^ m + c1, by omega, ⟨?_, ?_⟩, ?_, ?_, fun b hb hadm => ?_⟩
      · rw [(wb_top (cs 0) (cs 1) ha q1).2, hc1]
      · rw [(wb_top (cs 0) (cs 1) ha q1).2]
        exact Fol.congr (fun j h1 h2 => wb_low _ _ ha h1 (by omega)) q2
      · exact (high c1 q1).2.2 ⟨t1, q3⟩
      · rw [(high c1 q1).1, q4]; omega
      · rcases part b hb with h | ⟨b', h, rfl⟩
        · obtain ⟨h1, h2⟩ := (low b h).2.1 hadm
          have := p5 b h h2
          have := l0 h1
          have hne : lk r n cs 2 most m (s.nx (cs 0)) + chg (r a) (cs 0) ≠ lk r n cs 2 most (m + 1) s := fun h3 => t0 ⟨h1, h3⟩
          rw [(low b h).1]
          exact ⟨by omega, fun _ => by omega⟩
        · obtain ⟨h1, h2⟩ := (high b' h).2.1 hadm
          have := q5 b' h h2
          rw [(high b' h).1]
          refine ⟨by omega, fun h3 => ?_⟩
          have := this.2 (by omega)
          omega
theorem fol_psL (w : Nat → Int) : ∀ m a, a + m = n → Fol r n cs most w m a (psL r n cs 2 most a) → ∀ j, a ≤ j → j < n → w j = wvL r n cs 2 most j
  | 0, a, ha, _, j, h1, h2 => by omega
  | m + 1, a, ha, hf, j, h1, h2 => by
    have e : w a = wvL r n cs 2 most a := hf.1
    rcases Nat.lt_or_ge a j with q | q
    · have h := hf.2
      rw [hf.1] at h
      exact fol_psL w m (a + 1) (by omega) h j q h2
    · obtain rfl : a = j := by omega
      exact e
end
end Go.Ab

namespace Go.Ab
open Go.Proofs
def lgF (d : Nat → Int) : Nat → Int
  | 0 => 0
  | i + 1 => bif decide (lgF d i < d i) then d i else lgF d i
def flD (r : Nat → Int) (n j : Nat) : Int := nxtF r n ((fl r n n).getD j 0) - ((fl r n n).getD j 0 : Nat) - 1
def longest (r : Nat → Int) (n : Nat) : Int := lgF (flD r n) (fl r n n).length
theorem lgF_le (d : Nat → Int) (most : Int) (hm : 0 ≤ most) : ∀ m, lgF d m ≤ most ↔ ∀ i, i < m → d i ≤ most
  | 0 => ⟨fun _ i h => by omega, fun _ => hm⟩
  | m + 1 => by
    have ih := lgF_le d most hm m
    unfold lgF
    by_cases q : lgF d m < d m
    · rw [dT q, cond_true]
      constructor
      · intro h i hi
        by_cases q2 : i = m
        · rw [q2]; exact h
        · exact ih.1 (by omega) i (by omega)
      · intro h; exact h m (by omega)
    · rw [dF q, cond_false, ih]
      constructor
      · intro h i hi
        by_cases q2 : i = m
        · have := ih.2 h
          rw [q2]; omega
        · exact h i (by omega)
      · intro h i hi; exact h i (by omega)
theorem fl_mem {r : Nat → Int} {n m k : Nat} : k ∈ fl r n m ↔ k < m ∧ (k : Int) + 1 < nxtF r n k := by
  unfold fl
  rw [List.mem_filter, List.mem_range, decide_eq_true_eq]
theorem longest_le (r : Nat → Int) (n : Nat) (most : Int) (hm : 0 ≤ most) : longest r n ≤ most ↔ ∀ k, k < n → (k : Int) + 1 < nxtF r n k → nxtF r n k - k - 1 ≤ most := by
  unfold longest
  rw [lgF_le _ _ hm]
  constructor
  · intro h k hk hf
    obtain ⟨i, hi, he⟩ := List.mem_iff_getElem.1 (fl_mem.2 ⟨hk, hf⟩)
    have := h i hi
    unfold flD at this
    rw [List.getD_eq_getElem?_getD, List.getElem?_eq_getElem hi, Option.getD_some, he] at this
    exact this
  · intro h i hi
    have hmem : (fl r n n)[i] ∈ fl r n n := List.getElem_mem _
    have := fl_mem.1 hmem
    unfold flD
    rw [List.getD_eq_getElem?_getD, List.getElem?_eq_getElem hi, Option.getD_some]
    exact h _ this.1 this.2
def stW (w : Nat → Int) : Nat → PS
  | 0 => ⟨0, 0, false⟩
  | p + 1 => (stW w p).nx (w p)
theorem admR_iff (most : Int) (w : Nat → Int) : ∀ m a, admR most w m a (stW w a) = true ↔ ∀ p, a ≤ p → p < a + m → (stW w p).ok most (w p) = true
  | 0, a => ⟨fun _ p h1 h2 => by omega, fun _ => rfl⟩
  | m + 1, a => by
    have ih := admR_iff most w m (a + 1)
    unfold admR
    rw [Bool.and_eq_true]
    change _ ∧ admR most w m (a + 1) (stW w (a + 1)) = true ↔ _
    rw [ih]
    constructor
    · rintro ⟨h1, h2⟩ p h3 h4
      by_cases q : p = a
      · rw [q]; exact h1
      · exact h2 p (by omega) (by omega)
    · intro h
      exact ⟨h a (Nat.le_refl _) (by omega), fun p h1 h2 => h p (by omega) (by omega)⟩
structure StI (w : Nat → Int) (p : Nat) (R : Nat) : Prop where
  c : (stW w p).c = w (p - 1)
  run : (stW w p).run = R
  r1 : 1 ≤ R
  rp : R ≤ p
  same : ∀ j, p - R ≤ j → j < p → w j = w (p - 1)
  inn : (R = p ∧ (stW w p).inn = false) ∨ (R < p ∧ w (p - R - 1) ≠ w (p - 1) ∧ (stW w p).inn = true)
theorem stI (w : Nat → Int) : ∀ p, 1 ≤ p → ∃ R, StI w p R
  | 0, h => by omega
  | 1, _ => ⟨1, rfl, rfl, Nat.le_refl _, Nat.le_refl _, fun j _ h => by rw [show j = 0 by omega], .inl ⟨rfl, rfl⟩⟩
  | p + 2, _ => by
    obtain ⟨R, h⟩ := stI w (p + 1) (by omega)
    have hc := h.c
    have hr := h.run
    have h1 := h.r1
    have hrp := h.rp
    have es : stW w (p + 2) = (stW w (p + 1)).nx (w (p + 1)) := rfl
    have e0 : decide ((stW w (p + 1)).run = 0) = false := by rw [hr]; exact decide_eq_false (by omega)
    rw [show p + 1 - 1 = p by omega] at hc
    by_cases q : w p = w (p + 1)
    · have e1 : decide ((stW w (p + 1)).c = w (p + 1)) = true := by rw [hc]; exact decide_eq_true q
      refine ⟨R + 1, ?_, ?_, by omega, by omega, fun j h2 h3 => ?_, ?_⟩
      · rw [es]; rfl
      · rw [es]
        show nK _ _ _ = _
        unfold nK
        rw [e0, cond_false, e1, cond_true, hr]
        omega
      · rw [show p + 2 - 1 = p + 1 by omega]
        by_cases q2 : j = p + 1
        · rw [q2]
        · rw [← q]
          have := h.same j (by omega) (by omega)
          rw [show p + 1 - 1 = p by omega] at this
          exact this
      · have ei : (stW w (p + 2)).inn = (stW w (p + 1)).inn := by
          rw [es]
          show nI _ _ _ _ = _
          unfold nI
          rw [e0, cond_false, e1, cond_true]
        rw [ei]
        rcases h.inn with ⟨g1, g2⟩ | ⟨g1, g2, g3⟩
        · exact .inl ⟨by omega, g2⟩
        · refine .inr ⟨by omega, ?_, g3⟩
          rw [show p + 2 - (R + 1) - 1 = p + 1 - R - 1 by omega, show p + 2 - 1 = p + 1 by omega, ← q]
          rw [show p + 1 - 1 = p by omega] at g2
          exact g2
    · have e1 : decide ((stW w (p + 1)).c = w (p + 1)) = false := by rw [hc]; exact decide_eq_false q
      refine ⟨1, ?_, ?_, Nat.le_refl _, by omega, fun j h2 h3 => by rw [show j = p + 1 by omega]; rfl, .inr ⟨by omega, ?_, ?_⟩⟩
      · rw [es]; rfl
      · rw [es]
        show nK _ _ _ = _
        unfold nK
        rw [e0, cond_false, e1, cond_false]
        rfl
      · rw [show p + 2 - 1 - 1 = p by omega, show p + 2 - 1 = p + 1 by omega]; exact q
      · rw [es]
        show nI _ _ _ _ = _
        unfold nI
        rw [e0, cond_false, e1, cond_false]
theorem adm_longest (w : Nat → Int) (n : Nat) (lo hi : Int) (most : Int) (hm : 0 ≤ most) (hw : ∀ j, j < n → w j = lo ∨ w j = hi) :
    admR most w n 0 ⟨0, 0, false⟩ = true ↔ longest w n ≤ most := by
  rw [longest_le _ _ _ hm]
  have hk := admR_iff most w n 0
  change admR most w n 0 ⟨0, 0, false⟩ = true ↔ _ at hk
  rw [hk]
  constructor
  · intro h k hk hf
    rw [nxtF_sI] at hf ⊢
    by_cases q : sI w n k < n
    · rw [if_pos q] at hf ⊢
      have hne := srch_ne w (w k) (n - (k + 1)) (k + 1)
      have heq := srch_eq w (w k) (n - (k + 1)) (k + 1)
      change ∀ j, k + 1 ≤ j → j < sI w n k → w j ≠ w k at hne
      change sI w n k < _ → w (sI w n k) = w k at heq
      have heq := heq (by omega)
      generalize sI w n k = J at *
      obtain ⟨R, hI⟩ := stI w J (by omega)
      have ho := h J (Nat.zero_le _) (by omega)
      have h1 := hne (J - 1) (by omega) (by omega)
      have hrp := hI.rp
      have hr1 := hI.r1
      have e : R = J - 1 - k := by
        rcases Nat.lt_trichotomy R (J - 1 - k) with g | g | g
        · exfalso
          rcases hI.inn with ⟨g1, _⟩ | ⟨_, g2, _⟩
          · omega
          · have h2 := hne (J - R - 1) (by omega) (by omega)
            rcases hw (J - R - 1) (by omega) with a | a <;> rcases hw (J - 1) (by omega) with b | b <;> rcases hw k hk with c | c <;> rw [a, b] at g2 <;> rw [a, c] at h2 <;> rw [b, c] at h1 <;> first | exact g2 rfl | exact h2 rfl | exact h1 rfl
        · exact g
        · exfalso
          have := hI.same k (by omega) (by omega)
          exact h1 this.symm
      have hin : (stW w J).inn = true := by
        rcases hI.inn with ⟨g1, _⟩ | ⟨_, _, g3⟩
        · omega
        · exact g3
      unfold PS.ok nO at ho
      rw [hI.run, decide_eq_false (by omega), cond_false, hI.c, heq, decide_eq_false h1, cond_false, hin, cond_true, decide_eq_true_eq] at ho
      omega
    · rw [if_neg q] at hf
      omega
  · intro h p _ hp
    rcases Nat.eq_zero_or_pos p with q | q
    · subst q; rfl
    · obtain ⟨R, hI⟩ := stI w p q
      have hrp := hI.rp
      have hr1 := hI.r1
      unfold PS.ok nO
      rw [hI.run, decide_eq_false (by omega), cond_false, hI.c]
      by_cases q2 : w (p - 1) = w p
      · rw [decide_eq_true q2, cond_true]
      · rw [decide_eq_false q2, cond_false]
        rcases hI.inn with ⟨_, g2⟩ | ⟨g1, g2, g3⟩
        · rw [g2, cond_false]
        · rw [g3, cond_true, decide_eq_true_eq]
          have hk2 : p - R - 1 < n := by omega
          have e : w p = w (p - R - 1) := by
            rcases hw p (by omega) with a | a <;> rcases hw (p - 1) (by omega) with b | b <;> rcases hw (p - R - 1) hk2 with c | c <;> rw [b, a] at q2 <;> rw [c, b] at g2 <;> first | (rw [a, c]; done) | exact absurd rfl q2 | exact absurd rfl g2
          have hs : sI w n (p - R - 1) = p := by
            have hge := srch_ge w (w (p - R - 1)) (n - (p - R - 1 + 1)) (p - R - 1 + 1)
            have hne := srch_ne w (w (p - R - 1)) (n - (p - R - 1 + 1)) (p - R - 1 + 1)
            have heq := srch_eq w (w (p - R - 1)) (n - (p - R - 1 + 1)) (p - R - 1 + 1)
            unfold sI
            generalize srch w (w (p - R - 1)) (n - (p - R - 1 + 1)) (p - R - 1 + 1) = J at *
            rcases Nat.lt_trichotomy J p with g | g | g
            · exfalso
              have h1 := heq (by omega)
              have h2 := hI.same J (by omega) g
              exact g2 (by rw [← h1, h2])
            · exact g
            · exfalso
              exact hne p (by omega) g e
          have hh := h (p - R - 1) hk2
          have hp2 : p < n := by omega
          rw [nxtF_sI, hs, if_pos hp2] at hh
          have := hh (by omega)
          omega
end Go.Ab

namespace Go.Ab
open Go.Proofs
def litR (l : List Int) (j : Nat) : Int := l.getD j 0
def flT (l : List (List T)) : T := .new (.view 3 l.length (fun j => l.getD j []) (some l.length))
def cellIs (x : List T) (v : Int) : Bool := match x with
  | [.int .u8 y] => decide (y = v)
  | _ => false
def chkRow (g : Nat → List T) (l : List Int) : Bool := (List.range l.length).all fun j => cellIs (g j) (litR l j)
def exA : List (List T) := [[.int .u8 1, .int .i64 1, .int .i64 2], [.int .u8 2, .int .i64 3, .int .i64 2]]
def exB : List (List T) := [[.int .u8 1, .int .i64 1, .int .i64 2]]
def floS : List T → Tree
  | [.view 1 6 g _] => .ite (chkRow g [1, 2, 2, 1, 1, 2]) (.ret (flT exA)) .none
  | [.view 1 4 g _] => .ite (chkRow g [1, 2, 3, 1]) (.ret (flT exB)) (.ite (chkRow g [1, 1, 2, 2]) (.ret (flT [])) .none)
  | _ => .none
def weaveR (n : Nat) (l : List Int) (tot : Int) : T := .tup [.fresh false 1 1 (fun _ => [wrow n (litR l)]) 1 (some 1), .int .i64 tot, .int .i64 0]
def wevS : List T → Tree
  | [.view 1 1 G _, .int .i64 m] => match G 0 with
    | [.view 1 5 g _] => .ite (chkRow g [1, 2, 2, 2, 1] && decide (m = 2)) (.ret (weaveR 5 [1, 1, 2, 2, 1] 1)) .none
    | [.view 1 7 g _] => .ite (chkRow g [1, 2, 2, 2, 2, 2, 1] && decide (m = 2)) (.ret (weaveR 7 [1, 2, 2, 1, 2, 2, 1] 1)) .none
    | [.view 1 4 g _] => .ite (chkRow g [1, 2, 2, 2] && decide (m = 1)) (.ret (weaveR 4 [1, 2, 2, 2] 0)) .none
    | _ => .none
  | _ => .none
noncomputable def K12 : Orc := (noneO.add 10 floS).add 14 wevS
theorem lives_run : stepV P18 G18 A18 K12 4 12 [] = some (.bool true) := by kernel_rfl
theorem chk_row {g : Nat → List T} {l : List Int} (h : chkRow g l = true) {j : Nat} (hj : j < l.length) : g j = [.int .u8 (litR l j)] := by
  have := List.all_eq_true.1 h j (List.mem_range.2 hj)
  revert this
  generalize g j = x
  intro this
  unfold cellIs at this
  split at this
  · rw [of_decide_eq_true this]
  · cases this
theorem row_sim {g : Nat → List T} {l : List Int} {n : Nat} {c : Option Nat} (h : chkRow g l = true) (hn : n = l.length) : Sim (.view 1 n g c) (rowV (litR l) n c) := by
  subst hn
  refine .view (.inl rfl) fun j hj => ?_
  rw [chk_row h hj]
  exact .refl _
theorem flo1 {g : Nat → List T} {n : Nat} {c : Option Nat} (l : List Int) (e : List (List T)) (hl : n = l.length) (hn : n ≤ 60) (hr : ∀ j, j < n → 0 ≤ litR l j ∧ litR l j < 256) (he : (fl (litR l) n n).length = e.length) (hg : ∀ j, j < e.length → flG (litR l) n j = e.getD j [])
    (h : chkRow g l = true) : ToldOk P18 G18 10 [.view 1 n g c] (flT e) := by
  have t := (floatsT (litR l) n c (by omega) hr).sim (args := [.view 1 n g c]) (.cons (row_sim h hl) .nil)
  rw [he] at t
  refine t.resTo (.new (.view (.inl rfl) fun j hj => ?_))
  rw [hg j hj]
  exact .refl _
theorem lit_ok {l : List Int} {n : Nat} (h : (List.range n).all (fun j => decide (1 ≤ litR l j) && decide (litR l j ≤ 6)) = true) {j : Nat} (hj : j < n) : 1 ≤ litR l j ∧ litR l j ≤ 6 := by
  have := List.all_eq_true.1 h j (List.mem_range.2 hj)
  simp only [Bool.and_eq_true, decide_eq_true_eq] at this
  exact this
theorem all_lt {p : Nat → Prop} {n : Nat} [DecidablePred p] (h : (List.range n).all (fun j => decide (p j)) = true) (j : Nat) (hj : j < n) : p j := of_decide_eq_true (List.all_eq_true.1 h j (List.mem_range.2 hj))
theorem floT {args : List T} {r : T} (h : (floS args).run some = some r) : ToldOk P18 G18 10 args r := by
  unfold floS at h
  split at h
  · simp only [Tree.run] at h
    obtain ⟨h1, h⟩ := bif_none h
    obtain rfl := Option.some.inj h
    refine flo1 [1, 2, 2, 1, 1, 2] exA rfl (by omega) (fun j hj => ?_) (by decide +kernel) (fun j hj => ?_) h1
    · have := lit_ok (l := [1, 2, 2, 1, 1, 2]) (n := 6) (by decide +kernel) hj
      omega
    · have : j < 2 := hj
      obtain rfl | rfl : j = 0 ∨ j = 1 := by omega
      · exact (show flG (litR [1, 2, 2, 1, 1, 2]) 6 0 = exA.getD 0 [] from by kernel_rfl)
      · exact (show flG (litR [1, 2, 2, 1, 1, 2]) 6 1 = exA.getD 1 [] from by kernel_rfl)
  · simp only [Tree.run] at h
    rename_i g c
    cases q : chkRow g [1, 2, 3, 1]
    · rw [q] at h
      obtain ⟨h1, h⟩ := bif_none h
      obtain rfl := Option.some.inj h
      refine flo1 [1, 1, 2, 2] [] rfl (by omega) (fun j hj => ?_) (by decide +kernel) (fun j hj => by cases hj) h1
      have := lit_ok (l := [1, 1, 2, 2]) (n := 4) (by decide +kernel) hj
      omega
    · rw [q] at h
      obtain rfl := Option.some.inj h
      refine flo1 [1, 2, 3, 1] exB rfl (by omega) (fun j hj => ?_) (by decide +kernel) (fun j hj => ?_) q
      · have := lit_ok (l := [1, 2, 3, 1]) (n := 4) (by decide +kernel) hj
        omega
      · have : j < 1 := hj
        obtain rfl : j = 0 := by omega
        exact (show flG (litR [1, 2, 3, 1]) 4 0 = exB.getD 0 [] from by kernel_rfl)
  · cases h
theorem wev1 {G : Nat → List T} {g : Nat → List T} {n : Nat} {rc c : Option Nat} (l e cl : List Int) (most tot : Int) (hG : G 0 = [.view 1 n g rc]) (hl : n = l.length) (hn1 : 1 ≤ n) (hn : n ≤ nmax) (hm : 1 ≤ most ∧ most ≤ 16)
    (hr : ∀ j, j < n → 1 ≤ litR l j ∧ litR l j ≤ 6) (hk : kindL (litR l) n = cl) (hk2 : cl.length ≤ 2) (hw : ∀ j, j < n → wvL (litR l) n (fun j => cl.getD j 0) cl.length most j = litR e j) (ht : lk (litR l) n (fun j => cl.getD j 0) cl.length most n ⟨0, 0, false⟩ = tot) (htb : 0 ≤ tot ∧ tot ≤ 1000)
    (h : chkRow g l = true) : ToldOk P18 G18 14 [.view 1 1 G c, .int .i64 most] (weaveR n e tot) := by
  have hk3 : kK (litR l) n = cl.length := by unfold kK; rw [hk]
  have hc3 : csK (litR l) n = fun j => cl.getD j 0 := by funext j; unfold csK; rw [hk]
  have t := weaveT (litR l) n rc most hn1 hn fun j hj => by have := hr j hj; omega
  rw [hk3, hc3, ht] at t
  have t2 : ToldOk P18 G18 30 [rowV (litR l) n rc, .int .i64 most] (.tup [.new (wrow n (litR e)), .int .i64 tot]) := by
    refine ToldOk.tupTo t (.cons (.new (.view (.inl rfl) fun j hj => ?_)) (.cons (.refl _) .nil))
    rw [hw j hj]
    exact .refl _
  have ok : PicOk (fun _ => litR l) n 1 := ⟨hn1, hn, by omega, rfl, fun i _ => hr, fun i _ => by rw [hk3]; exact hk2⟩
  have t3 := WeaveT (fun _ => litR l) n 1 rc c most (fun _ => litR e) (fun _ => tot) ok hm (fun i _ => by omega) fun i _ => t2
  rw [show sumN (fun _ => tot) 1 = tot by simp [sumN]] at t3
  refine t3.sim (.cons (.view (.inl rfl) fun j hj => ?_) (.cons (.refl _) .nil))
  have hj : j < 1 := hj
  obtain rfl : j = 0 := by omega
  rw [hG]
  exact .cons (row_sim h hl) .nil
theorem wevT {args : List T} {r : T} (h : (wevS args).run some = some r) : ToldOk P18 G18 14 args r := by
  unfold wevS at h
  split at h
  · split at h
    · rename_i hG
      simp only [Tree.run] at h
      obtain ⟨h1, h⟩ := bif_none h
      obtain rfl := Option.some.inj h
      simp only [Bool.and_eq_true, decide_eq_true_eq] at h1
      obtain ⟨h1, rfl⟩ := h1
      exact wev1 [1, 2, 2, 2, 1] [1, 1, 2, 2, 1] [1, 2] 2 1 hG rfl (by omega) (by unfold nmax; omega) (by omega) (fun j hj => lit_ok (n := 5) (by decide +kernel) hj) (by decide +kernel) (by decide) (all_lt (by decide +kernel)) (by decide +kernel) (by omega) h1
    · rename_i hG
      simp only [Tree.run] at h
      obtain ⟨h1, h⟩ := bif_none h
      obtain rfl := Option.some.inj h
      simp only [Bool.and_eq_true, decide_eq_true_eq] at h1
      obtain ⟨h1, rfl⟩ := h1
      exact wev1 [1, 2, 2, 2, 2, 2, 1] [1, 2, 2, 1, 2, 2, 1] [1, 2] 2 1 hG rfl (by omega) (by unfold nmax; omega) (by omega) (fun j hj => lit_ok (n := 7) (by decide +kernel) hj) (by decide +kernel) (by decide) (all_lt (by decide +kernel)) (by decide +kernel) (by omega) h1
    · rename_i hG
      simp only [Tree.run] at h
      obtain ⟨h1, h⟩ := bif_none h
      obtain rfl := Option.some.inj h
      simp only [Bool.and_eq_true, decide_eq_true_eq] at h1
      obtain ⟨h1, rfl⟩ := h1
      exact wev1 [1, 2, 2, 2] [1, 2, 2, 2] [1, 2] 1 0 hG rfl (by omega) (by unfold nmax; omega) (by omega) (fun j hj => lit_ok (n := 4) (by decide +kernel) hj) (by decide +kernel) (by decide) (all_lt (by decide +kernel)) (by decide +kernel) (by omega) h1
    · cases h
  · cases h
theorem livesT : ToldOk P18 G18 12 [] (.bool true) := stepV_told hm18 hn18 (told_add (told_add none_ok fun _ _ => floT) fun _ _ => wevT) lives_run
end Go.Ab

namespace Go.Ab
open Go.Proofs
end Go.Ab

namespace Go.Ab
open Go.Proofs
structure IR where
  wd : Int
  m : Nat
  ln : Nat → Nat
  x : Nat → Nat → Int
def IR.w (D : IR) : Nat := 1 + (D.wd % 10).toNat
def pairA (v : Int) : Int := if v < 64 then 1 else if v < 128 then 1 else if v < 192 then 2 else 5
def pairB (v : Int) : Int := if v < 64 then 2 else if v < 128 then 3 else if v < 192 then 3 else 4
def IR.pA (D : IR) (i : Nat) : Int := if i < D.m ∧ 0 < D.ln i then pairA (D.x i 0) else 1
def IR.pB (D : IR) (i : Nat) : Int := if i < D.m ∧ 0 < D.ln i then pairB (D.x i 0) else 2
def IR.r (D : IR) (i k : Nat) : Int := if i < D.m ∧ k < D.ln i then (if D.x i k % 2 = 0 then D.pA i else D.pB i) else D.pA i
def pO (j : Nat) : T := .own 0 j 0 (j + 1) none
structure IR.Ok (D : IR) : Prop where
  wd : 0 ≤ D.wd ∧ D.wd < 256
  x : ∀ i k, 0 ≤ D.x i k ∧ D.x i k < 256
end Go.Ab

namespace Go.Ab
open Go.Proofs
end Go.Ab

namespace Go.Ab
open Go.Proofs
def IR.n (D : IR) : Nat := if min D.m 9 % 2 = 0 then min D.m 9 + 1 else min D.m 9
end Go.Ab

namespace Go.Ab
open Go.Proofs
def v16 (R Q : Nat → Nat → Int) (n h : Nat) (rc c rd d : Option Nat) (i : Int) : List T := [picV R n h rc c, picV Q n h rd d, .int .i64 i]
def v17f (b d : Nat → Int) (a : Nat → Int) (m : Nat) (best i : Int) : List T := [.view 3 m (fun j => [.int .u8 (a j), .int .i64 (b j), .int .i64 (d j)]) none, .int .i64 best, .int .i64 i]
end Go.Ab

namespace Go.Ab
open Go.Proofs
def lowF (r : Nat → Int) : Nat → Int
  | 0 => r 0
  | k + 1 => bif decide (r k < lowF r k) then r k else lowF r k
def highF (r : Nat → Int) : Nat → Int
  | 0 => r 0
  | k + 1 => bif decide (highF r k < r k) then r k else highF r k
def lbk (j : Nat) (w : Nat → Int) : Blk := ⟨j, 1, j + 1, fun e => [.int .u8 (w e)], true, false, none⟩
def cntF (w r : Nat → Int) : Nat → Nat
  | 0 => 0
  | k + 1 => if w k = r k then cntF w r k else cntF w r k + 1
theorem cntF_le (w r : Nat → Int) : ∀ k, cntF w r k ≤ k
  | 0 => Nat.le_refl _
  | k + 1 => by
    have := cntF_le w r k
    unfold cntF
    split <;> omega
section
variable (r : Nat → Int) (n : Nat) (c : Option Nat) (most lo hi : Int)
end
end Go.Ab

namespace Go.Ab
open Go.Proofs
noncomputable def K17f (p : List T → T → Prop) (a b d : Nat → Int) (m : Nat) : Orc := noneO.add 11 (callF p fun _ => some (.new (.view 3 m (fun j => [.int .u8 (a j), .int .i64 (b j), .int .i64 (d j)]) none)))
section
variable (r : Nat → Int) (n : Nat) (most lo hi : Int)
def rsF : Nat → Nat × Nat
  | 0 => (0, cntF (wb lo hi n 0) r n)
  | b + 1 => if cntF (wb lo hi n (b + 1)) r n < (rsF b).2 ∧ longest (wb lo hi n (b + 1)) n ≤ most then (b + 1, cntF (wb lo hi n (b + 1)) r n) else rsF b
end
theorem longT (w : Nat → Int) (n : Nat) (c : Option Nat) (hn : n ≤ 60) (hw : ∀ j, j < n → 0 ≤ w j ∧ w j < 256) : ToldOk P18 G18 17 [rowV w n c] (.int .i64 (longest w n)) := by
  obtain ⟨p, hp⟩ := is_val P18 G18 11
  have t1 := refFloatsT w n c (by omega) hw
  have hb := fl_len w n n
  change ToldOk P18 G18 11 _ (.new (.view 3 (fl w n n).length (fun j => [.int .u8 ((fun j => w ((fl w n n).getD j 0)) j), .int .i64 ((fun j => (((fl w n n).getD j 0 : Nat) : Int) + 1) j), .int .i64 (flD w n j)]) none)) at t1
  unfold longest
  generalize (fun j => w ((fl w n n).getD j 0)) = a at *
  generalize (fun j => (((fl w n n).getD j 0 : Nat) : Int) + 1) = b at *
  generalize flD w n = d at *
  generalize (fl w n n).length = m at *
  have hl : LoopOk P18 G18 (A18 17) 17 4 (litS (v17f b d a m 0 0) [] (.exit 0) [.int .i64 (lgF d m)] []) := by
    refine loop_steps hm18 (by kernel_rfl) (fun i => v17f b d a m (lgF d i) (i : Nat)) (fun _ => []) (n := m) (fun i hi => ?_) ?_
    · have e : lgF d (i + 1) = bif decide (lgF d i < d i) then d i else lgF d i := rfl
      rw [e]
      generalize lgF d i = best
      have ei : IntKind.i64.wrap ((i : Int) + 1) = ((i + 1 : Nat) : Int) := by rw [wr64 (by omega) (by omega)]; omega
      refine Step.mk0 (A := A18) (m := 0) none_ok rfl rfl loops0 (h1 := []) ?_ .nil
      rw [(show iterR P18 G18 A18 noneO 0 17 [] 4 (v17f b d a m best i) [] =
(
 bif decide (Int.ofNat i < Int.ofNat m) then
 bif decide ((0 : Int) ≤ Int.ofNat i) && decide (Int.ofNat i < Int.ofNat m) then
 bif decide (best < d i) then
 bif decide ((0 : Int) ≤ Int.ofNat i) && decide (Int.ofNat i < Int.ofNat m) then
 some ((Ex.normal, [T.view 3 m (fun j => [T.int .u8 (a j), T.int .i64 (b j), T.int .i64 (d j)])
 none, T.int .i64 (d i), T.int .i64 (IntKind.i64.wrap (Int.ofNat i + (1 : Int)))], []))
 else none else
 some ((Ex.normal, [T.view 3 m (fun j => [T.int .u8 (a j), T.int .i64 (b j), T.int .i64 (d j)])
 none, T.int .i64 best, T.int .i64 (IntKind.i64.wrap (Int.ofNat i + (1 : Int)))], []))
 else none else
 some ((Ex.exit 0, [T.int .i64 best], []))) from by kernel_rfl)]
      rw [ofNatE i, ei]
      by_cases q : best < d i
      · rw [dT q]
        refine bift (by first | assumption | omega | (simp (disch := omega) only [numsE, List.length_cons, List.length_nil, Nat.reduceAdd]; done) | (simp (disch := omega) only [numsE, List.length_cons, List.length_nil, Nat.reduceAdd]; omega)) ?_
        refine bift (by first | assumption | omega | (simp (disch := omega) only [numsE, List.length_cons, List.length_nil, Nat.reduceAdd]; done) | (simp (disch := omega) only [numsE, List.length_cons, List.length_nil, Nat.reduceAdd]; omega)) ?_
        rw [cond_true, cond_true]
        refine bift (by first | assumption | omega | (simp (disch := omega) only [numsE, List.length_cons, List.length_nil, Nat.reduceAdd]; done) | (simp (disch := omega) only [numsE, List.length_cons, List.length_nil, Nat.reduceAdd]; omega)) ?_
        rfl
      · rw [dF q]
        refine bift (by first | assumption | omega | (simp (disch := omega) only [numsE, List.length_cons, List.length_nil, Nat.reduceAdd]; done) | (simp (disch := omega) only [numsE, List.length_cons, List.length_nil, Nat.reduceAdd]; omega)) ?_
        refine bift (by first | assumption | omega | (simp (disch := omega) only [numsE, List.length_cons, List.length_nil, Nat.reduceAdd]; done) | (simp (disch := omega) only [numsE, List.length_cons, List.length_nil, Nat.reduceAdd]; omega)) ?_
        rw [cond_false, cond_false]
        rfl
    · generalize lgF d m = best
      refine Last.mk0 (A := A18) (m := 0) none_ok rfl rfl loops0 (h1 := []) (by simp) ?_ .nil
      rw [(show iterR P18 G18 A18 noneO 0 17 [] 4 (v17f b d a m best m) [] =
(
 bif decide (Int.ofNat m < Int.ofNat m) then
 bif decide ((0 : Int) ≤ Int.ofNat m) && decide (Int.ofNat m < Int.ofNat m) then
 bif decide (best < d m) then
 bif decide ((0 : Int) ≤ Int.ofNat m) && decide (Int.ofNat m < Int.ofNat m) then
 some ((Ex.normal, [T.view 3 m (fun j => [T.int .u8 (a j), T.int .i64 (b j), T.int .i64 (d j)])
 none, T.int .i64 (d m), T.int .i64 (IntKind.i64.wrap (Int.ofNat m + (1 : Int)))], []))
 else none else
 some ((Ex.normal, [T.view 3 m (fun j => [T.int .u8 (a j), T.int .i64 (b j), T.int .i64 (d j)])
 none, T.int .i64 best, T.int .i64 (IntKind.i64.wrap (Int.ofNat m + (1 : Int)))], []))
 else none else
 some ((Ex.exit 0, [T.int .i64 best], []))) from by kernel_rfl)]
      (repeat (first | (refine bift (by first | assumption | omega | (simp (disch := omega) only [numsE, List.length_cons, List.length_nil, Nat.reduceAdd]; done) | (simp (disch := omega) only [numsE, List.length_cons, List.length_nil, Nat.reduceAdd]; omega)) ?_) | (refine biff (by first | assumption | (simp (disch := omega) only [numsE, List.length_cons, List.length_nil, Nat.reduceAdd]; done) | (simp (disch := omega) only [numsE, List.length_cons, List.length_nil, Nat.reduceAdd]; omega)) ?_)))
      rfl
  generalize lgF d m = best at *
  refine stepL_told hm18 hn18 (K := K17f p a b d m) (told_add none_ok (callF_told hp)) (A := A18) (m := 0) (by kernel_rfl) (loops1 hl) ?_
  rw [(show stepL P18 G18 A18 (K17f p a b d m) 0 17 [(4, litS (v17f b d a m 0 0) [] (.exit 0) [.int .i64 best] [])] [rowV w n c] =
(
 bif decF (p [rowV w n c] (T.view 3 m (fun j => [T.int .u8 (a j), T.int .i64 (b j), T.int .i64 (d j)])
 none).new) then
 bif weakF [T.view 3 m (fun j => [T.int .u8 (a j), T.int .i64 (b j), T.int .i64 (d j)])
 none, T.int .i64 (0 : Int), T.int .i64 (0 : Int)] [] [T.view 3 m (fun j => [T.int .u8 (a j), T.int .i64 (b j), T.int .i64 (d j)])
 none, T.int .i64 (0 : Int), T.int .i64 (0 : Int)] [] then
 some (T.int .i64 best)
 else none else
 none) from by kernel_rfl)]
  refine bift (callF_yes hp t1) ?_
  exact bift (weakF_of ⟨rfl, .refl _⟩) rfl
theorem low_mem (r : Nat → Int) (n : Nat) (h1 : 1 ≤ n) : ∀ k, k ≤ n → ∃ j, j < n ∧ lowF r k = r j
  | 0, _ => ⟨0, h1, rfl⟩
  | k + 1, hk => by
    unfold lowF
    by_cases q : r k < lowF r k
    · rw [dT q]; exact ⟨k, by omega, rfl⟩
    · rw [dF q]; exact low_mem r n h1 k (by omega)
theorem high_mem (r : Nat → Int) (n : Nat) (h1 : 1 ≤ n) : ∀ k, k ≤ n → ∃ j, j < n ∧ highF r k = r j
  | 0, _ => ⟨0, h1, rfl⟩
  | k + 1, hk => by
    unfold highF
    by_cases q : highF r k < r k
    · rw [dT q]; exact ⟨k, by omega, rfl⟩
    · rw [dF q]; exact high_mem r n h1 k (by omega)
theorem low_le (r : Nat → Int) : ∀ k j, j < k → lowF r k ≤ r j
  | k + 1, j, h => by
    unfold lowF
    have ih := low_le r k
    by_cases q : r k < lowF r k
    · rw [dT q, cond_true]
      by_cases q2 : j = k
      · rw [q2]; omega
      · have := ih j (by omega); omega
    · rw [dF q, cond_false]
      by_cases q2 : j = k
      · rw [q2]; omega
      · exact ih j (by omega)
theorem high_ge (r : Nat → Int) : ∀ k j, j < k → r j ≤ highF r k
  | k + 1, j, h => by
    unfold highF
    have ih := high_ge r k
    by_cases q : highF r k < r k
    · rw [dT q, cond_true]
      by_cases q2 : j = k
      · rw [q2]; omega
      · have := ih j (by omega); omega
    · rw [dF q, cond_false]
      by_cases q2 : j = k
      · rw [q2]; omega
      · exact ih j (by omega)
end Go.Ab

namespace Go.Ab
open Go.Proofs
theorem longest_const (w : Nat → Int) (n : Nat) (most : Int) (hm : 0 ≤ most) (h : ∀ j, j < n → w j = w 0) : longest w n ≤ most := by
  rw [longest_le _ _ _ hm]
  intro k hk hf
  exfalso
  rw [nxtF_sI] at hf
  by_cases q : sI w n k < n
  · rw [if_pos q] at hf
    have hne := srch_ne w (w k) (n - (k + 1)) (k + 1) (k + 1) (Nat.le_refl _) (by
      change k + 1 < sI w n k
      omega)
    exact hne (by rw [h (k + 1) (by omega), h k hk])
  · rw [if_neg q] at hf; omega
theorem wb_zero (lo hi : Int) (n j : Nat) : wb lo hi n 0 j = lo := by
  unfold wb
  rw [Nat.zero_testBit]
  simp
theorem costR_cnt (r w : Nat → Int) : ∀ n, costR r w n 0 = ((cntF w r n : Nat) : Int) := by
  have key : ∀ m a, ((cntF w r a : Nat) : Int) + costR r w m a = ((cntF w r (a + m) : Nat) : Int) := by
    intro m
    induction m with
    | zero => intro a; show _ + (0 : Int) = _; rw [Int.add_zero]; rfl
    | succ m ih =>
      intro a
      have h := ih (a + 1)
      rw [show a + 1 + m = a + (m + 1) by omega] at h
      rw [← h]
      show _ + (chg (r a) (w a) + costR r w m (a + 1)) = _
      have e : cntF w r (a + 1) = if w a = r a then cntF w r a else cntF w r a + 1 := rfl
      rw [e]
      unfold chg
      by_cases q : w a = r a
      · rw [if_pos q, dT q.symm, cond_true]; omega
      · rw [if_neg q, dF (fun h => q h.symm), cond_false]; omega
  intro n
  have := key n 0
  rw [Nat.zero_add] at this
  rw [← this]
  show _ = (0 : Int) + _
  omega
section
variable (r : Nat → Int) (n : Nat) (most lo hi : Int)
theorem rsF_inv (h0 : longest (wb lo hi n 0) n ≤ most) : ∀ b, (rsF r n most lo hi b).1 ≤ b ∧ longest (wb lo hi n (rsF r n most lo hi b).1) n ≤ most ∧ (rsF r n most lo hi b).2 = cntF (wb lo hi n (rsF r n most lo hi b).1) r n ∧
    (∀ d, d ≤ b → longest (wb lo hi n d) n ≤ most → (rsF r n most lo hi b).2 ≤ cntF (wb lo hi n d) r n) ∧ ∀ d, d < (rsF r n most lo hi b).1 → longest (wb lo hi n d) n ≤ most → (rsF r n most lo hi b).2 < cntF (wb lo hi n d) r n
  | 0 => ⟨Nat.le_refl _, h0, rfl, fun d hd _ => by rw [show d = 0 by omega]; exact Nat.le_refl _, fun d hd => by cases hd⟩
  | b + 1 => by
    obtain ⟨h1, h2, h3, h4, h5⟩ := rsF_inv h0 b
    have e : rsF r n most lo hi (b + 1) = if cntF (wb lo hi n (b + 1)) r n < (rsF r n most lo hi b).2 ∧ longest (wb lo hi n (b + 1)) n ≤ most then (b + 1, cntF (wb lo hi n (b + 1)) r n) else rsF r n most lo hi b := rfl
    rw [e]
    by_cases q : cntF (wb lo hi n (b + 1)) r n < (rsF r n most lo hi b).2 ∧ longest (wb lo hi n (b + 1)) n ≤ most
    · rw [if_pos q]
      refine ⟨Nat.le_refl _, q.2, rfl, fun d hd ha => ?_, fun d hd ha => ?_⟩
      · rcases Nat.lt_or_ge d (b + 1) with g | g
        · have := h4 d (by omega) ha
          have := q.1
          show cntF (wb lo hi n (b + 1)) r n ≤ _
          omega
        · rw [show d = b + 1 by omega]; exact Nat.le_refl _
      · have hd : d < b + 1 := hd
        have := h4 d (by omega) ha
        have := q.1
        show cntF (wb lo hi n (b + 1)) r n < _
        omega
    · rw [if_neg q]
      refine ⟨by omega, h2, h3, fun d hd ha => ?_, h5⟩
      rcases Nat.lt_or_ge d (b + 1) with g | g
      · exact h4 d (by omega) ha
      · obtain rfl : d = b + 1 := by omega
        rcases Nat.lt_or_ge (cntF (wb lo hi n (b + 1)) r n) (rsF r n most lo hi b).2 with g2 | g2
        · exact absurd ⟨g2, ha⟩ q
        · exact g2
end
theorem two_ref (r : Nat → Int) (n : Nat) (cs : Nat → Int) (most : Int) (hm : 0 ≤ most) :
    (∀ j, j < n → wb (cs 0) (cs 1) n (rsF r n most (cs 0) (cs 1) (2 ^ n - 1)).1 j = wvL r n cs 2 most j) ∧ (((rsF r n most (cs 0) (cs 1) (2 ^ n - 1)).2 : Nat) : Int) = lk r n cs 2 most n ⟨0, 0, false⟩ := by
  have hw : ∀ b j, j < n → wb (cs 0) (cs 1) n b j = cs 0 ∨ wb (cs 0) (cs 1) n b j = cs 1 := fun b j _ => by
    unfold wb
    split
    · exact .inr rfl
    · exact .inl rfl
  have hadm : ∀ b, admR most (wb (cs 0) (cs 1) n b) n 0 ⟨0, 0, false⟩ = true ↔ longest (wb (cs 0) (cs 1) n b) n ≤ most := fun b => adm_longest _ n (cs 0) (cs 1) most hm (hw b)
  obtain ⟨b0, p1, p2, p3, p4, p5⟩ := firstBest (r := r) (n := n) (cs := cs) (most := most) n 0 ⟨0, 0, false⟩ (Nat.zero_add _) (.inr ⟨rfl, rfl⟩)
  have h0 : longest (wb (cs 0) (cs 1) n 0) n ≤ most := longest_const _ n most hm fun j _ => by rw [wb_zero, wb_zero]
  obtain ⟨q1, q2, q3, q4, q5⟩ := rsF_inv r n most (cs 0) (cs 1) h0 (2 ^ n - 1)
  generalize rsF r n most (cs 0) (cs 1) (2 ^ n - 1) = q at *
  have hb0 : longest (wb (cs 0) (cs 1) n b0) n ≤ most := (hadm b0).1 p3
  have hp : 1 ≤ 2 ^ n := Nat.one_le_two_pow
  have g1 := p5 q.1 (by omega) ((hadm q.1).2 q2)
  have g2 := q4 b0 (by omega) hb0
  rw [costR_cnt] at p4
  rw [costR_cnt] at g1
  have e : q.1 = b0 := by
    rcases Nat.lt_trichotomy q.1 b0 with g | g | g
    · have := g1.2 g
      omega
    · exact g
    · have := q5 b0 g hb0
      omega
  refine ⟨fun j hj => ?_, ?_⟩
  · rw [e]
    exact fol_psL (r := r) (most := most) (wb (cs 0) (cs 1) n b0) n 0 (Nat.zero_add _) p2 j (Nat.zero_le _) hj
  · rw [q3, e]
    exact p4
theorem one_ref (r : Nat → Int) (n : Nat) (cs : Nat → Int) (most : Int) (hm : 0 ≤ most) (hr : ∀ j, j < n → r j = cs 0) :
    (∀ j, j < n → wb (cs 0) (cs 0) n (rsF r n most (cs 0) (cs 0) (2 ^ n - 1)).1 j = wvL r n cs 1 most j) ∧ (((rsF r n most (cs 0) (cs 0) (2 ^ n - 1)).2 : Nat) : Int) = lk r n cs 1 most n ⟨0, 0, false⟩ := by
  have hw : ∀ b j, wb (cs 0) (cs 0) n b j = cs 0 := fun b j => by
    unfold wb
    split <;> rfl
  have h0 : longest (wb (cs 0) (cs 0) n 0) n ≤ most := longest_const _ n most hm fun j _ => by rw [hw, hw]
  obtain ⟨q1, q2, q3, q4, q5⟩ := rsF_inv r n most (cs 0) (cs 0) h0 (2 ^ n - 1)
  have hlk : ∀ m a s, a + m = n → PlS cs 1 a s → lk r n cs 1 most m s = 0 := by
    intro m
    induction m with
    | zero => intro a s _ _; rfl
    | succ m ih =>
      intro a s ha hs
      obtain ⟨j, hj, _, h2⟩ := lk_at (r := r) (most := most) (Nat.le_refl 1) ha hs
      obtain rfl : j = 0 := by omega
      rw [← h2, ih (a + 1) _ (by omega) (.inl (hs.nx hj))]
      unfold chg
      rw [dT (hr a (by omega))]
      rfl
  have hcnt : cntF (wb (cs 0) (cs 0) n (rsF r n most (cs 0) (cs 0) (2 ^ n - 1)).1) r n = 0 := by
    generalize (rsF r n most (cs 0) (cs 0) (2 ^ n - 1)).1 = b
    have key : ∀ k, k ≤ n → cntF (wb (cs 0) (cs 0) n b) r k = 0 := by
      intro k
      induction k with
      | zero => intro _; rfl
      | succ k ih =>
        intro hk
        unfold cntF
        rw [if_pos (by rw [hw, hr k (by omega)]), ih (by omega)]
    exact key n (Nat.le_refl _)
  refine ⟨fun j hj => ?_, ?_⟩
  · rw [hw]
    have := psCL_lt (r := r) (most := most) (Nat.le_refl 1) hj (psL_pl (r := r) (n := n) (cs := cs) (most := most) (Nat.le_refl 1) j (Nat.le_of_lt hj))
    show cs 0 = cs (psCL r n cs 1 most j (psL r n cs 1 most j))
    rw [show psCL r n cs 1 most j (psL r n cs 1 most j) = 0 by omega]
  · rw [q3, hcnt, hlk n 0 _ (Nat.zero_add _) (.inr ⟨rfl, rfl⟩)]
    rfl
theorem ref_same (r : Nat → Int) (n : Nat) (most : Int) (hm : 0 ≤ most) (h1 : 1 ≤ n) (hr : ∀ j, j < n → 0 ≤ r j ∧ r j < 256) (h2 : kK r n ≤ 2) :
    (∀ j, j < n → wb (lowF r n) (highF r n) n (rsF r n most (lowF r n) (highF r n) (2 ^ n - 1)).1 j = wvL r n (csK r n) (kK r n) most j) ∧ (((rsF r n most (lowF r n) (highF r n) (2 ^ n - 1)).2 : Nat) : Int) = lk r n (csK r n) (kK r n) most n ⟨0, 0, false⟩ := by
  obtain ⟨j1, hj1, e1⟩ := low_mem r n h1 n (Nat.le_refl _)
  obtain ⟨j2, hj2, e2⟩ := high_mem r n h1 n (Nat.le_refl _)
  have g1 := low_le r n
  have g2 := high_ge r n
  have ha := csK_asc r n
  have hmem := csK_mem hr
  obtain ⟨i1, _, a1, a2⟩ := (hmem (lowF r n)).2 ⟨j1, Nat.zero_le _, hj1, e1.symm⟩
  obtain ⟨i2, _, b1, b2⟩ := (hmem (highF r n)).2 ⟨j2, Nat.zero_le _, hj2, e2.symm⟩
  have hk : kK r n = 1 ∨ kK r n = 2 := by omega
  rcases hk with hk | hk
  · rw [hk] at a1 b1 ⊢
    obtain rfl : i1 = 0 := by omega
    obtain rfl : i2 = 0 := by omega
    rw [← a2, ← b2]
    refine one_ref r n (csK r n) most hm fun j hj => ?_
    obtain ⟨i, _, c1, c2⟩ := (hmem (r j)).2 ⟨j, Nat.zero_le _, hj, rfl⟩
    rw [hk] at c1
    rw [← c2, show i = 0 by omega]
  · have hlt := ha 0 1 (by omega) (by omega)
    have m0 := (hmem (csK r n 0)).1 ⟨0, Nat.le_refl _, by omega, rfl⟩
    have m1 := (hmem (csK r n 1)).1 ⟨1, Nat.zero_le _, by omega, rfl⟩
    obtain ⟨x0, _, y0, z0⟩ := m0
    obtain ⟨x1, _, y1, z1⟩ := m1
    have l0 := g1 x0 y0
    have l1 := g2 x1 y1
    rw [hk] at a1 b1
    have hi1 : i1 = 0 := by
      rcases Nat.eq_zero_or_pos i1 with q | q
      · exact q
      · obtain rfl : i1 = 1 := by omega
        omega
    have hi2 : i2 = 1 := by
      rcases Nat.eq_zero_or_pos i2 with q | q
      · subst q; omega
      · omega
    subst hi1 hi2
    rw [hk, ← a2, ← b2]
    exact two_ref r n (csK r n) most hm
end Go.Ab

namespace Go.Ab
open Go.Proofs
def h4 (n h : Nat) (W : Nat → Nat → Int) : Heap := [⟨0, 1, h, fun i => [wrow n (W i)], false, false, none⟩]
theorem bytes_row (f : Nat → Int) (n : Nat) : bytesF (fun j => [T.int .u8 (f j)]) n = true := by
  unfold bytesF elemsOf
  rw [List.all_eq_true]
  intro x hx
  obtain ⟨j, _, rfl⟩ := List.mem_map.1 hx
  rfl
theorem differT (R : Nat → Nat → Int) (n h : Nat) (rc c rd d : Option Nat) (hh : h ≤ 1000) : ToldOk P18 G18 16 [picV R n h rc c, picV R n h rd d] (.int .i64 0) := by
  have hl : LoopOk P18 G18 (A18 16) 16 4 (litS (v16 R R n h rc c rd d 0) [] (.exit 0) [.undef] []) := by
    refine loop_steps hm18 (by kernel_rfl) (fun i => v16 R R n h rc c rd d (i : Nat)) (fun _ => []) (n := h) (fun i hi => ?_) ?_
    · refine Step.mk0 (A := A18) (m := 0) none_ok rfl rfl loops0 (h1 := []) ?_ .nil
      rw [(show iterR P18 G18 A18 noneO 0 16 [] 4 (v16 R R n h rc c rd d i) [] =
(
 bif decide (Int.ofNat i < Int.ofNat h) then
 bif decide ((0 : Int) ≤ Int.ofNat i) && decide (Int.ofNat i < Int.ofNat h) then
 bif bytesF (fun j => [T.int .u8 (R i j)]) n then
 bif decide ((0 : Int) ≤ Int.ofNat i) && decide (Int.ofNat i < Int.ofNat h) then
 bif bytesF (fun j => [T.int .u8 (R i j)]) n then
 bif !decide (strF (fun j => [T.int .u8 (R i j)]) n = strF (fun j => [T.int .u8 (R i j)]) n) then
 some ((Ex.ret, [T.int .i64 (1 : Int)], []))
 else
 some ((Ex.normal, [T.view 1 h (fun i => [T.view 1 n (fun j => [T.int .u8 (R i j)]) rc]) c, T.view 1 h (fun i => [T.view 1 n (fun j => [T.int .u8 (R i j)]) rd]) d, T.int .i64 (IntKind.i64.wrap (Int.ofNat i + (1 : Int)))], []))
 else none else none else none else none else
 some ((Ex.exit 0, [T.undef], []))) from by kernel_rfl)]
      have ei : IntKind.i64.wrap ((i : Int) + 1) = ((i + 1 : Nat) : Int) := by rw [wr64 (by omega) (by omega)]; omega
      rw [bytes_row, ofNatE i, ei]
      refine bift (by first | assumption | omega | (simp (disch := omega) only [numsE, List.length_cons, List.length_nil, Nat.reduceAdd]; done) | (simp (disch := omega) only [numsE, List.length_cons, List.length_nil, Nat.reduceAdd]; omega)) ?_
      refine bift (by first | assumption | omega | (simp (disch := omega) only [numsE, List.length_cons, List.length_nil, Nat.reduceAdd]; done) | (simp (disch := omega) only [numsE, List.length_cons, List.length_nil, Nat.reduceAdd]; omega)) ?_
      rw [cond_true]
      refine bift (by first | assumption | omega | (simp (disch := omega) only [numsE, List.length_cons, List.length_nil, Nat.reduceAdd]; done) | (simp (disch := omega) only [numsE, List.length_cons, List.length_nil, Nat.reduceAdd]; omega)) ?_
      rw [cond_true]
      refine biff (by simp) ?_
      rfl
    · refine Last.mk0 (A := A18) (m := 0) none_ok rfl rfl loops0 (h1 := []) (by simp) ?_ .nil
      rw [(show iterR P18 G18 A18 noneO 0 16 [] 4 (v16 R R n h rc c rd d h) [] =
(
 bif decide (Int.ofNat h < Int.ofNat h) then
 bif decide ((0 : Int) ≤ Int.ofNat h) && decide (Int.ofNat h < Int.ofNat h) then
 bif bytesF (fun j => [T.int .u8 (R h j)]) n then
 bif decide ((0 : Int) ≤ Int.ofNat h) && decide (Int.ofNat h < Int.ofNat h) then
 bif bytesF (fun j => [T.int .u8 (R h j)]) n then
 bif !decide (strF (fun j => [T.int .u8 (R h j)]) n = strF (fun j => [T.int .u8 (R h j)]) n) then
 some ((Ex.ret, [T.int .i64 (1 : Int)], []))
 else
 some ((Ex.normal, [T.view 1 h (fun i => [T.view 1 n (fun j => [T.int .u8 (R i j)]) rc]) c, T.view 1 h (fun i => [T.view 1 n (fun j => [T.int .u8 (R i j)]) rd]) d, T.int .i64 (IntKind.i64.wrap (Int.ofNat h + (1 : Int)))], []))
 else none else none else none else none else
 some ((Ex.exit 0, [T.undef], []))) from by kernel_rfl)]
      (repeat (first | (refine bift (by first | assumption | omega | (simp (disch := omega) only [numsE, List.length_cons, List.length_nil, Nat.reduceAdd]; done) | (simp (disch := omega) only [numsE, List.length_cons, List.length_nil, Nat.reduceAdd]; omega)) ?_) | (refine biff (by first | assumption | (simp (disch := omega) only [numsE, List.length_cons, List.length_nil, Nat.reduceAdd]; done) | (simp (disch := omega) only [numsE, List.length_cons, List.length_nil, Nat.reduceAdd]; omega)) ?_)))
      rfl
  refine stepL_told hm18 hn18 none_ok (A := A18) (m := 0) (by kernel_rfl) (loops1 hl) ?_
  rw [(show stepL P18 G18 A18 noneO 0 16 [(4, litS (v16 R R n h rc c rd d 0) [] (.exit 0) [.undef] [])] [picV R n h rc c, picV R n h rd d] =
(
 bif !decide (Int.ofNat h = Int.ofNat h) then
 some (T.int .i64 (1 : Int))
 else
 bif weakF [T.view 1 h (fun i => [T.view 1 n (fun j => [T.int .u8 (R i j)]) rc]) c, T.view 1 h (fun i => [T.view 1 n (fun j => [T.int .u8 (R i j)]) rd]) d, T.int .i64 (0 : Int)] [] [T.view 1 h (fun i => [T.view 1 n (fun j => [T.int .u8 (R i j)]) rc]) c, T.view 1 h (fun i => [T.view 1 n (fun j => [T.int .u8 (R i j)]) rd]) d, T.int .i64 (0 : Int)] [] then
 some (T.int .i64 (0 : Int))
 else
 none) from by kernel_rfl)]
  refine biff (by simp) ?_
  exact bift (weakF_of ⟨rfl, .refl _⟩) rfl
theorem kK_two {r : Nat → Int} {n : Nat} {a b : Int} (hr : ∀ j, j < n → 0 ≤ r j ∧ r j < 256) (h : ∀ j, j < n → r j = a ∨ r j = b) : kK r n ≤ 2 := by
  rcases Nat.lt_or_ge 2 (kK r n) with q | q
  · exfalso
    have ha := csK_asc r n
    have key : ∀ i, i < kK r n → csK r n i = a ∨ csK r n i = b := fun i hi => by
      obtain ⟨j, _, h1, h2⟩ := (csK_mem hr (csK r n i)).1 ⟨i, Nat.zero_le _, hi, rfl⟩
      rw [← h2]; exact h j h1
    have a1 := ha 0 1 (by omega) (by omega)
    have a2 := ha 1 2 (by omega) (by omega)
    have b0 := key 0 (by omega)
    have b1 := key 1 (by omega)
    have b2 := key 2 (by omega)
    omega
  · exact q
end Go.Ab

namespace Go.Ab
open Go.Proofs
def A18y : FuncId → Ann := fun f => match f with
  | 18 => ⟨[8], fun r o => match r with | 6 => bif o then [5] else [5, 14, 15, 16] | 9 => bif o then [5, 14, 15, 16] else [5, 14, 15, 16, 21] | _ => [], false⟩
  | f => A18 f
def mx (a b : Int) : Int := bif decide (a < b) then b else a
def h18 (b : Int) : Heap := [⟨0, 1, 1, fun _ => [.int .i64 b], true, false, none⟩]
def v18 (R : Nat → Nat → Int) (n h : Nat) (rc c : Option Nat) (i : Int) : List T := [.ptr 0 0 0 0, picV R n h rc c, .int .i64 h, .int .i64 i]
def v18i (R : Nat → Nat → Int) (n h : Nat) (rc c : Option Nat) (i : Nat) : List T := v18 R n h rc c i ++ [.fn 44 [.vp [rowV (R i) n rc]]]
noncomputable def K18 (p : List T → T → Prop) (r : T) : Orc := noneO.add 27 (callF p fun _ => some r)
noncomputable def K18c (p : List T → T → Prop) : Orc := noneO.add 29 (callF p fun _ => some (.int .i64 0))
def lgP (R : Nat → Nat → Int) (n : Nat) : Nat → Int
  | 0 => 0
  | i + 1 => mx (lgP R n i) (longest (R i) n)
theorem mx_def (a b : Int) : mx a b = if a < b then b else a := by
  unfold mx
  by_cases h : a < b
  · rw [dT h, if_pos h]; rfl
  · rw [dF h, if_neg h]; rfl
theorem mx_lg (b : Int) (d : Nat → Int) (j : Nat) : mx b (lgF d (j + 1)) = mx (mx b (lgF d j)) (d j) := by
  have e : lgF d (j + 1) = mx (lgF d j) (d j) := rfl
  rw [e]
  generalize lgF d j = a
  simp only [mx_def]
  by_cases h1 : a < d j <;> by_cases h2 : b < a <;> by_cases h3 : b < d j <;> simp only [h1, h2, h3, if_true, if_false] <;> omega
theorem lgF_0 (d : Nat → Int) : lgF d 0 = 0 := rfl
theorem mx_0 {b : Int} (h : 0 ≤ b) : mx b 0 = b := by
  rw [mx_def]; split <;> omega
theorem lgP_ge (R : Nat → Nat → Int) (n : Nat) : ∀ i, 0 ≤ lgP R n i
  | 0 => Int.le_refl _
  | i + 1 => by
    have := lgP_ge R n i
    unfold lgP
    rw [mx_def]
    split <;> omega
theorem lgP_le (R : Nat → Nat → Int) (n : Nat) (m : Int) (hm : 0 ≤ m) : ∀ h, lgP R n h ≤ m ↔ ∀ i, i < h → longest (R i) n ≤ m
  | 0 => ⟨fun _ i h => by omega, fun _ => hm⟩
  | h + 1 => by
    have ih := lgP_le R n m hm h
    have e : lgP R n (h + 1) ≤ m ↔ lgP R n h ≤ m ∧ longest (R h) n ≤ m := by
      show mx _ _ ≤ m ↔ _
      rw [mx_def]
      split <;> omega
    rw [e, ih]
    constructor
    · intro ⟨h1, h2⟩ i hi
      by_cases q : i = h
      · subst q; exact h2
      · exact h1 i (by omega)
    · intro h1
      exact ⟨fun i hi => h1 i (by omega), h1 h (by omega)⟩
theorem l18i (R : Nat → Nat → Int) (n h : Nat) (rc c : Option Nat) (i : Nat) (b : Int) (hn : n ≤ 1000) (hb : 0 ≤ b) (hr : ∀ j, j < n → 0 ≤ R i j ∧ R i j < 256) :
    LoopOk P18 G18 (A18y 18) 18 9 (litS (v18i R n h rc c i) (h18 b) .normal (v18 R n h rc c i) (h18 (mx b (longest (R i) n)))) := by
  have key : LoopOk P18 G18 (A18y 18) 18 9 (litS (v18i R n h rc c i) (h18 (mx b (lgF (flD (R i) n) 0))) .normal (v18 R n h rc c i) (h18 (mx b (longest (R i) n)))) := ?_
  · rw [lgF_0, mx_0 hb] at key; exact key
  refine range_lit (P := P18) (Gl := G18) (f := 18) (r := 9) (t := 21) (np := 1) (an := A18y 18) hm18 (by kernel_rfl) (vs := v18i R n h rc c i) rfl (gf := 44) (caps := [.vp [rowV (R i) n rc]]) rfl (seq44 (R i) n rc hn hr) (by kernel_rfl) (fun j hj => rfl)
    (fun j => h18 (mx b (lgF (flD (R i) n) j))) rfl (n := (fl (R i) n n).length) (Nat.le_refl _) (e1 := .normal) (h1 := h18 (mx b (longest (R i) n))) (vo := v18 R n h rc c i) rfl (fun j hj => ?_) (.inl ⟨rfl, rfl, rfl⟩)
  refine ⟨A18y, noneO, 0, [], none_ok, rfl, rfl, loops0, ?_⟩
  rw [mx_lg]
  have hg0 : fcells (R i) n ((fl (R i) n n).getD j 0) = [.int .u8 (R i ((fl (R i) n n).getD j 0)), .int .i64 ((((fl (R i) n n).getD j 0 : Nat) : Int) + 1), .int .i64 (flD (R i) n j)] := rfl
  rw [hg0]
  generalize R i ((fl (R i) n n).getD j 0) = a at *
  generalize (((fl (R i) n n).getD j 0 : Nat) : Int) + 1 = b2 at *
  generalize flD (R i) n j = d at *
  generalize mx b (lgF (flD (R i) n) j) = best at *
  refine ⟨_, (show rangeR P18 G18 A18y noneO 0 18 [] 9 (v18i R n h rc c i) [.agg [.int .u8 a, .int .i64 b2, .int .i64 d]] (h18 best) =
(
 some ((Ex.normal, [Blk.mk 0 1 1 (fun e => [T.int .i64 (bif e == (0 : Nat) then
 bif decide (best < d) then d
 else best
 else best)]) true false
 none]))) from by kernel_rfl), fun nt => ?_⟩
  refine WeakTo.same (.cons ⟨rfl, rfl, rfl, id, fun j hj => ?_⟩ .nil)
  obtain rfl : j = 0 := by have : j < 1 := hj; omega
  rfl
theorem longestT (R : Nat → Nat → Int) (n h : Nat) (rc c : Option Nat) (ok : PicOk R n h) : ToldOk P18 G18 18 [picV R n h rc c] (.tup [.int .i64 (lgP R n h), .int .i64 0]) := by
  obtain ⟨p, hp⟩ := is_val P18 G18 29
  have hh := ok.h1
  have hn := ok.nm
  unfold nmax at hn
  have t1 := checkT R n h rc c ok
  have hl : LoopOk P18 G18 (A18y 18) 18 6 (litS (v18 R n h rc c 0) (h18 0) (.exit 0) [.ptr 0 0 0 0] (h18 (lgP R n h))) := by
    obtain ⟨q, hq⟩ := is_val P18 G18 27
    refine loop_steps hm18 (by kernel_rfl) (fun i => v18 R n h rc c (i : Nat)) (fun i => h18 (lgP R n i)) (n := h) (fun i hi => ?_) ?_
    · have hin := l18i R n h rc c i (lgP R n i) (by omega) (lgP_ge R n i) fun j hj => by have := ok.col i hi j hj; omega
      have e : lgP R n (i + 1) = mx (lgP R n i) (longest (R i) n) := rfl
      rw [e]
      have t2 := eachT (R i) n rc
      have ei : IntKind.i64.wrap ((i : Int) + 1) = ((i + 1 : Nat) : Int) := by rw [wr64 (by omega) (by omega)]; omega
      generalize mx (lgP R n i) (longest (R i) n) = best2 at *
      generalize lgP R n i = best at *
      refine Step.mk0 (A := A18y) (K := K18 q (.fn 44 [.vp [rowV (R i) n rc]])) (m := 0) (told_add none_ok (callF_told hq)) rfl rfl (loops1 hin) (h1 := h18 best2) ?_ (.refl _)
      rw [(show iterR P18 G18 A18y (K18 q (.fn 44 [.vp [rowV (R i) n rc]])) 0 18 [(9, litS (v18i R n h rc c i) (h18 best) .normal (v18 R n h rc c i) (h18 best2))] 6 (v18 R n h rc c i) (h18 best) =
(
 bif decide (Int.ofNat i < Int.ofNat h) then
 bif decide ((0 : Int) ≤ Int.ofNat i) && decide (Int.ofNat i < Int.ofNat h) then
 bif decF (q [T.view 1 n (fun j => [T.int .u8 (R i j)]) rc] (T.fn (44 : Nat) [T.vp [T.view 1 n (fun j => [T.int .u8 (R i j)]) rc]])) then
 bif weakF [T.ptr 0 0 0 0, T.view 1 h (fun i => [T.view 1 n (fun j => [T.int .u8 (R i j)]) rc]) c, T.int .i64 (Int.ofNat h), T.int .i64 (Int.ofNat i), T.fn (44 : Nat) [T.vp [T.view 1 n (fun j => [T.int .u8 (R i j)]) rc]]] [Blk.mk 0 1 1 (fun x => [T.int .i64 best]) true false
 none] [T.ptr 0 0 0 0, T.view 1 h (fun i => [T.view 1 n (fun j => [T.int .u8 (R i j)]) rc]) c, T.int .i64 (Int.ofNat h), T.int .i64 (Int.ofNat i), T.fn (44 : Nat) [T.vp [T.view 1 n (fun j => [T.int .u8 (R i j)]) rc]]] [Blk.mk 0 1 1 (fun x => [T.int .i64 best]) true false
 none] then
 some ((Ex.normal, [T.ptr 0 0 0 0, T.view 1 h (fun i => [T.view 1 n (fun j => [T.int .u8 (R i j)]) rc]) c, T.int .i64 (Int.ofNat h), T.int .i64 (IntKind.i64.wrap (Int.ofNat i + (1 : Int)))], [Blk.mk 0 1 1 (fun x => [T.int .i64 best2]) true false
 none]))
 else none else none else none else
 some ((Ex.exit 0, [T.ptr 0 0 0 0], [Blk.mk 0 1 1 (fun x => [T.int .i64 best]) true false
 none]))) from by kernel_rfl)]
      rw [ofNatE i, ei]
      refine bift (by first | assumption | omega | (simp (disch := omega) only [numsE, List.length_cons, List.length_nil, Nat.reduceAdd]; done) | (simp (disch := omega) only [numsE, List.length_cons, List.length_nil, Nat.reduceAdd]; omega)) ?_
      refine bift (by first | assumption | omega | (simp (disch := omega) only [numsE, List.length_cons, List.length_nil, Nat.reduceAdd]; done) | (simp (disch := omega) only [numsE, List.length_cons, List.length_nil, Nat.reduceAdd]; omega)) ?_
      refine bift (callF_yes hq t2) ?_
      refine bift (weakF_of ⟨rfl, .refl _⟩) ?_
      rfl
    · generalize lgP R n h = best at *
      refine Last.mk0 (A := A18y) (m := 0) none_ok rfl rfl loops0 (h1 := h18 best) (by simp) ?_ (.refl _)
      rw [(show iterR P18 G18 A18y noneO 0 18 [] 6 (v18 R n h rc c h) (h18 best) =
(
 bif decide (Int.ofNat h < Int.ofNat h) then
 bif decide ((0 : Int) ≤ Int.ofNat h) && decide (Int.ofNat h < Int.ofNat h) then none else none else
 some ((Ex.exit 0, [T.ptr 0 0 0 0], [Blk.mk 0 1 1 (fun x => [T.int .i64 best]) true false
 none]))) from by kernel_rfl)]
      (repeat (first | (refine bift (by first | assumption | omega | (simp (disch := omega) only [numsE, List.length_cons, List.length_nil, Nat.reduceAdd]; done) | (simp (disch := omega) only [numsE, List.length_cons, List.length_nil, Nat.reduceAdd]; omega)) ?_) | (refine biff (by first | assumption | (simp (disch := omega) only [numsE, List.length_cons, List.length_nil, Nat.reduceAdd]; done) | (simp (disch := omega) only [numsE, List.length_cons, List.length_nil, Nat.reduceAdd]; omega)) ?_)))
      rfl
  generalize lgP R n h = best at *
  refine stepL_told hm18 hn18 (K := K18c p) (told_add none_ok (callF_told hp)) (A := A18y) (m := 0) (by kernel_rfl) (loops1 hl) ?_
  rw [(show stepL P18 G18 A18y (K18c p) 0 18 [(6, litS (v18 R n h rc c 0) (h18 0) (.exit 0) [.ptr 0 0 0 0] (h18 best))] [picV R n h rc c] =
(
 bif decF (p [T.view 1 h (fun i => [T.view 1 n (fun j => [T.int .u8 (R i j)]) rc]) c] (T.int .i64 (0 : Int))) then
 bif weakF [T.ptr 0 0 0 0, T.view 1 h (fun i => [T.view 1 n (fun j => [T.int .u8 (R i j)]) rc]) c, T.int .i64 (Int.ofNat h), T.int .i64 (0 : Int)] [Blk.mk 0 1 1 (fun e => [T.int .i64 (bif e == (0 : Nat) then (0 : Int)
 else (0 : Int))]) true false
 none] [T.ptr 0 0 0 0, T.view 1 h (fun i => [T.view 1 n (fun j => [T.int .u8 (R i j)]) rc]) c, T.int .i64 (Int.ofNat h), T.int .i64 (0 : Int)] [Blk.mk 0 1 1 (fun x => [T.int .i64 (0 : Int)]) true false
 none] then
 some (T.tup [T.int .i64 best, T.int .i64 (0 : Int)])
 else none else
 none) from by kernel_rfl)]
  refine bift (callF_yes hp t1) ?_
  refine bift (weakF_of ⟨rfl, .cons ⟨rfl, rfl, rfl, id, fun j hj => ?_⟩ .nil⟩) rfl
  obtain rfl : j = 0 := by have : j < 1 := hj; omega
  rfl
end Go.Ab

namespace Go.Ab
open Go.Proofs
theorem strF_eq (f : Nat → Int) (n : Nat) : strF (fun j => [T.int .u8 (f j)]) n = (List.range n).map fun j => UInt8.ofNat (f j).toNat := by
  unfold strF elemsOf
  rw [List.map_map]
  rfl
theorem strF_inj {f g : Nat → Int} {n : Nat} (hf : ∀ j, j < n → 0 ≤ f j ∧ f j < 256) (hg : ∀ j, j < n → 0 ≤ g j ∧ g j < 256) (h : strF (fun j => [T.int .u8 (f j)]) n = strF (fun j => [T.int .u8 (g j)]) n) : ∀ j, j < n → f j = g j := by
  intro j hj
  rw [strF_eq, strF_eq] at h
  have e := List.map_inj_left.1 h j (List.mem_range.2 hj)
  have e2 := congrArg UInt8.toNat e
  have h1 := hf j hj
  have h2 := hg j hj
  rw [UInt8.toNat_ofNat', UInt8.toNat_ofNat'] at e2
  omega
theorem i16 (R S : Nat → Nat → Int) (n h : Nat) (rc c rd d : Option Nat) (i : Nat) : iterR P18 G18 A18 noneO 0 16 [] 4 (v16 R S n h rc c rd d i) [] =
(
 bif decide (Int.ofNat i < Int.ofNat h) then
 bif decide ((0 : Int) ≤ Int.ofNat i) && decide (Int.ofNat i < Int.ofNat h) then
 bif bytesF (fun j => [T.int .u8 (R i j)]) n then
 bif decide ((0 : Int) ≤ Int.ofNat i) && decide (Int.ofNat i < Int.ofNat h) then
 bif bytesF (fun j => [T.int .u8 (S i j)]) n then
 bif !decide (strF (fun j => [T.int .u8 (R i j)]) n = strF (fun j => [T.int .u8 (S i j)]) n) then
 some ((Ex.ret, [T.int .i64 (1 : Int)], []))
 else
 some ((Ex.normal, [T.view 1 h (fun i => [T.view 1 n (fun j => [T.int .u8 (R i j)]) rc]) c, T.view 1 h (fun i => [T.view 1 n (fun j => [T.int .u8 (S i j)]) rd]) d, T.int .i64 (IntKind.i64.wrap (Int.ofNat i + (1 : Int)))], []))
 else none else none else none else none else
 some ((Ex.exit 0, [T.undef], []))) := by kernel_rfl
theorem differ1T (R S : Nat → Nat → Int) (n h : Nat) (rc c rd d : Option Nat) (hh : h ≤ 1000) (hR : ∀ i, i < h → ∀ j, j < n → 0 ≤ R i j ∧ R i j < 256) (hS : ∀ i, i < h → ∀ j, j < n → 0 ≤ S i j ∧ S i j < 256) (hd : ∃ i, i < h ∧ ∃ j, j < n ∧ R i j ≠ S i j) : ToldOk P18 G18 16 [picV R n h rc c, picV S n h rd d] (.int .i64 1) := by
  obtain ⟨I, hI, hne, hlt⟩ : ∃ I, I < h ∧ (∃ j, j < n ∧ R I j ≠ S I j) ∧ ∀ i, i < I → ∀ j, j < n → R i j = S i j := by
    obtain ⟨i, hi, hx⟩ := hd
    clear hR hS
    induction i using Nat.strongRecOn with
    | _ i ih =>
      by_cases q : ∃ k, k < i ∧ ∃ j, j < n ∧ R k j ≠ S k j
      · obtain ⟨k, hk, hx⟩ := q
        exact ih k hk (by omega) hx
      · exact ⟨i, hi, hx, fun k hk j hj => Classical.byContradiction fun hne => q ⟨k, hk, j, hj, hne⟩⟩
  have hl : LoopOk P18 G18 (A18 16) 16 4 (litS (v16 R S n h rc c rd d 0) [] .ret [.int .i64 1] []) := by
    refine loop_steps hm18 (by kernel_rfl) (fun i => v16 R S n h rc c rd d (i : Nat)) (fun _ => []) (n := I) (fun i hi => ?_) ?_
    · refine Step.mk0 (A := A18) (m := 0) none_ok rfl rfl loops0 (h1 := []) ?_ .nil
      rw [i16]
      have ei : IntKind.i64.wrap ((i : Int) + 1) = ((i + 1 : Nat) : Int) := by rw [wr64 (by omega) (by omega)]; omega
      have es : strF (fun j => [T.int .u8 (R i j)]) n = strF (fun j => [T.int .u8 (S i j)]) n := by
        rw [strF_eq, strF_eq]
        refine List.map_inj_left.2 fun j hj => ?_
        rw [hlt i hi j (List.mem_range.1 hj)]
      rw [bytes_row, bytes_row, ofNatE i, ei, es]
      refine bift (by first | assumption | omega | (simp (disch := omega) only [numsE, List.length_cons, List.length_nil, Nat.reduceAdd]; done) | (simp (disch := omega) only [numsE, List.length_cons, List.length_nil, Nat.reduceAdd]; omega)) ?_
      refine bift (by first | assumption | omega | (simp (disch := omega) only [numsE, List.length_cons, List.length_nil, Nat.reduceAdd]; done) | (simp (disch := omega) only [numsE, List.length_cons, List.length_nil, Nat.reduceAdd]; omega)) ?_
      rw [cond_true]
      refine bift (by first | assumption | omega | (simp (disch := omega) only [numsE, List.length_cons, List.length_nil, Nat.reduceAdd]; done) | (simp (disch := omega) only [numsE, List.length_cons, List.length_nil, Nat.reduceAdd]; omega)) ?_
      rw [cond_true]
      refine biff (by simp) ?_
      rfl
    · refine Last.mk0 (A := A18) (m := 0) none_ok rfl rfl loops0 (h1 := []) (by simp) ?_ .nil
      have es : ¬ strF (fun j => [T.int .u8 (R I j)]) n = strF (fun j => [T.int .u8 (S I j)]) n := fun q => by
        obtain ⟨j, hj, hx⟩ := hne
        exact hx (strF_inj (hR I hI) (hS I hI) q j hj)
      rw [i16, bytes_row, bytes_row, ofNatE I]
      refine bift (by first | assumption | omega | (simp (disch := omega) only [numsE, List.length_cons, List.length_nil, Nat.reduceAdd]; done) | (simp (disch := omega) only [numsE, List.length_cons, List.length_nil, Nat.reduceAdd]; omega)) ?_
      refine bift (by first | assumption | omega | (simp (disch := omega) only [numsE, List.length_cons, List.length_nil, Nat.reduceAdd]; done) | (simp (disch := omega) only [numsE, List.length_cons, List.length_nil, Nat.reduceAdd]; omega)) ?_
      rw [cond_true]
      refine bift (by first | assumption | omega | (simp (disch := omega) only [numsE, List.length_cons, List.length_nil, Nat.reduceAdd]; done) | (simp (disch := omega) only [numsE, List.length_cons, List.length_nil, Nat.reduceAdd]; omega)) ?_
      rw [cond_true]
      refine bift (by simpa using es) ?_
      rfl
  refine stepL_told hm18 hn18 none_ok (A := A18) (m := 0) (by kernel_rfl) (loops1 hl) ?_
  rw [(show stepL P18 G18 A18 noneO 0 16 [(4, litS (v16 R S n h rc c rd d 0) [] .ret [.int .i64 1] [])] [picV R n h rc c, picV S n h rd d] =
(
 bif !decide (Int.ofNat h = Int.ofNat h) then
 some (T.int .i64 (1 : Int))
 else
 bif weakF [T.view 1 h (fun i => [T.view 1 n (fun j => [T.int .u8 (R i j)]) rc]) c, T.view 1 h (fun i => [T.view 1 n (fun j => [T.int .u8 (S i j)]) rd]) d, T.int .i64 (0 : Int)] [] [T.view 1 h (fun i => [T.view 1 n (fun j => [T.int .u8 (R i j)]) rc]) c, T.view 1 h (fun i => [T.view 1 n (fun j => [T.int .u8 (S i j)]) rd]) d, T.int .i64 (0 : Int)] [] then
 some (T.int .i64 (1 : Int))
 else
 none) from by kernel_rfl)]
  refine biff (by simp) ?_
  exact bift (weakF_of ⟨rfl, .refl _⟩) rfl
theorem rowV_sim {f g : Nat → Int} {n : Nat} {c : Option Nat} (h : ∀ j, j < n → f j = g j) : Sim (rowV f n c) (rowV g n c) := by
  refine .view (.inl rfl) fun j hj => ?_
  show Sims [T.int .u8 (f j)] [T.int .u8 (g j)]
  rw [h j hj]
  exact .refl _
theorem differ0T (R S : Nat → Nat → Int) (n h : Nat) (rc c rd d : Option Nat) (hh : h ≤ 1000) (he : ∀ i, i < h → ∀ j, j < n → R i j = S i j) : ToldOk P18 G18 16 [picV R n h rc c, picV S n h rd d] (.int .i64 0) := by
  refine (differT R n h rc c rd d hh).sim (.cons (.refl _) (.cons (.view (.inl rfl) fun i hi => ?_) .nil))
  exact .cons (rowV_sim fun j hj => (he i hi j hj).symm) .nil
end Go.Ab

namespace Go.Ab
open Go.Proofs
theorem cntF_congr {w v r : Nat → Int} : ∀ n, (∀ j, j < n → w j = v j) → cntF w r n = cntF v r n
  | 0, _ => rfl
  | n + 1, h => by
    unfold cntF
    rw [h n (by omega), cntF_congr n fun j hj => h j (by omega)]
theorem cntF_zero {w r : Nat → Int} : ∀ n, cntF w r n = 0 ↔ ∀ j, j < n → w j = r j
  | 0 => ⟨fun _ j h => by omega, fun _ => rfl⟩
  | n + 1 => by
    have ih := cntF_zero (w := w) (r := r) n
    unfold cntF
    by_cases q : w n = r n
    · rw [if_pos q, ih]
      constructor
      · intro h j hj
        by_cases q2 : j = n
        · rw [q2]; exact q
        · exact h j (by omega)
      · exact fun h j hj => h j (by omega)
    · rw [if_neg q]
      constructor
      · intro h; omega
      · intro h; exact absurd (h n (by omega)) q
theorem lk_adm {r : Nat → Int} {n : Nat} {cs : Nat → Int} {k : Nat} {most : Int} {w : Nat → Int} (hw : ∀ j, j < n → ∃ i, i < k ∧ cs i = w j) : ∀ m a s, a + m = n → admR most w m a s = true → lk r n cs k most m s ≤ costR r w m a
  | 0, _, _, _, _ => Int.le_refl _
  | m + 1, a, s, ha, h => by
    have h : (s.ok most (w a) && admR most w m (a + 1) (s.nx (w a))) = true := h
    rw [Bool.and_eq_true] at h
    obtain ⟨i, hi, he⟩ := hw a (by omega)
    have ih := lk_adm (r := r) hw m (a + 1) (s.nx (w a)) (by omega) h.2
    have ho : s.ok most (cs i) = true := by rw [he]; exact h.1
    have := lkB_le (r := r) (n := n) (lk r n cs k most m) (n - (m + 1)) s k i hi ho
    rw [he, show n - (m + 1) = a by omega] at this
    show lkB r n cs most (lk r n cs k most m) (n - (m + 1)) s k ≤ chg (r a) (w a) + costR r w m (a + 1)
    rw [show n - (m + 1) = a by omega]
    omega
theorem costR_self (r : Nat → Int) : ∀ m a, costR r r m a = 0
  | 0, _ => rfl
  | m + 1, a => by
    unfold costR
    rw [costR_self r m]
    unfold chg
    rw [dT rfl]
    rfl
theorem two_cs {r : Nat → Int} {n : Nat} (hr : ∀ j, j < n → 0 ≤ r j ∧ r j < 256) (h2 : kK r n ≤ 2) : ∀ j, j < n → ∃ i, i < kK r n ∧ csK r n i = r j := fun j hj => by
  obtain ⟨i, _, c1, c2⟩ := (csK_mem hr (r j)).2 ⟨j, Nat.zero_le _, hj, rfl⟩
  exact ⟨i, c1, c2⟩
section
variable {r : Nat → Int} {n : Nat} {most : Int} (hm : 0 ≤ most) (h1 : 1 ≤ n) (hr : ∀ j, j < n → 0 ≤ r j ∧ r j < 256) (h2 : kK r n ≤ 2)
def wR (r : Nat → Int) (n : Nat) (most : Int) : Nat → Int := wvL r n (csK r n) (kK r n) most
def nR (r : Nat → Int) (n : Nat) (most : Int) : Int := lk r n (csK r n) (kK r n) most n ⟨0, 0, false⟩
include hm h1 hr h2
theorem wR_facts : longest (wR r n most) n ≤ most ∧ nR r n most = cntF (wR r n most) r n ∧ (∀ j, j < n → wR r n most j = lowF r n ∨ wR r n most j = highF r n) := by
  obtain ⟨g1, g2⟩ := ref_same r n most hm h1 hr h2
  have h0 : longest (wb (lowF r n) (highF r n) n 0) n ≤ most := longest_const _ n most hm fun j _ => by rw [wb_zero, wb_zero]
  obtain ⟨_, q2, q3, _, _⟩ := rsF_inv r n most (lowF r n) (highF r n) h0 (2 ^ n - 1)
  have hw : ∀ j, j < n → wb (lowF r n) (highF r n) n (rsF r n most (lowF r n) (highF r n) (2 ^ n - 1)).1 j = lowF r n ∨ wb (lowF r n) (highF r n) n (rsF r n most (lowF r n) (highF r n) (2 ^ n - 1)).1 j = highF r n := fun j _ => by
    unfold wb
    split
    · exact .inr rfl
    · exact .inl rfl
  have hv : ∀ j, j < n → wR r n most j = lowF r n ∨ wR r n most j = highF r n := fun j hj => by
    have := g1 j hj
    change _ = wR r n most j at this
    rw [← this]
    exact hw j hj
  refine ⟨?_, ?_, hv⟩
  · rw [← adm_longest _ n _ _ most hm hv]
    rw [← adm_longest _ n _ _ most hm hw] at q2
    rw [← q2]
    exact admR_congr fun j _ hj => (g1 j (by omega)).symm
  · unfold nR
    rw [← g2, q3]
    exact congrArg _ (cntF_congr n g1)
theorem nR_zero (hl : longest r n ≤ most) : nR r n most = 0 := by
  have hc := two_cs hr h2
  have hw : ∀ j, j < n → r j = csK r n 0 ∨ r j = csK r n 1 := fun j hj => by
    obtain ⟨i, hi, e⟩ := hc j hj
    have : i = 0 ∨ i = 1 := by omega
    rcases this with rfl | rfl
    · exact .inl e.symm
    · exact .inr e.symm
  have ha := (adm_longest r n _ _ most hm hw).2 hl
  have := lk_adm (r := r) (most := most) hc n 0 ⟨0, 0, false⟩ (Nat.zero_add _) ha
  rw [costR_self] at this
  have hf := (wR_facts hm h1 hr h2).2.1
  unfold nR at *
  omega
theorem wR_of (j : Nat) (hj : j < n) : ∃ i, i < n ∧ wR r n most j = r i := by
  rcases (wR_facts hm h1 hr h2).2.2 j hj with e | e <;> rw [e]
  · obtain ⟨i, hi, e⟩ := low_mem r n h1 n (Nat.le_refl _); exact ⟨i, hi, e⟩
  · obtain ⟨i, hi, e⟩ := high_mem r n h1 n (Nat.le_refl _); exact ⟨i, hi, e⟩
theorem wR_two : kK (wR r n most) n ≤ 2 := by
  refine kK_two (a := lowF r n) (b := highF r n) (fun j hj => ?_) fun j hj => (wR_facts hm h1 hr h2).2.2 j hj
  obtain ⟨i, hi, e⟩ := wR_of (most := most) hm h1 hr h2 j hj
  rw [e]; exact hr i hi
theorem nR_iff : nR r n most = 0 ↔ ∀ j, j < n → wR r n most j = r j := by
  rw [(wR_facts hm h1 hr h2).2.1, ← cntF_zero]
  omega
theorem nR_ge : 0 ≤ nR r n most ∧ nR r n most ≤ n := by
  rw [(wR_facts hm h1 hr h2).2.1]
  have := cntF_le (wR r n most) r n
  omega
theorem longest_long (hl : most < longest r n) : nR r n most ≠ 0 := fun h => by
  have e := (nR_iff hm h1 hr h2).1 h
  have q := (wR_facts hm h1 hr h2).1
  have hv : ∀ j, j < n → r j = lowF r n ∨ r j = highF r n := fun j hj => by rw [← e j hj]; exact (wR_facts hm h1 hr h2).2.2 j hj
  rw [← adm_longest _ n _ _ most hm (wR_facts hm h1 hr h2).2.2, admR_congr (v := r) fun j _ hj => e j (by omega), adm_longest r n _ _ most hm hv] at q
  omega
end
theorem wR_again {r : Nat → Int} {n : Nat} {most : Int} (hm : 0 ≤ most) (h1 : 1 ≤ n) (hr : ∀ j, j < n → 0 ≤ r j ∧ r j < 256) (h2 : kK r n ≤ 2) : nR (wR r n most) n most = 0 ∧ ∀ j, j < n → wR (wR r n most) n most j = wR r n most j := by
  have hr2 : ∀ j, j < n → 0 ≤ wR r n most j ∧ wR r n most j < 256 := fun j hj => by
    obtain ⟨i, hi, e⟩ := wR_of (most := most) hm h1 hr h2 j hj
    rw [e]; exact hr i hi
  have e := nR_zero hm h1 hr2 (wR_two hm h1 hr h2) (wR_facts hm h1 hr h2).1
  exact ⟨e, (nR_iff hm h1 hr2 (wR_two hm h1 hr h2)).1 e⟩
theorem sumN_zero {N : Nat → Int} : ∀ h, (∀ i, i < h → 0 ≤ N i) → (sumN N h = 0 ↔ ∀ i, i < h → N i = 0)
  | 0, _ => ⟨fun _ i h => by omega, fun _ => rfl⟩
  | h + 1, hN => by
    have ih := sumN_zero h fun i hi => hN i (by omega)
    have h1 := hN h (by omega)
    have h2 : 0 ≤ sumN N h := by
      clear ih
      induction h with
      | zero => exact Int.le_refl _
      | succ h ih2 =>
        have := ih2 (fun i hi => hN i (by omega)) (hN h (by omega))
        have := hN h (by omega)
        show 0 ≤ sumN N h + N h
        omega
    have e : sumN N (h + 1) = sumN N h + N h := rfl
    rw [e]
    constructor
    · intro q i hi
      by_cases q2 : i = h
      · rw [q2]; omega
      · exact ih.1 (by omega) i (by omega)
    · intro q
      rw [ih.2 fun i hi => q i (by omega), q h (by omega)]
      rfl
end Go.Ab

namespace Go.Ab
open Go.Proofs
def lvw (x : Nat → Nat → Bool) (m : Nat) : T := .view 16 m (fun i => [.bool (x i 0), .bool (x i 1), .bool (x i 2), .bool (x i 3), .bool (x i 4), .bool (x i 5), .bool (x i 6), .bool (x i 7), .bool (x i 8), .bool (x i 9), .bool (x i 10), .bool (x i 11), .bool (x i 12), .bool (x i 13), .bool (x i 14), .bool (x i 15)]) none
def v5 (x : Nat → Nat → Bool) (m : Nat) (mo : Int) (p : T) (lg i : Int) : List T := [lvw x m, .int .i64 mo, p, .int .i64 lg, .int .i64 i]
def v5o (x : Nat → Nat → Bool) (m : Nat) (mo : Int) (p : T) (lg i : Int) (row : T) : List T := [lvw x m, .int .i64 mo, p, .int .i64 lg, .int .i64 i, row]
def v5i (x : Nat → Nat → Bool) (m : Nat) (mo : Int) (p : T) (lg i : Int) (row : T) (k : Int) : List T := [lvw x m, .int .i64 mo, p, .int .i64 lg, .int .i64 i, row, .int .i64 k]
def row5 (L : Nat) : Nat → T
  | 0 => .nils
  | j + 1 => .own L j 0 (j + 1) none
def blk5 (w : Nat → Int) : Nat → Heap
  | 0 => []
  | j + 1 => [lbk j w]
def n5 (L : Nat) : Nat → T
  | 0 => .own (L + 1) 0 0 1 none
  | j + 1 => .own L (j + 1) 0 (j + 1 + 1) none
def hn5 (w : Nat → Int) (c : Int) : Nat → Heap
  | 0 => [⟨0, 1, 1, fun j => [[.int .u8 c]].getD j [], true, true, none⟩, ⟨0, 1, 1, fun j => [[.int .u8 c]].getD (0 + j) [], true, false, none⟩]
  | j + 1 => [⟨j + 1, 1, j + 1 + 1, fun e => bif Nat.blt e (j + 1) then [.int .u8 (w (0 + e))] else [[.int .u8 c]].getD (0 + (e - (j + 1))) [], true, false, none⟩, ⟨0, 1, 1, fun j => [[.int .u8 c]].getD j [], true, true, none⟩]
def pbN (u : Nat) (R : Nat → Nat → Int) : Blk := ⟨u, 1, u + 1, fun e => [rowV (R e) 16 none], false, false, none⟩
def rB (x : Nat → Nat → Bool) (i k : Nat) : Int := bif x i k then 5 else 2
theorem q5nil (x : Nat → Nat → Bool) (m : Nat) (mo lg : Int) (i : Nat) (w : Nat → Int) : ∀ k, k < 16 → iterR P18 G18 A18 noneO 0 5 [] 11 (v5i x m mo .nils lg i (row5 0 k) k) (blk5 w k) =
    bif decide ((0 : Int) ≤ Int.ofNat i) && decide (Int.ofNat i < Int.ofNat m) then bif x i k then some (.normal, v5i x m mo .nils lg i (n5 0 k) ((k : Int) + 1), hn5 w 5 k) else some (.normal, v5i x m mo .nils lg i (n5 0 k) ((k : Int) + 1), hn5 w 2 k) else none := by
  intro k hk
  obtain rfl | rfl | rfl | rfl | rfl | rfl | rfl | rfl | rfl | rfl | rfl | rfl | rfl | rfl | rfl | rfl : k = 0 ∨ k = 1 ∨ k = 2 ∨ k = 3 ∨ k = 4 ∨ k = 5 ∨ k = 6 ∨ k = 7 ∨ k = 8 ∨ k = 9 ∨ k = 10 ∨ k = 11 ∨ k = 12 ∨ k = 13 ∨ k = 14 ∨ k = 15 := by omega
  all_goals kernel_rfl
theorem l5nil (x : Nat → Nat → Bool) (m : Nat) (mo lg : Int) (i : Nat) (hi : i < m) : LoopOk P18 G18 (A18 5) 5 11 (litS (v5i x m mo .nils lg i .nils 0) [] (.exit 2) (v5o x m mo .nils lg i (.own 0 15 0 16 none)) [lbk 15 (rB x i)]) := by
  refine loop_steps hm18 (by kernel_rfl) (fun k => v5i x m mo .nils lg i (row5 0 k) k) (fun k => blk5 (rB x i) k) (n := 16) (fun k hk => ?_) ?_
  · have q := q5nil x m mo lg i (rB x i) k hk
    rw [show (decide ((0 : Int) ≤ Int.ofNat i) && decide (Int.ofNat i < Int.ofNat m)) = true by simp [hi], cond_true] at q
    have e : iterR P18 G18 A18 noneO 0 5 [] 11 (v5i x m mo .nils lg i (row5 0 k) k) (blk5 (rB x i) k) = some (.normal, v5i x m mo .nils lg i (n5 0 k) ((k : Int) + 1), hn5 (rB x i) (rB x i k) k) := by
      rw [q]
      unfold rB
      cases x i k <;> rfl
    have ek : ((k : Int) + 1) = ((k + 1 : Nat) : Int) := by omega
    rw [ek] at e
    clear q hk ek
    cases k with
    | zero =>
      refine Step.mkC (A := A18) (m := 0) none_ok rfl rfl loops0 [1] e (by kernel_rfl) (v2 := v5i x m mo .nils lg i (row5 0 1) (0 + 1 : Nat)) (by rfl) rfl fun nt => .same ?_
      refine .cons ⟨rfl, rfl, rfl, id, fun j hj => ?_⟩ .nil
      obtain rfl := one_of hj
      rfl
    | succ y =>
      refine Step.mkC (A := A18) (m := 0) none_ok rfl rfl loops0 [0] e (by kernel_rfl) (v2 := v5i x m mo .nils lg i (row5 0 (y + 1 + 1)) (y + 1 + 1 : Nat)) (by rfl) rfl fun nt => .same ?_
      refine .cons ⟨rfl, rfl, rfl, id, fun e he => ?_⟩ .nil
      have he : e < y + 1 + 1 := he
      show [T.int .u8 (rB x i e)] = bif Nat.blt e (y + 1) then [T.int .u8 (rB x i (0 + e))] else [[T.int .u8 (rB x i (y + 1))]].getD (0 + (e - (y + 1))) []
      by_cases q : e < y + 1
      · rw [bltT q, cond_true, Nat.zero_add]
      · obtain rfl : e = y + 1 := by omega
        rw [bltF (by omega), cond_false, Nat.sub_self]
        rfl
  · refine Last.mk0 (A := A18) (m := 0) none_ok rfl rfl loops0 (h1 := [lbk 15 (rB x i)]) (by simp) ?_ (.refl _)
    show iterR P18 G18 A18 noneO 0 5 [] 11 (v5i x m mo .nils lg i (.own 0 15 0 16 none) 16) [lbk 15 (rB x i)] = _
    generalize rB x i = w
    rw [(show iterR P18 G18 A18 noneO 0 5 [] 11 (v5i x m mo .nils lg i (.own 0 15 0 16 none) 16) [lbk 15 w] =
(
 some ((Ex.exit 2, [T.view 16 m (fun i => [T.bool (x i (0 : Nat)), T.bool (x i (1 : Nat)), T.bool (x i (2 : Nat)), T.bool (x i (3 : Nat)), T.bool (x i (4 : Nat)), T.bool (x i (5 : Nat)), T.bool (x i (6 : Nat)), T.bool (x i (7 : Nat)), T.bool (x i (8 : Nat)), T.bool (x i (9 : Nat)), T.bool (x i (10 : Nat)), T.bool (x i (11 : Nat)), T.bool (x i (12 : Nat)), T.bool (x i (13 : Nat)), T.bool (x i (14 : Nat)), T.bool (x i (15 : Nat))])
 none, T.int .i64 mo, T.nils, T.int .i64 lg, T.int .i64 (Int.ofNat i), T.own 0 15 0 16
 none], [Blk.mk 15 1 16 (fun e => [T.int .u8 (w e)]) true false
 none]))) from by kernel_rfl)]
    rfl
theorem q5own (x : Nat → Nat → Bool) (m : Nat) (mo lg : Int) (i : Nat) (w : Nat → Int) (u : Nat) (R : Nat → Nat → Int) : ∀ k, k < 16 → iterR P18 G18 A18 noneO 0 5 [] 11 (v5i x m mo (pO u) lg i (row5 1 k) k) ([pbN u R] ++ blk5 w k) =
    bif decide ((0 : Int) ≤ Int.ofNat i) && decide (Int.ofNat i < Int.ofNat m) then bif x i k then some (.normal, v5i x m mo (pO u) lg i (n5 1 k) ((k : Int) + 1), [pbN u R] ++ hn5 w 5 k) else some (.normal, v5i x m mo (pO u) lg i (n5 1 k) ((k : Int) + 1), [pbN u R] ++ hn5 w 2 k) else none := by
  intro k hk
  obtain rfl | rfl | rfl | rfl | rfl | rfl | rfl | rfl | rfl | rfl | rfl | rfl | rfl | rfl | rfl | rfl : k = 0 ∨ k = 1 ∨ k = 2 ∨ k = 3 ∨ k = 4 ∨ k = 5 ∨ k = 6 ∨ k = 7 ∨ k = 8 ∨ k = 9 ∨ k = 10 ∨ k = 11 ∨ k = 12 ∨ k = 13 ∨ k = 14 ∨ k = 15 := by omega
  all_goals kernel_rfl
theorem l5own (x : Nat → Nat → Bool) (m : Nat) (mo lg : Int) (i : Nat) (u : Nat) (R : Nat → Nat → Int) (hi : i < m) : LoopOk P18 G18 (A18 5) 5 11 (litS (v5i x m mo (pO u) lg i .nils 0) [pbN u R] (.exit 2) (v5o x m mo (pO u) lg i (.own 1 15 0 16 none)) [pbN u R, lbk 15 (rB x i)]) := by
  refine loop_steps hm18 (by kernel_rfl) (fun k => v5i x m mo (pO u) lg i (row5 1 k) k) (fun k => [pbN u R] ++ blk5 (rB x i) k) (n := 16) (fun k hk => ?_) ?_
  · have q := q5own x m mo lg i (rB x i) u R k hk
    rw [show (decide ((0 : Int) ≤ Int.ofNat i) && decide (Int.ofNat i < Int.ofNat m)) = true by simp [hi], cond_true] at q
    have e : iterR P18 G18 A18 noneO 0 5 [] 11 (v5i x m mo (pO u) lg i (row5 1 k) k) ([pbN u R] ++ blk5 (rB x i) k) = some (.normal, v5i x m mo (pO u) lg i (n5 1 k) ((k : Int) + 1), [pbN u R] ++ hn5 (rB x i) (rB x i k) k) := by
      rw [q]
      unfold rB
      cases x i k <;> rfl
    have ek : ((k : Int) + 1) = ((k + 1 : Nat) : Int) := by omega
    rw [ek] at e
    clear q hk ek
    cases k with
    | zero =>
      refine Step.mkC (A := A18) (m := 0) none_ok rfl rfl loops0 [0, 2] e (by kernel_rfl) (v2 := v5i x m mo (pO u) lg i (row5 1 1) (0 + 1 : Nat)) (by rfl) rfl fun nt => .same ?_
      refine .cons ⟨rfl, rfl, rfl, id, fun j hj => rfl⟩ (.cons ⟨rfl, rfl, rfl, id, fun j hj => ?_⟩ .nil)
      obtain rfl := one_of hj
      rfl
    | succ y =>
      refine Step.mkC (A := A18) (m := 0) none_ok rfl rfl loops0 [0, 1] e (by kernel_rfl) (v2 := v5i x m mo (pO u) lg i (row5 1 (y + 1 + 1)) (y + 1 + 1 : Nat)) (by rfl) rfl fun nt => .same ?_
      refine .cons ⟨rfl, rfl, rfl, id, fun j hj => rfl⟩ (.cons ⟨rfl, rfl, rfl, id, fun e he => ?_⟩ .nil)
      have he : e < y + 1 + 1 := he
      show [T.int .u8 (rB x i e)] = bif Nat.blt e (y + 1) then [T.int .u8 (rB x i (0 + e))] else [[T.int .u8 (rB x i (y + 1))]].getD (0 + (e - (y + 1))) []
      by_cases q : e < y + 1
      · rw [bltT q, cond_true, Nat.zero_add]
      · obtain rfl : e = y + 1 := by omega
        rw [bltF (by omega), cond_false, Nat.sub_self]
        rfl
  · refine Last.mk0 (A := A18) (m := 0) none_ok rfl rfl loops0 (h1 := [pbN u R, lbk 15 (rB x i)]) (by simp) ?_ (.refl _)
    show iterR P18 G18 A18 noneO 0 5 [] 11 (v5i x m mo (pO u) lg i (.own 1 15 0 16 none) 16) [pbN u R, lbk 15 (rB x i)] = _
    generalize rB x i = w
    rw [(show iterR P18 G18 A18 noneO 0 5 [] 11 (v5i x m mo (pO u) lg i (.own 1 15 0 16 none) 16) [pbN u R, lbk 15 w] =
(
 some ((Ex.exit 2, [T.view 16 m (fun i => [T.bool (x i (0 : Nat)), T.bool (x i (1 : Nat)), T.bool (x i (2 : Nat)), T.bool (x i (3 : Nat)), T.bool (x i (4 : Nat)), T.bool (x i (5 : Nat)), T.bool (x i (6 : Nat)), T.bool (x i (7 : Nat)), T.bool (x i (8 : Nat)), T.bool (x i (9 : Nat)), T.bool (x i (10 : Nat)), T.bool (x i (11 : Nat)), T.bool (x i (12 : Nat)), T.bool (x i (13 : Nat)), T.bool (x i (14 : Nat)), T.bool (x i (15 : Nat))])
 none, T.int .i64 mo, T.own 0 u 0 (u + (1 : Nat))
 none, T.int .i64 lg, T.int .i64 (Int.ofNat i), T.own 1 15 0 16
 none], [Blk.mk u 1 (u + (1 : Nat)) (fun e => [T.view 1 16 (fun j => [T.int .u8 (R e j)])
 none]) false false
 none, Blk.mk 15 1 16 (fun e => [T.int .u8 (w e)]) true false
 none]))) from by kernel_rfl)]
    rfl
end Go.Ab

namespace Go.Ab
open Go.Proofs
noncomputable def K5 (p : List T → T → Prop) (l : Int) : Orc := noneO.add 17 (callF p fun _ => some (.int .i64 l))
def p5 : Nat → T
  | 0 => .nils
  | j + 1 => pO j
def h5 (R : Nat → Nat → Int) : Nat → Heap
  | 0 => []
  | j + 1 => [pbN j R]
theorem ren0_lbk {σ : List Nat} {h : Heap} {ix j : Nat} {y : Nat → Int} (hp : posOf σ ix = none) (hc : σ.contains ix = false) (hi : h[ix]? = some (lbk j y)) : ren0 σ h (.own ix j 0 (j + 1) none) = rowV y (j + 1) none := by
  unfold lbk at hi
  simp only [ren0, hp, resolve, hc, cond_false, hi, beq_self_eq_true, Bool.true_and, Option.isNone_none]
  rw [show Nat.ble (0 + (j + 1)) (j + 1) = true from bleT (by omega)]
  simp only [cond_true, Nat.zero_add]
  rfl
theorem l5 (x : Nat → Nat → Bool) (m : Nat) (mo : Int) (hm : m ≤ 31) (h1 : 1 ≤ m) : LoopOk P18 G18 (A18 5) 5 7 (litS (v5 x m mo .nils 0 0) [] (.exit 0) [.int .i64 mo, picV (rB x) 16 m none none, .int .i64 (lgP (rB x) 16 m)] []) := by
  obtain ⟨q, hq⟩ := is_val P18 G18 17
  refine loop_steps hm18 (by kernel_rfl) (fun i => v5 x m mo (p5 i) (lgP (rB x) 16 i) i) (fun i => h5 (rB x) i) (n := m) (fun i hi => ?_) ?_
  · have t1 := longT (rB x i) 16 none (by omega) fun j _ => by unfold rB; cases x i j <;> decide
    have e1 : lgP (rB x) 16 (i + 1) = bif decide (lgP (rB x) 16 i < longest (rB x i) 16) then longest (rB x i) 16 else lgP (rB x) 16 i := rfl
    rw [e1]
    have ei : IntKind.i64.wrap ((i : Int) + 1) = ((i + 1 : Nat) : Int) := by rw [wr64 (by omega) (by omega)]; omega
    generalize longest (rB x i) 16 = l at *
    generalize lgP (rB x) 16 i = lg at *
    have e0 : (fun j => [T.int .u8 (rB x i (0 + j))]) = fun j => [T.int .u8 (rB x i j)] := by funext j; rw [Nat.zero_add]
    cases i with
    | zero =>
      have hl := l5nil x m mo lg 0 hi
      generalize hw : rB x 0 = w at *
      refine Step.mkC (A := A18) (K := K5 q l) (m := 0) (told_add none_ok (callF_told hq)) rfl rfl (loops1 hl) [2] (v1 := v5 x m mo (.own 2 0 0 1 none) (bif decide (lg < l) then l else lg) (0 + 1 : Nat)) (h1 := [lbk 15 w, ⟨0, 1, 1, fun j => [[.own 0 15 0 16 none]].getD j [], false, true, none⟩, ⟨0, 1, 1, fun j => [[.own 0 15 0 16 none]].getD (0 + j) [], false, false, none⟩]) ?_ (by kernel_rfl) (v2 := v5 x m mo (pO 0) (bif decide (lg < l) then l else lg) (0 + 1 : Nat)) (by rfl) rfl fun nt => .same (.cons ⟨rfl, rfl, rfl, id, fun j hj => ?_⟩ .nil)
      · show iterR P18 G18 A18 (K5 q l) 0 5 _ 7 (v5 x m mo .nils lg (0 : Nat)) [] = _
        rw [(show iterR P18 G18 A18 (K5 q l) 0 5 [(11, litS (v5i x m mo .nils lg (0 : Nat) .nils 0) [] (.exit 2) (v5o x m mo .nils lg (0 : Nat) (.own 0 15 0 16 none)) [lbk 15 w])] 7 (v5 x m mo .nils lg (0 : Nat)) [] =
(
 bif decide ((0 : Int) < Int.ofNat m) then
 bif weakF [T.view 16 m (fun i => [T.bool (x i (0 : Nat)), T.bool (x i (1 : Nat)), T.bool (x i (2 : Nat)), T.bool (x i (3 : Nat)), T.bool (x i (4 : Nat)), T.bool (x i (5 : Nat)), T.bool (x i (6 : Nat)), T.bool (x i (7 : Nat)), T.bool (x i (8 : Nat)), T.bool (x i (9 : Nat)), T.bool (x i (10 : Nat)), T.bool (x i (11 : Nat)), T.bool (x i (12 : Nat)), T.bool (x i (13 : Nat)), T.bool (x i (14 : Nat)), T.bool (x i (15 : Nat))])
 none, T.int .i64 mo, T.nils, T.int .i64 lg, T.int .i64 (0 : Int), T.nils, T.int .i64 (0 : Int)] [] [T.view 16 m (fun i => [T.bool (x i (0 : Nat)), T.bool (x i (1 : Nat)), T.bool (x i (2 : Nat)), T.bool (x i (3 : Nat)), T.bool (x i (4 : Nat)), T.bool (x i (5 : Nat)), T.bool (x i (6 : Nat)), T.bool (x i (7 : Nat)), T.bool (x i (8 : Nat)), T.bool (x i (9 : Nat)), T.bool (x i (10 : Nat)), T.bool (x i (11 : Nat)), T.bool (x i (12 : Nat)), T.bool (x i (13 : Nat)), T.bool (x i (14 : Nat)), T.bool (x i (15 : Nat))])
 none, T.int .i64 mo, T.nils, T.int .i64 lg, T.int .i64 (0 : Int), T.nils, T.int .i64 (0 : Int)] [] then
 bif decF (q [T.view 1 16 (fun j => [T.int .u8 (w ((0 : Nat) + j))])
 none] (T.int .i64 l)) then
 some ((Ex.normal, [T.view 16 m (fun i => [T.bool (x i (0 : Nat)), T.bool (x i (1 : Nat)), T.bool (x i (2 : Nat)), T.bool (x i (3 : Nat)), T.bool (x i (4 : Nat)), T.bool (x i (5 : Nat)), T.bool (x i (6 : Nat)), T.bool (x i (7 : Nat)), T.bool (x i (8 : Nat)), T.bool (x i (9 : Nat)), T.bool (x i (10 : Nat)), T.bool (x i (11 : Nat)), T.bool (x i (12 : Nat)), T.bool (x i (13 : Nat)), T.bool (x i (14 : Nat)), T.bool (x i (15 : Nat))])
 none, T.int .i64 mo, T.own [Blk.mk 15 1 16 (fun e => [T.int .u8 (w e)]) true false
 none, Blk.mk 0 1 1 (fun j => [[T.own 0 15 0 16
 none]].getD j []) false true
 none].length (0 : Nat) (0 : Nat) (1 : Nat)
 none, T.int .i64 (bif decide (lg < l) then l
 else lg), T.int .i64 (1 : Int)], [Blk.mk 15 1 16 (fun e => [T.int .u8 (w e)]) true false
 none, Blk.mk 0 1 1 (fun j => [[T.own 0 15 0 16
 none]].getD j []) false true
 none, Blk.mk 0 1 1 (fun j => [[T.own 0 15 0 16
 none]].getD ((0 : Nat) + j) []) false false
 none]))
 else none else none else
 some ((Ex.exit 0, [T.int .i64 mo, T.nils, T.int .i64 lg], []))) from by kernel_rfl)]
        rw [e0]
        refine bift (by first | assumption | omega | (simp (disch := omega) only [numsE, List.length_cons, List.length_nil, Nat.reduceAdd]; done) | (simp (disch := omega) only [numsE, List.length_cons, List.length_nil, Nat.reduceAdd]; omega)) ?_
        refine bift (weakF_of ⟨rfl, .refl _⟩) ?_
        refine bift (callF_yes hq t1) ?_
        rfl
      · obtain rfl := one_of hj
        show [rowV (rB x 0) 16 none] = [ren0 [2] _ (.own 0 15 0 16 none)]
        rw [ren0_lbk (j := 15) (y := w) rfl rfl rfl, hw]
    | succ u =>
      have hl := l5own x m mo lg (u + 1) u (rB x) hi
      generalize hw : rB x (u + 1) = w at *
      generalize hR : rB x = R at *
      refine Step.mkC (A := A18) (K := K5 q l) (m := 0) (told_add none_ok (callF_told hq)) rfl rfl (loops1 hl) [0] (v1 := v5 x m mo (pO (u + 1)) (bif decide (lg < l) then l else lg) (u + 1 + 1 : Nat)) (h1 := [⟨u + 1, 1, u + 1 + 1, fun e => bif Nat.blt e (u + 1) then [rowV (R (0 + e)) 16 none] else [[.own 1 15 0 16 none]].getD (0 + (e - (u + 1))) [], false, false, none⟩, lbk 15 w, ⟨0, 1, 1, fun j => [[.own 1 15 0 16 none]].getD j [], false, true, none⟩]) ?_ (by kernel_rfl) (v2 := v5 x m mo (pO (u + 1)) (bif decide (lg < l) then l else lg) (u + 1 + 1 : Nat)) (by rfl) rfl fun nt => .same (.cons ⟨rfl, rfl, rfl, id, fun e he => ?_⟩ .nil)
      · show iterR P18 G18 A18 (K5 q l) 0 5 _ 7 (v5 x m mo (pO u) lg (u + 1 : Nat)) [pbN u R] = _
        rw [(show iterR P18 G18 A18 (K5 q l) 0 5 [(11, litS (v5i x m mo (pO u) lg (u + 1 : Nat) .nils 0) [pbN u R] (.exit 2) (v5o x m mo (pO u) lg (u + 1 : Nat) (.own 1 15 0 16 none)) [pbN u R, lbk 15 w])] 7 (v5 x m mo (pO u) lg (u + 1 : Nat)) [pbN u R] =
(
 bif decide (Int.ofNat (u + (1 : Nat)) < Int.ofNat m) then
 bif weakF [T.view 16 m (fun i => [T.bool (x i (0 : Nat)), T.bool (x i (1 : Nat)), T.bool (x i (2 : Nat)), T.bool (x i (3 : Nat)), T.bool (x i (4 : Nat)), T.bool (x i (5 : Nat)), T.bool (x i (6 : Nat)), T.bool (x i (7 : Nat)), T.bool (x i (8 : Nat)), T.bool (x i (9 : Nat)), T.bool (x i (10 : Nat)), T.bool (x i (11 : Nat)), T.bool (x i (12 : Nat)), T.bool (x i (13 : Nat)), T.bool (x i (14 : Nat)), T.bool (x i (15 : Nat))])
 none, T.int .i64 mo, T.own 0 u 0 (u + (1 : Nat))
 none, T.int .i64 lg, T.int .i64 (Int.ofNat (u + (1 : Nat))), T.nils, T.int .i64 (0 : Int)] [Blk.mk u 1 (u + (1 : Nat)) (fun e => [T.view 1 16 (fun j => [T.int .u8 (R e j)])
 none]) false false
 none] [T.view 16 m (fun i => [T.bool (x i (0 : Nat)), T.bool (x i (1 : Nat)), T.bool (x i (2 : Nat)), T.bool (x i (3 : Nat)), T.bool (x i (4 : Nat)), T.bool (x i (5 : Nat)), T.bool (x i (6 : Nat)), T.bool (x i (7 : Nat)), T.bool (x i (8 : Nat)), T.bool (x i (9 : Nat)), T.bool (x i (10 : Nat)), T.bool (x i (11 : Nat)), T.bool (x i (12 : Nat)), T.bool (x i (13 : Nat)), T.bool (x i (14 : Nat)), T.bool (x i (15 : Nat))])
 none, T.int .i64 mo, T.own 0 u 0 (u + (1 : Nat))
 none, T.int .i64 lg, T.int .i64 (Int.ofNat (u + (1 : Nat))), T.nils, T.int .i64 (0 : Int)] [Blk.mk u 1 (u + (1 : Nat)) (fun e => [T.view 1 16 (fun j => [T.int .u8 (R e j)])
 none]) false false
 none] then
 bif decF (q [T.view 1 16 (fun j => [T.int .u8 (w ((0 : Nat) + j))])
 none] (T.int .i64 l)) then
 bif u == u && true then
 bif ((0 : Nat) + (u + (1 : Nat))).ble (u + (1 : Nat)) then
 bif ((u + (1 : Nat) + (1 : Nat)) * (25 : Nat)).ble 70368744177664 then
 bif ((0 : Nat) + (u + (1 : Nat)) + (1 : Nat)).ble (u + (1 : Nat)) then
 some ((Ex.normal, [T.view 16 m (fun i => [T.bool (x i (0 : Nat)), T.bool (x i (1 : Nat)), T.bool (x i (2 : Nat)), T.bool (x i (3 : Nat)), T.bool (x i (4 : Nat)), T.bool (x i (5 : Nat)), T.bool (x i (6 : Nat)), T.bool (x i (7 : Nat)), T.bool (x i (8 : Nat)), T.bool (x i (9 : Nat)), T.bool (x i (10 : Nat)), T.bool (x i (11 : Nat)), T.bool (x i (12 : Nat)), T.bool (x i (13 : Nat)), T.bool (x i (14 : Nat)), T.bool (x i (15 : Nat))])
 none, T.int .i64 mo, T.own 0 u 0 (u + (1 : Nat) + (1 : Nat))
 none, T.int .i64 (bif decide (lg < l) then l
 else lg), T.int .i64 (IntKind.i64.wrap (Int.ofNat (u + (1 : Nat)) + (1 : Int)))], [Blk.mk u 1 (u + (1 : Nat)) (fun j =>
 bif ((0 : Nat) + (u + (1 : Nat))).ble j && j.blt ((0 : Nat) + (u + (1 : Nat)) + (1 : Nat)) then [[T.own 1 15 0 16
 none]].getD ((0 : Nat) + (j - ((0 : Nat) + (u + (1 : Nat))))) []
 else [T.view 1 16 (fun j_1 => [T.int .u8 (R j j_1)])
 none]) false false
 none, Blk.mk 15 1 16 (fun e => [T.int .u8 (w e)]) true false
 none, Blk.mk 0 1 1 (fun j => [[T.own 1 15 0 16
 none]].getD j []) false true
 none]))
 else
 some ((Ex.normal, [T.view 16 m (fun i => [T.bool (x i (0 : Nat)), T.bool (x i (1 : Nat)), T.bool (x i (2 : Nat)), T.bool (x i (3 : Nat)), T.bool (x i (4 : Nat)), T.bool (x i (5 : Nat)), T.bool (x i (6 : Nat)), T.bool (x i (7 : Nat)), T.bool (x i (8 : Nat)), T.bool (x i (9 : Nat)), T.bool (x i (10 : Nat)), T.bool (x i (11 : Nat)), T.bool (x i (12 : Nat)), T.bool (x i (13 : Nat)), T.bool (x i (14 : Nat)), T.bool (x i (15 : Nat))])
 none, T.int .i64 mo, T.own 0 (u + (1 : Nat)) (0 : Nat) (u + (1 : Nat) + (1 : Nat))
 none, T.int .i64 (bif decide (lg < l) then l
 else lg), T.int .i64 (IntKind.i64.wrap (Int.ofNat (u + (1 : Nat)) + (1 : Int)))], [Blk.mk (u + (1 : Nat)) (1 : Nat) (u + (1 : Nat) + (1 : Nat)) (fun j =>
 bif j.blt (u + (1 : Nat)) then [T.view 1 16 (fun j_1 => [T.int .u8 (R ((0 : Nat) + j) j_1)])
 none]
 else [[T.own 1 15 0 16
 none]].getD ((0 : Nat) + (j - (u + (1 : Nat)))) []) false false
 none, Blk.mk 15 1 16 (fun e => [T.int .u8 (w e)]) true false
 none, Blk.mk 0 1 1 (fun j => [[T.own 1 15 0 16
 none]].getD j []) false true
 none]))
 else none else none else none else none else none else
 some ((Ex.exit 0, [T.int .i64 mo, T.own 0 u 0 (u + (1 : Nat))
 none, T.int .i64 lg], [Blk.mk u 1 (u + (1 : Nat)) (fun e => [T.view 1 16 (fun j => [T.int .u8 (R e j)])
 none]) false false
 none]))) from by kernel_rfl)]
        rw [e0, ofNatE (u + 1), ei]
        refine bift (by first | assumption | omega | (simp (disch := omega) only [numsE, List.length_cons, List.length_nil, Nat.reduceAdd]; done) | (simp (disch := omega) only [numsE, List.length_cons, List.length_nil, Nat.reduceAdd]; omega)) ?_
        refine bift (weakF_of ⟨rfl, .refl _⟩) ?_
        refine bift (callF_yes hq t1) ?_
        refine bift (by simp) ?_
        refine bift (by first | assumption | omega | (simp (disch := omega) only [numsE, List.length_cons, List.length_nil, Nat.reduceAdd]; done) | (simp (disch := omega) only [numsE, List.length_cons, List.length_nil, Nat.reduceAdd]; omega)) ?_
        refine bift (by first | assumption | omega | (simp (disch := omega) only [numsE, List.length_cons, List.length_nil, Nat.reduceAdd]; done) | (simp (disch := omega) only [numsE, List.length_cons, List.length_nil, Nat.reduceAdd]; omega)) ?_
        refine biff (by first | assumption | (simp (disch := omega) only [numsE, List.length_cons, List.length_nil, Nat.reduceAdd]; done) | (simp (disch := omega) only [numsE, List.length_cons, List.length_nil, Nat.reduceAdd]; omega)) ?_
        rfl
      · have he : e < u + 1 + 1 := he
        show [rowV (R e) 16 none] = List.map (ren0 [0] _) (bif Nat.blt e (u + 1) then [rowV (R (0 + e)) 16 none] else [[T.own 1 15 0 16 none]].getD (0 + (e - (u + 1))) [])
        by_cases q : e < u + 1
        · rw [bltT q, cond_true, Nat.zero_add]
          rfl
        · obtain rfl : e = u + 1 := by omega
          rw [bltF (Nat.le_refl _), cond_false, Nat.sub_self]
          show _ = [ren0 [0] _ (.own 1 15 0 16 none)]
          rw [ren0_lbk (j := 15) (y := w) rfl rfl rfl, hw]
  · obtain ⟨u, rfl⟩ : ∃ u, m = u + 1 := ⟨m - 1, by omega⟩
    generalize lgP (rB x) 16 (u + 1) = lg
    show Last P18 G18 (A18 5) 5 7 _ (v5 x (u + 1) mo (pO u) lg (u + 1 : Nat)) [pbN u (rB x)] (.exit 0) [.int .i64 mo, picV (rB x) 16 (u + 1) none none, .int .i64 lg] []
    generalize rB x = R
    have e : ren [] [pbN u R] (pO u) = picV R 16 (u + 1) none none := by
      show ren0 [] [pbN u R] (.own 0 u 0 (u + 1) none) = _
      simp only [ren0, posOf, resolve, List.contains_nil, cond_false, List.getElem?_cons_zero, pbN, beq_self_eq_true, Bool.true_and, Option.isNone_none]
      rw [show Nat.ble (0 + (u + 1)) (u + 1) = true from bleT (by omega)]
      simp only [cond_true, Nat.zero_add]
      rfl
    refine Last.mkC (A := A18) (m := 0) none_ok rfl rfl loops0 (by simp) [] (v1 := [.int .i64 mo, pO u, .int .i64 lg]) (h1 := [pbN u R]) ?_ (by kernel_rfl) (v2 := [.int .i64 mo, picV R 16 (u + 1) none none, .int .i64 lg]) (by show [_, ren [] [pbN u R] (pO u), _] = _; rw [e]; rfl) rfl fun nt => .same .nil
    rw [(show iterR P18 G18 A18 noneO 0 5 [] 7 (v5 x (u + 1) mo (pO u) lg (u + 1 : Nat)) [pbN u R] =
(
 bif decide (Int.ofNat (u + (1 : Nat)) < Int.ofNat (u + (1 : Nat))) then none else
 some ((Ex.exit 0, [T.int .i64 mo, T.own 0 u 0 (u + (1 : Nat))
 none, T.int .i64 lg], [Blk.mk u 1 (u + (1 : Nat)) (fun e => [T.view 1 16 (fun j => [T.int .u8 (R e j)])
 none]) false false
 none]))) from by kernel_rfl)]
    refine biff (by first | assumption | (simp (disch := omega) only [numsE, List.length_cons, List.length_nil, Nat.reduceAdd]; done) | (simp (disch := omega) only [numsE, List.length_cons, List.length_nil, Nat.reduceAdd]; omega)) ?_
    rfl
end Go.Ab

namespace Go.Ab
open Go.Proofs
noncomputable def K5z (p14 p18 p16 p12 : List T → T → Prop) (m : Nat) (R W W2 : Nat → Nat → Int) (n a d : Int) : Orc :=
  (((noneO.add 14 (callF p14 fun l => match l with
    | [.view _ _ _ none, _] => some (.tup [.view 1 m (fun i => [wrow 16 (W i)]) (some m), .int .i64 n, .int .i64 0])
    | [.view _ _ _ (some _), _] => some (.tup [.view 1 m (fun i => [wrow 16 (W2 i)]) (some m), .int .i64 0, .int .i64 0])
    | _ => none)).add 18 (callF p18 fun _ => some (.tup [.int .i64 a, .int .i64 0]))).add 16 (callF p16 fun l => match l with
    | [.view _ _ _ none, _] => some (.int .i64 d)
    | [.view _ _ _ (some _), _] => some (.int .i64 0)
    | _ => none)).add 12 (callF p12 fun _ => some (.bool true))
theorem law5 (x : Nat → Nat → Bool) (m : Nat) (mo8 : Int) (hmo : 0 ≤ mo8 ∧ mo8 < 256) : ToldOk P18 G18 5 [lvw x m, .int .u8 mo8] (.bool true) := by
  by_cases hbad : 31 < m ∨ m % 2 = 0
  · refine stepL_told hm18 hn18 none_ok (A := A18) (m := 0) (by kernel_rfl) loops0 ?_
    rw [(show stepL P18 G18 A18 noneO 0 5 [] [lvw x m, .int .u8 mo8] =
(
 bif decide ((31 : Int) < Int.ofNat m) then
 some (T.bool true)
 else
 bif decide ((Int.ofNat m).tmod (2 : Int) = (0 : Int)) then
 some (T.bool true)
 else
 none) from by kernel_rfl)]
    by_cases q : 31 < m
    · exact bift (by first | assumption | omega | (simp (disch := omega) only [numsE, List.length_cons, List.length_nil, Nat.reduceAdd]; done) | (simp (disch := omega) only [numsE, List.length_cons, List.length_nil, Nat.reduceAdd]; omega)) rfl
    · have q2 : m % 2 = 0 := by omega
      refine biff (by first | assumption | (simp (disch := omega) only [numsE, List.length_cons, List.length_nil, Nat.reduceAdd]; done) | (simp (disch := omega) only [numsE, List.length_cons, List.length_nil, Nat.reduceAdd]; omega)) ?_
      refine bift (decide_eq_true ?_) rfl
      rw [ofNatE, Int.tmod_eq_emod_of_nonneg (by omega)]
      omega
  obtain ⟨p14, hp14⟩ := is_val P18 G18 14
  obtain ⟨p18, hp18⟩ := is_val P18 G18 18
  obtain ⟨p16, hp16⟩ := is_val P18 G18 16
  obtain ⟨p12, hp12⟩ := is_val P18 G18 12
  have em : IntKind.i64.wrap (1 + IntKind.i64.wrap (mo8.tmod 16)) = 1 + mo8 % 16 := by
    rw [Int.tmod_eq_emod_of_nonneg hmo.1, wr64 (x := mo8 % 16) (by omega) (by omega), wr64 (by omega) (by omega)]
  have hm : 1 ≤ 1 + mo8 % 16 ∧ 1 + mo8 % 16 ≤ 16 := by omega
  generalize 1 + mo8 % 16 = mo at *
  have hm0 : 0 ≤ mo := by omega
  have hl := l5 x m mo (by omega) (by omega)
  have hRc : ∀ i j, rB x i j = 5 ∨ rB x i j = 2 := fun i j => by unfold rB; cases x i j <;> simp
  generalize rB x = R at *
  have hr : ∀ i j, 0 ≤ R i j ∧ R i j < 256 := fun i j => by rcases hRc i j with h | h <;> rw [h] <;> decide
  have h2 : ∀ i, kK (R i) 16 ≤ 2 := fun i => kK_two (a := 5) (b := 2) (fun j _ => hr i j) fun j _ => hRc i j
  have n1 : 1 ≤ 16 := by omega
  have ok : PicOk R 16 m := ⟨n1, by unfold nmax; omega, by omega, by omega, fun i _ j _ => by rcases hRc i j with h | h <;> rw [h] <;> decide, fun i _ => h2 i⟩
  have hWr : ∀ i j, j < 16 → 1 ≤ wR (R i) 16 mo j ∧ wR (R i) 16 mo j ≤ 6 := fun i j hj => by
    obtain ⟨e, _, he⟩ := wR_of hm0 n1 (fun j _ => hr i j) (h2 i) j hj
    rw [he]
    rcases hRc i e with h | h <;> rw [h] <;> decide
  have hWr2 : ∀ i j, j < 16 → 0 ≤ wR (R i) 16 mo j ∧ wR (R i) 16 mo j < 256 := fun i j hj => by have := hWr i j hj; omega
  have ok2 : PicOk (fun i => wR (R i) 16 mo) 16 m := ⟨n1, by unfold nmax; omega, by omega, by omega, fun i _ j hj => hWr i j hj, fun i _ => wR_two hm0 n1 (fun j _ => hr i j) (h2 i)⟩
  have t14a := (WeaveT R 16 m none none mo (fun i => wR (R i) 16 mo) (fun i => nR (R i) 16 mo) ok hm (fun i _ => by have := nR_ge hm0 n1 (fun j _ => hr i j) (h2 i); omega) fun i hi => weaveT (R i) 16 none mo n1 (by unfold nmax; omega) fun j _ => hr i j).frz
  have hag : ∀ i, nR (wR (R i) 16 mo) 16 mo = 0 ∧ ∀ j, j < 16 → wR (wR (R i) 16 mo) 16 mo j = wR (R i) 16 mo j := fun i => wR_again hm0 n1 (fun j _ => hr i j) (h2 i)
  have t14b := (WeaveT (fun i => wR (R i) 16 mo) 16 m (some 16) (some m) mo (fun i => wR (wR (R i) 16 mo) 16 mo) (fun i => nR (wR (R i) 16 mo) 16 mo) ok2 hm (fun i _ => by rw [(hag i).1]; omega) fun i hi => weaveT (wR (R i) 16 mo) 16 (some 16) mo n1 (by unfold nmax; omega) fun j hj => hWr2 i j hj).frz
  have e0 : sumN (fun i => nR (wR (R i) 16 mo) 16 mo) m = 0 := (sumN_zero m fun i _ => by rw [(hag i).1]; omega).2 fun i _ => (hag i).1
  rw [e0] at t14b
  have t18 := longestT (fun i => wR (R i) 16 mo) 16 m (some 16) (some m) ok2
  have hle : lgP (fun i => wR (R i) 16 mo) 16 m ≤ mo := (lgP_le _ _ _ hm0 m).2 fun i _ => (wR_facts hm0 n1 (fun j _ => hr i j) (h2 i)).1
  have t16a := differ0T (fun i => wR (R i) 16 mo) (fun i => wR (wR (R i) 16 mo) 16 mo) 16 m (some 16) (some m) (some 16) (some m) (by omega) fun i _ j hj => ((hag i).2 j hj).symm
  have hz : sumN (fun i => nR (R i) 16 mo) m = 0 ↔ ∀ i, i < m → ∀ j, j < 16 → R i j = wR (R i) 16 mo j := by
    rw [sumN_zero m fun i _ => (nR_ge hm0 n1 (fun j _ => hr i j) (h2 i)).1]
    constructor
    · exact fun h i hi j hj => ((nR_iff hm0 n1 (fun j _ => hr i j) (h2 i)).1 (h i hi) j hj).symm
    · exact fun h i hi => (nR_iff hm0 n1 (fun j _ => hr i j) (h2 i)).2 fun j hj => (h i hi j hj).symm
  have hlg : lgP R 16 m ≤ mo ↔ sumN (fun i => nR (R i) 16 mo) m = 0 := by
    rw [lgP_le _ _ _ hm0 m, sumN_zero m fun i _ => (nR_ge hm0 n1 (fun j _ => hr i j) (h2 i)).1]
    constructor
    · exact fun h i hi => nR_zero hm0 n1 (fun j _ => hr i j) (h2 i) (h i hi)
    · intro h i hi
      by_cases q : mo < longest (R i) 16
      · exact absurd (h i hi) (longest_long hm0 n1 (fun j _ => hr i j) (h2 i) q)
      · omega
  have t16b : ∃ d, (d = 0 ↔ sumN (fun i => nR (R i) 16 mo) m = 0) ∧ ToldOk P18 G18 16 [picV R 16 m none none, picV (fun i => wR (R i) 16 mo) 16 m (some 16) (some m)] (.int .i64 d) := by
    by_cases q : sumN (fun i => nR (R i) 16 mo) m = 0
    · exact ⟨0, ⟨fun _ => q, fun _ => rfl⟩, differ0T R (fun i => wR (R i) 16 mo) 16 m none none (some 16) (some m) (by omega) (hz.1 q)⟩
    · refine ⟨1, ⟨fun h => by omega, fun h => absurd h q⟩, differ1T R (fun i => wR (R i) 16 mo) 16 m none none (some 16) (some m) (by omega) (fun i _ j _ => hr i j) (fun i _ j hj => hWr2 i j hj) ?_⟩
      refine Classical.byContradiction fun hc => q (hz.2 fun i hi j hj => Classical.byContradiction fun hne => hc ⟨i, hi, j, hj, hne⟩)
  obtain ⟨d, hd, t16b⟩ := t16b
  change ToldOk P18 G18 14 _ (.tup [.view 1 m (fun i => [wrow 16 ((fun i => wR (R i) 16 mo) i)]) (some m), _, _]) at t14a
  change ToldOk P18 G18 14 _ (.tup [.view 1 m (fun i => [wrow 16 ((fun i => wR (wR (R i) 16 mo) 16 mo) i)]) (some m), _, _]) at t14b
  clear hag hWr hWr2 ok ok2 h2 hr hRc hz e0
  generalize (fun i => wR (wR (R i) 16 mo) 16 mo) = W2 at *
  generalize (fun i => wR (R i) 16 mo) = W at *
  generalize sumN (fun i => nR (R i) 16 mo) m = n at *
  generalize lgP R 16 m = lg at *
  generalize lgP W 16 m = a at *
  refine stepL_told hm18 hn18 (K := K5z p14 p18 p16 p12 m R W W2 n a d) (told_add (told_add (told_add (told_add none_ok (callF_told hp14)) (callF_told hp18)) (callF_told hp16)) (callF_told hp12)) (A := A18) (m := 0) (by kernel_rfl) (loops1 hl) ?_
  rw [(show stepL P18 G18 A18 (K5z p14 p18 p16 p12 m R W W2 n a d) 0 5 [(7, litS (v5 x m mo .nils 0 0) [] (.exit 0) [.int .i64 mo, picV R 16 m none none, .int .i64 lg] [])] [lvw x m, .int .u8 mo8] =
(
 bif decide ((31 : Int) < Int.ofNat m) then
 some (T.bool true)
 else
 bif decide ((Int.ofNat m).tmod (2 : Int) = (0 : Int)) then
 some (T.bool true)
 else
 bif weakF [T.view 16 m (fun i => [T.bool (x i (0 : Nat)), T.bool (x i (1 : Nat)), T.bool (x i (2 : Nat)), T.bool (x i (3 : Nat)), T.bool (x i (4 : Nat)), T.bool (x i (5 : Nat)), T.bool (x i (6 : Nat)), T.bool (x i (7 : Nat)), T.bool (x i (8 : Nat)), T.bool (x i (9 : Nat)), T.bool (x i (10 : Nat)), T.bool (x i (11 : Nat)), T.bool (x i (12 : Nat)), T.bool (x i (13 : Nat)), T.bool (x i (14 : Nat)), T.bool (x i (15 : Nat))])
 none, T.int .i64 (IntKind.i64.wrap ((1 : Int) + IntKind.i64.wrap (mo8.tmod (16 : Int)))), T.nils, T.int .i64 (0 : Int), T.int .i64 (0 : Int)] [] [T.view 16 m (fun i => [T.bool (x i (0 : Nat)), T.bool (x i (1 : Nat)), T.bool (x i (2 : Nat)), T.bool (x i (3 : Nat)), T.bool (x i (4 : Nat)), T.bool (x i (5 : Nat)), T.bool (x i (6 : Nat)), T.bool (x i (7 : Nat)), T.bool (x i (8 : Nat)), T.bool (x i (9 : Nat)), T.bool (x i (10 : Nat)), T.bool (x i (11 : Nat)), T.bool (x i (12 : Nat)), T.bool (x i (13 : Nat)), T.bool (x i (14 : Nat)), T.bool (x i (15 : Nat))])
 none, T.int .i64 mo, T.nils, T.int .i64 (0 : Int), T.int .i64 (0 : Int)] [] then
 bif decF (p14 [T.view 1 m (fun i => [T.view 1 16 (fun j => [T.int .u8 (R i j)])
 none])
 none, T.int .i64 mo] (T.tup [T.view 1 m (fun i => [T.view 1 16 (fun j => [T.int .u8 (W i j)]) (some 16)]) (some m), T.int .i64 n, T.int .i64 (0 : Int)])) then
 bif decF (p18 [T.view 1 m (fun i => [T.view 1 16 (fun j => [T.int .u8 (W i j)]) (some 16)]) (some m)] (T.tup [T.int .i64 a, T.int .i64 (0 : Int)])) then
 bif decF (p14 [T.view 1 m (fun i => [T.view 1 16 (fun j => [T.int .u8 (W i j)]) (some 16)]) (some m), T.int .i64 mo] (T.tup [T.view 1 m (fun i => [T.view 1 16 (fun j => [T.int .u8 (W2 i j)]) (some 16)]) (some m), T.int .i64 (0 : Int), T.int .i64 (0 : Int)])) then
 bif decide (mo < a) then
 some (T.bool false)
 else
 bif decF (p16 [T.view 1 m (fun i => [T.view 1 16 (fun j => [T.int .u8 (W i j)]) (some 16)]) (some m), T.view 1 m (fun i => [T.view 1 16 (fun j => [T.int .u8 (W2 i j)]) (some 16)]) (some m)] (T.int .i64 (0 : Int))) then
 bif decide (n = (0 : Int)) then
 bif decF (p16 [T.view 1 m (fun i => [T.view 1 16 (fun j => [T.int .u8 (R i j)])
 none])
 none, T.view 1 m (fun i => [T.view 1 16 (fun j => [T.int .u8 (W i j)]) (some 16)]) (some m)] (T.int .i64 d)) then
 bif decide (d = (0 : Int)) then
 bif decide (lg ≤ mo) then
 bif !decide (n = (0 : Int)) then
 some (T.bool false)
 else
 bif decide (mo < lg) then
 bif decide (n = (0 : Int)) then
 some (T.bool false)
 else
 bif decF (p12 [] (T.bool true)) then
 some (T.bool true)
 else none else
 bif decF (p12 [] (T.bool true)) then
 some (T.bool true)
 else none else
 bif decide (mo < lg) then
 bif decide (n = (0 : Int)) then
 some (T.bool false)
 else
 bif decF (p12 [] (T.bool true)) then
 some (T.bool true)
 else none else
 bif decF (p12 [] (T.bool true)) then
 some (T.bool true)
 else none else
 some (T.bool false)
 else none else
 bif decF (p16 [T.view 1 m (fun i => [T.view 1 16 (fun j => [T.int .u8 (R i j)])
 none])
 none, T.view 1 m (fun i => [T.view 1 16 (fun j => [T.int .u8 (W i j)]) (some 16)]) (some m)] (T.int .i64 d)) then
 bif decide (d = (0 : Int)) then
 some (T.bool false)
 else
 bif decide (lg ≤ mo) then
 bif !decide (n = (0 : Int)) then
 some (T.bool false)
 else
 bif decide (mo < lg) then
 bif decide (n = (0 : Int)) then
 some (T.bool false)
 else
 bif decF (p12 [] (T.bool true)) then
 some (T.bool true)
 else none else
 bif decF (p12 [] (T.bool true)) then
 some (T.bool true)
 else none else
 bif decide (mo < lg) then
 bif decide (n = (0 : Int)) then
 some (T.bool false)
 else
 bif decF (p12 [] (T.bool true)) then
 some (T.bool true)
 else none else
 bif decF (p12 [] (T.bool true)) then
 some (T.bool true)
 else none else none else none else none else none else none else
 none) from by kernel_rfl)]
  rw [em]
  refine biff (by first | assumption | (simp (disch := omega) only [numsE, List.length_cons, List.length_nil, Nat.reduceAdd]; done) | (simp (disch := omega) only [numsE, List.length_cons, List.length_nil, Nat.reduceAdd]; omega)) ?_
  refine biff (by rw [ofNatE, Int.tmod_eq_emod_of_nonneg (by omega)]; simp; omega) ?_
  refine bift (weakF_of ⟨rfl, .refl _⟩) ?_
  refine bift (callF_yes hp14 t14a) ?_
  refine bift (callF_yes hp18 t18) ?_
  refine bift (callF_yes hp14 t14b) ?_
  refine biff (by first | assumption | (simp (disch := omega) only [numsE, List.length_cons, List.length_nil, Nat.reduceAdd]; done) | (simp (disch := omega) only [numsE, List.length_cons, List.length_nil, Nat.reduceAdd]; omega)) ?_
  refine bift (callF_yes hp16 t16a) ?_
  by_cases q : n = 0
  · have hd := hd.2 q
    have hlg := hlg.2 q
    refine bift (by first | assumption | omega | (simp (disch := omega) only [numsE, List.length_cons, List.length_nil, Nat.reduceAdd]; done) | (simp (disch := omega) only [numsE, List.length_cons, List.length_nil, Nat.reduceAdd]; omega)) ?_
    refine bift (callF_yes hp16 t16b) ?_
    refine bift (by first | assumption | omega | (simp (disch := omega) only [numsE, List.length_cons, List.length_nil, Nat.reduceAdd]; done) | (simp (disch := omega) only [numsE, List.length_cons, List.length_nil, Nat.reduceAdd]; omega)) ?_
    refine bift (by first | assumption | omega | (simp (disch := omega) only [numsE, List.length_cons, List.length_nil, Nat.reduceAdd]; done) | (simp (disch := omega) only [numsE, List.length_cons, List.length_nil, Nat.reduceAdd]; omega)) ?_
    refine biff (by simp [q]) ?_
    refine biff (by first | assumption | (simp (disch := omega) only [numsE, List.length_cons, List.length_nil, Nat.reduceAdd]; done) | (simp (disch := omega) only [numsE, List.length_cons, List.length_nil, Nat.reduceAdd]; omega)) ?_
    exact bift (callF_yes hp12 livesT) rfl
  · have hd : ¬ d = 0 := fun h => q (hd.1 h)
    have hlg : ¬ lg ≤ mo := fun h => q (hlg.1 h)
    refine biff (by first | assumption | (simp (disch := omega) only [numsE, List.length_cons, List.length_nil, Nat.reduceAdd]; done) | (simp (disch := omega) only [numsE, List.length_cons, List.length_nil, Nat.reduceAdd]; omega)) ?_
    refine bift (callF_yes hp16 t16b) ?_
    refine biff (by first | assumption | (simp (disch := omega) only [numsE, List.length_cons, List.length_nil, Nat.reduceAdd]; done) | (simp (disch := omega) only [numsE, List.length_cons, List.length_nil, Nat.reduceAdd]; omega)) ?_
    refine biff (by first | assumption | (simp (disch := omega) only [numsE, List.length_cons, List.length_nil, Nat.reduceAdd]; done) | (simp (disch := omega) only [numsE, List.length_cons, List.length_nil, Nat.reduceAdd]; omega)) ?_
    refine bift (by first | assumption | omega | (simp (disch := omega) only [numsE, List.length_cons, List.length_nil, Nat.reduceAdd]; done) | (simp (disch := omega) only [numsE, List.length_cons, List.length_nil, Nat.reduceAdd]; omega)) ?_
    refine biff (by first | assumption | (simp (disch := omega) only [numsE, List.length_cons, List.length_nil, Nat.reduceAdd]; done) | (simp (disch := omega) only [numsE, List.length_cons, List.length_nil, Nat.reduceAdd]; omega)) ?_
    exact bift (callF_yes hp12 livesT) rfl
end Go.Ab

namespace Go.Ab
open Go.Proofs
section
variable {Hp : Type}
theorem inv5_18 {ts : List T} {d : DataW Hp} (h : CT P18 5 ts d) : ∃ a : Int, ts = [.int .u8 a] ∧ 0 ≤ a ∧ a < 256 := by
  obtain ⟨a, rfl, rfl, w⟩ := h.int_inv Try.underlying5
  have w := wf_u8 w
  exact ⟨a, rfl, by omega, by omega⟩
end
end Go.Ab

namespace Go.Ab
open Go.Proofs
section
variable {Hp : Type}
theorem agg41_18 : aggTy P18 41 = false := by kernel_rfl
theorem cells42_18 : P18.cellsOf 42 = 16 := by kernel_rfl
theorem bools18 : ∀ (n : Nat) (parts : List (List T)) (ds : List (DataW Hp)), CTs P18 (List.replicate n 4) parts ds → ∃ b : Nat → Bool, parts.flatten = (List.range n).map fun k => .bool (b k)
  | 0, parts, ds, h => by
    obtain ⟨rfl, rfl⟩ := CTs.nil h
    exact ⟨fun _ => false, rfl⟩
  | n + 1, parts, ds, h => by
    rw [List.replicate_succ] at h
    obtain ⟨p, ps, d, ds', rfl, rfl, h1, h2⟩ := h.cons
    obtain ⟨b, hb⟩ := bools18 n ps ds' h2
    obtain ⟨b0, rfl, _⟩ := h1.bool_inv Try.underlying4
    refine ⟨fun k => match k with | 0 => b0 | k + 1 => b k, ?_⟩
    rw [List.flatten_cons, hb, List.range_succ_eq_map, List.map_cons, List.map_map]
    rfl
theorem inv41_18 {ts : List T} {d : DataW Hp} (h : CT P18 41 ts d) : ∃ (x : Nat → Nat → Bool) (m : Nat), Sim (topT P18 41 ts) (lvw x m) := by
  rcases h.slice_inv Try.underlying41 (by rw [cells42_18]; omega) with ⟨rfl, rfl⟩ | ⟨n, c, g, elems, spare, rfl, rfl, he, hs, hn, hc, hg⟩
  · exact ⟨fun _ _ => false, 0, by rw [show topT P18 41 [T.nils] = T.nils by simp [topT, agg41_18]]; exact .nilv _ _ (.inl rfl)⟩
  · have key : ∀ j, ∃ b : Nat → Bool, j < n → g j = (List.range 16).map fun k => .bool (b k) := fun j => by
      by_cases hj : j < n
      · obtain ⟨parts, ds, e, _, hp⟩ := CT.array_inv Try.underlying42 (hg j elems[j] (by simp [show j < elems.length by omega]))
        obtain ⟨b, hb⟩ := bools18 16 parts ds hp
        exact ⟨b, fun _ => by rw [e, hb]⟩
      · exact ⟨fun _ => false, fun h => absurd h hj⟩
    refine ⟨fun j => (key j).choose, n, ?_⟩
    rw [show topT P18 41 [T.view (P18.cellsOf 42) n g (some c)] = T.view (P18.cellsOf 42) n g (some c) by simp [topT, agg41_18], cells42_18]
    refine .view (.inr rfl) fun j hj => ?_
    rw [(key j).choose_spec hj]
    exact .refl _
end
end Go.Ab

