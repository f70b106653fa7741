/- A part of the proof: nothing is assumed. -/
import Derived.Test.YtkiedolofnakoaaDoorP5
set_option linter.all false
namespace Go.Ab
open Go.Proofs
def A19 : FuncId → Ann := annWith A12 19 [(1, 7, true)]
def A21 : FuncId → Ann := annWith A12 21 [(1, 8, true)]
theorem e19 (k y a b : Int) (f : Bool) : ∃ A m K, OrcOk P12 G12 K ∧ (stepV P12 G12 A K m 19 [stT k y a b f] = some (.str (textF k y a b f)) ∨ stepC P12 G12 A K m 19 [stT k y a b f] = some (.str (textF k y a b f))) := by
  cases hv : valid k y a b f with
  | true => exact ⟨A12, 100, K19, stepO_ok hm12 hn12 (stepO_ok hm12 hn12 ok17 100) 100, .inl <| strIs_eq (of_all (p := fun k y a b f => strIs (stepV P12 G12 A12 K19 100 19 [stT k y a b f]) (textF k y a b f)) v19 hv)⟩
  | false =>
    refine ⟨A19, 100, K17, ok17, .inl ?_⟩
    rw [(show stepV P12 G12 A19 K17 100 19 [stT k y a b f] =
(    bif !decide (checkF k y a b f = (0 : Int)) then
    some (T.str [])
    else
    none) from by kernel_rfl)]
    simp [textF, checkF, hv]
theorem e21 (k y a b : Int) (f : Bool) (hp : posF k y = true) : ∃ A m K, OrcOk P12 G12 K ∧ (stepV P12 G12 A K m 21 [stT k y a b f] = some (.str (textF k y a b f)) ∨ stepC P12 G12 A K m 21 [stT k y a b f] = some (.str (textF k y a b f))) := by
  cases hv : valid k y a b f with
  | true => exact ⟨A12, 100, _, arun_ok hm12 hn12 100 3, .inl <| strIs_eq (of_all (p := fun k y a b f => strIs (stepV P12 G12 A12 (arunO P12 G12 A12 100 3) 100 21 [stT k y a b f]) (textF k y a b f)) v21 hv)⟩
  | false =>
    refine ⟨A21, 100, K22, ok22, .inl ?_⟩
    rw [(show stepV P12 G12 A21 K22 100 21 [stT k y a b f] =
(    bif posF k y then
    bif decide ((1 : Int) - checkF k y a b f = (0 : Int)) then
    some (T.str [])
    else
    none
    else
    none) from by kernel_rfl)]
    simp [textF, checkF, hv, hp]
/-- The stitch of a 'K'. -/
def kkF (k : Int) : Int := 1 + k.tmod 8
def yyF (y : Int) : Int := 1 + y.tmod 6
def aaF (k a : Int) : Int := bif decide (kkF k = 8) then ([1, 1, 2, 2, 1, 3] : List Int).getD (a.tmod 6).toNat 0 else 0
def bbF (k a : Int) : Int := bif decide (kkF k = 8) then ([1, 2, 1, 2, 3, 1] : List Int).getD (a.tmod 6).toNat 0 else 0
def ffF (k : Int) (f : Bool) : Bool := bif decide (kkF k = 8) then f else false
def kposF (k y a : Int) : Bool := decide (0 ≤ k) && decide (k ≤ 255) && decide (0 ≤ y) && decide (y ≤ 255) && decide (0 ≤ a)
theorem kk_bd {k : Int} (h : 0 ≤ k) : 1 ≤ kkF k ∧ kkF k ≤ 8 := by
  unfold kkF; rw [Int.tmod_eq_emod_of_nonneg h]; omega
theorem yy_bd {k : Int} (h : 0 ≤ k) : 1 ≤ yyF k ∧ yyF k ≤ 6 := by
  unfold yyF; rw [Int.tmod_eq_emod_of_nonneg h]; omega
theorem e13 (k y a : Int) (f : Bool) (h : kposF k y a = true) : stepV P12 G12 A12 noneO 100 13 [kT k y a f] = some (stT (kkF k) (yyF y) (aaF k a) (bbF k a) (ffF k f)) := by
  simp only [kposF, Bool.and_eq_true, decide_eq_true_eq] at h
  rw [(show stepV P12 G12 A12 noneO 100 13 [kT k y a f] =
(    bif decide (IntKind.u8.wrap ((1 : Int) + k.tmod (8 : Int)) = (8 : Int)) then
    bif decide ((0 : Int) ≤ a.tmod (6 : Int)) && decide (a.tmod (6 : Int) < (6 : Int)) then
    bif (0 : Nat) + (a.tmod (6 : Int)).toNat == (5 : Nat) then
    bif f then
    some (T.agg
      [T.int IntKind.u8 (IntKind.u8.wrap ((1 : Int) + k.tmod (8 : Int))),
        T.int IntKind.u8 (IntKind.u8.wrap ((1 : Int) + y.tmod (6 : Int))), T.int IntKind.i64 (3 : Int),
        T.int IntKind.i64 (1 : Int), T.bool true])
    else
    some (T.agg
      [T.int IntKind.u8 (IntKind.u8.wrap ((1 : Int) + k.tmod (8 : Int))),
        T.int IntKind.u8 (IntKind.u8.wrap ((1 : Int) + y.tmod (6 : Int))), T.int IntKind.i64 (3 : Int),
        T.int IntKind.i64 (1 : Int), T.bool false])
    else
    bif (0 : Nat) + (a.tmod (6 : Int)).toNat == (4 : Nat) then
    bif f then
    some (T.agg
      [T.int IntKind.u8 (IntKind.u8.wrap ((1 : Int) + k.tmod (8 : Int))),
        T.int IntKind.u8 (IntKind.u8.wrap ((1 : Int) + y.tmod (6 : Int))), T.int IntKind.i64 (1 : Int),
        T.int IntKind.i64 (3 : Int), T.bool true])
    else
    some (T.agg
      [T.int IntKind.u8 (IntKind.u8.wrap ((1 : Int) + k.tmod (8 : Int))),
        T.int IntKind.u8 (IntKind.u8.wrap ((1 : Int) + y.tmod (6 : Int))), T.int IntKind.i64 (1 : Int),
        T.int IntKind.i64 (3 : Int), T.bool false])
    else
    bif (0 : Nat) + (a.tmod (6 : Int)).toNat == (3 : Nat) then
    bif f then
    some (T.agg
      [T.int IntKind.u8 (IntKind.u8.wrap ((1 : Int) + k.tmod (8 : Int))),
        T.int IntKind.u8 (IntKind.u8.wrap ((1 : Int) + y.tmod (6 : Int))), T.int IntKind.i64 (2 : Int),
        T.int IntKind.i64 (2 : Int), T.bool true])
    else
    some (T.agg
      [T.int IntKind.u8 (IntKind.u8.wrap ((1 : Int) + k.tmod (8 : Int))),
        T.int IntKind.u8 (IntKind.u8.wrap ((1 : Int) + y.tmod (6 : Int))), T.int IntKind.i64 (2 : Int),
        T.int IntKind.i64 (2 : Int), T.bool false])
    else
    bif (0 : Nat) + (a.tmod (6 : Int)).toNat == (2 : Nat) then
    bif f then
    some (T.agg
      [T.int IntKind.u8 (IntKind.u8.wrap ((1 : Int) + k.tmod (8 : Int))),
        T.int IntKind.u8 (IntKind.u8.wrap ((1 : Int) + y.tmod (6 : Int))), T.int IntKind.i64 (2 : Int),
        T.int IntKind.i64 (1 : Int), T.bool true])
    else
    some (T.agg
      [T.int IntKind.u8 (IntKind.u8.wrap ((1 : Int) + k.tmod (8 : Int))),
        T.int IntKind.u8 (IntKind.u8.wrap ((1 : Int) + y.tmod (6 : Int))), T.int IntKind.i64 (2 : Int),
        T.int IntKind.i64 (1 : Int), T.bool false])
    else
    bif (0 : Nat) + (a.tmod (6 : Int)).toNat == (1 : Nat) then
    bif f then
    some (T.agg
      [T.int IntKind.u8 (IntKind.u8.wrap ((1 : Int) + k.tmod (8 : Int))),
        T.int IntKind.u8 (IntKind.u8.wrap ((1 : Int) + y.tmod (6 : Int))), T.int IntKind.i64 (1 : Int),
        T.int IntKind.i64 (2 : Int), T.bool true])
    else
    some (T.agg
      [T.int IntKind.u8 (IntKind.u8.wrap ((1 : Int) + k.tmod (8 : Int))),
        T.int IntKind.u8 (IntKind.u8.wrap ((1 : Int) + y.tmod (6 : Int))), T.int IntKind.i64 (1 : Int),
        T.int IntKind.i64 (2 : Int), T.bool false])
    else
    bif f then
    some (T.agg
      [T.int IntKind.u8 (IntKind.u8.wrap ((1 : Int) + k.tmod (8 : Int))),
        T.int IntKind.u8 (IntKind.u8.wrap ((1 : Int) + y.tmod (6 : Int))), T.int IntKind.i64 (1 : Int),
        T.int IntKind.i64 (1 : Int), T.bool true])
    else
    some (T.agg
      [T.int IntKind.u8 (IntKind.u8.wrap ((1 : Int) + k.tmod (8 : Int))),
        T.int IntKind.u8 (IntKind.u8.wrap ((1 : Int) + y.tmod (6 : Int))), T.int IntKind.i64 (1 : Int),
        T.int IntKind.i64 (1 : Int), T.bool false])
    else
    none
    else
    some (T.agg
      [T.int IntKind.u8 (IntKind.u8.wrap ((1 : Int) + k.tmod (8 : Int))),
        T.int IntKind.u8 (IntKind.u8.wrap ((1 : Int) + y.tmod (6 : Int))), T.int IntKind.i64 (0 : Int),
        T.int IntKind.i64 (0 : Int), T.bool false])) from by kernel_rfl)]
  have hk := kk_bd (k := k) (by omega)
  have hy := yy_bd (k := y) (by omega)
  rw [wr8 (x := (1 : Int) + k.tmod 8) (by unfold kkF at hk; omega) (by unfold kkF at hk; omega), wr8 (x := (1 : Int) + y.tmod 6) (by unfold yyF at hy; omega) (by unfold yyF at hy; omega)]
  have ha : 0 ≤ a.tmod 6 ∧ a.tmod 6 < 6 := by rw [Int.tmod_eq_emod_of_nonneg (by omega)]; omega
  have hr : a.tmod 6 = 0 ∨ a.tmod 6 = 1 ∨ a.tmod 6 = 2 ∨ a.tmod 6 = 3 ∨ a.tmod 6 = 4 ∨ a.tmod 6 = 5 := by omega
  by_cases h8 : (1 : Int) + k.tmod 8 = 8
  · rcases hr with h0 | h0 | h0 | h0 | h0 | h0 <;> cases f <;> simp [stT, aaF, bbF, ffF, yyF, kkF, h8, h0]
  · simp [stT, aaF, bbF, ffF, yyF, kkF, h8]
theorem ofK_valid {k y a : Int} {f : Bool} (h : kposF k y a = true) : valid (kkF k) (yyF y) (aaF k a) (bbF k a) (ffF k f) = true := by
  simp only [kposF, Bool.and_eq_true, decide_eq_true_eq] at h
  have hk := kk_bd (k := k) (by omega)
  have hy := yy_bd (k := y) (by omega)
  have hr : a.tmod 6 = 0 ∨ a.tmod 6 = 1 ∨ a.tmod 6 = 2 ∨ a.tmod 6 = 3 ∨ a.tmod 6 = 4 ∨ a.tmod 6 = 5 := by rw [Int.tmod_eq_emod_of_nonneg (by omega)]; omega
  by_cases h8 : kkF k = 8
  · rcases hr with h0 | h0 | h0 | h0 | h0 | h0 <;> simp [valid, aaF, bbF, ffF, h8, h0, hy.1, hy.2]
  · simp [valid, aaF, bbF, ffF, h8, hy.1, hy.2, hk.1, hk.2]
end Go.Ab

namespace Go.Ab
open Go.Proofs
def spec13 : List T → Tree
  | [.agg [.int .u8 k, .int .u8 y, .int .u8 a, .bool f]] => .ite (kposF k y a) (.ret (stT (kkF k) (yyF y) (aaF k a) (bbF k a) (ffF k f))) .none
  | _ => .none
def spec19 : List T → Tree
  | [.agg [.int .u8 k, .int .u8 y, .int .i64 a, .int .i64 b, .bool f]] => .ret (.str (textF k y a b f))
  | _ => .none
def spec21 : List T → Tree
  | [.agg [.int .u8 k, .int .u8 y, .int .i64 a, .int .i64 b, .bool f]] => .ite (posF k y) (.ret (.str (textF k y a b f))) .none
  | _ => .none
noncomputable def Kb : Orc := ((Ka.add 13 spec13).add 19 spec19).add 21 spec21
theorem okB : OrcOk P12 G12 Kb := by
  refine step_add2 hm12 hn12 (step_add2 hm12 hn12 (step_add2 hm12 hn12 okA ?_) ?_) ?_ <;> intro args r h
  · unfold spec13 at h; split at h
    · obtain ⟨hc, h⟩ := ite_run h
      obtain rfl := Option.some.inj h; exact ⟨A12, 100, _, none_ok, .inl (e13 _ _ _ _ hc)⟩
    · cases h
  · unfold spec19 at h; split at h
    · obtain rfl := Option.some.inj h
      exact e19 _ _ _ _ _
    · cases h
  · unfold spec21 at h; split at h
    · obtain ⟨hc, h⟩ := ite_run h
      obtain rfl := Option.some.inj h
      exact e21 _ _ _ _ _ hc
    · cases h
end Go.Ab

namespace Go.Ab
open Go.Proofs
def foundF (t : List UInt8) : Int × Int × Int × Int × Bool := (all12.find? fun c => textF c.1 c.2.1 c.2.2.1 c.2.2.2.1 c.2.2.2.2 == t).getD (0, 0, 0, 0, false)
def parseOkF (t : List UInt8) : Bool := all12.any fun c => textF c.1 c.2.1 c.2.2.1 c.2.2.2.1 c.2.2.2.2 == t
def pkF (t : List UInt8) : Int := (foundF t).1
def pyF (t : List UInt8) : Int := (foundF t).2.1
def paF (t : List UInt8) : Int := (foundF t).2.2.1
def pbF (t : List UInt8) : Int := (foundF t).2.2.2.1
def pfF (t : List UInt8) : Bool := (foundF t).2.2.2.2
theorem parse_ok {t : List UInt8} (h : parseOkF t = true) : valid (pkF t) (pyF t) (paF t) (pbF t) (pfF t) = true ∧ textF (pkF t) (pyF t) (paF t) (pbF t) (pfF t) = t := by
  simp only [pkF, pyF, paF, pbF, pfF, foundF]
  cases hf : all12.find? fun c => textF c.1 c.2.1 c.2.2.1 c.2.2.2.1 c.2.2.2.2 == t with
  | none =>
    rw [List.find?_eq_none] at hf
    unfold parseOkF at h
    rw [List.any_eq_true] at h
    obtain ⟨c, hc, he⟩ := h
    exact absurd he (by simpa using hf c hc)
  | some c =>
    exact ⟨List.all_eq_true.1 all_valid c (List.mem_of_find?_eq_some hf), eq_of_beq (List.find?_some (p := fun c : Int × Int × Int × Int × Bool => textF c.1 c.2.1 c.2.2.1 c.2.2.2.1 c.2.2.2.2 == t) hf)⟩
theorem parse_no {t : List UInt8} (h : parseOkF t = false) {k y a b : Int} {f : Bool} (hv : valid k y a b f = true) : textF k y a b f ≠ t := by
  intro e
  have : parseOkF t = true := by
    unfold parseOkF
    rw [List.any_eq_true]
    exact ⟨(k, y, a, b, f), mem_all hv, by simp [e]⟩
  rw [h] at this
  cases this
theorem text_nil {k y a b : Int} {f : Bool} (h : textF k y a b f ≠ []) : valid k y a b f = true := by
  cases hv : valid k y a b f with
  | true => rfl
  | false => exact absurd (by simp [textF, hv]) h
theorem text_ne {k y a b : Int} {f : Bool} (h : valid k y a b f = true) : textF k y a b f ≠ [] := by simp [textF, h]
noncomputable def chk20 (k y a b : Int) (f : Bool) : Bool := match stepV P12 G12 A12 Kb 100 20 [.str (textF k y a b f)] with
  | some (.tup [.agg [.int .u8 k', .int .u8 y', .int .i64 a', .int .i64 b', .bool f'], .int .i64 e]) => decide (e = 0) && sameF k y a b f k' y' a' b' f'
  | _ => false
theorem v20 : all12.all (fun c => chk20 c.1 c.2.1 c.2.2.1 c.2.2.2.1 c.2.2.2.2) = true := by kernel_rfl
theorem chk20_eq {k y a b : Int} {f : Bool} (h : chk20 k y a b f = true) : stepV P12 G12 A12 Kb 100 20 [.str (textF k y a b f)] = some (.tup [stT k y a b f, .int .i64 0]) := by
  unfold chk20 at h
  split at h
  · rename_i e
    simp only [sameF, Bool.and_eq_true, decide_eq_true_eq, beq_iff_eq] at h
    obtain ⟨rfl, ⟨⟨⟨rfl, rfl⟩, rfl⟩, rfl⟩, rfl⟩ := h
    rw [e]; rfl
  · cases h
def A20 : FuncId → Ann := annWith A12 20 [(7, 20, false)]
end Go.Ab

namespace Go.Ab
open Go.Proofs
theorem e20nil : stepV P12 G12 A12 Kb 100 20 [.str []] = some (.tup [stT 0 0 0 0 false, .int .i64 4]) := by kernel_rfl
theorem e20a (c : UInt8) (t : List UInt8) (h : c ≠ 107 ∧ c ≠ 112 ∧ c ≠ 111 ∧ c ≠ 47 ∧ c ≠ 118 ∧ c ≠ 116 ∧ c ≠ 115 ∧ c ≠ 99) (hno : ∀ k y a b f, textF k y a b f ≠ c :: t) : stepV P12 G12 A20 Kb 100 20 [.str (c :: t)] = some (.tup [stT 0 0 0 0 false, .int .i64 4]) := by
  rw [(show stepV P12 G12 A20 Kb 100 20 [.str (c :: t)] =
(    bif true && decide ((0 : Int) < Int.ofNat (c :: t).length) then
    bif decide ((107 : Int) = Int.ofNat ((c :: t).getD (0 : Nat) (0 : UInt8)).toNat) then
    none
    else
    bif true && decide ((0 : Int) < Int.ofNat (c :: t).length) then
    bif decide ((112 : Int) = Int.ofNat ((c :: t).getD (0 : Nat) (0 : UInt8)).toNat) then
    none
    else
    bif true && decide ((0 : Int) < Int.ofNat (c :: t).length) then
    bif decide ((111 : Int) = Int.ofNat ((c :: t).getD (0 : Nat) (0 : UInt8)).toNat) then
    none
    else
    bif true && decide ((0 : Int) < Int.ofNat (c :: t).length) then
    bif decide ((47 : Int) = Int.ofNat ((c :: t).getD (0 : Nat) (0 : UInt8)).toNat) then
    none
    else
    bif true && decide ((0 : Int) < Int.ofNat (c :: t).length) then
    bif decide ((118 : Int) = Int.ofNat ((c :: t).getD (0 : Nat) (0 : UInt8)).toNat) then
    none
    else
    bif true && decide ((0 : Int) < Int.ofNat (c :: t).length) then
    bif decide ((116 : Int) = Int.ofNat ((c :: t).getD (0 : Nat) (0 : UInt8)).toNat) then
    none
    else
    bif true && decide ((0 : Int) < Int.ofNat (c :: t).length) then
    bif decide ((115 : Int) = Int.ofNat ((c :: t).getD (0 : Nat) (0 : UInt8)).toNat) then
    none
    else
    bif true && decide ((0 : Int) < Int.ofNat (c :: t).length) then
    bif decide ((99 : Int) = Int.ofNat ((c :: t).getD (0 : Nat) (0 : UInt8)).toNat) then
    none
    else
    bif true && decide ((1 : Int) ≤ Int.ofNat (c :: t).length) &&
      decide (Int.ofNat (c :: t).length ≤ Int.ofNat (c :: t).length) then
    bif decide (Int.ofNat (List.drop (1 : Nat) (List.take (c :: t).length (c :: t))).length = (1 : Int)) then
    bif true && decide ((0 : Int) < Int.ofNat (List.drop (1 : Nat) (List.take (c :: t).length (c :: t))).length) then
    bif !decide
        (textF (0 : Int)
            (IntKind.u8.wrap
              (Int.ofNat ((List.drop (1 : Nat) (List.take (c :: t).length (c :: t))).getD (0 : Nat) (0 : UInt8)).toNat -
                (48 : Int)))
            (0 : Int) (0 : Int) false =
          c :: t) then
    some (T.tup
      [T.agg
          [T.int IntKind.u8 (0 : Int), T.int IntKind.u8 (0 : Int), T.int IntKind.i64 (0 : Int), T.int IntKind.i64 (0 : Int),
            T.bool false],
        T.int IntKind.i64 (4 : Int)])
    else
    some (T.tup
      [T.agg
          [T.int IntKind.u8 (0 : Int),
            T.int IntKind.u8
              (IntKind.u8.wrap
                (Int.ofNat ((List.drop (1 : Nat) (List.take (c :: t).length (c :: t))).getD (0 : Nat) (0 : UInt8)).toNat -
                  (48 : Int))),
            T.int IntKind.i64 (0 : Int), T.int IntKind.i64 (0 : Int), T.bool false],
        T.int IntKind.i64 (0 : Int)])
    else
    none
    else
    some (T.tup
      [T.agg
          [T.int IntKind.u8 (0 : Int), T.int IntKind.u8 (0 : Int), T.int IntKind.i64 (0 : Int), T.int IntKind.i64 (0 : Int),
            T.bool false],
        T.int IntKind.i64 (4 : Int)])
    else
    none
    else
    none
    else
    none
    else
    none
    else
    none
    else
    none
    else
    none
    else
    none
    else
    none) from by kernel_rfl)]
  have hd : ∀ k y a b f, decide (textF k y a b f = c :: t) = false := fun k y a b f => decide_eq_false (hno k y a b f)
  have hc : ∀ n : UInt8, c ≠ n → ((n.toNat : Int) = (c.toNat : Int)) = False := fun n hn => by
    simp only [eq_iff_iff, iff_false]
    intro e
    exact hn (UInt8.toNat_inj.1 (by omega)).symm
  obtain ⟨h1, h2, h3, h4, h5, h6, h7, h8⟩ := h
  have k1 := hc _ h1
  have k2 := hc _ h2
  have k3 := hc _ h3
  have k4 := hc _ h4
  have k5 := hc _ h5
  have k6 := hc _ h6
  have k7 := hc _ h7
  have k8 := hc _ h8
  simp only [hd]
  simp [stT]
  simp at k1 k2 k3 k4 k5 k6 k7 k8
  grind
theorem e20k (t : List UInt8) (hno : ∀ k y a b f, textF k y a b f ≠ 107 :: t) : stepV P12 G12 A12 Kb 100 20 [.str (107 :: t)] = some (.tup [stT 0 0 0 0 false, .int .i64 4]) := by
  rw [(show stepV P12 G12 A12 Kb 100 20 [.str (107 :: t)] =
(    bif true && decide ((0 : Int) < Int.ofNat ((107 : UInt8) :: t).length) then
    bif true && decide ((0 : Int) < Int.ofNat ((107 : UInt8) :: t).length) then
    bif true && decide ((0 : Int) < Int.ofNat ((107 : UInt8) :: t).length) then
    bif true && decide ((0 : Int) < Int.ofNat ((107 : UInt8) :: t).length) then
    bif true && decide ((0 : Int) < Int.ofNat ((107 : UInt8) :: t).length) then
    bif true && decide ((0 : Int) < Int.ofNat ((107 : UInt8) :: t).length) then
    bif true && decide ((0 : Int) < Int.ofNat ((107 : UInt8) :: t).length) then
    bif true && decide ((0 : Int) < Int.ofNat ((107 : UInt8) :: t).length) then
    bif true && decide ((1 : Int) ≤ Int.ofNat ((107 : UInt8) :: t).length) &&
      decide (Int.ofNat ((107 : UInt8) :: t).length ≤ Int.ofNat ((107 : UInt8) :: t).length) then
    bif decide
      (Int.ofNat (List.drop (1 : Nat) (List.take ((107 : UInt8) :: t).length ((107 : UInt8) :: t))).length = (1 : Int)) then
    bif true &&
      decide
        ((0 : Int) <
          Int.ofNat (List.drop (1 : Nat) (List.take ((107 : UInt8) :: t).length ((107 : UInt8) :: t))).length) then
    bif !decide
        (textF (1 : Int)
            (IntKind.u8.wrap
              (Int.ofNat
                  ((List.drop (1 : Nat) (List.take ((107 : UInt8) :: t).length ((107 : UInt8) :: t))).getD (0 : Nat)
                      (0 : UInt8)).toNat -
                (48 : Int)))
            (0 : Int) (0 : Int) false =
          (107 : UInt8) :: t) then
    some (T.tup
      [T.agg
          [T.int IntKind.u8 (0 : Int), T.int IntKind.u8 (0 : Int), T.int IntKind.i64 (0 : Int), T.int IntKind.i64 (0 : Int),
            T.bool false],
        T.int IntKind.i64 (4 : Int)])
    else
    some (T.tup
      [T.agg
          [T.int IntKind.u8 (1 : Int),
            T.int IntKind.u8
              (IntKind.u8.wrap
                (Int.ofNat
                    ((List.drop (1 : Nat) (List.take ((107 : UInt8) :: t).length ((107 : UInt8) :: t))).getD (0 : Nat)
                        (0 : UInt8)).toNat -
                  (48 : Int))),
            T.int IntKind.i64 (0 : Int), T.int IntKind.i64 (0 : Int), T.bool false],
        T.int IntKind.i64 (0 : Int)])
    else
    none
    else
    bif !decide ([(107 : UInt8)] = (107 : UInt8) :: t) then
    some (T.tup
      [T.agg
          [T.int IntKind.u8 (0 : Int), T.int IntKind.u8 (0 : Int), T.int IntKind.i64 (0 : Int), T.int IntKind.i64 (0 : Int),
            T.bool false],
        T.int IntKind.i64 (4 : Int)])
    else
    some (T.tup
      [T.agg
          [T.int IntKind.u8 (1 : Int), T.int IntKind.u8 (1 : Int), T.int IntKind.i64 (0 : Int), T.int IntKind.i64 (0 : Int),
            T.bool false],
        T.int IntKind.i64 (0 : Int)])
    else
    none
    else
    none
    else
    none
    else
    none
    else
    none
    else
    none
    else
    none
    else
    none
    else
    none) from by kernel_rfl)]
  have hd : ∀ k y a b f, decide (textF k y a b f = 107 :: t) = false := fun k y a b f => decide_eq_false (hno k y a b f)
  simp only [hd]
  simp [stT]
  by_cases hl : t.length = 1
  · simp [hl]
  · have hn : ¬ ((t.length : Int) = 1) := by omega
    have h0 : (-1 : Int) * (t.length : Int) ≤ 0 := by omega
    have h1 : (0 : Int) ≤ (t.length : Int) := by omega
    have ht : t ≠ [] := fun e => hno 1 1 0 0 false (by rw [e]; kernel_rfl)
    have h2 : (1 : Int) ≤ (t.length : Int) + 1 := by omega
    simp [hn, h1, h2, ht]
theorem e20p (t : List UInt8) (hno : ∀ k y a b f, textF k y a b f ≠ 112 :: t) : stepV P12 G12 A12 Kb 100 20 [.str (112 :: t)] = some (.tup [stT 0 0 0 0 false, .int .i64 4]) := by
  rw [(show stepV P12 G12 A12 Kb 100 20 [.str (112 :: t)] =
(    bif true && decide ((0 : Int) < Int.ofNat ((112 : UInt8) :: t).length) then
    bif true && decide ((0 : Int) < Int.ofNat ((112 : UInt8) :: t).length) then
    bif true && decide ((0 : Int) < Int.ofNat ((112 : UInt8) :: t).length) then
    bif true && decide ((0 : Int) < Int.ofNat ((112 : UInt8) :: t).length) then
    bif true && decide ((0 : Int) < Int.ofNat ((112 : UInt8) :: t).length) then
    bif true && decide ((0 : Int) < Int.ofNat ((112 : UInt8) :: t).length) then
    bif true && decide ((0 : Int) < Int.ofNat ((112 : UInt8) :: t).length) then
    bif true && decide ((0 : Int) < Int.ofNat ((112 : UInt8) :: t).length) then
    bif true && decide ((1 : Int) ≤ Int.ofNat ((112 : UInt8) :: t).length) &&
      decide (Int.ofNat ((112 : UInt8) :: t).length ≤ Int.ofNat ((112 : UInt8) :: t).length) then
    bif decide
      (Int.ofNat (List.drop (1 : Nat) (List.take ((112 : UInt8) :: t).length ((112 : UInt8) :: t))).length = (1 : Int)) then
    bif true &&
      decide
        ((0 : Int) <
          Int.ofNat (List.drop (1 : Nat) (List.take ((112 : UInt8) :: t).length ((112 : UInt8) :: t))).length) then
    bif !decide
        (textF (2 : Int)
            (IntKind.u8.wrap
              (Int.ofNat
                  ((List.drop (1 : Nat) (List.take ((112 : UInt8) :: t).length ((112 : UInt8) :: t))).getD (0 : Nat)
                      (0 : UInt8)).toNat -
                (48 : Int)))
            (0 : Int) (0 : Int) false =
          (112 : UInt8) :: t) then
    some (T.tup
      [T.agg
          [T.int IntKind.u8 (0 : Int), T.int IntKind.u8 (0 : Int), T.int IntKind.i64 (0 : Int), T.int IntKind.i64 (0 : Int),
            T.bool false],
        T.int IntKind.i64 (4 : Int)])
    else
    some (T.tup
      [T.agg
          [T.int IntKind.u8 (2 : Int),
            T.int IntKind.u8
              (IntKind.u8.wrap
                (Int.ofNat
                    ((List.drop (1 : Nat) (List.take ((112 : UInt8) :: t).length ((112 : UInt8) :: t))).getD (0 : Nat)
                        (0 : UInt8)).toNat -
                  (48 : Int))),
            T.int IntKind.i64 (0 : Int), T.int IntKind.i64 (0 : Int), T.bool false],
        T.int IntKind.i64 (0 : Int)])
    else
    none
    else
    bif !decide ([(112 : UInt8)] = (112 : UInt8) :: t) then
    some (T.tup
      [T.agg
          [T.int IntKind.u8 (0 : Int), T.int IntKind.u8 (0 : Int), T.int IntKind.i64 (0 : Int), T.int IntKind.i64 (0 : Int),
            T.bool false],
        T.int IntKind.i64 (4 : Int)])
    else
    some (T.tup
      [T.agg
          [T.int IntKind.u8 (2 : Int), T.int IntKind.u8 (1 : Int), T.int IntKind.i64 (0 : Int), T.int IntKind.i64 (0 : Int),
            T.bool false],
        T.int IntKind.i64 (0 : Int)])
    else
    none
    else
    none
    else
    none
    else
    none
    else
    none
    else
    none
    else
    none
    else
    none
    else
    none) from by kernel_rfl)]
  have hd : ∀ k y a b f, decide (textF k y a b f = 112 :: t) = false := fun k y a b f => decide_eq_false (hno k y a b f)
  simp only [hd]
  simp [stT]
  by_cases hl : t.length = 1
  · simp [hl]
  · have hn : ¬ ((t.length : Int) = 1) := by omega
    have h0 : (-1 : Int) * (t.length : Int) ≤ 0 := by omega
    have h1 : (0 : Int) ≤ (t.length : Int) := by omega
    have ht : t ≠ [] := fun e => hno 2 1 0 0 false (by rw [e]; kernel_rfl)
    have h2 : (1 : Int) ≤ (t.length : Int) + 1 := by omega
    simp [hn, h1, h2, ht]
theorem e20o (t : List UInt8) (hno : ∀ k y a b f, textF k y a b f ≠ 111 :: t) : stepV P12 G12 A12 Kb 100 20 [.str (111 :: t)] = some (.tup [stT 0 0 0 0 false, .int .i64 4]) := by
  rw [(show stepV P12 G12 A12 Kb 100 20 [.str (111 :: t)] =
(    bif true && decide ((0 : Int) < Int.ofNat ((111 : UInt8) :: t).length) then
    bif true && decide ((0 : Int) < Int.ofNat ((111 : UInt8) :: t).length) then
    bif true && decide ((0 : Int) < Int.ofNat ((111 : UInt8) :: t).length) then
    bif true && decide ((0 : Int) < Int.ofNat ((111 : UInt8) :: t).length) then
    bif true && decide ((0 : Int) < Int.ofNat ((111 : UInt8) :: t).length) then
    bif true && decide ((0 : Int) < Int.ofNat ((111 : UInt8) :: t).length) then
    bif true && decide ((0 : Int) < Int.ofNat ((111 : UInt8) :: t).length) then
    bif true && decide ((0 : Int) < Int.ofNat ((111 : UInt8) :: t).length) then
    bif true && decide ((1 : Int) ≤ Int.ofNat ((111 : UInt8) :: t).length) &&
      decide (Int.ofNat ((111 : UInt8) :: t).length ≤ Int.ofNat ((111 : UInt8) :: t).length) then
    bif decide
      (Int.ofNat (List.drop (1 : Nat) (List.take ((111 : UInt8) :: t).length ((111 : UInt8) :: t))).length = (1 : Int)) then
    bif true &&
      decide
        ((0 : Int) <
          Int.ofNat (List.drop (1 : Nat) (List.take ((111 : UInt8) :: t).length ((111 : UInt8) :: t))).length) then
    bif !decide
        (textF (3 : Int)
            (IntKind.u8.wrap
              (Int.ofNat
                  ((List.drop (1 : Nat) (List.take ((111 : UInt8) :: t).length ((111 : UInt8) :: t))).getD (0 : Nat)
                      (0 : UInt8)).toNat -
                (48 : Int)))
            (0 : Int) (0 : Int) false =
          (111 : UInt8) :: t) then
    some (T.tup
      [T.agg
          [T.int IntKind.u8 (0 : Int), T.int IntKind.u8 (0 : Int), T.int IntKind.i64 (0 : Int), T.int IntKind.i64 (0 : Int),
            T.bool false],
        T.int IntKind.i64 (4 : Int)])
    else
    some (T.tup
      [T.agg
          [T.int IntKind.u8 (3 : Int),
            T.int IntKind.u8
              (IntKind.u8.wrap
                (Int.ofNat
                    ((List.drop (1 : Nat) (List.take ((111 : UInt8) :: t).length ((111 : UInt8) :: t))).getD (0 : Nat)
                        (0 : UInt8)).toNat -
                  (48 : Int))),
            T.int IntKind.i64 (0 : Int), T.int IntKind.i64 (0 : Int), T.bool false],
        T.int IntKind.i64 (0 : Int)])
    else
    none
    else
    bif !decide ([(111 : UInt8)] = (111 : UInt8) :: t) then
    some (T.tup
      [T.agg
          [T.int IntKind.u8 (0 : Int), T.int IntKind.u8 (0 : Int), T.int IntKind.i64 (0 : Int), T.int IntKind.i64 (0 : Int),
            T.bool false],
        T.int IntKind.i64 (4 : Int)])
    else
    some (T.tup
      [T.agg
          [T.int IntKind.u8 (3 : Int), T.int IntKind.u8 (1 : Int), T.int IntKind.i64 (0 : Int), T.int IntKind.i64 (0 : Int),
            T.bool false],
        T.int IntKind.i64 (0 : Int)])
    else
    none
    else
    none
    else
    none
    else
    none
    else
    none
    else
    none
    else
    none
    else
    none
    else
    none) from by kernel_rfl)]
  have hd : ∀ k y a b f, decide (textF k y a b f = 111 :: t) = false := fun k y a b f => decide_eq_false (hno k y a b f)
  simp only [hd]
  simp [stT]
  by_cases hl : t.length = 1
  · simp [hl]
  · have hn : ¬ ((t.length : Int) = 1) := by omega
    have h0 : (-1 : Int) * (t.length : Int) ≤ 0 := by omega
    have h1 : (0 : Int) ≤ (t.length : Int) := by omega
    have ht : t ≠ [] := fun e => hno 3 1 0 0 false (by rw [e]; kernel_rfl)
    have h2 : (1 : Int) ≤ (t.length : Int) + 1 := by omega
    simp [hn, h1, h2, ht]
theorem e20q (t : List UInt8) (hno : ∀ k y a b f, textF k y a b f ≠ 47 :: t) : stepV P12 G12 A12 Kb 100 20 [.str (47 :: t)] = some (.tup [stT 0 0 0 0 false, .int .i64 4]) := by
  rw [(show stepV P12 G12 A12 Kb 100 20 [.str (47 :: t)] =
(    bif true && decide ((0 : Int) < Int.ofNat ((47 : UInt8) :: t).length) then
    bif true && decide ((0 : Int) < Int.ofNat ((47 : UInt8) :: t).length) then
    bif true && decide ((0 : Int) < Int.ofNat ((47 : UInt8) :: t).length) then
    bif true && decide ((0 : Int) < Int.ofNat ((47 : UInt8) :: t).length) then
    bif true && decide ((0 : Int) < Int.ofNat ((47 : UInt8) :: t).length) then
    bif true && decide ((0 : Int) < Int.ofNat ((47 : UInt8) :: t).length) then
    bif true && decide ((0 : Int) < Int.ofNat ((47 : UInt8) :: t).length) then
    bif true && decide ((0 : Int) < Int.ofNat ((47 : UInt8) :: t).length) then
    bif true && decide ((1 : Int) ≤ Int.ofNat ((47 : UInt8) :: t).length) &&
      decide (Int.ofNat ((47 : UInt8) :: t).length ≤ Int.ofNat ((47 : UInt8) :: t).length) then
    bif decide
      (Int.ofNat (List.drop (1 : Nat) (List.take ((47 : UInt8) :: t).length ((47 : UInt8) :: t))).length = (1 : Int)) then
    bif true &&
      decide
        ((0 : Int) < Int.ofNat (List.drop (1 : Nat) (List.take ((47 : UInt8) :: t).length ((47 : UInt8) :: t))).length) then
    bif !decide
        (textF (4 : Int)
            (IntKind.u8.wrap
              (Int.ofNat
                  ((List.drop (1 : Nat) (List.take ((47 : UInt8) :: t).length ((47 : UInt8) :: t))).getD (0 : Nat)
                      (0 : UInt8)).toNat -
                (48 : Int)))
            (0 : Int) (0 : Int) false =
          (47 : UInt8) :: t) then
    some (T.tup
      [T.agg
          [T.int IntKind.u8 (0 : Int), T.int IntKind.u8 (0 : Int), T.int IntKind.i64 (0 : Int), T.int IntKind.i64 (0 : Int),
            T.bool false],
        T.int IntKind.i64 (4 : Int)])
    else
    some (T.tup
      [T.agg
          [T.int IntKind.u8 (4 : Int),
            T.int IntKind.u8
              (IntKind.u8.wrap
                (Int.ofNat
                    ((List.drop (1 : Nat) (List.take ((47 : UInt8) :: t).length ((47 : UInt8) :: t))).getD (0 : Nat)
                        (0 : UInt8)).toNat -
                  (48 : Int))),
            T.int IntKind.i64 (0 : Int), T.int IntKind.i64 (0 : Int), T.bool false],
        T.int IntKind.i64 (0 : Int)])
    else
    none
    else
    bif !decide ([(47 : UInt8)] = (47 : UInt8) :: t) then
    some (T.tup
      [T.agg
          [T.int IntKind.u8 (0 : Int), T.int IntKind.u8 (0 : Int), T.int IntKind.i64 (0 : Int), T.int IntKind.i64 (0 : Int),
            T.bool false],
        T.int IntKind.i64 (4 : Int)])
    else
    some (T.tup
      [T.agg
          [T.int IntKind.u8 (4 : Int), T.int IntKind.u8 (1 : Int), T.int IntKind.i64 (0 : Int), T.int IntKind.i64 (0 : Int),
            T.bool false],
        T.int IntKind.i64 (0 : Int)])
    else
    none
    else
    none
    else
    none
    else
    none
    else
    none
    else
    none
    else
    none
    else
    none
    else
    none) from by kernel_rfl)]
  have hd : ∀ k y a b f, decide (textF k y a b f = 47 :: t) = false := fun k y a b f => decide_eq_false (hno k y a b f)
  simp only [hd]
  simp [stT]
  by_cases hl : t.length = 1
  · simp [hl]
  · have hn : ¬ ((t.length : Int) = 1) := by omega
    have h0 : (-1 : Int) * (t.length : Int) ≤ 0 := by omega
    have h1 : (0 : Int) ≤ (t.length : Int) := by omega
    have ht : t ≠ [] := fun e => hno 4 1 0 0 false (by rw [e]; kernel_rfl)
    have h2 : (1 : Int) ≤ (t.length : Int) + 1 := by omega
    simp [hn, h1, h2, ht]
theorem e20v (t : List UInt8) (hno : ∀ k y a b f, textF k y a b f ≠ 118 :: t) : stepV P12 G12 A12 Kb 100 20 [.str (118 :: t)] = some (.tup [stT 0 0 0 0 false, .int .i64 4]) := by
  rw [(show stepV P12 G12 A12 Kb 100 20 [.str (118 :: t)] =
(    bif true && decide ((0 : Int) < Int.ofNat ((118 : UInt8) :: t).length) then
    bif true && decide ((0 : Int) < Int.ofNat ((118 : UInt8) :: t).length) then
    bif true && decide ((0 : Int) < Int.ofNat ((118 : UInt8) :: t).length) then
    bif true && decide ((0 : Int) < Int.ofNat ((118 : UInt8) :: t).length) then
    bif true && decide ((0 : Int) < Int.ofNat ((118 : UInt8) :: t).length) then
    bif true && decide ((0 : Int) < Int.ofNat ((118 : UInt8) :: t).length) then
    bif true && decide ((0 : Int) < Int.ofNat ((118 : UInt8) :: t).length) then
    bif true && decide ((0 : Int) < Int.ofNat ((118 : UInt8) :: t).length) then
    bif true && decide ((1 : Int) ≤ Int.ofNat ((118 : UInt8) :: t).length) &&
      decide (Int.ofNat ((118 : UInt8) :: t).length ≤ Int.ofNat ((118 : UInt8) :: t).length) then
    bif decide
      (Int.ofNat (List.drop (1 : Nat) (List.take ((118 : UInt8) :: t).length ((118 : UInt8) :: t))).length = (1 : Int)) then
    bif true &&
      decide
        ((0 : Int) <
          Int.ofNat (List.drop (1 : Nat) (List.take ((118 : UInt8) :: t).length ((118 : UInt8) :: t))).length) then
    bif !decide
        (textF (5 : Int)
            (IntKind.u8.wrap
              (Int.ofNat
                  ((List.drop (1 : Nat) (List.take ((118 : UInt8) :: t).length ((118 : UInt8) :: t))).getD (0 : Nat)
                      (0 : UInt8)).toNat -
                (48 : Int)))
            (0 : Int) (0 : Int) false =
          (118 : UInt8) :: t) then
    some (T.tup
      [T.agg
          [T.int IntKind.u8 (0 : Int), T.int IntKind.u8 (0 : Int), T.int IntKind.i64 (0 : Int), T.int IntKind.i64 (0 : Int),
            T.bool false],
        T.int IntKind.i64 (4 : Int)])
    else
    some (T.tup
      [T.agg
          [T.int IntKind.u8 (5 : Int),
            T.int IntKind.u8
              (IntKind.u8.wrap
                (Int.ofNat
                    ((List.drop (1 : Nat) (List.take ((118 : UInt8) :: t).length ((118 : UInt8) :: t))).getD (0 : Nat)
                        (0 : UInt8)).toNat -
                  (48 : Int))),
            T.int IntKind.i64 (0 : Int), T.int IntKind.i64 (0 : Int), T.bool false],
        T.int IntKind.i64 (0 : Int)])
    else
    none
    else
    bif !decide ([(118 : UInt8)] = (118 : UInt8) :: t) then
    some (T.tup
      [T.agg
          [T.int IntKind.u8 (0 : Int), T.int IntKind.u8 (0 : Int), T.int IntKind.i64 (0 : Int), T.int IntKind.i64 (0 : Int),
            T.bool false],
        T.int IntKind.i64 (4 : Int)])
    else
    some (T.tup
      [T.agg
          [T.int IntKind.u8 (5 : Int), T.int IntKind.u8 (1 : Int), T.int IntKind.i64 (0 : Int), T.int IntKind.i64 (0 : Int),
            T.bool false],
        T.int IntKind.i64 (0 : Int)])
    else
    none
    else
    none
    else
    none
    else
    none
    else
    none
    else
    none
    else
    none
    else
    none
    else
    none) from by kernel_rfl)]
  have hd : ∀ k y a b f, decide (textF k y a b f = 118 :: t) = false := fun k y a b f => decide_eq_false (hno k y a b f)
  simp only [hd]
  simp [stT]
  by_cases hl : t.length = 1
  · simp [hl]
  · have hn : ¬ ((t.length : Int) = 1) := by omega
    have h0 : (-1 : Int) * (t.length : Int) ≤ 0 := by omega
    have h1 : (0 : Int) ≤ (t.length : Int) := by omega
    have ht : t ≠ [] := fun e => hno 5 1 0 0 false (by rw [e]; kernel_rfl)
    have h2 : (1 : Int) ≤ (t.length : Int) + 1 := by omega
    simp [hn, h1, h2, ht]
theorem e20t (t : List UInt8) (hno : ∀ k y a b f, textF k y a b f ≠ 116 :: t) : stepV P12 G12 A12 Kb 100 20 [.str (116 :: t)] = some (.tup [stT 0 0 0 0 false, .int .i64 4]) := by
  rw [(show stepV P12 G12 A12 Kb 100 20 [.str (116 :: t)] =
(    bif true && decide ((0 : Int) < Int.ofNat ((116 : UInt8) :: t).length) then
    bif true && decide ((0 : Int) < Int.ofNat ((116 : UInt8) :: t).length) then
    bif true && decide ((0 : Int) < Int.ofNat ((116 : UInt8) :: t).length) then
    bif true && decide ((0 : Int) < Int.ofNat ((116 : UInt8) :: t).length) then
    bif true && decide ((0 : Int) < Int.ofNat ((116 : UInt8) :: t).length) then
    bif true && decide ((0 : Int) < Int.ofNat ((116 : UInt8) :: t).length) then
    bif true && decide ((0 : Int) < Int.ofNat ((116 : UInt8) :: t).length) then
    bif true && decide ((0 : Int) < Int.ofNat ((116 : UInt8) :: t).length) then
    bif true && decide ((1 : Int) ≤ Int.ofNat ((116 : UInt8) :: t).length) &&
      decide (Int.ofNat ((116 : UInt8) :: t).length ≤ Int.ofNat ((116 : UInt8) :: t).length) then
    bif decide
      (Int.ofNat (List.drop (1 : Nat) (List.take ((116 : UInt8) :: t).length ((116 : UInt8) :: t))).length = (1 : Int)) then
    bif true &&
      decide
        ((0 : Int) <
          Int.ofNat (List.drop (1 : Nat) (List.take ((116 : UInt8) :: t).length ((116 : UInt8) :: t))).length) then
    bif !decide
        (textF (6 : Int)
            (IntKind.u8.wrap
              (Int.ofNat
                  ((List.drop (1 : Nat) (List.take ((116 : UInt8) :: t).length ((116 : UInt8) :: t))).getD (0 : Nat)
                      (0 : UInt8)).toNat -
                (48 : Int)))
            (0 : Int) (0 : Int) false =
          (116 : UInt8) :: t) then
    some (T.tup
      [T.agg
          [T.int IntKind.u8 (0 : Int), T.int IntKind.u8 (0 : Int), T.int IntKind.i64 (0 : Int), T.int IntKind.i64 (0 : Int),
            T.bool false],
        T.int IntKind.i64 (4 : Int)])
    else
    some (T.tup
      [T.agg
          [T.int IntKind.u8 (6 : Int),
            T.int IntKind.u8
              (IntKind.u8.wrap
                (Int.ofNat
                    ((List.drop (1 : Nat) (List.take ((116 : UInt8) :: t).length ((116 : UInt8) :: t))).getD (0 : Nat)
                        (0 : UInt8)).toNat -
                  (48 : Int))),
            T.int IntKind.i64 (0 : Int), T.int IntKind.i64 (0 : Int), T.bool false],
        T.int IntKind.i64 (0 : Int)])
    else
    none
    else
    bif !decide ([(116 : UInt8)] = (116 : UInt8) :: t) then
    some (T.tup
      [T.agg
          [T.int IntKind.u8 (0 : Int), T.int IntKind.u8 (0 : Int), T.int IntKind.i64 (0 : Int), T.int IntKind.i64 (0 : Int),
            T.bool false],
        T.int IntKind.i64 (4 : Int)])
    else
    some (T.tup
      [T.agg
          [T.int IntKind.u8 (6 : Int), T.int IntKind.u8 (1 : Int), T.int IntKind.i64 (0 : Int), T.int IntKind.i64 (0 : Int),
            T.bool false],
        T.int IntKind.i64 (0 : Int)])
    else
    none
    else
    none
    else
    none
    else
    none
    else
    none
    else
    none
    else
    none
    else
    none
    else
    none) from by kernel_rfl)]
  have hd : ∀ k y a b f, decide (textF k y a b f = 116 :: t) = false := fun k y a b f => decide_eq_false (hno k y a b f)
  simp only [hd]
  simp [stT]
  by_cases hl : t.length = 1
  · simp [hl]
  · have hn : ¬ ((t.length : Int) = 1) := by omega
    have h0 : (-1 : Int) * (t.length : Int) ≤ 0 := by omega
    have h1 : (0 : Int) ≤ (t.length : Int) := by omega
    have ht : t ≠ [] := fun e => hno 6 1 0 0 false (by rw [e]; kernel_rfl)
    have h2 : (1 : Int) ≤ (t.length : Int) + 1 := by omega
    simp [hn, h1, h2, ht]
theorem e20s (t : List UInt8) (hno : ∀ k y a b f, textF k y a b f ≠ 115 :: t) : stepV P12 G12 A12 Kb 100 20 [.str (115 :: t)] = some (.tup [stT 0 0 0 0 false, .int .i64 4]) := by
  rw [(show stepV P12 G12 A12 Kb 100 20 [.str (115 :: t)] =
(    bif true && decide ((0 : Int) < Int.ofNat ((115 : UInt8) :: t).length) then
    bif true && decide ((0 : Int) < Int.ofNat ((115 : UInt8) :: t).length) then
    bif true && decide ((0 : Int) < Int.ofNat ((115 : UInt8) :: t).length) then
    bif true && decide ((0 : Int) < Int.ofNat ((115 : UInt8) :: t).length) then
    bif true && decide ((0 : Int) < Int.ofNat ((115 : UInt8) :: t).length) then
    bif true && decide ((0 : Int) < Int.ofNat ((115 : UInt8) :: t).length) then
    bif true && decide ((0 : Int) < Int.ofNat ((115 : UInt8) :: t).length) then
    bif true && decide ((0 : Int) < Int.ofNat ((115 : UInt8) :: t).length) then
    bif true && decide ((1 : Int) ≤ Int.ofNat ((115 : UInt8) :: t).length) &&
      decide (Int.ofNat ((115 : UInt8) :: t).length ≤ Int.ofNat ((115 : UInt8) :: t).length) then
    bif decide
      (Int.ofNat (List.drop (1 : Nat) (List.take ((115 : UInt8) :: t).length ((115 : UInt8) :: t))).length = (1 : Int)) then
    bif true &&
      decide
        ((0 : Int) <
          Int.ofNat (List.drop (1 : Nat) (List.take ((115 : UInt8) :: t).length ((115 : UInt8) :: t))).length) then
    bif !decide
        (textF (7 : Int)
            (IntKind.u8.wrap
              (Int.ofNat
                  ((List.drop (1 : Nat) (List.take ((115 : UInt8) :: t).length ((115 : UInt8) :: t))).getD (0 : Nat)
                      (0 : UInt8)).toNat -
                (48 : Int)))
            (0 : Int) (0 : Int) false =
          (115 : UInt8) :: t) then
    some (T.tup
      [T.agg
          [T.int IntKind.u8 (0 : Int), T.int IntKind.u8 (0 : Int), T.int IntKind.i64 (0 : Int), T.int IntKind.i64 (0 : Int),
            T.bool false],
        T.int IntKind.i64 (4 : Int)])
    else
    some (T.tup
      [T.agg
          [T.int IntKind.u8 (7 : Int),
            T.int IntKind.u8
              (IntKind.u8.wrap
                (Int.ofNat
                    ((List.drop (1 : Nat) (List.take ((115 : UInt8) :: t).length ((115 : UInt8) :: t))).getD (0 : Nat)
                        (0 : UInt8)).toNat -
                  (48 : Int))),
            T.int IntKind.i64 (0 : Int), T.int IntKind.i64 (0 : Int), T.bool false],
        T.int IntKind.i64 (0 : Int)])
    else
    none
    else
    bif !decide ([(115 : UInt8)] = (115 : UInt8) :: t) then
    some (T.tup
      [T.agg
          [T.int IntKind.u8 (0 : Int), T.int IntKind.u8 (0 : Int), T.int IntKind.i64 (0 : Int), T.int IntKind.i64 (0 : Int),
            T.bool false],
        T.int IntKind.i64 (4 : Int)])
    else
    some (T.tup
      [T.agg
          [T.int IntKind.u8 (7 : Int), T.int IntKind.u8 (1 : Int), T.int IntKind.i64 (0 : Int), T.int IntKind.i64 (0 : Int),
            T.bool false],
        T.int IntKind.i64 (0 : Int)])
    else
    none
    else
    none
    else
    none
    else
    none
    else
    none
    else
    none
    else
    none
    else
    none
    else
    none) from by kernel_rfl)]
  have hd : ∀ k y a b f, decide (textF k y a b f = 115 :: t) = false := fun k y a b f => decide_eq_false (hno k y a b f)
  simp only [hd]
  simp [stT]
  by_cases hl : t.length = 1
  · simp [hl]
  · have hn : ¬ ((t.length : Int) = 1) := by omega
    have h0 : (-1 : Int) * (t.length : Int) ≤ 0 := by omega
    have h1 : (0 : Int) ≤ (t.length : Int) := by omega
    have ht : t ≠ [] := fun e => hno 7 1 0 0 false (by rw [e]; kernel_rfl)
    have h2 : (1 : Int) ≤ (t.length : Int) + 1 := by omega
    simp [hn, h1, h2, ht]
theorem e20c (t : List UInt8) (hno : ∀ k y a b f, textF k y a b f ≠ 99 :: t) : stepV P12 G12 A12 Kb 100 20 [.str (99 :: t)] = some (.tup [stT 0 0 0 0 false, .int .i64 4]) := by
  rw [(show stepV P12 G12 A12 Kb 100 20 [.str (99 :: t)] =
(    bif true && decide ((0 : Int) < Int.ofNat ((99 : UInt8) :: t).length) then
    bif true && decide ((0 : Int) < Int.ofNat ((99 : UInt8) :: t).length) then
    bif true && decide ((0 : Int) < Int.ofNat ((99 : UInt8) :: t).length) then
    bif true && decide ((0 : Int) < Int.ofNat ((99 : UInt8) :: t).length) then
    bif true && decide ((0 : Int) < Int.ofNat ((99 : UInt8) :: t).length) then
    bif true && decide ((0 : Int) < Int.ofNat ((99 : UInt8) :: t).length) then
    bif true && decide ((0 : Int) < Int.ofNat ((99 : UInt8) :: t).length) then
    bif true && decide ((0 : Int) < Int.ofNat ((99 : UInt8) :: t).length) then
    bif true && decide ((1 : Int) ≤ Int.ofNat ((99 : UInt8) :: t).length) &&
      decide (Int.ofNat ((99 : UInt8) :: t).length ≤ Int.ofNat ((99 : UInt8) :: t).length) then
    bif decide
      ((3 : Int) ≤ Int.ofNat (List.drop (1 : Nat) (List.take ((99 : UInt8) :: t).length ((99 : UInt8) :: t))).length) then
    bif true &&
      decide
        ((0 : Int) < Int.ofNat (List.drop (1 : Nat) (List.take ((99 : UInt8) :: t).length ((99 : UInt8) :: t))).length) then
    bif true &&
      decide
        ((1 : Int) < Int.ofNat (List.drop (1 : Nat) (List.take ((99 : UInt8) :: t).length ((99 : UInt8) :: t))).length) then
    bif true &&
      decide
        ((2 : Int) < Int.ofNat (List.drop (1 : Nat) (List.take ((99 : UInt8) :: t).length ((99 : UInt8) :: t))).length) then
    bif decide
      (Int.ofNat
          ((List.drop (1 : Nat) (List.take ((99 : UInt8) :: t).length ((99 : UInt8) :: t))).getD (2 : Nat)
              (0 : UInt8)).toNat =
        (70 : Int)) then
    bif true &&
        decide
          ((3 : Int) ≤ Int.ofNat (List.drop (1 : Nat) (List.take ((99 : UInt8) :: t).length ((99 : UInt8) :: t))).length) &&
      decide
        (Int.ofNat (List.drop (1 : Nat) (List.take ((99 : UInt8) :: t).length ((99 : UInt8) :: t))).length ≤
          Int.ofNat (List.drop (1 : Nat) (List.take ((99 : UInt8) :: t).length ((99 : UInt8) :: t))).length) then
    bif decide
      (Int.ofNat
          (List.drop (3 : Nat)
              (List.take (List.drop (1 : Nat) (List.take ((99 : UInt8) :: t).length ((99 : UInt8) :: t))).length
                (List.drop (1 : Nat) (List.take ((99 : UInt8) :: t).length ((99 : UInt8) :: t))))).length =
        (1 : Int)) then
    bif true &&
      decide
        ((0 : Int) <
          Int.ofNat
            (List.drop (3 : Nat)
                (List.take (List.drop (1 : Nat) (List.take ((99 : UInt8) :: t).length ((99 : UInt8) :: t))).length
                  (List.drop (1 : Nat) (List.take ((99 : UInt8) :: t).length ((99 : UInt8) :: t))))).length) then
    bif !decide
        (textF (8 : Int)
            (IntKind.u8.wrap
              (Int.ofNat
                  ((List.drop (3 : Nat)
                          (List.take (List.drop (1 : Nat) (List.take ((99 : UInt8) :: t).length ((99 : UInt8) :: t))).length
                            (List.drop (1 : Nat) (List.take ((99 : UInt8) :: t).length ((99 : UInt8) :: t))))).getD
                      (0 : Nat) (0 : UInt8)).toNat -
                (48 : Int)))
            (IntKind.i64.wrap
              (IntKind.i64.wrap
                  (Int.ofNat
                    ((List.drop (1 : Nat) (List.take ((99 : UInt8) :: t).length ((99 : UInt8) :: t))).getD (0 : Nat)
                        (0 : UInt8)).toNat) -
                (48 : Int)))
            (IntKind.i64.wrap
              (IntKind.i64.wrap
                  (Int.ofNat
                    ((List.drop (1 : Nat) (List.take ((99 : UInt8) :: t).length ((99 : UInt8) :: t))).getD (1 : Nat)
                        (0 : UInt8)).toNat) -
                (48 : Int)))
            true =
          (99 : UInt8) :: t) then
    some (T.tup
      [T.agg
          [T.int IntKind.u8 (0 : Int), T.int IntKind.u8 (0 : Int), T.int IntKind.i64 (0 : Int), T.int IntKind.i64 (0 : Int),
            T.bool false],
        T.int IntKind.i64 (4 : Int)])
    else
    some (T.tup
      [T.agg
          [T.int IntKind.u8 (8 : Int),
            T.int IntKind.u8
              (IntKind.u8.wrap
                (Int.ofNat
                    ((List.drop (3 : Nat)
                            (List.take
                              (List.drop (1 : Nat) (List.take ((99 : UInt8) :: t).length ((99 : UInt8) :: t))).length
                              (List.drop (1 : Nat) (List.take ((99 : UInt8) :: t).length ((99 : UInt8) :: t))))).getD
                        (0 : Nat) (0 : UInt8)).toNat -
                  (48 : Int))),
            T.int IntKind.i64
              (IntKind.i64.wrap
                (IntKind.i64.wrap
                    (Int.ofNat
                      ((List.drop (1 : Nat) (List.take ((99 : UInt8) :: t).length ((99 : UInt8) :: t))).getD (0 : Nat)
                          (0 : UInt8)).toNat) -
                  (48 : Int))),
            T.int IntKind.i64
              (IntKind.i64.wrap
                (IntKind.i64.wrap
                    (Int.ofNat
                      ((List.drop (1 : Nat) (List.take ((99 : UInt8) :: t).length ((99 : UInt8) :: t))).getD (1 : Nat)
                          (0 : UInt8)).toNat) -
                  (48 : Int))),
            T.bool true],
        T.int IntKind.i64 (0 : Int)])
    else
    none
    else
    bif !decide
        (textF (8 : Int) (1 : Int)
            (IntKind.i64.wrap
              (IntKind.i64.wrap
                  (Int.ofNat
                    ((List.drop (1 : Nat) (List.take ((99 : UInt8) :: t).length ((99 : UInt8) :: t))).getD (0 : Nat)
                        (0 : UInt8)).toNat) -
                (48 : Int)))
            (IntKind.i64.wrap
              (IntKind.i64.wrap
                  (Int.ofNat
                    ((List.drop (1 : Nat) (List.take ((99 : UInt8) :: t).length ((99 : UInt8) :: t))).getD (1 : Nat)
                        (0 : UInt8)).toNat) -
                (48 : Int)))
            true =
          (99 : UInt8) :: t) then
    some (T.tup
      [T.agg
          [T.int IntKind.u8 (0 : Int), T.int IntKind.u8 (0 : Int), T.int IntKind.i64 (0 : Int), T.int IntKind.i64 (0 : Int),
            T.bool false],
        T.int IntKind.i64 (4 : Int)])
    else
    some (T.tup
      [T.agg
          [T.int IntKind.u8 (8 : Int), T.int IntKind.u8 (1 : Int),
            T.int IntKind.i64
              (IntKind.i64.wrap
                (IntKind.i64.wrap
                    (Int.ofNat
                      ((List.drop (1 : Nat) (List.take ((99 : UInt8) :: t).length ((99 : UInt8) :: t))).getD (0 : Nat)
                          (0 : UInt8)).toNat) -
                  (48 : Int))),
            T.int IntKind.i64
              (IntKind.i64.wrap
                (IntKind.i64.wrap
                    (Int.ofNat
                      ((List.drop (1 : Nat) (List.take ((99 : UInt8) :: t).length ((99 : UInt8) :: t))).getD (1 : Nat)
                          (0 : UInt8)).toNat) -
                  (48 : Int))),
            T.bool true],
        T.int IntKind.i64 (0 : Int)])
    else
    none
    else
    bif true &&
        decide
          ((3 : Int) ≤ Int.ofNat (List.drop (1 : Nat) (List.take ((99 : UInt8) :: t).length ((99 : UInt8) :: t))).length) &&
      decide
        (Int.ofNat (List.drop (1 : Nat) (List.take ((99 : UInt8) :: t).length ((99 : UInt8) :: t))).length ≤
          Int.ofNat (List.drop (1 : Nat) (List.take ((99 : UInt8) :: t).length ((99 : UInt8) :: t))).length) then
    bif decide
      (Int.ofNat
          (List.drop (3 : Nat)
              (List.take (List.drop (1 : Nat) (List.take ((99 : UInt8) :: t).length ((99 : UInt8) :: t))).length
                (List.drop (1 : Nat) (List.take ((99 : UInt8) :: t).length ((99 : UInt8) :: t))))).length =
        (1 : Int)) then
    bif true &&
      decide
        ((0 : Int) <
          Int.ofNat
            (List.drop (3 : Nat)
                (List.take (List.drop (1 : Nat) (List.take ((99 : UInt8) :: t).length ((99 : UInt8) :: t))).length
                  (List.drop (1 : Nat) (List.take ((99 : UInt8) :: t).length ((99 : UInt8) :: t))))).length) then
    bif !decide
        (textF (8 : Int)
            (IntKind.u8.wrap
              (Int.ofNat
                  ((List.drop (3 : Nat)
                          (List.take (List.drop (1 : Nat) (List.take ((99 : UInt8) :: t).length ((99 : UInt8) :: t))).length
                            (List.drop (1 : Nat) (List.take ((99 : UInt8) :: t).length ((99 : UInt8) :: t))))).getD
                      (0 : Nat) (0 : UInt8)).toNat -
                (48 : Int)))
            (IntKind.i64.wrap
              (IntKind.i64.wrap
                  (Int.ofNat
                    ((List.drop (1 : Nat) (List.take ((99 : UInt8) :: t).length ((99 : UInt8) :: t))).getD (0 : Nat)
                        (0 : UInt8)).toNat) -
                (48 : Int)))
            (IntKind.i64.wrap
              (IntKind.i64.wrap
                  (Int.ofNat
                    ((List.drop (1 : Nat) (List.take ((99 : UInt8) :: t).length ((99 : UInt8) :: t))).getD (1 : Nat)
                        (0 : UInt8)).toNat) -
                (48 : Int)))
            false =
          (99 : UInt8) :: t) then
    some (T.tup
      [T.agg
          [T.int IntKind.u8 (0 : Int), T.int IntKind.u8 (0 : Int), T.int IntKind.i64 (0 : Int), T.int IntKind.i64 (0 : Int),
            T.bool false],
        T.int IntKind.i64 (4 : Int)])
    else
    some (T.tup
      [T.agg
          [T.int IntKind.u8 (8 : Int),
            T.int IntKind.u8
              (IntKind.u8.wrap
                (Int.ofNat
                    ((List.drop (3 : Nat)
                            (List.take
                              (List.drop (1 : Nat) (List.take ((99 : UInt8) :: t).length ((99 : UInt8) :: t))).length
                              (List.drop (1 : Nat) (List.take ((99 : UInt8) :: t).length ((99 : UInt8) :: t))))).getD
                        (0 : Nat) (0 : UInt8)).toNat -
                  (48 : Int))),
            T.int IntKind.i64
              (IntKind.i64.wrap
                (IntKind.i64.wrap
                    (Int.ofNat
                      ((List.drop (1 : Nat) (List.take ((99 : UInt8) :: t).length ((99 : UInt8) :: t))).getD (0 : Nat)
                          (0 : UInt8)).toNat) -
                  (48 : Int))),
            T.int IntKind.i64
              (IntKind.i64.wrap
                (IntKind.i64.wrap
                    (Int.ofNat
                      ((List.drop (1 : Nat) (List.take ((99 : UInt8) :: t).length ((99 : UInt8) :: t))).getD (1 : Nat)
                          (0 : UInt8)).toNat) -
                  (48 : Int))),
            T.bool false],
        T.int IntKind.i64 (0 : Int)])
    else
    none
    else
    bif !decide
        (textF (8 : Int) (1 : Int)
            (IntKind.i64.wrap
              (IntKind.i64.wrap
                  (Int.ofNat
                    ((List.drop (1 : Nat) (List.take ((99 : UInt8) :: t).length ((99 : UInt8) :: t))).getD (0 : Nat)
                        (0 : UInt8)).toNat) -
                (48 : Int)))
            (IntKind.i64.wrap
              (IntKind.i64.wrap
                  (Int.ofNat
                    ((List.drop (1 : Nat) (List.take ((99 : UInt8) :: t).length ((99 : UInt8) :: t))).getD (1 : Nat)
                        (0 : UInt8)).toNat) -
                (48 : Int)))
            false =
          (99 : UInt8) :: t) then
    some (T.tup
      [T.agg
          [T.int IntKind.u8 (0 : Int), T.int IntKind.u8 (0 : Int), T.int IntKind.i64 (0 : Int), T.int IntKind.i64 (0 : Int),
            T.bool false],
        T.int IntKind.i64 (4 : Int)])
    else
    some (T.tup
      [T.agg
          [T.int IntKind.u8 (8 : Int), T.int IntKind.u8 (1 : Int),
            T.int IntKind.i64
              (IntKind.i64.wrap
                (IntKind.i64.wrap
                    (Int.ofNat
                      ((List.drop (1 : Nat) (List.take ((99 : UInt8) :: t).length ((99 : UInt8) :: t))).getD (0 : Nat)
                          (0 : UInt8)).toNat) -
                  (48 : Int))),
            T.int IntKind.i64
              (IntKind.i64.wrap
                (IntKind.i64.wrap
                    (Int.ofNat
                      ((List.drop (1 : Nat) (List.take ((99 : UInt8) :: t).length ((99 : UInt8) :: t))).getD (1 : Nat)
                          (0 : UInt8)).toNat) -
                  (48 : Int))),
            T.bool false],
        T.int IntKind.i64 (0 : Int)])
    else
    none
    else
    none
    else
    none
    else
    none
    else
    bif decide
      (Int.ofNat (List.drop (1 : Nat) (List.take ((99 : UInt8) :: t).length ((99 : UInt8) :: t))).length = (1 : Int)) then
    bif true &&
      decide
        ((0 : Int) < Int.ofNat (List.drop (1 : Nat) (List.take ((99 : UInt8) :: t).length ((99 : UInt8) :: t))).length) then
    bif !decide
        (textF (8 : Int)
            (IntKind.u8.wrap
              (Int.ofNat
                  ((List.drop (1 : Nat) (List.take ((99 : UInt8) :: t).length ((99 : UInt8) :: t))).getD (0 : Nat)
                      (0 : UInt8)).toNat -
                (48 : Int)))
            (0 : Int) (0 : Int) false =
          (99 : UInt8) :: t) then
    some (T.tup
      [T.agg
          [T.int IntKind.u8 (0 : Int), T.int IntKind.u8 (0 : Int), T.int IntKind.i64 (0 : Int), T.int IntKind.i64 (0 : Int),
            T.bool false],
        T.int IntKind.i64 (4 : Int)])
    else
    some (T.tup
      [T.agg
          [T.int IntKind.u8 (8 : Int),
            T.int IntKind.u8
              (IntKind.u8.wrap
                (Int.ofNat
                    ((List.drop (1 : Nat) (List.take ((99 : UInt8) :: t).length ((99 : UInt8) :: t))).getD (0 : Nat)
                        (0 : UInt8)).toNat -
                  (48 : Int))),
            T.int IntKind.i64 (0 : Int), T.int IntKind.i64 (0 : Int), T.bool false],
        T.int IntKind.i64 (0 : Int)])
    else
    none
    else
    some (T.tup
      [T.agg
          [T.int IntKind.u8 (0 : Int), T.int IntKind.u8 (0 : Int), T.int IntKind.i64 (0 : Int), T.int IntKind.i64 (0 : Int),
            T.bool false],
        T.int IntKind.i64 (4 : Int)])
    else
    none
    else
    none
    else
    none
    else
    none
    else
    none
    else
    none
    else
    none
    else
    none
    else
    none) from by kernel_rfl)]
  have hd : ∀ k y a b f, decide (textF k y a b f = 99 :: t) = false := fun k y a b f => decide_eq_false (hno k y a b f)
  simp only [hd]
  simp [stT]
  grind
end Go.Ab

namespace Go.Ab
open Go.Proofs
def spec20 : List T → Tree
  | [.str t] => .ite (parseOkF t) (.ret (.tup [stT (pkF t) (pyF t) (paF t) (pbF t) (pfF t), .int .i64 0])) (.ret (.tup [stT 0 0 0 0 false, .int .i64 4]))
  | _ => .none
theorem e20 (t : List UInt8) : ∃ A, stepV P12 G12 A Kb 100 20 [.str t] = if parseOkF t then some (.tup [stT (pkF t) (pyF t) (paF t) (pbF t) (pfF t), .int .i64 0]) else some (.tup [stT 0 0 0 0 false, .int .i64 4]) := by
  cases hp : parseOkF t with
  | true =>
    obtain ⟨h1, h2⟩ := parse_ok hp
    have := chk20_eq (of_all (p := chk20) v20 h1)
    rw [h2] at this
    exact ⟨A12, this⟩
  | false =>
    simp only [Bool.false_eq_true, if_false]
    match t, hp with
    | [], _ => exact ⟨A12, e20nil⟩
    | c :: t, hp =>
      have hno : ∀ k y a b f, textF k y a b f ≠ c :: t := fun k y a b f e => parse_no hp (text_nil (by rw [e]; simp)) e
      by_cases h1 : c = 107
      · subst h1; exact ⟨A12, e20k t hno⟩
      by_cases h2 : c = 112
      · subst h2; exact ⟨A12, e20p t hno⟩
      by_cases h3 : c = 111
      · subst h3; exact ⟨A12, e20o t hno⟩
      by_cases h4 : c = 47
      · subst h4; exact ⟨A12, e20q t hno⟩
      by_cases h5 : c = 118
      · subst h5; exact ⟨A12, e20v t hno⟩
      by_cases h6 : c = 116
      · subst h6; exact ⟨A12, e20t t hno⟩
      by_cases h7 : c = 115
      · subst h7; exact ⟨A12, e20s t hno⟩
      by_cases h8 : c = 99
      · subst h8; exact ⟨A12, e20c t hno⟩
      exact ⟨A20, e20a c t ⟨h1, h2, h3, h4, h5, h6, h7, h8⟩ hno⟩
noncomputable def Kc : Orc := Kb.add 20 spec20
theorem okC : OrcOk P12 G12 Kc := by
  refine step_add2 hm12 hn12 okB ?_
  intro args r h
  unfold spec20 at h; split at h
  · rename_i t
    obtain ⟨A, e⟩ := e20 t
    refine ⟨A, 100, Kb, okB, .inl ?_⟩
    rw [e]
    simp only [Tree.run] at h
    cases hp : parseOkF t <;> rw [hp] at h <;> simpa using h
  · cases h
def A6L : FuncId → Ann := annWith A12 6 [(12, 81, false)]
def A6S : FuncId → Ann := annWith A12 6 [(1, 14, false), (5, 53, false), (8, 60, false), (10, 78, false), (12, 81, true), (17, 105, false)]
end Go.Ab

