/- A part of the proof: nothing is assumed. -/
import Derived.Test.YtkiedolofnakoaaDoorS12q
namespace Go.Ab
open Go.Proofs
theorem iter14 (t : List UInt8) (i : Int) (h : Heap) (hp : parseOkF t = false) : iterR P12 G12 A12 Kc 10 6 [] 14 [.str t, .int .i64 i] h =
    (bif decide (i < (576 : Int)) then some (Ex.normal, [T.str t, T.int IntKind.i64 (IntKind.i64.wrap (i + (1 : Int)))], h) else some (Ex.exit 0, [T.undef], h)) := by
  rw [(show iterR P12 G12 A12 Kc 10 6 [] 14 [.str t, .int .i64 i] h =
(    bif decide (i < (576 : Int)) then
    bif decide (IntKind.i64.wrap (i.tdiv (288 : Int)) = (1 : Int)) then
    bif kposF (IntKind.u8.wrap (i.tmod (8 : Int))) (IntKind.u8.wrap ((IntKind.i64.wrap (i.tdiv (8 : Int))).tmod (6 : Int)))
      (IntKind.u8.wrap ((IntKind.i64.wrap (i.tdiv (48 : Int))).tmod (6 : Int))) then
    bif posF (kkF (IntKind.u8.wrap (i.tmod (8 : Int))))
      (yyF (IntKind.u8.wrap ((IntKind.i64.wrap (i.tdiv (8 : Int))).tmod (6 : Int)))) then
    bif decide
      (textF (kkF (IntKind.u8.wrap (i.tmod (8 : Int))))
          (yyF (IntKind.u8.wrap ((IntKind.i64.wrap (i.tdiv (8 : Int))).tmod (6 : Int))))
          (aaF (IntKind.u8.wrap (i.tmod (8 : Int)))
            (IntKind.u8.wrap ((IntKind.i64.wrap (i.tdiv (48 : Int))).tmod (6 : Int))))
          (bbF (IntKind.u8.wrap (i.tmod (8 : Int)))
            (IntKind.u8.wrap ((IntKind.i64.wrap (i.tdiv (48 : Int))).tmod (6 : Int))))
          (ffF (IntKind.u8.wrap (i.tmod (8 : Int))) true) =
        t) then
    some ((Ex.ret, [T.bool false], h))
    else
    some ((Ex.normal, [T.str t, T.int IntKind.i64 (IntKind.i64.wrap (i + (1 : Int)))], h))
    else
    none
    else
    none
    else
    bif kposF (IntKind.u8.wrap (i.tmod (8 : Int))) (IntKind.u8.wrap ((IntKind.i64.wrap (i.tdiv (8 : Int))).tmod (6 : Int)))
      (IntKind.u8.wrap ((IntKind.i64.wrap (i.tdiv (48 : Int))).tmod (6 : Int))) then
    bif posF (kkF (IntKind.u8.wrap (i.tmod (8 : Int))))
      (yyF (IntKind.u8.wrap ((IntKind.i64.wrap (i.tdiv (8 : Int))).tmod (6 : Int)))) then
    bif decide
      (textF (kkF (IntKind.u8.wrap (i.tmod (8 : Int))))
          (yyF (IntKind.u8.wrap ((IntKind.i64.wrap (i.tdiv (8 : Int))).tmod (6 : Int))))
          (aaF (IntKind.u8.wrap (i.tmod (8 : Int)))
            (IntKind.u8.wrap ((IntKind.i64.wrap (i.tdiv (48 : Int))).tmod (6 : Int))))
          (bbF (IntKind.u8.wrap (i.tmod (8 : Int)))
            (IntKind.u8.wrap ((IntKind.i64.wrap (i.tdiv (48 : Int))).tmod (6 : Int))))
          (ffF (IntKind.u8.wrap (i.tmod (8 : Int))) false) =
        t) then
    some ((Ex.ret, [T.bool false], h))
    else
    some ((Ex.normal, [T.str t, T.int IntKind.i64 (IntKind.i64.wrap (i + (1 : Int)))], h))
    else
    none
    else
    none
    else
    some ((Ex.exit (0 : Nat), [T.undef], h))) from by kernel_rfl)]
  simp only [kpos_wrap, pos_wrap, decide_eq_false (parse_no hp (ofK_valid (kpos_wrap _ _ _))), cond_true, cond_false, Bool.cond_self]
theorem loop14 : LoopOk P12 G12 (A12 6) 6 14 spec14L := by
  intro fn hf hnt vs h e vs' h' hk
  unfold spec14L at hk
  split at hk
  · rename_i t i
    simp only [LT.run] at hk
    cases hg : go14F t i with
    | false => rw [hg] at hk; cases hk
    | true =>
      rw [hg] at hk
      simp only [cond_true, Option.some.injEq, Prod.mk.injEq] at hk
      obtain ⟨rfl, rfl, rfl⟩ := hk
      simp only [go14F, Bool.and_eq_true, Bool.not_eq_true', decide_eq_true_eq] at hg
      obtain ⟨hp, h0, h1⟩ := hg
      refine loop_told hm12 loop14at (an := A12 6) (fun n vs h2 => ∃ i : Int, vs = [.str t, .int .i64 i] ∧ h2 = h ∧ 0 ≤ i ∧ i ≤ 576 ∧ n = (576 - i).toNat) (fun n vs h2 hI => ?_) (n := (576 - i).toNat) ⟨i, rfl, rfl, h0, h1, rfl⟩ hf hnt
      obtain ⟨i, rfl, rfl, hi0, hi1, rfl⟩ := hI
      refine ⟨A12, Kc, 10, [], okC, rfl, rfl, fun p hp => (by cases hp), ?_⟩
      by_cases hi : i < 576
      · refine ⟨_, _, _, by rw [iter14 t i h2 hp, decide_eq_true hi]; rfl, .inl ⟨rfl, _, ?_, i + 1, ?_, rfl, by omega, by omega, rfl⟩⟩
        · omega
        · rw [wr64 (by omega) (by omega)]
      · exact ⟨_, _, _, by rw [iter14 t i h2 hp, decide_eq_false hi]; rfl, .inr ⟨by simp, rfl, rfl, rfl⟩⟩
  · cases hk
theorem loop14s : ∀ p ∈ [((14 : Nat), spec14L)], LoopOk P12 G12 (A12 6) 6 p.1 p.2 := by
  intro p hp
  obtain rfl : p = (14, spec14L) := by simpa using hp
  exact loop14
theorem law6 (k y a b : Int) (f : Bool) (t : List UInt8) (hk : 0 ≤ k) (hy : 0 ≤ y) : ToldOk P12 G12 6 [stT k y a b f, .str t] (.bool true) := by
  have hp : posF k y = true := by simp [posF, hk, hy]
  by_cases hs : t.length < 6 ∧ parseOkF t = false
  · obtain ⟨h6, hpt⟩ := hs
    have hg : go14F t (0 : Int) = true := by simp [go14F, hpt]
    have h100 : ¬ ((100 : Int) < Int.ofNat t.length) := by simp only [Int.ofNat_eq_natCast]; omega
    have h6' : (Int.ofNat t.length < (6 : Int)) := by simp only [Int.ofNat_eq_natCast]; omega
    cases hv : valid k y a b f with
    | true =>
      obtain ⟨q0, q1, q2, q3, q4, q5⟩ := parse_text hv
      refine stepL_told hm12 hn12 okC (A := A6V) (m := 10) apart6 (l := [(14, spec14L)]) (fun p hp => (loop14s p hp).assume _ (by obtain rfl : p = (14, spec14L) := by simpa using hp
                                                                                                                                  rfl)) ?_
      rw [(show stepL P12 G12 A6V Kc 10 6 [(14, spec14L)] [stT k y a b f, .str t] =
(    bif decide ((100 : Int) < Int.ofNat t.length) then
    none
    else
    bif parseOkF (textF k y a b f) then
    bif posF k y then
    bif !decide (textF k y a b f = textF k y a b f) then
    none
    else
    bif posF k y then
    bif decide ((1 : Int) - checkF k y a b f = (1 : Int)) then
    bif decide (pkF (textF k y a b f) = k) then
    bif decide (pyF (textF k y a b f) = y) then
    bif decide (paF (textF k y a b f) = a) then
    bif decide (pbF (textF k y a b f) = b) then
    bif match pfF (textF k y a b f) with
    | true => f
    | false => !f then
    bif posF k y then
    bif decide ((1 : Int) - checkF k y a b f = (0 : Int)) then
    none
    else
    bif parseOkF t then
    none
    else
    bif decide (Int.ofNat t.length < (6 : Int)) then
    bif go14F t (0 : Int) then
    some (T.bool true)
    else
    none
    else
    none
    else
    none
    else
    none
    else
    none
    else
    none
    else
    none
    else
    none
    else
    bif posF k y then
    bif decide ((1 : Int) - checkF k y a b f = (0 : Int)) then
    none
    else
    none
    else
    none
    else
    none
    else
    none
    else
    bif posF k y then
    bif !decide (textF k y a b f = textF k y a b f) then
    none
    else
    bif posF k y then
    bif decide ((1 : Int) - checkF k y a b f = (1 : Int)) then
    none
    else
    bif posF k y then
    bif decide ((1 : Int) - checkF k y a b f = (0 : Int)) then
    none
    else
    none
    else
    none
    else
    none
    else
    none) from by kernel_rfl)]
      cases f <;> simp only [q0, q1, q2, q3, q4, q5, hp, hpt, hg, checkF, hv, decide_eq_false h100, decide_eq_true h6', cond_true, cond_false, decide_true, Bool.not_true] <;> rfl
    | false =>
      have ht : textF k y a b f = [] := by simp [textF, hv]
      refine stepL_told hm12 hn12 okC (A := A6I) (m := 10) apart6 (l := [(14, spec14L)]) (fun p hp => (loop14s p hp).assume _ (by obtain rfl : p = (14, spec14L) := by simpa using hp
                                                                                                                                  rfl)) ?_
      rw [(show stepL P12 G12 A6I Kc 10 6 [(14, spec14L)] [stT k y a b f, .str t] =
(    bif decide ((100 : Int) < Int.ofNat t.length) then
    none
    else
    bif parseOkF (textF k y a b f) then
    bif posF k y then
    bif !decide (textF k y a b f = textF k y a b f) then
    none
    else
    bif posF k y then
    bif decide ((1 : Int) - checkF k y a b f = (1 : Int)) then
    bif decide (pkF (textF k y a b f) = k) then
    bif decide (pyF (textF k y a b f) = y) then
    bif decide (paF (textF k y a b f) = a) then
    bif decide (pbF (textF k y a b f) = b) then
    bif match pfF (textF k y a b f) with
    | true => f
    | false => !f then
    bif posF k y then
    bif decide ((1 : Int) - checkF k y a b f = (0 : Int)) then
    none
    else
    none
    else
    none
    else
    none
    else
    none
    else
    none
    else
    none
    else
    none
    else
    bif posF k y then
    bif decide ((1 : Int) - checkF k y a b f = (0 : Int)) then
    none
    else
    bif parseOkF t then
    none
    else
    bif decide (Int.ofNat t.length < (6 : Int)) then
    bif go14F t (0 : Int) then
    some (T.bool true)
    else
    none
    else
    none
    else
    none
    else
    none
    else
    none
    else
    bif posF k y then
    bif !decide (textF k y a b f = textF k y a b f) then
    none
    else
    bif posF k y then
    bif decide ((1 : Int) - checkF k y a b f = (1 : Int)) then
    none
    else
    bif posF k y then
    bif decide ((1 : Int) - checkF k y a b f = (0 : Int)) then
    bif parseOkF t then
    none
    else
    bif decide (Int.ofNat t.length < (6 : Int)) then
    bif go14F t (0 : Int) then
    some (T.bool true)
    else
    none
    else
    none
    else
    bif parseOkF t then
    none
    else
    bif decide (Int.ofNat t.length < (6 : Int)) then
    bif go14F t (0 : Int) then
    some (T.bool true)
    else
    none
    else
    none
    else
    none
    else
    none
    else
    none) from by kernel_rfl)]
      rw [ht]
      simp only [parse_nil, hp, hpt, hg, checkF, hv, decide_eq_false h100, decide_eq_true h6', cond_true, cond_false, decide_true, Bool.not_true]
      rfl
  · refine stepV_told hm12 hn12 okC (A := A6L) (m := 1000) ?_
    rw [(show stepV P12 G12 A6L Kc 1000 6 [stT k y a b f, .str t] =
(    bif decide ((100 : Int) < Int.ofNat t.length) then
    some (T.bool true)
    else
    bif parseOkF (textF k y a b f) then
    bif posF k y then
    bif !decide (textF k y a b f = textF k y a b f) then
    some (T.bool false)
    else
    bif posF k y then
    bif decide ((1 : Int) - checkF k y a b f = (1 : Int)) then
    bif decide (pkF (textF k y a b f) = k) then
    bif decide (pyF (textF k y a b f) = y) then
    bif decide (paF (textF k y a b f) = a) then
    bif decide (pbF (textF k y a b f) = b) then
    bif match pfF (textF k y a b f) with
    | true => f
    | false => !f then
    bif posF k y then
    bif decide ((1 : Int) - checkF k y a b f = (0 : Int)) then
    some (T.bool false)
    else
    bif parseOkF t then
    bif posF (pkF t) (pyF t) then
    bif decide (textF (pkF t) (pyF t) (paF t) (pbF t) (pfF t) = t) then
    bif !decide (t = []) then
    some (T.bool true)
    else
    some (T.bool false)
    else
    some (T.bool false)
    else
    none
    else
    bif decide (Int.ofNat t.length < (6 : Int)) then
    none
    else
    some (T.bool true)
    else
    none
    else
    some (T.bool false)
    else
    some (T.bool false)
    else
    some (T.bool false)
    else
    some (T.bool false)
    else
    some (T.bool false)
    else
    bif posF k y then
    bif decide ((1 : Int) - checkF k y a b f = (0 : Int)) then
    some (T.bool false)
    else
    bif parseOkF t then
    bif posF (pkF t) (pyF t) then
    bif decide (textF (pkF t) (pyF t) (paF t) (pbF t) (pfF t) = t) then
    bif !decide (t = []) then
    some (T.bool true)
    else
    some (T.bool false)
    else
    some (T.bool false)
    else
    none
    else
    bif decide (Int.ofNat t.length < (6 : Int)) then
    none
    else
    some (T.bool true)
    else
    none
    else
    none
    else
    none
    else
    bif posF k y then
    bif !decide (textF k y a b f = textF k y a b f) then
    some (T.bool false)
    else
    bif posF k y then
    bif decide ((1 : Int) - checkF k y a b f = (1 : Int)) then
    some (T.bool false)
    else
    bif posF k y then
    bif decide ((1 : Int) - checkF k y a b f = (0 : Int)) then
    bif parseOkF t then
    bif posF (pkF t) (pyF t) then
    bif decide (textF (pkF t) (pyF t) (paF t) (pbF t) (pfF t) = t) then
    bif !decide (t = []) then
    some (T.bool true)
    else
    some (T.bool false)
    else
    some (T.bool false)
    else
    none
    else
    bif decide (Int.ofNat t.length < (6 : Int)) then
    none
    else
    some (T.bool true)
    else
    bif parseOkF t then
    bif posF (pkF t) (pyF t) then
    bif decide (textF (pkF t) (pyF t) (paF t) (pbF t) (pfF t) = t) then
    bif !decide (t = []) then
    some (T.bool true)
    else
    some (T.bool false)
    else
    some (T.bool false)
    else
    none
    else
    bif decide (Int.ofNat t.length < (6 : Int)) then
    none
    else
    some (T.bool true)
    else
    none
    else
    none
    else
    none) from by kernel_rfl)]
    by_cases h100 : (100 : Int) < Int.ofNat t.length
    · rw [decide_eq_true h100]; rfl
    rw [decide_eq_false h100]
    have hE : (bif parseOkF t then
        bif posF (pkF t) (pyF t) then
        bif decide (textF (pkF t) (pyF t) (paF t) (pbF t) (pfF t) = t) then
        bif !decide (t = []) then some (T.bool true) else some (T.bool false)
        else some (T.bool false)
        else none
        else
        bif decide (Int.ofNat t.length < (6 : Int)) then none else some (T.bool true)) = some (T.bool true) := by
      cases hpt : parseOkF t with
      | true =>
        obtain ⟨h1, h2⟩ := parse_ok hpt
        have hne : t ≠ [] := by rw [← h2]; exact text_ne h1
        simp [valid_pos h1, h2, hne]
      | false =>
        have : ¬ t.length < 6 := fun h => hs ⟨h, hpt⟩
        have h6' : ¬ (Int.ofNat t.length < (6 : Int)) := by simp only [Int.ofNat_eq_natCast]; omega
        simp only [cond_false, decide_eq_false h6']
    rw [hE]
    cases hv : valid k y a b f with
    | true =>
      obtain ⟨q0, q1, q2, q3, q4, q5⟩ := parse_text hv
      cases f <;> simp only [q0, q1, q2, q3, q4, q5, hp, checkF, hv, cond_true, cond_false, decide_true, Bool.not_true] <;> rfl
    | false =>
      have ht : textF k y a b f = [] := by simp [textF, hv]
      rw [ht]
      simp only [parse_nil, hp, checkF, hv, cond_true, cond_false, decide_true, Bool.not_true]
      rfl
theorem law7 (k y a k' y' a' : Int) (f f' : Bool) (h : kposF k y a = true) (h' : kposF k' y' a' = true) : stepV P12 G12 A12 Kc 100 7 [kT k y a f, kT k' y' a' f'] = some (.bool true) := by
  rw [(show stepV P12 G12 A12 Kc 100 7 [kT k y a f, kT k' y' a' f'] =
(    bif kposF k y a then
    bif kposF k' y' a' then
    bif decide
      (textF (kkF k) (yyF y) (aaF k a) (bbF k a) (ffF k f) =
        textF (kkF k') (yyF y') (aaF k' a') (bbF k' a') (ffF k' f')) then
    bif decide (kkF k = kkF k') then
    bif decide (yyF y = yyF y') then
    bif decide (aaF k a = aaF k' a') then
    bif decide (bbF k a = bbF k' a') then
    bif match ffF k f with
    | true => ffF k' f'
    | false => !ffF k' f' then
    some (T.bool true)
    else
    some (T.bool false)
    else
    some (T.bool false)
    else
    some (T.bool false)
    else
    some (T.bool false)
    else
    some (T.bool false)
    else
    bif decide (kkF k = kkF k') then
    bif decide (yyF y = yyF y') then
    bif decide (aaF k a = aaF k' a') then
    bif decide (bbF k a = bbF k' a') then
    bif match ffF k f with
    | true => ffF k' f'
    | false => !ffF k' f' then
    some (T.bool false)
    else
    some (T.bool true)
    else
    some (T.bool true)
    else
    some (T.bool true)
    else
    some (T.bool true)
    else
    some (T.bool true)
    else
    none
    else
    none) from by kernel_rfl)]
  rw [h, h']
  simp only [cond_true]
  have v1 := ofK_valid (f := f) h
  have v2 := ofK_valid (f := f') h'
  by_cases e : textF (kkF k) (yyF y) (aaF k a) (bbF k a) (ffF k f) = textF (kkF k') (yyF y') (aaF k' a') (bbF k' a') (ffF k' f')
  · obtain ⟨e1, e2, e3, e4, e5⟩ := text_inj v1 v2 e
    rw [decide_eq_true e, e1, e2, e3, e4, e5]
    cases ffF k' f' <;> simp
  · rw [decide_eq_false e]
    simp only [cond_false]
    by_cases e1 : kkF k = kkF k'
    · by_cases e2 : yyF y = yyF y'
      · by_cases e3 : aaF k a = aaF k' a'
        · by_cases e4 : bbF k a = bbF k' a'
          · have e5 : ffF k f ≠ ffF k' f' := fun e5 => e (by rw [e1, e2, e3, e4, e5])
            cases h1 : ffF k f <;> cases h2 : ffF k' f' <;> simp_all
          · simp [e1, e2, e3, e4]
        · simp [e1, e2, e3]
      · simp [e1, e2]
    · simp [e1]
end Go.Ab
