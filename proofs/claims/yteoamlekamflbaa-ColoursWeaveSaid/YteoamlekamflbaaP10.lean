/- A part of the proof: nothing is assumed. -/
import Derived.Test.YteoamlekamflbaaP9
import Derived.Test.YteoamlekamflbaaP8
set_option linter.all false
/- Weaving, plainly: what the map of least changes holds, and that the row that is read off it is the first with the fewest changes. -/
namespace Go.Ab
open Go.Proofs
section
variable (r : Nat → Int) (n : Nat) (cs : Nat → Int) (k : Nat) (most : Int)
/-- The least number of changes of the last m stitches behind s. -/
def lkB (f : PS → Int) (a : Nat) (s : PS) : Nat → Int
  | 0 => (n : Int) + 1
  | i + 1 => bif s.ok most (cs i) then (bif decide (f (s.nx (cs i)) + chg (r a) (cs i) < lkB f a s i) then f (s.nx (cs i)) + chg (r a) (cs i) else lkB f a s i) else lkB f a s i
def lk : Nat → PS → Int
  | 0, _ => 0
  | m + 1, s => lkB r n cs most (lk m) (n - (m + 1)) s k
end
def Good (r : Nat → Int) (n : Nat) (cs : Nat → Int) (k : Nat) (most : Int) (m : MapD) (a : Nat) (s : PS) : Prop := m.val (s.key a) = lk r n cs k most (n - a) s
theorem b2i_inj {a b : Bool} (h : b2i a = b2i b) : a = b := by
  cases a <;> cases b <;> first | rfl | (simp [b2i] at h)
theorem key_inj {s t : PS} {a b : Int} (h : s.key a = t.key b) : a = b ∧ s = t := by
  obtain ⟨c, ru, i⟩ := s
  obtain ⟨c2, ru2, i2⟩ := t
  simp only [PS.key, List.cons.injEq, and_true] at h
  obtain ⟨h1, h2, h3, h4⟩ := h
  obtain rfl := b2i_inj h4
  subst h1 h2 h3
  exact ⟨rfl, rfl⟩
section
variable {r : Nat → Int} {n : Nat} {cs : Nat → Int} {k : Nat} {most : Int}
theorem bestF_lk (val : List Int → Int) (f : PS → Int) (a : Nat) (s : PS) : ∀ i, (∀ j, j < i → val ((s.nx (cs j)).key ((a : Int) + 1)) = f (s.nx (cs j))) → bestF r n cs most val a s.c s.run s.inn i = lkB r n cs most f a s i
  | 0, _ => rfl
  | i + 1, h => by
    have ih := bestF_lk val f a s i fun j hj => h j (by omega)
    have hi := h i (by omega)
    unfold bestF lkB
    rw [ih]
    have e : tryF r most val a s.c s.run s.inn (cs i) = f (s.nx (cs i)) + chg (r a) (cs i) := by
      rw [← hi]; rfl
    rw [e]
    rfl
theorem lkB_congr (f g : PS → Int) (a : Nat) (s : PS) : ∀ i, (∀ j, j < i → f (s.nx (cs j)) = g (s.nx (cs j))) → lkB r n cs most f a s i = lkB r n cs most g a s i
  | 0, _ => rfl
  | i + 1, h => by
    unfold lkB
    rw [lkB_congr f g a s i fun j hj => h j (by omega), h i (by omega)]
theorem fillM_val (a : Nat) (s : PS) (m : MapD) (l : List Int) : (fillM r n cs k most a s.c s.run s.inn m).val l = if l = s.key a then fillZ r n cs k most m.val a s.c s.run s.inn else m.val l := by
  show (bif keq l [(a : Int), s.c, s.run, b2i s.inn] then fillZ r n cs k most m.val ((a : Int)).toNat s.c s.run s.inn else m.val l) = _
  by_cases q : l = s.key a
  · rw [if_pos q, q]
    show (bif keq [(a : Int), s.c, s.run, b2i s.inn] [(a : Int), s.c, s.run, b2i s.inn] then _ else _) = _
    rw [keq_self, cond_true]
    rfl
  · rw [if_neg q, show keq l [(a : Int), s.c, s.run, b2i s.inn] = false from keq_ne q, cond_false]
/-- A fill keeps what is right, and makes its own place right. -/
theorem Good.fill {m : MapD} {a b : Nat} {s t : PS} (ha : a ≤ n) (h : Good r n cs k most m b t ∨ (b = a ∧ t = s)) (hs : a < n → ∀ j, j < k → Good r n cs k most m (a + 1) (s.nx (cs j))) : Good r n cs k most (fillM r n cs k most a s.c s.run s.inn m) b t := by
  unfold Good
  rw [fillM_val]
  by_cases q : t.key b = s.key a
  · rw [if_pos q]
    obtain ⟨q1, rfl⟩ := key_inj q
    obtain rfl : b = a := by omega
    unfold fillZ
    by_cases q2 : b = n
    · subst q2
      rw [if_pos rfl, Nat.sub_self]
      rfl
    · rw [if_neg q2]
      obtain ⟨m', hm'⟩ : ∃ m', n - b = m' + 1 := ⟨n - b - 1, by omega⟩
      rw [hm', bestF_lk (f := lk r n cs k most m') m.val b t k fun j hj => ?_]
      · show _ = lkB r n cs most (lk r n cs k most m') (n - (m' + 1)) t k
        rw [show n - (m' + 1) = b by omega]
      · have := hs (by omega) j hj
        unfold Good at this
        rw [show n - (b + 1) = m' by omega] at this
        rw [← this]
        rfl
  · rw [if_neg q]
    rcases h with h | ⟨rfl, rfl⟩
    · exact h
    · exact absurd rfl q
/-- The places of at. -/
def Pl (cs : Nat → Int) (k a : Nat) (s : PS) : Prop := ∃ i j, i < k ∧ 1 ≤ j ∧ j ≤ a ∧ s.c = cs i ∧ s.run = ((j : Nat) : Int)
theorem fold1_good {m : MapD} {a j : Nat} (ha : a ≤ n) (hs : a < n → ∀ i b, i < k → ∀ e, e < k → Good r n cs k most m (a + 1) (PS.nx ⟨cs i, (j : Nat), b⟩ (cs e))) : ∀ i, i ≤ k → (∀ b t, Good r n cs k most m b t → Good r n cs k most (fold1 (fillM r n cs k most) cs a j m i) b t) ∧ ∀ i', i' < i → ∀ b, Good r n cs k most (fold1 (fillM r n cs k most) cs a j m i) a ⟨cs i', (j : Nat), b⟩
  | 0, _ => ⟨fun _ _ h => h, fun i' h => by omega⟩
  | i + 1, hi => by
    obtain ⟨h1, h2⟩ := fold1_good ha hs i (by omega)
    have s1 : a < n → ∀ e, e < k → Good r n cs k most (fold1 (fillM r n cs k most) cs a j m i) (a + 1) (PS.nx ⟨cs i, (j : Nat), false⟩ (cs e)) := fun q e he => h1 _ _ (hs q i false (by omega) e he)
    have f1 : ∀ b t, (Good r n cs k most (fold1 (fillM r n cs k most) cs a j m i) b t ∨ (b = a ∧ t = ⟨cs i, (j : Nat), false⟩)) → Good r n cs k most (fillM r n cs k most a (cs i) (j : Nat) false (fold1 (fillM r n cs k most) cs a j m i)) b t := fun b t h => Good.fill (s := ⟨cs i, (j : Nat), false⟩) ha h s1
    have s2 : a < n → ∀ e, e < k → Good r n cs k most (fillM r n cs k most a (cs i) (j : Nat) false (fold1 (fillM r n cs k most) cs a j m i)) (a + 1) (PS.nx ⟨cs i, (j : Nat), true⟩ (cs e)) := fun q e he => f1 _ _ (.inl (h1 _ _ (hs q i true (by omega) e he)))
    have f2 : ∀ b t, (Good r n cs k most (fold1 (fillM r n cs k most) cs a j m i) b t ∨ (b = a ∧ t = ⟨cs i, (j : Nat), false⟩) ∨ (b = a ∧ t = ⟨cs i, (j : Nat), true⟩)) → Good r n cs k most (fold1 (fillM r n cs k most) cs a j m (i + 1)) b t := fun b t h =>
      Good.fill (s := ⟨cs i, (j : Nat), true⟩) ha (h.elim (fun h => .inl (f1 b t (.inl h))) fun h => h.elim (fun h => .inl (f1 b t (.inr h))) .inr) s2
    refine ⟨fun b t h => f2 b t (.inl (h1 b t h)), fun i' hi' b => ?_⟩
    by_cases q : i' = i
    · subst q
      cases b
      · exact f2 _ _ (.inr (.inl ⟨rfl, rfl⟩))
      · exact f2 _ _ (.inr (.inr ⟨rfl, rfl⟩))
    · exact f2 _ _ (.inl (h2 i' (by omega) b))
theorem nx_pl {a i j e : Nat} (hi : i < k) (he : e < k) (h1 : 1 ≤ j) (hj : j ≤ a) (b : Bool) : Pl cs k (a + 1) (PS.nx ⟨cs i, (j : Nat), b⟩ (cs e)) := by
  unfold PS.nx
  dsimp only
  unfold nK
  rw [decide_eq_false (show ¬ ((j : Int) = 0) by omega), cond_false]
  by_cases q : cs i = cs e
  · rw [decide_eq_true q, cond_true]
    exact ⟨e, j + 1, he, by omega, by omega, rfl, by show (j : Int) + 1 = ((j + 1 : Nat) : Int); omega⟩
  · rw [decide_eq_false q, cond_false]
    exact ⟨e, 1, he, by omega, by omega, rfl, rfl⟩
theorem fold2_good {m : MapD} {a : Nat} (ha : a ≤ n) (hs : a < n → ∀ s, Pl cs k (a + 1) s → Good r n cs k most m (a + 1) s) : ∀ j, j ≤ a → (∀ b t, Good r n cs k most m b t → Good r n cs k most (fold2 (fillM r n cs k most) cs k a m j) b t) ∧ ∀ j', 1 ≤ j' → j' ≤ j → ∀ i, i < k → ∀ b, Good r n cs k most (fold2 (fillM r n cs k most) cs k a m j) a ⟨cs i, (j' : Nat), b⟩
  | 0, _ => ⟨fun _ _ h => h, fun j' h1 h2 => by omega⟩
  | j + 1, hj => by
    obtain ⟨h1, h2⟩ := fold2_good ha hs j (by omega)
    obtain ⟨g1, g2⟩ := fold1_good (m := fold2 (fillM r n cs k most) cs k a m j) (j := j + 1) ha (fun q i b hi e he => h1 _ _ (hs q _ (nx_pl hi he (by omega) (by omega) b))) k (Nat.le_refl _)
    refine ⟨fun b t h => g1 b t (h1 b t h), fun j' q1 q2 i hi b => ?_⟩
    by_cases q : j' = j + 1
    · subst q; exact g2 i hi b
    · exact g1 _ _ (h2 j' q1 (by omega) i hi b)
theorem fold3_good : ∀ i, i ≤ n → ∀ a, n - i < a → a ≤ n → ∀ s, Pl cs k a s → Good r n cs k most (fold3 (fillM r n cs k most) cs k n i) a s
  | 0, _, a, h1, h2, s, _ => by omega
  | i + 1, hi, a, h1, h2, s, hp => by
    have ih := fold3_good i (by omega)
    obtain ⟨g1, g2⟩ := fold2_good (m := fold3 (fillM r n cs k most) cs k n i) (a := n - i) (by omega) (fun q s hp => ih (n - i + 1) (by omega) (by omega) s hp) (n - i) (Nat.le_refl _)
    by_cases q : a = n - i
    · obtain ⟨c, j, hc, hj1, hj2, e1, e2⟩ := hp
      obtain ⟨sc, sr, sb⟩ := s
      dsimp only at e1 e2
      subst e1 e2
      rw [q]
      exact g2 j hj1 (by omega) c hc sb
    · exact g1 _ _ (ih a (by omega) h2 s hp)
/-- What the map holds. -/
theorem least_good {a : Nat} {s : PS} (h1 : 1 ≤ n) (ha : a ≤ n) (h : Pl cs k a s ∨ (a = 0 ∧ s = ⟨0, 0, false⟩)) : Good r n cs k most (leastM r n cs k most) a s := by
  have g := fold3_good (r := r) (n := n) (cs := cs) (k := k) (most := most) n (Nat.le_refl _)
  refine Good.fill (a := 0) (s := ⟨0, 0, false⟩) (Nat.zero_le _) ?_ fun _ j hj => ?_
  · rcases h with h | h
    · obtain ⟨c, j, hc, hj1, hj2, e1, e2⟩ := h
      exact .inl (g a (by omega) ha s ⟨c, j, hc, hj1, hj2, e1, e2⟩)
    · exact .inr h
  · refine g 1 (by omega) h1 _ ⟨j, 1, hj, Nat.le_refl _, Nat.le_refl _, rfl, ?_⟩
    rfl
end
end Go.Ab

/- Weaving, plainly: the row that is read off the map. -/
namespace Go.Ab
open Go.Proofs
/-- A place that is reached. -/
def PlS (cs : Nat → Int) (k a : Nat) (s : PS) : Prop := Pl cs k a s ∨ (a = 0 ∧ s = ⟨0, 0, false⟩)
section
variable (r : Nat → Int) (n : Nat) (cs : Nat → Int) (k : Nat) (most : Int)
def tstL (i : Nat) (s : PS) (d : Int) : Bool := s.ok most d && decide (lk r n cs k most (n - (i + 1)) (s.nx d) + chg (r i) d = lk r n cs k most (n - i) s)
def psCL (i : Nat) (s : PS) : Nat := fnd (fun j => tstL r n cs k most i s (cs j)) k 0
def psL : Nat → PS
  | 0 => ⟨0, 0, false⟩
  | i + 1 => (psL i).nx (cs (psCL r n cs k most i (psL i)))
def wvL (i : Nat) : Int := (psL r n cs k most (i + 1)).c
end
section
variable {r : Nat → Int} {n : Nat} {cs : Nat → Int} {k : Nat} {most : Int}
theorem PlS.ok {a : Nat} {s : PS} (hk : 1 ≤ k) (h : PlS cs k a s) : ∃ j, j < k ∧ s.ok most (cs j) = true := by
  rcases h with ⟨i, j, hi, hj1, hj2, e1, e2⟩ | ⟨rfl, rfl⟩
  · refine ⟨i, hi, ?_⟩
    unfold PS.ok nO
    rw [e2, decide_eq_false (show ¬ ((j : Int) = 0) by omega), cond_false, decide_eq_true e1, cond_true]
  · exact ⟨0, hk, rfl⟩
theorem PlS.nx {a e : Nat} {s : PS} (he : e < k) (h : PlS cs k a s) : Pl cs k (a + 1) (s.nx (cs e)) := by
  rcases h with ⟨i, j, hi, hj1, hj2, e1, e2⟩ | ⟨rfl, rfl⟩
  · obtain ⟨c, ru, b⟩ := s
    dsimp only at e1 e2
    subst e1 e2
    exact nx_pl hi he hj1 hj2 b
  · exact ⟨e, 1, he, Nat.le_refl _, Nat.le_refl _, rfl, rfl⟩
theorem lkB_le (f : PS → Int) (a : Nat) (s : PS) : ∀ i j, j < i → s.ok most (cs j) = true → lkB r n cs most f a s i ≤ f (s.nx (cs j)) + chg (r a) (cs j)
  | i + 1, j, hj, ho => by
    unfold lkB
    have ih := lkB_le f a s i
    by_cases q : j = i
    · subst q
      rw [ho, cond_true]
      by_cases q2 : f (s.nx (cs j)) + chg (r a) (cs j) < lkB r n cs most f a s j
      · rw [decide_eq_true q2, cond_true]; exact Int.le_refl _
      · rw [decide_eq_false q2, cond_false]; omega
    · have := ih j (by omega) ho
      cases s.ok most (cs i)
      · exact this
      · rw [cond_true]
        by_cases q2 : f (s.nx (cs i)) + chg (r a) (cs i) < lkB r n cs most f a s i
        · rw [decide_eq_true q2, cond_true]; omega
        · rw [decide_eq_false q2, cond_false]; exact this
theorem lkB_at (f : PS → Int) (a : Nat) (s : PS) : ∀ i, lkB r n cs most f a s i = (n : Int) + 1 ∨ ∃ j, j < i ∧ s.ok most (cs j) = true ∧ f (s.nx (cs j)) + chg (r a) (cs j) = lkB r n cs most f a s i
  | 0 => .inl rfl
  | i + 1 => by
    have ih := lkB_at f a s i
    have key : lkB r n cs most f a s i = (n : Int) + 1 ∨ ∃ j, j < i + 1 ∧ s.ok most (cs j) = true ∧ f (s.nx (cs j)) + chg (r a) (cs j) = lkB r n cs most f a s i := by
      rcases ih with h | ⟨j, h1, h2, h3⟩
      · exact .inl h
      · exact .inr ⟨j, by omega, h2, h3⟩
    unfold lkB
    cases q : s.ok most (cs i)
    · exact key
    · rw [cond_true]
      by_cases q2 : f (s.nx (cs i)) + chg (r a) (cs i) < lkB r n cs most f a s i
      · rw [decide_eq_true q2, cond_true]; exact .inr ⟨i, by omega, q, rfl⟩
      · rw [decide_eq_false q2, cond_false]; exact key
theorem lk_le (hk : 1 ≤ k) : ∀ m a s, a + m = n → PlS cs k a s → lk r n cs k most m s ≤ m
  | 0, _, _, _, _ => Int.le_refl _
  | m + 1, a, s, ha, h => by
    obtain ⟨j, hj, ho⟩ := h.ok (most := most) hk
    have h1 := lk_le hk m (a + 1) (s.nx (cs j)) (by omega) (.inl (h.nx hj))
    have h2 := lkB_le (r := r) (n := n) (lk r n cs k most m) (n - (m + 1)) s k j hj ho
    have h3 := chg_bd (r (n - (m + 1))) (cs j)
    show lkB r n cs most (lk r n cs k most m) (n - (m + 1)) s k ≤ _
    omega
theorem lk_at (hk : 1 ≤ k) {m a : Nat} {s : PS} (ha : a + (m + 1) = n) (h : PlS cs k a s) : ∃ j, j < k ∧ s.ok most (cs j) = true ∧ lk r n cs k most m (s.nx (cs j)) + chg (r a) (cs j) = lk r n cs k most (m + 1) s := by
  have h1 := lk_le (r := r) (most := most) hk (m + 1) a s ha h
  have h2 := lkB_at (r := r) (n := n) (cs := cs) (most := most) (lk r n cs k most m) a s k
  have e : n - (m + 1) = a := by omega
  show ∃ j, j < k ∧ s.ok most (cs j) = true ∧ lk r n cs k most m (s.nx (cs j)) + chg (r a) (cs j) = lkB r n cs most (lk r n cs k most m) (n - (m + 1)) s k
  rw [e]
  rcases h2 with h2 | h2
  · exfalso
    change lkB r n cs most (lk r n cs k most m) (n - (m + 1)) s k ≤ _ at h1
    rw [e, h2] at h1
    omega
  · exact h2
theorem fnd_lt {t : Nat → Bool} {m j : Nat} (h : ∃ i, j ≤ i ∧ i < j + m ∧ t i = true) : fnd t m j < j + m := by
  obtain ⟨i, h1, h2, h3⟩ := h
  have := fnd_ge t m j
  rcases Nat.lt_or_ge (fnd t m j) (j + m) with q | q
  · exact q
  · have := fnd_ne t m j i h1 (by omega)
    rw [h3] at this; cases this
theorem psCL_lt (hk : 1 ≤ k) {i : Nat} {s : PS} (hi : i < n) (h : PlS cs k i s) : psCL r n cs k most i s < k := by
  obtain ⟨m, hm⟩ : ∃ m, n = i + (m + 1) := ⟨n - i - 1, by omega⟩
  obtain ⟨j, hj, ho, he⟩ := lk_at (r := r) (most := most) hk hm.symm h
  have := @fnd_lt (fun j => tstL r n cs k most i s (cs j)) k 0 ⟨j, Nat.zero_le _, by omega, by
    unfold tstL
    rw [ho, Bool.true_and, decide_eq_true_eq, show n - (i + 1) = m by omega, show n - i = m + 1 by omega]
    exact he⟩
  unfold psCL
  omega
theorem psL_pl (hk : 1 ≤ k) : ∀ i, i ≤ n → PlS cs k i (psL r n cs k most i)
  | 0, _ => .inr ⟨rfl, rfl⟩
  | i + 1, hi => by
    have ih := psL_pl hk i (by omega)
    exact .inl (ih.nx (psCL_lt hk (by omega) ih))
/-- The map says the same. -/
theorem tst_L (h1 : 1 ≤ n) (hk : 1 ≤ k) {i j : Nat} {s : PS} (hi : i < n) (hj : j < k) (h : PlS cs k i s) : tst r most (leastM r n cs k most).val i s (cs j) = tstL r n cs k most i s (cs j) := by
  have g1 := least_good (r := r) (most := most) h1 (Nat.le_of_lt hi) h
  have g2 := least_good (r := r) (most := most) (a := i + 1) h1 hi (.inl (h.nx hj))
  unfold Good at g1 g2
  unfold tst tstL
  rw [show ((i : Int) + 1) = ((i + 1 : Nat) : Int) by omega, g1, g2]
theorem fnd_congr {t u : Nat → Bool} : ∀ {m j : Nat}, (∀ i, j ≤ i → i < j + m → t i = u i) → fnd t m j = fnd u m j
  | 0, _, _ => rfl
  | m + 1, j, h => by
    unfold fnd
    rw [h j (Nat.le_refl _) (by omega), fnd_congr (fun i h1 h2 => h i (by omega) (by omega))]
theorem psC_L (h1 : 1 ≤ n) (hk : 1 ≤ k) {i : Nat} {s : PS} (hi : i < n) (h : PlS cs k i s) : psC r cs k most (leastM r n cs k most).val i s = psCL r n cs k most i s := by
  unfold psC psCL
  exact fnd_congr fun j _ hj => tst_L h1 hk hi (by omega) h
theorem psT_L (h1 : 1 ≤ n) (hk : 1 ≤ k) : ∀ i, i ≤ n → psT r cs k most (leastM r n cs k most).val i = psL r n cs k most i
  | 0, _ => rfl
  | i + 1, hi => by
    have ih := psT_L h1 hk i (by omega)
    unfold psT psL
    rw [ih, psC_L h1 hk (by omega) (psL_pl hk i (by omega))]
theorem wvn_L (h1 : 1 ≤ n) (hk : 1 ≤ k) {i : Nat} (hi : i < n) : wvn r cs k most (leastM r n cs k most).val i = wvL r n cs k most i := by
  unfold wvn wvL
  rw [psT_L h1 hk (i + 1) (by omega)]
theorem least_L (h1 : 1 ≤ n) : (leastM r n cs k most).val [0, 0, 0, 0] = lk r n cs k most n ⟨0, 0, false⟩ := least_good (r := r) (most := most) (a := 0) h1 (Nat.zero_le _) (.inr ⟨rfl, rfl⟩)
theorem found_L (h1 : 1 ≤ n) (hk : 1 ≤ k) (i : Nat) (hi : i < n) : psC r cs k most (leastM r n cs k most).val i (psT r cs k most (leastM r n cs k most).val i) < k := by
  rw [psT_L h1 hk i (by omega), psC_L h1 hk hi (psL_pl hk i (by omega))]
  exact psCL_lt hk hi (psL_pl hk i (by omega))
end
/-- A row is woven. -/
theorem weaveT (r : Nat → Int) (n : Nat) (c : Option Nat) (most : Int) (h1 : 1 ≤ n) (hn : n ≤ nmax) (hr : ∀ j, j < n → 0 ≤ r j ∧ r j < 256) :
    ToldOk P18 G18 30 [rowV r n c, .int .i64 most] (.tup [.new (wrow n (wvL r n (csK r n) (kK r n) most)), .int .i64 (lk r n (csK r n) (kK r n) most n ⟨0, 0, false⟩)]) := by
  have hn2 := hn
  unfold nmax at hn2
  have hk : 1 ≤ kK r n := by
    obtain ⟨j, _, h2, _⟩ := (csK_mem hr (r 0)).2 ⟨0, Nat.le_refl _, h1, rfl⟩
    omega
  have hk2 : kK r n ≤ 256 := by
    unfold kK kindL
    refine Nat.le_trans (List.length_filter_le _ _) ?_
    simp
  have t := (weave1T r n c (csK r n) (kK r n) none most (by omega) (by omega) (kindsT r n c h1 hn hr) (found_L h1 hk)).frz
  rw [least_L h1] at t
  refine ToldOk.tupTo t (.cons (.new (.view (.inl rfl) fun j hj => ?_)) (.cons (.refl _) .nil))
  show Sims [T.int .u8 (wvn r (csK r n) (kK r n) most (leastM r n (csK r n) (kK r n) most).val j)] [T.int .u8 (wvL r n (csK r n) (kK r n) most j)]
  rw [wvn_L h1 hk hj]
  exact .refl _
end Go.Ab

/- Weaving, plainly: the row that is read off is the first of all rows of two colours with the fewest changes whose floats are short enough. -/
namespace Go.Ab
open Go.Proofs
/-- Changes of the stitches from a on, m of them. -/
def costR (r w : Nat → Int) : Nat → Nat → Int
  | 0, _ => 0
  | m + 1, a => chg (r a) (w a) + costR r w m (a + 1)
/-- Can the row go on like this from s? -/
def admR (most : Int) (w : Nat → Int) : Nat → Nat → PS → Bool
  | 0, _, _ => true
  | m + 1, a, s => s.ok most (w a) && admR most w m (a + 1) (s.nx (w a))
/-- The row that bits tell. -/
def wb (lo hi : Int) (n b j : Nat) : Int := if b.testBit (n - 1 - j) = true then hi else lo
theorem costR_congr {r w v : Nat → Int} : ∀ {m a : Nat}, (∀ j, a ≤ j → j < a + m → w j = v j) → costR r w m a = costR r v m a
  | 0, _, _ => rfl
  | m + 1, a, h => by
    unfold costR
    rw [h a (Nat.le_refl _) (by omega), costR_congr fun j h1 h2 => h j (by omega) (by omega)]
theorem admR_congr {most : Int} {w v : Nat → Int} : ∀ {m a : Nat} {s : PS}, (∀ j, a ≤ j → j < a + m → w j = v j) → admR most w m a s = admR most v m a s
  | 0, _, _, _ => rfl
  | m + 1, a, s, h => by
    unfold admR
    rw [h a (Nat.le_refl _) (by omega), admR_congr fun j h1 h2 => h j (by omega) (by omega)]
theorem wb_low (lo hi : Int) {n m a b j : Nat} (ha : a + (m + 1) = n) (hj : a + 1 ≤ j) (hj2 : j < n) : wb lo hi n (2 ^ m + b) j = wb lo hi n b j := by
  unfold wb
  by_cases q : n - 1 - j < m
  · rw [Nat.testBit_two_pow_add_gt q]
  · omega
theorem wb_top (lo hi : Int) {n m a b : Nat} (ha : a + (m + 1) = n) (hb : b < 2 ^ m) : wb lo hi n b a = lo ∧ wb lo hi n (2 ^ m + b) a = hi := by
  unfold wb
  have e : n - 1 - a = m := by omega
  have h1 : b.testBit m = false := Nat.testBit_lt_two_pow hb
  constructor
  · rw [e, h1]; simp
  · rw [e, Nat.testBit_two_pow_add_eq, h1]; simp
section
variable {r : Nat → Int} {n : Nat} {cs : Nat → Int} {most : Int}
/-- The row that is read off from s on. -/
def Fol (r : Nat → Int) (n : Nat) (cs : Nat → Int) (most : Int) (w : Nat → Int) : Nat → Nat → PS → Prop
  | 0, _, _ => True
  | m + 1, a, s => w a = cs (psCL r n cs 2 most a s) ∧ Fol r n cs most w m (a + 1) (s.nx (w a))
theorem Fol.congr {w v : Nat → Int} : ∀ {m a : Nat} {s : PS}, (∀ j, a ≤ j → j < a + m → w j = v j) → Fol r n cs most v m a s → Fol r n cs most w m a s
  | 0, _, _, _, _ => trivial
  | m + 1, a, s, h, hf => by
    have e := h a (Nat.le_refl _) (by omega)
    refine ⟨e.trans hf.1, ?_⟩
    rw [e]
    exact Fol.congr (fun j h1 h2 => h j (by omega) (by omega)) hf.2
theorem psCL2 (i : Nat) (s : PS) : psCL r n cs 2 most i s = if tstL r n cs 2 most i s (cs 0) = true then 0 else if tstL r n cs 2 most i s (cs 1) = true then 1 else 2 := rfl
/-- The first of the best. -/
theorem firstBest : ∀ m a s, a + m = n → PlS cs 2 a s → ∃ b0, b0 < 2 ^ m ∧ Fol r n cs most (wb (cs 0) (cs 1) n b0) m a s ∧ admR most (wb (cs 0) (cs 1) n b0) m a s = true ∧ costR r (wb (cs 0) (cs 1) n b0) m a = lk r n cs 2 most m s ∧
    ∀ b, b < 2 ^ m → admR most (wb (cs 0) (cs 1) n b) m a s = true → lk r n cs 2 most m s ≤ costR r (wb (cs 0) (cs 1) n b) m a ∧ (b < b0 → lk r n cs 2 most m s < costR r (wb (cs 0) (cs 1) n b) m a)
  | 0, a, s, _, _ => ⟨0, by simp, trivial, rfl, rfl, fun b hb _ => ⟨Int.le_refl _, fun h => by omega⟩⟩
  | m + 1, a, s, ha, hs => by
    have hx := psCL_lt (r := r) (n := n) (most := most) (i := a) (by omega : 1 ≤ 2) (by omega) hs
    have e1 : n - (a + 1) = m := by omega
    have e2 : n - a = m + 1 := by omega
    obtain ⟨c0, p1, p2, p3, p4, p5⟩ := firstBest m (a + 1) (s.nx (cs 0)) (by omega) (.inl (hs.nx (by omega)))
    obtain ⟨c1, q1, q2, q3, q4, q5⟩ := firstBest m (a + 1) (s.nx (cs 1)) (by omega) (.inl (hs.nx (by omega)))
    have l0 : s.ok most (cs 0) = true → lk r n cs 2 most (m + 1) s ≤ lk r n cs 2 most m (s.nx (cs 0)) + chg (r a) (cs 0) := fun h => by
      have := lkB_le (r := r) (n := n) (lk r n cs 2 most m) (n - (m + 1)) s 2 0 (by omega) h
      rw [show n - (m + 1) = a by omega] at this
      show lkB r n cs most (lk r n cs 2 most m) (n - (m + 1)) s 2 ≤ _
      rw [show n - (m + 1) = a by omega]
      exact this
    have l1 : s.ok most (cs 1) = true → lk r n cs 2 most (m + 1) s ≤ lk r n cs 2 most m (s.nx (cs 1)) + chg (r a) (cs 1) := fun h => by
      have := lkB_le (r := r) (n := n) (lk r n cs 2 most m) (n - (m + 1)) s 2 1 (by omega) h
      rw [show n - (m + 1) = a by omega] at this
      show lkB r n cs most (lk r n cs 2 most m) (n - (m + 1)) s 2 ≤ _
      rw [show n - (m + 1) = a by omega]
      exact this
    -- a row with the low colour first
    have low : ∀ b, b < 2 ^ m → costR r (wb (cs 0) (cs 1) n b) (m + 1) a = chg (r a) (cs 0) + costR r (wb (cs 0) (cs 1) n b) m (a + 1) ∧ (admR most (wb (cs 0) (cs 1) n b) (m + 1) a s = true ↔ s.ok most (cs 0) = true ∧ admR most (wb (cs 0) (cs 1) n b) m (a + 1) (s.nx (cs 0)) = true) := fun b hb => by
      have h := (wb_top (cs 0) (cs 1) ha hb).1
      constructor
      · show chg (r a) (wb (cs 0) (cs 1) n b a) + _ = _
        rw [h]
      · show (s.ok most (wb (cs 0) (cs 1) n b a) && admR most (wb (cs 0) (cs 1) n b) m (a + 1) (s.nx (wb (cs 0) (cs 1) n b a))) = true ↔ _
        rw [h, Bool.and_eq_true]
    have high : ∀ b, b < 2 ^ m → costR r (wb (cs 0) (cs 1) n (2 ^ m + b)) (m + 1) a = chg (r a) (cs 1) + costR r (wb (cs 0) (cs 1) n b) m (a + 1) ∧ (admR most (wb (cs 0) (cs 1) n (2 ^ m + b)) (m + 1) a s = true ↔ s.ok most (cs 1) = true ∧ admR most (wb (cs 0) (cs 1) n b) m (a + 1) (s.nx (cs 1)) = true) := fun b hb => by
      have h := (wb_top (cs 0) (cs 1) ha hb).2
      have hc : ∀ j, a + 1 ≤ j → j < a + 1 + m → wb (cs 0) (cs 1) n (2 ^ m + b) j = wb (cs 0) (cs 1) n b j := fun j h1 h2 => wb_low _ _ ha h1 (by omega)
      constructor
      · show chg (r a) (wb (cs 0) (cs 1) n (2 ^ m + b) a) + costR r (wb (cs 0) (cs 1) n (2 ^ m + b)) m (a + 1) = _
        rw [h, costR_congr hc]
      · show (s.ok most (wb (cs 0) (cs 1) n (2 ^ m + b) a) && admR most (wb (cs 0) (cs 1) n (2 ^ m + b)) m (a + 1) (s.nx (wb (cs 0) (cs 1) n (2 ^ m + b) a))) = true ↔ _
        rw [h, Bool.and_eq_true, admR_congr hc]
    have part : ∀ b, b < 2 ^ (m + 1) → b < 2 ^ m ∨ ∃ b', b' < 2 ^ m ∧ b = 2 ^ m + b' := fun b hb => by
      rw [Nat.pow_succ] at hb
      rcases Nat.lt_or_ge b (2 ^ m) with h | h
      · exact .inl h
      · exact .inr ⟨b - 2 ^ m, by omega, by omega⟩
    have hpw : 2 ^ (m + 1) = 2 ^ m + 2 ^ m := by rw [Nat.pow_succ]; omega
    rw [psCL2] at hx
    by_cases t0 : tstL r n cs 2 most a s (cs 0) = true
    · have hc0 : psCL r n cs 2 most a s = 0 := by rw [psCL2, if_pos t0]
      unfold tstL at t0
      rw [e1, e2, Bool.and_eq_true, decide_eq_true_eq] at t0
      obtain ⟨t1, t2⟩ := t0
      refine ⟨c0, by omega, ⟨?_, ?_⟩, ?_, ?_, fun b hb hadm => ?_⟩
      · rw [(wb_top (cs 0) (cs 1) ha p1).1, hc0]
      · rw [(wb_top (cs 0) (cs 1) ha p1).1]; exact p2
      · exact (low c0 p1).2.2 ⟨t1, p3⟩
      · rw [(low c0 p1).1, p4]; omega
      · rcases part b hb with h | ⟨b', h, rfl⟩
        · obtain ⟨_, h2⟩ := (low b h).2.1 hadm
          have := p5 b h h2
          rw [(low b h).1]
          refine ⟨by omega, fun h3 => ?_⟩
          have := this.2 h3
          omega
        · obtain ⟨h1, h2⟩ := (high b' h).2.1 hadm
          have := q5 b' h h2
          have := l1 h1
          rw [(high b' h).1]
          exact ⟨by omega, fun h3 => by omega⟩
    · rw [if_neg t0] at hx
      have t1 : tstL r n cs 2 most a s (cs 1) = true := by
        by_cases q : tstL r n cs 2 most a s (cs 1) = true
        · exact q
        · rw [if_neg q] at hx; omega
      have hc1 : psCL r n cs 2 most a s = 1 := by rw [psCL2, if_neg t0, if_pos t1]
      unfold tstL at t0 t1
      rw [e1, e2, Bool.and_eq_true, decide_eq_true_eq] at t0 t1
      obtain ⟨t1, t2⟩ := t1
      refine ⟨2 ^ m + c1, by omega, ⟨?_, ?_⟩, ?_, ?_, fun b hb hadm => ?_⟩
      · rw [(wb_top (cs 0) (cs 1) ha q1).2, hc1]
      · rw [(wb_top (cs 0) (cs 1) ha q1).2]
        exact Fol.congr (fun j h1 h2 => wb_low _ _ ha h1 (by omega)) q2
      · exact (high c1 q1).2.2 ⟨t1, q3⟩
      · rw [(high c1 q1).1, q4]; omega
      · rcases part b hb with h | ⟨b', h, rfl⟩
        · obtain ⟨h1, h2⟩ := (low b h).2.1 hadm
          have := p5 b h h2
          have := l0 h1
          have hne : lk r n cs 2 most m (s.nx (cs 0)) + chg (r a) (cs 0) ≠ lk r n cs 2 most (m + 1) s := fun h3 => t0 ⟨h1, h3⟩
          rw [(low b h).1]
          exact ⟨by omega, fun _ => by omega⟩
        · obtain ⟨h1, h2⟩ := (high b' h).2.1 hadm
          have := q5 b' h h2
          rw [(high b' h).1]
          refine ⟨by omega, fun h3 => ?_⟩
          have := this.2 (by omega)
          omega
theorem fol_psL (w : Nat → Int) : ∀ m a, a + m = n → Fol r n cs most w m a (psL r n cs 2 most a) → ∀ j, a ≤ j → j < n → w j = wvL r n cs 2 most j
  | 0, a, ha, _, j, h1, h2 => by omega
  | m + 1, a, ha, hf, j, h1, h2 => by
    have e : w a = wvL r n cs 2 most a := hf.1
    rcases Nat.lt_or_ge a j with q | q
    · have h := hf.2
      rw [hf.1] at h
      exact fol_psL w m (a + 1) (by omega) h j q h2
    · obtain rfl : a = j := by omega
      exact e
end
end Go.Ab

/- Weaving, plainly: a row of two colours can be gone through iff its longest float is short enough. -/
namespace Go.Ab
open Go.Proofs
def lgF (d : Nat → Int) : Nat → Int
  | 0 => 0
  | i + 1 => bif decide (lgF d i < d i) then d i else lgF d i
def flD (r : Nat → Int) (n j : Nat) : Int := nxtF r n ((fl r n n).getD j 0) - ((fl r n n).getD j 0 : Nat) - 1
/-- The longest float. -/
def longest (r : Nat → Int) (n : Nat) : Int := lgF (flD r n) (fl r n n).length
theorem lgF_le (d : Nat → Int) (most : Int) (hm : 0 ≤ most) : ∀ m, lgF d m ≤ most ↔ ∀ i, i < m → d i ≤ most
  | 0 => ⟨fun _ i h => by omega, fun _ => hm⟩
  | m + 1 => by
    have ih := lgF_le d most hm m
    unfold lgF
    by_cases q : lgF d m < d m
    · rw [dT q, cond_true]
      constructor
      · intro h i hi
        by_cases q2 : i = m
        · rw [q2]; exact h
        · exact ih.1 (by omega) i (by omega)
      · intro h; exact h m (by omega)
    · rw [dF q, cond_false, ih]
      constructor
      · intro h i hi
        by_cases q2 : i = m
        · have := ih.2 h
          rw [q2]; omega
        · exact h i (by omega)
      · intro h i hi; exact h i (by omega)
theorem fl_mem {r : Nat → Int} {n m k : Nat} : k ∈ fl r n m ↔ k < m ∧ (k : Int) + 1 < nxtF r n k := by
  unfold fl
  rw [List.mem_filter, List.mem_range, decide_eq_true_eq]
theorem longest_le (r : Nat → Int) (n : Nat) (most : Int) (hm : 0 ≤ most) : longest r n ≤ most ↔ ∀ k, k < n → (k : Int) + 1 < nxtF r n k → nxtF r n k - k - 1 ≤ most := by
  unfold longest
  rw [lgF_le _ _ hm]
  constructor
  · intro h k hk hf
    obtain ⟨i, hi, he⟩ := List.mem_iff_getElem.1 (fl_mem.2 ⟨hk, hf⟩)
    have := h i hi
    unfold flD at this
    rw [List.getD_eq_getElem?_getD, List.getElem?_eq_getElem hi, Option.getD_some, he] at this
    exact this
  · intro h i hi
    have hmem : (fl r n n)[i] ∈ fl r n n := List.getElem_mem _
    have := fl_mem.1 hmem
    unfold flD
    rw [List.getD_eq_getElem?_getD, List.getElem?_eq_getElem hi, Option.getD_some]
    exact h _ this.1 this.2
def stW (w : Nat → Int) : Nat → PS
  | 0 => ⟨0, 0, false⟩
  | p + 1 => (stW w p).nx (w p)
theorem admR_iff (most : Int) (w : Nat → Int) : ∀ m a, admR most w m a (stW w a) = true ↔ ∀ p, a ≤ p → p < a + m → (stW w p).ok most (w p) = true
  | 0, a => ⟨fun _ p h1 h2 => by omega, fun _ => rfl⟩
  | m + 1, a => by
    have ih := admR_iff most w m (a + 1)
    unfold admR
    rw [Bool.and_eq_true]
    change _ ∧ admR most w m (a + 1) (stW w (a + 1)) = true ↔ _
    rw [ih]
    constructor
    · rintro ⟨h1, h2⟩ p h3 h4
      by_cases q : p = a
      · rw [q]; exact h1
      · exact h2 p (by omega) (by omega)
    · intro h
      exact ⟨h a (Nat.le_refl _) (by omega), fun p h1 h2 => h p (by omega) (by omega)⟩
structure StI (w : Nat → Int) (p : Nat) (R : Nat) : Prop where
  c : (stW w p).c = w (p - 1)
  run : (stW w p).run = R
  r1 : 1 ≤ R
  rp : R ≤ p
  same : ∀ j, p - R ≤ j → j < p → w j = w (p - 1)
  inn : (R = p ∧ (stW w p).inn = false) ∨ (R < p ∧ w (p - R - 1) ≠ w (p - 1) ∧ (stW w p).inn = true)
theorem stI (w : Nat → Int) : ∀ p, 1 ≤ p → ∃ R, StI w p R
  | 0, h => by omega
  | 1, _ => ⟨1, rfl, rfl, Nat.le_refl _, Nat.le_refl _, fun j _ h => by rw [show j = 0 by omega], .inl ⟨rfl, rfl⟩⟩
  | p + 2, _ => by
    obtain ⟨R, h⟩ := stI w (p + 1) (by omega)
    have hc := h.c
    have hr := h.run
    have h1 := h.r1
    have hrp := h.rp
    have es : stW w (p + 2) = (stW w (p + 1)).nx (w (p + 1)) := rfl
    have e0 : decide ((stW w (p + 1)).run = 0) = false := by rw [hr]; exact decide_eq_false (by omega)
    rw [show p + 1 - 1 = p by omega] at hc
    by_cases q : w p = w (p + 1)
    · have e1 : decide ((stW w (p + 1)).c = w (p + 1)) = true := by rw [hc]; exact decide_eq_true q
      refine ⟨R + 1, ?_, ?_, by omega, by omega, fun j h2 h3 => ?_, ?_⟩
      · rw [es]; rfl
      · rw [es]
        show nK _ _ _ = _
        unfold nK
        rw [e0, cond_false, e1, cond_true, hr]
        omega
      · rw [show p + 2 - 1 = p + 1 by omega]
        by_cases q2 : j = p + 1
        · rw [q2]
        · rw [← q]
          have := h.same j (by omega) (by omega)
          rw [show p + 1 - 1 = p by omega] at this
          exact this
      · have ei : (stW w (p + 2)).inn = (stW w (p + 1)).inn := by
          rw [es]
          show nI _ _ _ _ = _
          unfold nI
          rw [e0, cond_false, e1, cond_true]
        rw [ei]
        rcases h.inn with ⟨g1, g2⟩ | ⟨g1, g2, g3⟩
        · exact .inl ⟨by omega, g2⟩
        · refine .inr ⟨by omega, ?_, g3⟩
          rw [show p + 2 - (R + 1) - 1 = p + 1 - R - 1 by omega, show p + 2 - 1 = p + 1 by omega, ← q]
          rw [show p + 1 - 1 = p by omega] at g2
          exact g2
    · have e1 : decide ((stW w (p + 1)).c = w (p + 1)) = false := by rw [hc]; exact decide_eq_false q
      refine ⟨1, ?_, ?_, Nat.le_refl _, by omega, fun j h2 h3 => by rw [show j = p + 1 by omega]; rfl, .inr ⟨by omega, ?_, ?_⟩⟩
      · rw [es]; rfl
      · rw [es]
        show nK _ _ _ = _
        unfold nK
        rw [e0, cond_false, e1, cond_false]
        rfl
      · rw [show p + 2 - 1 - 1 = p by omega, show p + 2 - 1 = p + 1 by omega]; exact q
      · rw [es]
        show nI _ _ _ _ = _
        unfold nI
        rw [e0, cond_false, e1, cond_false]
/-- Two colours: a row can be gone through iff its longest float is short enough. -/
theorem adm_longest (w : Nat → Int) (n : Nat) (lo hi : Int) (most : Int) (hm : 0 ≤ most) (hw : ∀ j, j < n → w j = lo ∨ w j = hi) :
    admR most w n 0 ⟨0, 0, false⟩ = true ↔ longest w n ≤ most := by
  rw [longest_le _ _ _ hm]
  have hk := admR_iff most w n 0
  change admR most w n 0 ⟨0, 0, false⟩ = true ↔ _ at hk
  rw [hk]
  constructor
  · intro h k hk hf
    rw [nxtF_sI] at hf ⊢
    by_cases q : sI w n k < n
    · rw [if_pos q] at hf ⊢
      have hne := srch_ne w (w k) (n - (k + 1)) (k + 1)
      have heq := srch_eq w (w k) (n - (k + 1)) (k + 1)
      change ∀ j, k + 1 ≤ j → j < sI w n k → w j ≠ w k at hne
      change sI w n k < _ → w (sI w n k) = w k at heq
      have heq := heq (by omega)
      generalize sI w n k = J at *
      obtain ⟨R, hI⟩ := stI w J (by omega)
      have ho := h J (Nat.zero_le _) (by omega)
      have h1 := hne (J - 1) (by omega) (by omega)
      have hrp := hI.rp
      have hr1 := hI.r1
      have e : R = J - 1 - k := by
        rcases Nat.lt_trichotomy R (J - 1 - k) with g | g | g
        · exfalso
          rcases hI.inn with ⟨g1, _⟩ | ⟨_, g2, _⟩
          · omega
          · have h2 := hne (J - R - 1) (by omega) (by omega)
            rcases hw (J - R - 1) (by omega) with a | a <;> rcases hw (J - 1) (by omega) with b | b <;> rcases hw k hk with c | c <;> rw [a, b] at g2 <;> rw [a, c] at h2 <;> rw [b, c] at h1 <;> first | exact g2 rfl | exact h2 rfl | exact h1 rfl
        · exact g
        · exfalso
          have := hI.same k (by omega) (by omega)
          exact h1 this.symm
      have hin : (stW w J).inn = true := by
        rcases hI.inn with ⟨g1, _⟩ | ⟨_, _, g3⟩
        · omega
        · exact g3
      unfold PS.ok nO at ho
      rw [hI.run, decide_eq_false (by omega), cond_false, hI.c, heq, decide_eq_false h1, cond_false, hin, cond_true, decide_eq_true_eq] at ho
      omega
    · rw [if_neg q] at hf
      omega
  · intro h p _ hp
    rcases Nat.eq_zero_or_pos p with q | q
    · subst q; rfl
    · obtain ⟨R, hI⟩ := stI w p q
      have hrp := hI.rp
      have hr1 := hI.r1
      unfold PS.ok nO
      rw [hI.run, decide_eq_false (by omega), cond_false, hI.c]
      by_cases q2 : w (p - 1) = w p
      · rw [decide_eq_true q2, cond_true]
      · rw [decide_eq_false q2, cond_false]
        rcases hI.inn with ⟨_, g2⟩ | ⟨g1, g2, g3⟩
        · rw [g2, cond_false]
        · rw [g3, cond_true, decide_eq_true_eq]
          have hk2 : p - R - 1 < n := by omega
          have e : w p = w (p - R - 1) := by
            rcases hw p (by omega) with a | a <;> rcases hw (p - 1) (by omega) with b | b <;> rcases hw (p - R - 1) hk2 with c | c <;> rw [b, a] at q2 <;> rw [c, b] at g2 <;> first | (rw [a, c]; done) | exact absurd rfl q2 | exact absurd rfl g2
          have hs : sI w n (p - R - 1) = p := by
            have hge := srch_ge w (w (p - R - 1)) (n - (p - R - 1 + 1)) (p - R - 1 + 1)
            have hne := srch_ne w (w (p - R - 1)) (n - (p - R - 1 + 1)) (p - R - 1 + 1)
            have heq := srch_eq w (w (p - R - 1)) (n - (p - R - 1 + 1)) (p - R - 1 + 1)
            unfold sI
            generalize srch w (w (p - R - 1)) (n - (p - R - 1 + 1)) (p - R - 1 + 1) = J at *
            rcases Nat.lt_trichotomy J p with g | g | g
            · exfalso
              have h1 := heq (by omega)
              have h2 := hI.same J (by omega) g
              exact g2 (by rw [← h1, h2])
            · exact g
            · exfalso
              exact hne p (by omega) g e
          have hh := h (p - R - 1) hk2
          have hp2 : p < n := by omega
          rw [nxtF_sI, hs, if_pos hp2] at hh
          have := hh (by omega)
          omega
end Go.Ab

/- lives: the examples of the chapter. -/
namespace Go.Ab
open Go.Proofs
def litR (l : List Int) (j : Nat) : Int := l.getD j 0
def flT (l : List (List T)) : T := .new (.view 3 l.length (fun j => l.getD j []) (some l.length))
def cellIs (x : List T) (v : Int) : Bool := match x with
  | [.int .u8 y] => decide (y = v)
  | _ => false
def chkRow (g : Nat → List T) (l : List Int) : Bool := (List.range l.length).all fun j => cellIs (g j) (litR l j)
def exA : List (List T) := [[.int .u8 1, .int .i64 1, .int .i64 2], [.int .u8 2, .int .i64 3, .int .i64 2]]
def exB : List (List T) := [[.int .u8 1, .int .i64 1, .int .i64 2]]
def floS : List T → Tree
  | [.view 1 6 g _] => .ite (chkRow g [1, 2, 2, 1, 1, 2]) (.ret (flT exA)) .none
  | [.view 1 4 g _] => .ite (chkRow g [1, 2, 3, 1]) (.ret (flT exB)) (.ite (chkRow g [1, 1, 2, 2]) (.ret (flT [])) .none)
  | _ => .none
def weaveR (n : Nat) (l : List Int) (tot : Int) : T := .tup [.fresh false 1 1 (fun _ => [wrow n (litR l)]) 1 (some 1), .int .i64 tot, .int .i64 0]
def wevS : List T → Tree
  | [.view 1 1 G _, .int .i64 m] => match G 0 with
    | [.view 1 5 g _] => .ite (chkRow g [1, 2, 2, 2, 1] && decide (m = 2)) (.ret (weaveR 5 [1, 1, 2, 2, 1] 1)) .none
    | [.view 1 7 g _] => .ite (chkRow g [1, 2, 2, 2, 2, 2, 1] && decide (m = 2)) (.ret (weaveR 7 [1, 2, 2, 1, 2, 2, 1] 1)) .none
    | [.view 1 4 g _] => .ite (chkRow g [1, 2, 2, 2] && decide (m = 1)) (.ret (weaveR 4 [1, 2, 2, 2] 0)) .none
    | _ => .none
  | _ => .none
noncomputable def K12 : Orc := (noneO.add 10 floS).add 14 wevS

theorem lives_run : stepV P18 G18 A18 K12 4 12 [] = some (.bool true) := by kernel_rfl
theorem chk_row {g : Nat → List T} {l : List Int} (h : chkRow g l = true) {j : Nat} (hj : j < l.length) : g j = [.int .u8 (litR l j)] := by
  have := List.all_eq_true.1 h j (List.mem_range.2 hj)
  revert this
  generalize g j = x
  intro this
  unfold cellIs at this
  split at this
  · rw [of_decide_eq_true this]
  · cases this
theorem row_sim {g : Nat → List T} {l : List Int} {n : Nat} {c : Option Nat} (h : chkRow g l = true) (hn : n = l.length) : Sim (.view 1 n g c) (rowV (litR l) n c) := by
  subst hn
  refine .view (.inl rfl) fun j hj => ?_
  rw [chk_row h hj]
  exact .refl _
theorem flo1 {g : Nat → List T} {n : Nat} {c : Option Nat} (l : List Int) (e : List (List T)) (hl : n = l.length) (hn : n ≤ 60) (hr : ∀ j, j < n → 0 ≤ litR l j ∧ litR l j < 256) (he : (fl (litR l) n n).length = e.length) (hg : ∀ j, j < e.length → flG (litR l) n j = e.getD j [])
    (h : chkRow g l = true) : ToldOk P18 G18 10 [.view 1 n g c] (flT e) := by
  have t := (floatsT (litR l) n c (by omega) hr).sim (args := [.view 1 n g c]) (.cons (row_sim h hl) .nil)
  rw [he] at t
  refine t.resTo (.new (.view (.inl rfl) fun j hj => ?_))
  rw [hg j hj]
  exact .refl _
theorem lit_ok {l : List Int} {n : Nat} (h : (List.range n).all (fun j => decide (1 ≤ litR l j) && decide (litR l j ≤ 6)) = true) {j : Nat} (hj : j < n) : 1 ≤ litR l j ∧ litR l j ≤ 6 := by
  have := List.all_eq_true.1 h j (List.mem_range.2 hj)
  simp only [Bool.and_eq_true, decide_eq_true_eq] at this
  exact this
theorem all_lt {p : Nat → Prop} {n : Nat} [DecidablePred p] (h : (List.range n).all (fun j => decide (p j)) = true) (j : Nat) (hj : j < n) : p j := of_decide_eq_true (List.all_eq_true.1 h j (List.mem_range.2 hj))
theorem floT {args : List T} {r : T} (h : (floS args).run some = some r) : ToldOk P18 G18 10 args r := by
  unfold floS at h
  split at h
  · simp only [Tree.run] at h
    obtain ⟨h1, h⟩ := bif_none h
    obtain rfl := Option.some.inj h
    refine flo1 [1, 2, 2, 1, 1, 2] exA rfl (by omega) (fun j hj => ?_) (by decide +kernel) (fun j hj => ?_) h1
    · have := lit_ok (l := [1, 2, 2, 1, 1, 2]) (n := 6) (by decide +kernel) hj
      omega
    · have : j < 2 := hj
      obtain rfl | rfl : j = 0 ∨ j = 1 := by omega
      · exact (show flG (litR [1, 2, 2, 1, 1, 2]) 6 0 = exA.getD 0 [] from by kernel_rfl)
      · exact (show flG (litR [1, 2, 2, 1, 1, 2]) 6 1 = exA.getD 1 [] from by kernel_rfl)
  · simp only [Tree.run] at h
    rename_i g c
    cases q : chkRow g [1, 2, 3, 1]
    · rw [q] at h
      obtain ⟨h1, h⟩ := bif_none h
      obtain rfl := Option.some.inj h
      refine flo1 [1, 1, 2, 2] [] rfl (by omega) (fun j hj => ?_) (by decide +kernel) (fun j hj => by cases hj) h1
      have := lit_ok (l := [1, 1, 2, 2]) (n := 4) (by decide +kernel) hj
      omega
    · rw [q] at h
      obtain rfl := Option.some.inj h
      refine flo1 [1, 2, 3, 1] exB rfl (by omega) (fun j hj => ?_) (by decide +kernel) (fun j hj => ?_) q
      · have := lit_ok (l := [1, 2, 3, 1]) (n := 4) (by decide +kernel) hj
        omega
      · have : j < 1 := hj
        obtain rfl : j = 0 := by omega
        exact (show flG (litR [1, 2, 3, 1]) 4 0 = exB.getD 0 [] from by kernel_rfl)
  · cases h
theorem wev1 {G : Nat → List T} {g : Nat → List T} {n : Nat} {rc c : Option Nat} (l e cl : List Int) (most tot : Int) (hG : G 0 = [.view 1 n g rc]) (hl : n = l.length) (hn1 : 1 ≤ n) (hn : n ≤ nmax) (hm : 1 ≤ most ∧ most ≤ 16)
    (hr : ∀ j, j < n → 1 ≤ litR l j ∧ litR l j ≤ 6) (hk : kindL (litR l) n = cl) (hk2 : cl.length ≤ 2) (hw : ∀ j, j < n → wvL (litR l) n (fun j => cl.getD j 0) cl.length most j = litR e j) (ht : lk (litR l) n (fun j => cl.getD j 0) cl.length most n ⟨0, 0, false⟩ = tot) (htb : 0 ≤ tot ∧ tot ≤ 1000)
    (h : chkRow g l = true) : ToldOk P18 G18 14 [.view 1 1 G c, .int .i64 most] (weaveR n e tot) := by
  have hk3 : kK (litR l) n = cl.length := by unfold kK; rw [hk]
  have hc3 : csK (litR l) n = fun j => cl.getD j 0 := by funext j; unfold csK; rw [hk]
  have t := weaveT (litR l) n rc most hn1 hn fun j hj => by have := hr j hj; omega
  rw [hk3, hc3, ht] at t
  have t2 : ToldOk P18 G18 30 [rowV (litR l) n rc, .int .i64 most] (.tup [.new (wrow n (litR e)), .int .i64 tot]) := by
    refine ToldOk.tupTo t (.cons (.new (.view (.inl rfl) fun j hj => ?_)) (.cons (.refl _) .nil))
    rw [hw j hj]
    exact .refl _
  have ok : PicOk (fun _ => litR l) n 1 := ⟨hn1, hn, by omega, rfl, fun i _ => hr, fun i _ => by rw [hk3]; exact hk2⟩
  have t3 := WeaveT (fun _ => litR l) n 1 rc c most (fun _ => litR e) (fun _ => tot) ok hm (fun i _ => by omega) fun i _ => t2
  rw [show sumN (fun _ => tot) 1 = tot by simp [sumN]] at t3
  refine t3.sim (.cons (.view (.inl rfl) fun j hj => ?_) (.cons (.refl _) .nil))
  have hj : j < 1 := hj
  obtain rfl : j = 0 := by omega
  rw [hG]
  exact .cons (row_sim h hl) .nil
theorem wevT {args : List T} {r : T} (h : (wevS args).run some = some r) : ToldOk P18 G18 14 args r := by
  unfold wevS at h
  split at h
  · split at h
    · rename_i hG
      simp only [Tree.run] at h
      obtain ⟨h1, h⟩ := bif_none h
      obtain rfl := Option.some.inj h
      simp only [Bool.and_eq_true, decide_eq_true_eq] at h1
      obtain ⟨h1, rfl⟩ := h1
      exact wev1 [1, 2, 2, 2, 1] [1, 1, 2, 2, 1] [1, 2] 2 1 hG rfl (by omega) (by unfold nmax; omega) (by omega) (fun j hj => lit_ok (n := 5) (by decide +kernel) hj) (by decide +kernel) (by decide) (all_lt (by decide +kernel)) (by decide +kernel) (by omega) h1
    · rename_i hG
      simp only [Tree.run] at h
      obtain ⟨h1, h⟩ := bif_none h
      obtain rfl := Option.some.inj h
      simp only [Bool.and_eq_true, decide_eq_true_eq] at h1
      obtain ⟨h1, rfl⟩ := h1
      exact wev1 [1, 2, 2, 2, 2, 2, 1] [1, 2, 2, 1, 2, 2, 1] [1, 2] 2 1 hG rfl (by omega) (by unfold nmax; omega) (by omega) (fun j hj => lit_ok (n := 7) (by decide +kernel) hj) (by decide +kernel) (by decide) (all_lt (by decide +kernel)) (by decide +kernel) (by omega) h1
    · rename_i hG
      simp only [Tree.run] at h
      obtain ⟨h1, h⟩ := bif_none h
      obtain rfl := Option.some.inj h
      simp only [Bool.and_eq_true, decide_eq_true_eq] at h1
      obtain ⟨h1, rfl⟩ := h1
      exact wev1 [1, 2, 2, 2] [1, 2, 2, 2] [1, 2] 1 0 hG rfl (by omega) (by unfold nmax; omega) (by omega) (fun j hj => lit_ok (n := 4) (by decide +kernel) hj) (by decide +kernel) (by decide) (all_lt (by decide +kernel)) (by decide +kernel) (by omega) h1
    · cases h
  · cases h
/-- The examples of the chapter hold. -/
theorem livesT : ToldOk P18 G18 12 [] (.bool true) := stepV_told hm18 hn18 (told_add (told_add none_ok fun _ _ => floT) fun _ _ => wevT) lives_run
end Go.Ab

namespace Go.Ab
open Go.Proofs
def v3 (a b d : Nat → Int) (m : Nat) (i : Int) : List T := [.view 3 m (fun j => [.int .u8 (a j), .int .i64 (b j), .int .i64 (d j)]) (some m), .view 3 m (fun j => [.int .u8 (a j), .int .i64 (b j), .int .i64 (d j)]) none, .int .i64 i]
noncomputable def K3 (p q l : List T → T → Prop) (a b d : Nat → Int) (m : Nat) : Orc := ((noneO.add 10 (callF p fun _ => some (.new (.view 3 m (fun j => [.int .u8 (a j), .int .i64 (b j), .int .i64 (d j)]) (some m))))).add 11 (callF q fun _ => some (.new (.view 3 m (fun j => [.int .u8 (a j), .int .i64 (b j), .int .i64 (d j)]) none)))).add 12 (callF l fun _ => some (.bool true))
theorem l3 (a b d : Nat → Int) (m : Nat) (hm : m ≤ 1000) : LoopOk P18 G18 (A18 3) 3 8 (litS (v3 a b d m 0) [] (.exit 0) [.undef] []) := by
  refine loop_steps hm18 (by kernel_rfl) (fun i => v3 a b d m (i : Nat)) (fun _ => []) (n := m) (fun i hi => ?_) ?_
  · refine Step.mk0 (A := A18) (m := 0) none_ok rfl rfl loops0 (h1 := []) ?_ .nil
    refine Eq.trans (show iterR P18 G18 A18 noneO 0 3 [] 8 (v3 a b d m i) [] =
(
 bif decide (Int.ofNat i < Int.ofNat m) then
 bif decide ((0 : Int) ≤ Int.ofNat i) && decide (Int.ofNat i < Int.ofNat m) then
 bif decide ((0 : Int) ≤ Int.ofNat i) && decide (Int.ofNat i < Int.ofNat m) then
 bif decide (a i = a i) then
 bif decide (b i = b i) then
 bif decide (d i = d i) then
 some ((Ex.normal, [T.view 3 m (fun j => [T.int .u8 (a j), T.int .i64 (b j), T.int .i64 (d j)]) (some m), T.view 3 m (fun j => [T.int .u8 (a j), T.int .i64 (b j), T.int .i64 (d j)])
 none, T.int .i64 (IntKind.i64.wrap (Int.ofNat i + (1 : Int)))], []))
 else
 some ((Ex.ret, [T.bool false], []))
 else
 some ((Ex.ret, [T.bool false], []))
 else
 some ((Ex.ret, [T.bool false], []))
 else none else none else
 some ((Ex.exit 0, [T.undef], []))) from by kernel_rfl) ?_
    (repeat (first | (refine bift (by first | assumption | omega | (simp (disch := omega) only [numsE, List.length_cons, List.length_nil, Nat.reduceAdd]; done) | (simp (disch := omega) only [numsE, List.length_cons, List.length_nil, Nat.reduceAdd]; omega)) ?_) | (refine biff (by first | assumption | (simp (disch := omega) only [numsE, List.length_cons, List.length_nil, Nat.reduceAdd]; done) | (simp (disch := omega) only [numsE, List.length_cons, List.length_nil, Nat.reduceAdd]; omega)) ?_)))
    rw [ofNatE i, wr64 (x := (i : Int) + 1) (by omega) (by omega)]
    first | rfl | (refine biff (by simp) ?_; rfl)
  · refine Last.mk0 (A := A18) (m := 0) none_ok rfl rfl loops0 (h1 := []) (by simp) ?_ .nil
    refine Eq.trans (show iterR P18 G18 A18 noneO 0 3 [] 8 (v3 a b d m (m : Nat)) [] =
(
 bif decide (Int.ofNat m < Int.ofNat m) then
 bif decide ((0 : Int) ≤ Int.ofNat m) && decide (Int.ofNat m < Int.ofNat m) then
 bif decide ((0 : Int) ≤ Int.ofNat m) && decide (Int.ofNat m < Int.ofNat m) then
 bif decide (a m = a m) then
 bif decide (b m = b m) then
 bif decide (d m = d m) then
 some ((Ex.normal, [T.view 3 m (fun j => [T.int .u8 (a j), T.int .i64 (b j), T.int .i64 (d j)]) (some m), T.view 3 m (fun j => [T.int .u8 (a j), T.int .i64 (b j), T.int .i64 (d j)])
 none, T.int .i64 (IntKind.i64.wrap (Int.ofNat m + (1 : Int)))], []))
 else
 some ((Ex.ret, [T.bool false], []))
 else
 some ((Ex.ret, [T.bool false], []))
 else
 some ((Ex.ret, [T.bool false], []))
 else none else none else
 some ((Ex.exit 0, [T.undef], []))) from by kernel_rfl) ?_
    (repeat (first | (refine bift (by first | assumption | omega | (simp (disch := omega) only [numsE, List.length_cons, List.length_nil, Nat.reduceAdd]; done) | (simp (disch := omega) only [numsE, List.length_cons, List.length_nil, Nat.reduceAdd]; omega)) ?_) | (refine biff (by first | assumption | (simp (disch := omega) only [numsE, List.length_cons, List.length_nil, Nat.reduceAdd]; done) | (simp (disch := omega) only [numsE, List.length_cons, List.length_nil, Nat.reduceAdd]; omega)) ?_)))
    rfl
theorem law3 (r : Nat → Int) (n : Nat) (c : Option Nat) (hr : ∀ j, j < n → 0 ≤ r j ∧ r j < 256) : ToldOk P18 G18 3 [rowV r n c] (.bool true) := by
  rcases Nat.lt_or_ge 60 n with q | q
  · refine stepV_told hm18 hn18 none_ok (A := A18) (m := 0) ?_
    refine Eq.trans (show stepV P18 G18 A18 noneO 0 3 [rowV r n c] =
(
 bif decide ((60 : Int) < Int.ofNat n) then
 some (T.bool true)
 else
 none) from by kernel_rfl) ?_
    exact bift (by first | assumption | omega | (simp (disch := omega) only [numsE, List.length_cons, List.length_nil, Nat.reduceAdd]; done) | (simp (disch := omega) only [numsE, List.length_cons, List.length_nil, Nat.reduceAdd]; omega)) rfl
  · obtain ⟨p, hp⟩ := is_val P18 G18 10
    obtain ⟨p2, hp2⟩ := is_val P18 G18 11
    obtain ⟨l, hl⟩ := is_val P18 G18 12
    have t1 := floatsT r n c (by omega) hr
    have t2 := refFloatsT r n c (by omega) hr
    have hb := fl_len r n n
    have hl3 := l3 (fun j => r ((fl r n n).getD j 0)) (fun j => (((fl r n n).getD j 0 : Nat) : Int) + 1) (fun j => nxtF r n ((fl r n n).getD j 0) - ((fl r n n).getD j 0 : Nat) - 1) (fl r n n).length (by omega)
    change ToldOk P18 G18 10 _ (.new (.view 3 (fl r n n).length (fun j => [.int .u8 ((fun j => r ((fl r n n).getD j 0)) j), .int .i64 ((fun j => (((fl r n n).getD j 0 : Nat) : Int) + 1) j), .int .i64 ((fun j => nxtF r n ((fl r n n).getD j 0) - ((fl r n n).getD j 0 : Nat) - 1) j)]) (some (fl r n n).length))) at t1
    change ToldOk P18 G18 11 _ (.new (.view 3 (fl r n n).length (fun j => [.int .u8 ((fun j => r ((fl r n n).getD j 0)) j), .int .i64 ((fun j => (((fl r n n).getD j 0 : Nat) : Int) + 1) j), .int .i64 ((fun j => nxtF r n ((fl r n n).getD j 0) - ((fl r n n).getD j 0 : Nat) - 1) j)]) none)) at t2
    generalize (fun j => r ((fl r n n).getD j 0)) = a at *
    generalize (fun j => (((fl r n n).getD j 0 : Nat) : Int) + 1) = b at *
    generalize (fun j => nxtF r n ((fl r n n).getD j 0) - ((fl r n n).getD j 0 : Nat) - 1) = d at *
    generalize (fl r n n).length = m at *
    refine stepL_told hm18 hn18 (K := K3 p p2 l a b d m) (told_add (told_add (told_add none_ok (callF_told hp)) (callF_told hp2)) (callF_told hl)) (A := A18) (m := 0) (by kernel_rfl) (loops1 hl3) ?_
    refine Eq.trans (show stepL P18 G18 A18 (K3 p p2 l a b d m) 0 3 [(8, litS (v3 a b d m 0) [] (.exit 0) [.undef] [])] [rowV r n c] =
(
 bif decide ((60 : Int) < Int.ofNat n) then
 some (T.bool true)
 else
 bif decF (p [rowV r n c] (T.view 3 m (fun j => [T.int .u8 (a j), T.int .i64 (b j), T.int .i64 (d j)]) (some m)).new) then
 bif decF (p2 [rowV r n c] (T.view 3 m (fun j => [T.int .u8 (a j), T.int .i64 (b j), T.int .i64 (d j)])
 none).new) then
 bif !decide (Int.ofNat m = Int.ofNat m) then
 some (T.bool false)
 else
 bif !decide (Int.ofNat m = Int.ofNat m) then
 some (T.bool false)
 else
 bif weakF [T.view 3 m (fun j => [T.int .u8 (a j), T.int .i64 (b j), T.int .i64 (d j)]) (some m), T.view 3 m (fun j => [T.int .u8 (a j), T.int .i64 (b j), T.int .i64 (d j)])
 none, T.int .i64 (0 : Int)] [] [T.view 3 m (fun j => [T.int .u8 (a j), T.int .i64 (b j), T.int .i64 (d j)]) (some m), T.view 3 m (fun j => [T.int .u8 (a j), T.int .i64 (b j), T.int .i64 (d j)])
 none, T.int .i64 (0 : Int)] [] then
 bif decF (l [] (T.bool true)) then
 some (T.bool true)
 else none else none else none else
 none) from by kernel_rfl) ?_
    refine biff (by first | assumption | (simp (disch := omega) only [numsE, List.length_cons, List.length_nil, Nat.reduceAdd]; done) | (simp (disch := omega) only [numsE, List.length_cons, List.length_nil, Nat.reduceAdd]; omega)) ?_
    refine bift (callF_yes hp t1) ?_
    refine bift (callF_yes hp2 t2) ?_
    refine biff (by simp) ?_
    refine biff (by simp) ?_
    refine bift (weakF_of ⟨rfl, .refl _⟩) ?_
    exact bift (callF_yes hl livesT) rfl
end Go.Ab

namespace Go.Ab
open Go.Proofs
/-- The rows of plain data. -/
structure IR where
  wd : Int
  m : Nat
  ln : Nat → Nat
  x : Nat → Nat → Int
def IR.rows (D : IR) (c : Option Nat) : T := .view 1 D.m (fun i => [rowV (D.x i) (D.ln i) none]) c
def IR.w (D : IR) : Nat := 1 + (D.wd % 10).toNat
def pairA (v : Int) : Int := if v < 64 then 1 else if v < 128 then 1 else if v < 192 then 2 else 5
def pairB (v : Int) : Int := if v < 64 then 2 else if v < 128 then 3 else if v < 192 then 3 else 4
def IR.pA (D : IR) (i : Nat) : Int := if i < D.m ∧ 0 < D.ln i then pairA (D.x i 0) else 1
def IR.pB (D : IR) (i : Nat) : Int := if i < D.m ∧ 0 < D.ln i then pairB (D.x i 0) else 2
def IR.r (D : IR) (i k : Nat) : Int := if i < D.m ∧ k < D.ln i then (if D.x i k % 2 = 0 then D.pA i else D.pB i) else D.pA i
def v13 (D : IR) (w n : Nat) (p : T) (i : Nat) (a b : Int) (row : T) (k : Int) : List T := [.reg [.int .u8 D.wd, D.rows none], .int .i64 w, .int .i64 n, p, .int .i64 i, .reg [.int .u8 a, .int .u8 b], row, .int .i64 k]
def w13 (D : IR) (w n : Nat) (p : T) (i : Nat) : List T := [.reg [.int .u8 D.wd, D.rows none], .int .i64 w, .int .i64 n, p, .int .i64 i]
def pbk (i : Nat) (g : Nat → T) : Blk := ⟨i, 1, i + 1, fun e => [g e], false, false, none⟩
def rbk (w : Nat) (y : Nat → Int) : Blk := ⟨0, 1, w, fun e => [.int .u8 (y e)], true, false, none⟩
def tabB : Blk := ⟨0, 2, 4, fun j => [[.int .u8 1, .int .u8 2], [.int .u8 1, .int .u8 3], [.int .u8 2, .int .u8 3], [.int .u8 5, .int .u8 4]].getD j [], true, true, none⟩
def pbR (w j : Nat) (R : Nat → Nat → Int) : Blk := ⟨j, 1, j + 1, fun e => [wrow w (R e)], false, false, none⟩
def pO (j : Nat) : T := .own 0 j 0 (j + 1) none

def rowF (D : IR) (i : Nat) (a b : Int) (k : Nat) : Int := if i < D.m ∧ k < D.ln i then (if D.x i k % 2 = 0 then a else b) else a
structure IR.Ok (D : IR) : Prop where
  wd : 0 ≤ D.wd ∧ D.wd < 256
  x : ∀ i k, 0 ≤ D.x i k ∧ D.x i k < 256
theorem rowF_t {D : IR} {i k : Nat} (a b : Int) (h1 : i < D.m) (h2 : k < D.ln i) (h3 : D.x i k % 2 = 1) : rowF D i a b k = b := by
  unfold rowF
  rw [if_pos ⟨h1, h2⟩, if_neg (by omega)]
theorem rowF_e {D : IR} {i k : Nat} (a b : Int) (h1 : i < D.m) (h2 : k < D.ln i) (h3 : D.x i k % 2 = 0) : rowF D i a b k = a := by
  unfold rowF
  rw [if_pos ⟨h1, h2⟩, if_pos h3]
theorem rowF_n {D : IR} {i k : Nat} (a b : Int) (h : ¬ (i < D.m ∧ k < D.ln i)) : rowF D i a b k = a := by
  unfold rowF
  rw [if_neg h]
theorem rbk_ok {w k : Nat} {f : Nat → Int} {y : Nat → Int} {v : Int} (hf : f k = v) (hy : ∀ e, y e = bif e == k then v else bif Nat.blt e k then f e else 0) (j : Nat) : (rbk w fun e => bif Nat.blt e (k + 1) then f e else 0).get j = (rbk w y).get j := by
  show [T.int .u8 (bif Nat.blt j (k + 1) then f j else 0)] = [.int .u8 (y j)]
  rw [hy j]
  by_cases q : j = k
  · subst q; rw [beq_self_eq_true, cond_true, bltT (by omega), cond_true, hf]
  · rw [show (j == k) = false by simpa using q, cond_false]
    by_cases q2 : j < k
    · rw [bltT q2, bltT (by omega)]
    · rw [bltF (by omega), bltF (by omega)]

theorem l13k0 (D : IR) (w n : Nat) (p : T) (i : Nat) (a b : Int) (hD : D.Ok) (hw : w ≤ 1000) :
    LoopOk P18 G18 (A18 13) 13 14 (litS (v13 D w n p i a b (.own 0 0 0 w (some w)) 0) [rbk w fun _ => 0] (.exit 2) (w13 D w n p i ++ [.own 0 0 0 w (some w)]) [rbk w (rowF D i a b)]) := by
  refine loop_steps hm18 (by kernel_rfl) (fun k => v13 D w n p i a b (.own 0 0 0 w (some w)) (k : Nat)) (fun k => [rbk w fun e => bif Nat.blt e k then rowF D i a b e else 0]) (n := w) (fun k hk => ?_) ?_
  · obtain ⟨y, hy2⟩ : ∃ y : Nat → Int, ∀ e, y e = bif Nat.blt e k then rowF D i a b e else 0 := ⟨_, fun _ => rfl⟩
    have hy3 : (fun e => bif Nat.blt e k then rowF D i a b e else 0) = y := by funext e; rw [hy2]
    have hx := hD.x i k
    have hkk : IntKind.i64.wrap ((k : Int) + 1) = ((k + 1 : Nat) : Int) := by rw [wr64 (by omega) (by omega)]; omega
    show Step P18 G18 (A18 13) 13 14 _ _ [rbk w fun e => bif Nat.blt e k then rowF D i a b e else 0] _ _
    rw [hy3]
    by_cases q : i < D.m ∧ k < D.ln i
    · have e1 : (D.x i k).tmod 2 = D.x i k % 2 := by rw [Int.tmod_eq_emod_of_nonneg hx.1]
      by_cases q2 : D.x i k % 2 = 1
      · refine Step.mk0 (A := A18) (m := 0) none_ok rfl rfl loops0 (h1 := [rbk w fun e => bif e == 0 + k then b else bif e == 0 + k then a else y e]) ?_ (.cons ⟨rfl, rfl, rfl, id, fun j _ => rbk_ok (rowF_t a b q.1 q.2 q2) (fun e => by rw [Nat.zero_add, hy2] <;> cases e == k <;> rfl) j⟩ .nil)
        refine Eq.trans (show iterR P18 G18 A18 noneO 0 13 [] 14 (v13 D w n p i a b (.own 0 0 0 w (some w)) k) [rbk w y] =
(
 bif decide (Int.ofNat k < Int.ofNat w) then
 bif decide ((0 : Int) ≤ Int.ofNat k) && decide (Int.ofNat k < Int.ofNat w) then
 bif ((0 : Nat) + k).blt w && [T.int .u8 a].length == (1 : Nat) && true && true then
 bif decide (Int.ofNat i < Int.ofNat D.m) then
 bif decide ((0 : Int) ≤ Int.ofNat i) && decide (Int.ofNat i < Int.ofNat D.m) then
 bif decide (Int.ofNat k < Int.ofNat (D.ln i)) then
 bif decide ((0 : Int) ≤ Int.ofNat i) && decide (Int.ofNat i < Int.ofNat D.m) then
 bif decide ((0 : Int) ≤ Int.ofNat k) && decide (Int.ofNat k < Int.ofNat (D.ln i)) then
 bif decide ((0 : Int) ≤ (D.x i k).tmod (2 : Int)) && decide ((D.x i k).tmod (2 : Int) < (2 : Int)) then
 bif ((D.x i k).tmod (2 : Int)).toNat == (1 : Nat) then
 bif decide ((0 : Int) ≤ Int.ofNat k) && decide (Int.ofNat k < Int.ofNat w) then
 bif ((0 : Nat) + k).blt w && [T.int .u8 b].length == (1 : Nat) && true && true then
 some ((Ex.normal, [T.reg [T.int .u8 D.wd, D.rows
 none], T.int .i64 (Int.ofNat w), T.int .i64 (Int.ofNat n), p, T.int .i64 (Int.ofNat i), T.reg [T.int .u8 a, T.int .u8 b], T.own 0 0 0 w (some w), T.int .i64 (IntKind.i64.wrap (Int.ofNat k + (1 : Int)))], [Blk.mk 0 1 w (fun e => [T.int .u8 (bif e == (0 : Nat) + k then b
 else
 bif e == (0 : Nat) + k then a
 else y e)]) true false
 none]))
 else none else none else
 bif decide ((0 : Int) ≤ Int.ofNat k) && decide (Int.ofNat k < Int.ofNat w) then
 bif ((0 : Nat) + k).blt w && [T.int .u8 a].length == (1 : Nat) && true && true then
 some ((Ex.normal, [T.reg [T.int .u8 D.wd, D.rows
 none], T.int .i64 (Int.ofNat w), T.int .i64 (Int.ofNat n), p, T.int .i64 (Int.ofNat i), T.reg [T.int .u8 a, T.int .u8 b], T.own 0 0 0 w (some w), T.int .i64 (IntKind.i64.wrap (Int.ofNat k + (1 : Int)))], [Blk.mk 0 1 w (fun e => [T.int .u8 (bif e == (0 : Nat) + k then a
 else
 bif e == (0 : Nat) + k then a
 else y e)]) true false
 none]))
 else none else none else none else none else none else
 some ((Ex.normal, [T.reg [T.int .u8 D.wd, D.rows
 none], T.int .i64 (Int.ofNat w), T.int .i64 (Int.ofNat n), p, T.int .i64 (Int.ofNat i), T.reg [T.int .u8 a, T.int .u8 b], T.own 0 0 0 w (some w), T.int .i64 (IntKind.i64.wrap (Int.ofNat k + (1 : Int)))], [Blk.mk 0 1 w (fun e => [T.int .u8 (bif e == (0 : Nat) + k then a
 else y e)]) true false
 none]))
 else none else
 some ((Ex.normal, [T.reg [T.int .u8 D.wd, D.rows
 none], T.int .i64 (Int.ofNat w), T.int .i64 (Int.ofNat n), p, T.int .i64 (Int.ofNat i), T.reg [T.int .u8 a, T.int .u8 b], T.own 0 0 0 w (some w), T.int .i64 (IntKind.i64.wrap (Int.ofNat k + (1 : Int)))], [Blk.mk 0 1 w (fun e => [T.int .u8 (bif e == (0 : Nat) + k then a
 else y e)]) true false
 none]))
 else none else none else
 some ((Ex.exit 2, [T.reg [T.int .u8 D.wd, D.rows
 none], T.int .i64 (Int.ofNat w), T.int .i64 (Int.ofNat n), p, T.int .i64 (Int.ofNat i), T.own 0 0 0 w (some w)], [Blk.mk 0 1 w (fun e => [T.int .u8 (y e)]) true false
 none]))) from by kernel_rfl) ?_
        rw [e1, q2, ofNatE k, hkk]
        clear hy2 hy3
        (repeat (first | (refine bift (by first | assumption | omega | (simp (disch := omega) only [numsE, List.length_cons, List.length_nil, Nat.reduceAdd]; done) | (simp (disch := omega) only [numsE, List.length_cons, List.length_nil, Nat.reduceAdd]; omega)) ?_) | (refine biff (by first | assumption | (simp (disch := omega) only [numsE, List.length_cons, List.length_nil, Nat.reduceAdd]; done) | (simp (disch := omega) only [numsE, List.length_cons, List.length_nil, Nat.reduceAdd]; omega)) ?_)))
        rfl
      · have q3 : D.x i k % 2 = 0 := by omega
        refine Step.mk0 (A := A18) (m := 0) none_ok rfl rfl loops0 (h1 := [rbk w fun e => bif e == 0 + k then a else bif e == 0 + k then a else y e]) ?_ (.cons ⟨rfl, rfl, rfl, id, fun j _ => rbk_ok (rowF_e a b q.1 q.2 q3) (fun e => by rw [Nat.zero_add, hy2] <;> cases e == k <;> rfl) j⟩ .nil)
        refine Eq.trans (show iterR P18 G18 A18 noneO 0 13 [] 14 (v13 D w n p i a b (.own 0 0 0 w (some w)) k) [rbk w y] =
(
 bif decide (Int.ofNat k < Int.ofNat w) then
 bif decide ((0 : Int) ≤ Int.ofNat k) && decide (Int.ofNat k < Int.ofNat w) then
 bif ((0 : Nat) + k).blt w && [T.int .u8 a].length == (1 : Nat) && true && true then
 bif decide (Int.ofNat i < Int.ofNat D.m) then
 bif decide ((0 : Int) ≤ Int.ofNat i) && decide (Int.ofNat i < Int.ofNat D.m) then
 bif decide (Int.ofNat k < Int.ofNat (D.ln i)) then
 bif decide ((0 : Int) ≤ Int.ofNat i) && decide (Int.ofNat i < Int.ofNat D.m) then
 bif decide ((0 : Int) ≤ Int.ofNat k) && decide (Int.ofNat k < Int.ofNat (D.ln i)) then
 bif decide ((0 : Int) ≤ (D.x i k).tmod (2 : Int)) && decide ((D.x i k).tmod (2 : Int) < (2 : Int)) then
 bif ((D.x i k).tmod (2 : Int)).toNat == (1 : Nat) then
 bif decide ((0 : Int) ≤ Int.ofNat k) && decide (Int.ofNat k < Int.ofNat w) then
 bif ((0 : Nat) + k).blt w && [T.int .u8 b].length == (1 : Nat) && true && true then
 some ((Ex.normal, [T.reg [T.int .u8 D.wd, D.rows
 none], T.int .i64 (Int.ofNat w), T.int .i64 (Int.ofNat n), p, T.int .i64 (Int.ofNat i), T.reg [T.int .u8 a, T.int .u8 b], T.own 0 0 0 w (some w), T.int .i64 (IntKind.i64.wrap (Int.ofNat k + (1 : Int)))], [Blk.mk 0 1 w (fun e => [T.int .u8 (bif e == (0 : Nat) + k then b
 else
 bif e == (0 : Nat) + k then a
 else y e)]) true false
 none]))
 else none else none else
 bif decide ((0 : Int) ≤ Int.ofNat k) && decide (Int.ofNat k < Int.ofNat w) then
 bif ((0 : Nat) + k).blt w && [T.int .u8 a].length == (1 : Nat) && true && true then
 some ((Ex.normal, [T.reg [T.int .u8 D.wd, D.rows
 none], T.int .i64 (Int.ofNat w), T.int .i64 (Int.ofNat n), p, T.int .i64 (Int.ofNat i), T.reg [T.int .u8 a, T.int .u8 b], T.own 0 0 0 w (some w), T.int .i64 (IntKind.i64.wrap (Int.ofNat k + (1 : Int)))], [Blk.mk 0 1 w (fun e => [T.int .u8 (bif e == (0 : Nat) + k then a
 else
 bif e == (0 : Nat) + k then a
 else y e)]) true false
 none]))
 else none else none else none else none else none else
 some ((Ex.normal, [T.reg [T.int .u8 D.wd, D.rows
 none], T.int .i64 (Int.ofNat w), T.int .i64 (Int.ofNat n), p, T.int .i64 (Int.ofNat i), T.reg [T.int .u8 a, T.int .u8 b], T.own 0 0 0 w (some w), T.int .i64 (IntKind.i64.wrap (Int.ofNat k + (1 : Int)))], [Blk.mk 0 1 w (fun e => [T.int .u8 (bif e == (0 : Nat) + k then a
 else y e)]) true false
 none]))
 else none else
 some ((Ex.normal, [T.reg [T.int .u8 D.wd, D.rows
 none], T.int .i64 (Int.ofNat w), T.int .i64 (Int.ofNat n), p, T.int .i64 (Int.ofNat i), T.reg [T.int .u8 a, T.int .u8 b], T.own 0 0 0 w (some w), T.int .i64 (IntKind.i64.wrap (Int.ofNat k + (1 : Int)))], [Blk.mk 0 1 w (fun e => [T.int .u8 (bif e == (0 : Nat) + k then a
 else y e)]) true false
 none]))
 else none else none else
 some ((Ex.exit 2, [T.reg [T.int .u8 D.wd, D.rows
 none], T.int .i64 (Int.ofNat w), T.int .i64 (Int.ofNat n), p, T.int .i64 (Int.ofNat i), T.own 0 0 0 w (some w)], [Blk.mk 0 1 w (fun e => [T.int .u8 (y e)]) true false
 none]))) from by kernel_rfl) ?_
        rw [e1, q3, ofNatE k, hkk]
        clear hy2 hy3
        (repeat (first | (refine bift (by first | assumption | omega | (simp (disch := omega) only [numsE, List.length_cons, List.length_nil, Nat.reduceAdd]; done) | (simp (disch := omega) only [numsE, List.length_cons, List.length_nil, Nat.reduceAdd]; omega)) ?_) | (refine biff (by first | assumption | (simp (disch := omega) only [numsE, List.length_cons, List.length_nil, Nat.reduceAdd]; done) | (simp (disch := omega) only [numsE, List.length_cons, List.length_nil, Nat.reduceAdd]; omega)) ?_)))
        rfl
    · refine Step.mk0 (A := A18) (m := 0) none_ok rfl rfl loops0 (h1 := [rbk w fun e => bif e == 0 + k then a else y e]) ?_ (.cons ⟨rfl, rfl, rfl, id, fun j _ => rbk_ok (rowF_n a b q) (fun e => by rw [Nat.zero_add, hy2] <;> cases e == k <;> rfl) j⟩ .nil)
      refine Eq.trans (show iterR P18 G18 A18 noneO 0 13 [] 14 (v13 D w n p i a b (.own 0 0 0 w (some w)) k) [rbk w y] =
(
 bif decide (Int.ofNat k < Int.ofNat w) then
 bif decide ((0 : Int) ≤ Int.ofNat k) && decide (Int.ofNat k < Int.ofNat w) then
 bif ((0 : Nat) + k).blt w && [T.int .u8 a].length == (1 : Nat) && true && true then
 bif decide (Int.ofNat i < Int.ofNat D.m) then
 bif decide ((0 : Int) ≤ Int.ofNat i) && decide (Int.ofNat i < Int.ofNat D.m) then
 bif decide (Int.ofNat k < Int.ofNat (D.ln i)) then
 bif decide ((0 : Int) ≤ Int.ofNat i) && decide (Int.ofNat i < Int.ofNat D.m) then
 bif decide ((0 : Int) ≤ Int.ofNat k) && decide (Int.ofNat k < Int.ofNat (D.ln i)) then
 bif decide ((0 : Int) ≤ (D.x i k).tmod (2 : Int)) && decide ((D.x i k).tmod (2 : Int) < (2 : Int)) then
 bif ((D.x i k).tmod (2 : Int)).toNat == (1 : Nat) then
 bif decide ((0 : Int) ≤ Int.ofNat k) && decide (Int.ofNat k < Int.ofNat w) then
 bif ((0 : Nat) + k).blt w && [T.int .u8 b].length == (1 : Nat) && true && true then
 some ((Ex.normal, [T.reg [T.int .u8 D.wd, D.rows
 none], T.int .i64 (Int.ofNat w), T.int .i64 (Int.ofNat n), p, T.int .i64 (Int.ofNat i), T.reg [T.int .u8 a, T.int .u8 b], T.own 0 0 0 w (some w), T.int .i64 (IntKind.i64.wrap (Int.ofNat k + (1 : Int)))], [Blk.mk 0 1 w (fun e => [T.int .u8 (bif e == (0 : Nat) + k then b
 else
 bif e == (0 : Nat) + k then a
 else y e)]) true false
 none]))
 else none else none else
 bif decide ((0 : Int) ≤ Int.ofNat k) && decide (Int.ofNat k < Int.ofNat w) then
 bif ((0 : Nat) + k).blt w && [T.int .u8 a].length == (1 : Nat) && true && true then
 some ((Ex.normal, [T.reg [T.int .u8 D.wd, D.rows
 none], T.int .i64 (Int.ofNat w), T.int .i64 (Int.ofNat n), p, T.int .i64 (Int.ofNat i), T.reg [T.int .u8 a, T.int .u8 b], T.own 0 0 0 w (some w), T.int .i64 (IntKind.i64.wrap (Int.ofNat k + (1 : Int)))], [Blk.mk 0 1 w (fun e => [T.int .u8 (bif e == (0 : Nat) + k then a
 else
 bif e == (0 : Nat) + k then a
 else y e)]) true false
 none]))
 else none else none else none else none else none else
 some ((Ex.normal, [T.reg [T.int .u8 D.wd, D.rows
 none], T.int .i64 (Int.ofNat w), T.int .i64 (Int.ofNat n), p, T.int .i64 (Int.ofNat i), T.reg [T.int .u8 a, T.int .u8 b], T.own 0 0 0 w (some w), T.int .i64 (IntKind.i64.wrap (Int.ofNat k + (1 : Int)))], [Blk.mk 0 1 w (fun e => [T.int .u8 (bif e == (0 : Nat) + k then a
 else y e)]) true false
 none]))
 else none else
 some ((Ex.normal, [T.reg [T.int .u8 D.wd, D.rows
 none], T.int .i64 (Int.ofNat w), T.int .i64 (Int.ofNat n), p, T.int .i64 (Int.ofNat i), T.reg [T.int .u8 a, T.int .u8 b], T.own 0 0 0 w (some w), T.int .i64 (IntKind.i64.wrap (Int.ofNat k + (1 : Int)))], [Blk.mk 0 1 w (fun e => [T.int .u8 (bif e == (0 : Nat) + k then a
 else y e)]) true false
 none]))
 else none else none else
 some ((Ex.exit 2, [T.reg [T.int .u8 D.wd, D.rows
 none], T.int .i64 (Int.ofNat w), T.int .i64 (Int.ofNat n), p, T.int .i64 (Int.ofNat i), T.own 0 0 0 w (some w)], [Blk.mk 0 1 w (fun e => [T.int .u8 (y e)]) true false
 none]))) from by kernel_rfl) ?_
      rw [ofNatE k, hkk]
      clear hy2 hy3
      by_cases q3 : i < D.m
      · have q4 : ¬ k < D.ln i := fun h => q ⟨q3, h⟩
        clear q
        (repeat (first | (refine bift (by first | assumption | omega | (simp (disch := omega) only [numsE, List.length_cons, List.length_nil, Nat.reduceAdd]; done) | (simp (disch := omega) only [numsE, List.length_cons, List.length_nil, Nat.reduceAdd]; omega)) ?_) | (refine biff (by first | assumption | (simp (disch := omega) only [numsE, List.length_cons, List.length_nil, Nat.reduceAdd]; done) | (simp (disch := omega) only [numsE, List.length_cons, List.length_nil, Nat.reduceAdd]; omega)) ?_)))
        rfl
      · clear q
        (repeat (first | (refine bift (by first | assumption | omega | (simp (disch := omega) only [numsE, List.length_cons, List.length_nil, Nat.reduceAdd]; done) | (simp (disch := omega) only [numsE, List.length_cons, List.length_nil, Nat.reduceAdd]; omega)) ?_) | (refine biff (by first | assumption | (simp (disch := omega) only [numsE, List.length_cons, List.length_nil, Nat.reduceAdd]; done) | (simp (disch := omega) only [numsE, List.length_cons, List.length_nil, Nat.reduceAdd]; omega)) ?_)))
        rfl
  · obtain ⟨y, hy⟩ : ∃ y : Nat → Int, y = fun e => bif Nat.blt e w then rowF D i a b e else 0 := ⟨_, rfl⟩
    show Last P18 G18 (A18 13) 13 14 _ _ [rbk w fun e => bif Nat.blt e w then rowF D i a b e else 0] _ _ _
    rw [← hy]
    refine Last.mk0 (A := A18) (m := 0) none_ok rfl rfl loops0 (h1 := [rbk w y]) (by simp) ?_ (.cons ⟨rfl, rfl, rfl, id, fun j hj => ?_⟩ .nil)
    · clear hy
      refine Eq.trans (show iterR P18 G18 A18 noneO 0 13 [] 14 (v13 D w n p i a b (.own 0 0 0 w (some w)) (w : Nat)) [rbk w y] =
(
 bif decide (Int.ofNat w < Int.ofNat w) then
 bif decide ((0 : Int) ≤ Int.ofNat w) && decide (Int.ofNat w < Int.ofNat w) then
 bif ((0 : Nat) + w).blt w && [T.int .u8 a].length == (1 : Nat) && true && true then
 bif decide (Int.ofNat i < Int.ofNat D.m) then
 bif decide ((0 : Int) ≤ Int.ofNat i) && decide (Int.ofNat i < Int.ofNat D.m) then
 bif decide (Int.ofNat w < Int.ofNat (D.ln i)) then
 bif decide ((0 : Int) ≤ Int.ofNat i) && decide (Int.ofNat i < Int.ofNat D.m) then
 bif decide ((0 : Int) ≤ Int.ofNat w) && decide (Int.ofNat w < Int.ofNat (D.ln i)) then
 bif decide ((0 : Int) ≤ (D.x i w).tmod (2 : Int)) && decide ((D.x i w).tmod (2 : Int) < (2 : Int)) then
 bif ((D.x i w).tmod (2 : Int)).toNat == (1 : Nat) then
 bif decide ((0 : Int) ≤ Int.ofNat w) && decide (Int.ofNat w < Int.ofNat w) then
 bif ((0 : Nat) + w).blt w && [T.int .u8 b].length == (1 : Nat) && true && true then
 some ((Ex.normal, [T.reg [T.int .u8 D.wd, D.rows
 none], T.int .i64 (Int.ofNat w), T.int .i64 (Int.ofNat n), p, T.int .i64 (Int.ofNat i), T.reg [T.int .u8 a, T.int .u8 b], T.own 0 0 0 w (some w), T.int .i64 (IntKind.i64.wrap (Int.ofNat w + (1 : Int)))], [Blk.mk 0 1 w (fun e => [T.int .u8 (bif e == (0 : Nat) + w then b
 else
 bif e == (0 : Nat) + w then a
 else y e)]) true false
 none]))
 else none else none else
 bif decide ((0 : Int) ≤ Int.ofNat w) && decide (Int.ofNat w < Int.ofNat w) then
 bif ((0 : Nat) + w).blt w && [T.int .u8 a].length == (1 : Nat) && true && true then
 some ((Ex.normal, [T.reg [T.int .u8 D.wd, D.rows
 none], T.int .i64 (Int.ofNat w), T.int .i64 (Int.ofNat n), p, T.int .i64 (Int.ofNat i), T.reg [T.int .u8 a, T.int .u8 b], T.own 0 0 0 w (some w), T.int .i64 (IntKind.i64.wrap (Int.ofNat w + (1 : Int)))], [Blk.mk 0 1 w (fun e => [T.int .u8 (bif e == (0 : Nat) + w then a
 else
 bif e == (0 : Nat) + w then a
 else y e)]) true false
 none]))
 else none else none else none else none else none else
 some ((Ex.normal, [T.reg [T.int .u8 D.wd, D.rows
 none], T.int .i64 (Int.ofNat w), T.int .i64 (Int.ofNat n), p, T.int .i64 (Int.ofNat i), T.reg [T.int .u8 a, T.int .u8 b], T.own 0 0 0 w (some w), T.int .i64 (IntKind.i64.wrap (Int.ofNat w + (1 : Int)))], [Blk.mk 0 1 w (fun e => [T.int .u8 (bif e == (0 : Nat) + w then a
 else y e)]) true false
 none]))
 else none else
 some ((Ex.normal, [T.reg [T.int .u8 D.wd, D.rows
 none], T.int .i64 (Int.ofNat w), T.int .i64 (Int.ofNat n), p, T.int .i64 (Int.ofNat i), T.reg [T.int .u8 a, T.int .u8 b], T.own 0 0 0 w (some w), T.int .i64 (IntKind.i64.wrap (Int.ofNat w + (1 : Int)))], [Blk.mk 0 1 w (fun e => [T.int .u8 (bif e == (0 : Nat) + w then a
 else y e)]) true false
 none]))
 else none else none else
 some ((Ex.exit 2, [T.reg [T.int .u8 D.wd, D.rows
 none], T.int .i64 (Int.ofNat w), T.int .i64 (Int.ofNat n), p, T.int .i64 (Int.ofNat i), T.own 0 0 0 w (some w)], [Blk.mk 0 1 w (fun e => [T.int .u8 (y e)]) true false
 none]))) from by kernel_rfl) ?_
      (repeat (first | (refine bift (by first | assumption | omega | (simp (disch := omega) only [numsE, List.length_cons, List.length_nil, Nat.reduceAdd]; done) | (simp (disch := omega) only [numsE, List.length_cons, List.length_nil, Nat.reduceAdd]; omega)) ?_) | (refine biff (by first | assumption | (simp (disch := omega) only [numsE, List.length_cons, List.length_nil, Nat.reduceAdd]; done) | (simp (disch := omega) only [numsE, List.length_cons, List.length_nil, Nat.reduceAdd]; omega)) ?_)))
      rfl
    · show [T.int .u8 (rowF D i a b j)] = [.int .u8 (y j)]
      rw [hy]
      show _ = [T.int .u8 (bif Nat.blt j w then rowF D i a b j else 0)]
      rw [bltT (show j < w from hj), cond_true]

theorem l13k1 (D : IR) (w n : Nat) (p : T) (i : Nat) (a b : Int) (B0 : Blk) (hD : D.Ok) (hw : w ≤ 1000) :
    LoopOk P18 G18 (A18 13) 13 14 (litS (v13 D w n p i a b (.own 1 0 0 w (some w)) 0) [B0, rbk w fun _ => 0] (.exit 2) (w13 D w n p i ++ [.own 1 0 0 w (some w)]) [B0, rbk w (rowF D i a b)]) := by
  refine loop_steps hm18 (by kernel_rfl) (fun k => v13 D w n p i a b (.own 1 0 0 w (some w)) (k : Nat)) (fun k => [B0, rbk w fun e => bif Nat.blt e k then rowF D i a b e else 0]) (n := w) (fun k hk => ?_) ?_
  · obtain ⟨y, hy2⟩ : ∃ y : Nat → Int, ∀ e, y e = bif Nat.blt e k then rowF D i a b e else 0 := ⟨_, fun _ => rfl⟩
    have hy3 : (fun e => bif Nat.blt e k then rowF D i a b e else 0) = y := by funext e; rw [hy2]
    have hx := hD.x i k
    have hkk : IntKind.i64.wrap ((k : Int) + 1) = ((k + 1 : Nat) : Int) := by rw [wr64 (by omega) (by omega)]; omega
    show Step P18 G18 (A18 13) 13 14 _ _ [B0, rbk w fun e => bif Nat.blt e k then rowF D i a b e else 0] _ _
    rw [hy3]
    by_cases q : i < D.m ∧ k < D.ln i
    · have e1 : (D.x i k).tmod 2 = D.x i k % 2 := by rw [Int.tmod_eq_emod_of_nonneg hx.1]
      by_cases q2 : D.x i k % 2 = 1
      · refine Step.mk0 (A := A18) (m := 0) none_ok rfl rfl loops0 (h1 := [B0, rbk w fun e => bif e == 0 + k then b else bif e == 0 + k then a else y e]) ?_ (.cons ⟨rfl, rfl, rfl, id, fun _ _ => rfl⟩ (.cons ⟨rfl, rfl, rfl, id, fun j _ => rbk_ok (rowF_t a b q.1 q.2 q2) (fun e => by rw [Nat.zero_add, hy2] <;> cases e == k <;> rfl) j⟩ .nil))
        refine Eq.trans (show iterR P18 G18 A18 noneO 0 13 [] 14 (v13 D w n p i a b (.own 1 0 0 w (some w)) k) [B0, rbk w y] =
(
 bif decide (Int.ofNat k < Int.ofNat w) then
 bif decide ((0 : Int) ≤ Int.ofNat k) && decide (Int.ofNat k < Int.ofNat w) then
 bif ((0 : Nat) + k).blt w && [T.int .u8 a].length == (1 : Nat) && true && true then
 bif decide (Int.ofNat i < Int.ofNat D.m) then
 bif decide ((0 : Int) ≤ Int.ofNat i) && decide (Int.ofNat i < Int.ofNat D.m) then
 bif decide (Int.ofNat k < Int.ofNat (D.ln i)) then
 bif decide ((0 : Int) ≤ Int.ofNat i) && decide (Int.ofNat i < Int.ofNat D.m) then
 bif decide ((0 : Int) ≤ Int.ofNat k) && decide (Int.ofNat k < Int.ofNat (D.ln i)) then
 bif decide ((0 : Int) ≤ (D.x i k).tmod (2 : Int)) && decide ((D.x i k).tmod (2 : Int) < (2 : Int)) then
 bif ((D.x i k).tmod (2 : Int)).toNat == (1 : Nat) then
 bif decide ((0 : Int) ≤ Int.ofNat k) && decide (Int.ofNat k < Int.ofNat w) then
 bif ((0 : Nat) + k).blt w && [T.int .u8 b].length == (1 : Nat) && true && true then
 some ((Ex.normal, [T.reg [T.int .u8 D.wd, D.rows
 none], T.int .i64 (Int.ofNat w), T.int .i64 (Int.ofNat n), p, T.int .i64 (Int.ofNat i), T.reg [T.int .u8 a, T.int .u8 b], T.own 1 0 0 w (some w), T.int .i64 (IntKind.i64.wrap (Int.ofNat k + (1 : Int)))], [B0, Blk.mk 0 1 w (fun e => [T.int .u8 (bif e == (0 : Nat) + k then b
 else
 bif e == (0 : Nat) + k then a
 else y e)]) true false
 none]))
 else none else none else
 bif decide ((0 : Int) ≤ Int.ofNat k) && decide (Int.ofNat k < Int.ofNat w) then
 bif ((0 : Nat) + k).blt w && [T.int .u8 a].length == (1 : Nat) && true && true then
 some ((Ex.normal, [T.reg [T.int .u8 D.wd, D.rows
 none], T.int .i64 (Int.ofNat w), T.int .i64 (Int.ofNat n), p, T.int .i64 (Int.ofNat i), T.reg [T.int .u8 a, T.int .u8 b], T.own 1 0 0 w (some w), T.int .i64 (IntKind.i64.wrap (Int.ofNat k + (1 : Int)))], [B0, Blk.mk 0 1 w (fun e => [T.int .u8 (bif e == (0 : Nat) + k then a
 else
 bif e == (0 : Nat) + k then a
 else y e)]) true false
 none]))
 else none else none else none else none else none else
 some ((Ex.normal, [T.reg [T.int .u8 D.wd, D.rows
 none], T.int .i64 (Int.ofNat w), T.int .i64 (Int.ofNat n), p, T.int .i64 (Int.ofNat i), T.reg [T.int .u8 a, T.int .u8 b], T.own 1 0 0 w (some w), T.int .i64 (IntKind.i64.wrap (Int.ofNat k + (1 : Int)))], [B0, Blk.mk 0 1 w (fun e => [T.int .u8 (bif e == (0 : Nat) + k then a
 else y e)]) true false
 none]))
 else none else
 some ((Ex.normal, [T.reg [T.int .u8 D.wd, D.rows
 none], T.int .i64 (Int.ofNat w), T.int .i64 (Int.ofNat n), p, T.int .i64 (Int.ofNat i), T.reg [T.int .u8 a, T.int .u8 b], T.own 1 0 0 w (some w), T.int .i64 (IntKind.i64.wrap (Int.ofNat k + (1 : Int)))], [B0, Blk.mk 0 1 w (fun e => [T.int .u8 (bif e == (0 : Nat) + k then a
 else y e)]) true false
 none]))
 else none else none else
 some ((Ex.exit 2, [T.reg [T.int .u8 D.wd, D.rows
 none], T.int .i64 (Int.ofNat w), T.int .i64 (Int.ofNat n), p, T.int .i64 (Int.ofNat i), T.own 1 0 0 w (some w)], [B0, Blk.mk 0 1 w (fun e => [T.int .u8 (y e)]) true false
 none]))) from by kernel_rfl) ?_
        rw [e1, q2, ofNatE k, hkk]
        clear hy2 hy3
        (repeat (first | (refine bift (by first | assumption | omega | (simp (disch := omega) only [numsE, List.length_cons, List.length_nil, Nat.reduceAdd]; done) | (simp (disch := omega) only [numsE, List.length_cons, List.length_nil, Nat.reduceAdd]; omega)) ?_) | (refine biff (by first | assumption | (simp (disch := omega) only [numsE, List.length_cons, List.length_nil, Nat.reduceAdd]; done) | (simp (disch := omega) only [numsE, List.length_cons, List.length_nil, Nat.reduceAdd]; omega)) ?_)))
        rfl
      · have q3 : D.x i k % 2 = 0 := by omega
        refine Step.mk0 (A := A18) (m := 0) none_ok rfl rfl loops0 (h1 := [B0, rbk w fun e => bif e == 0 + k then a else bif e == 0 + k then a else y e]) ?_ (.cons ⟨rfl, rfl, rfl, id, fun _ _ => rfl⟩ (.cons ⟨rfl, rfl, rfl, id, fun j _ => rbk_ok (rowF_e a b q.1 q.2 q3) (fun e => by rw [Nat.zero_add, hy2] <;> cases e == k <;> rfl) j⟩ .nil))
        refine Eq.trans (show iterR P18 G18 A18 noneO 0 13 [] 14 (v13 D w n p i a b (.own 1 0 0 w (some w)) k) [B0, rbk w y] =
(
 bif decide (Int.ofNat k < Int.ofNat w) then
 bif decide ((0 : Int) ≤ Int.ofNat k) && decide (Int.ofNat k < Int.ofNat w) then
 bif ((0 : Nat) + k).blt w && [T.int .u8 a].length == (1 : Nat) && true && true then
 bif decide (Int.ofNat i < Int.ofNat D.m) then
 bif decide ((0 : Int) ≤ Int.ofNat i) && decide (Int.ofNat i < Int.ofNat D.m) then
 bif decide (Int.ofNat k < Int.ofNat (D.ln i)) then
 bif decide ((0 : Int) ≤ Int.ofNat i) && decide (Int.ofNat i < Int.ofNat D.m) then
 bif decide ((0 : Int) ≤ Int.ofNat k) && decide (Int.ofNat k < Int.ofNat (D.ln i)) then
 bif decide ((0 : Int) ≤ (D.x i k).tmod (2 : Int)) && decide ((D.x i k).tmod (2 : Int) < (2 : Int)) then
 bif ((D.x i k).tmod (2 : Int)).toNat == (1 : Nat) then
 bif decide ((0 : Int) ≤ Int.ofNat k) && decide (Int.ofNat k < Int.ofNat w) then
 bif ((0 : Nat) + k).blt w && [T.int .u8 b].length == (1 : Nat) && true && true then
 some ((Ex.normal, [T.reg [T.int .u8 D.wd, D.rows
 none], T.int .i64 (Int.ofNat w), T.int .i64 (Int.ofNat n), p, T.int .i64 (Int.ofNat i), T.reg [T.int .u8 a, T.int .u8 b], T.own 1 0 0 w (some w), T.int .i64 (IntKind.i64.wrap (Int.ofNat k + (1 : Int)))], [B0, Blk.mk 0 1 w (fun e => [T.int .u8 (bif e == (0 : Nat) + k then b
 else
 bif e == (0 : Nat) + k then a
 else y e)]) true false
 none]))
 else none else none else
 bif decide ((0 : Int) ≤ Int.ofNat k) && decide (Int.ofNat k < Int.ofNat w) then
 bif ((0 : Nat) + k).blt w && [T.int .u8 a].length == (1 : Nat) && true && true then
 some ((Ex.normal, [T.reg [T.int .u8 D.wd, D.rows
 none], T.int .i64 (Int.ofNat w), T.int .i64 (Int.ofNat n), p, T.int .i64 (Int.ofNat i), T.reg [T.int .u8 a, T.int .u8 b], T.own 1 0 0 w (some w), T.int .i64 (IntKind.i64.wrap (Int.ofNat k + (1 : Int)))], [B0, Blk.mk 0 1 w (fun e => [T.int .u8 (bif e == (0 : Nat) + k then a
 else
 bif e == (0 : Nat) + k then a
 else y e)]) true false
 none]))
 else none else none else none else none else none else
 some ((Ex.normal, [T.reg [T.int .u8 D.wd, D.rows
 none], T.int .i64 (Int.ofNat w), T.int .i64 (Int.ofNat n), p, T.int .i64 (Int.ofNat i), T.reg [T.int .u8 a, T.int .u8 b], T.own 1 0 0 w (some w), T.int .i64 (IntKind.i64.wrap (Int.ofNat k + (1 : Int)))], [B0, Blk.mk 0 1 w (fun e => [T.int .u8 (bif e == (0 : Nat) + k then a
 else y e)]) true false
 none]))
 else none else
 some ((Ex.normal, [T.reg [T.int .u8 D.wd, D.rows
 none], T.int .i64 (Int.ofNat w), T.int .i64 (Int.ofNat n), p, T.int .i64 (Int.ofNat i), T.reg [T.int .u8 a, T.int .u8 b], T.own 1 0 0 w (some w), T.int .i64 (IntKind.i64.wrap (Int.ofNat k + (1 : Int)))], [B0, Blk.mk 0 1 w (fun e => [T.int .u8 (bif e == (0 : Nat) + k then a
 else y e)]) true false
 none]))
 else none else none else
 some ((Ex.exit 2, [T.reg [T.int .u8 D.wd, D.rows
 none], T.int .i64 (Int.ofNat w), T.int .i64 (Int.ofNat n), p, T.int .i64 (Int.ofNat i), T.own 1 0 0 w (some w)], [B0, Blk.mk 0 1 w (fun e => [T.int .u8 (y e)]) true false
 none]))) from by kernel_rfl) ?_
        rw [e1, q3, ofNatE k, hkk]
        clear hy2 hy3
        (repeat (first | (refine bift (by first | assumption | omega | (simp (disch := omega) only [numsE, List.length_cons, List.length_nil, Nat.reduceAdd]; done) | (simp (disch := omega) only [numsE, List.length_cons, List.length_nil, Nat.reduceAdd]; omega)) ?_) | (refine biff (by first | assumption | (simp (disch := omega) only [numsE, List.length_cons, List.length_nil, Nat.reduceAdd]; done) | (simp (disch := omega) only [numsE, List.length_cons, List.length_nil, Nat.reduceAdd]; omega)) ?_)))
        rfl
    · refine Step.mk0 (A := A18) (m := 0) none_ok rfl rfl loops0 (h1 := [B0, rbk w fun e => bif e == 0 + k then a else y e]) ?_ (.cons ⟨rfl, rfl, rfl, id, fun _ _ => rfl⟩ (.cons ⟨rfl, rfl, rfl, id, fun j _ => rbk_ok (rowF_n a b q) (fun e => by rw [Nat.zero_add, hy2] <;> cases e == k <;> rfl) j⟩ .nil))
      refine Eq.trans (show iterR P18 G18 A18 noneO 0 13 [] 14 (v13 D w n p i a b (.own 1 0 0 w (some w)) k) [B0, rbk w y] =
(
 bif decide (Int.ofNat k < Int.ofNat w) then
 bif decide ((0 : Int) ≤ Int.ofNat k) && decide (Int.ofNat k < Int.ofNat w) then
 bif ((0 : Nat) + k).blt w && [T.int .u8 a].length == (1 : Nat) && true && true then
 bif decide (Int.ofNat i < Int.ofNat D.m) then
 bif decide ((0 : Int) ≤ Int.ofNat i) && decide (Int.ofNat i < Int.ofNat D.m) then
 bif decide (Int.ofNat k < Int.ofNat (D.ln i)) then
 bif decide ((0 : Int) ≤ Int.ofNat i) && decide (Int.ofNat i < Int.ofNat D.m) then
 bif decide ((0 : Int) ≤ Int.ofNat k) && decide (Int.ofNat k < Int.ofNat (D.ln i)) then
 bif decide ((0 : Int) ≤ (D.x i k).tmod (2 : Int)) && decide ((D.x i k).tmod (2 : Int) < (2 : Int)) then
 bif ((D.x i k).tmod (2 : Int)).toNat == (1 : Nat) then
 bif decide ((0 : Int) ≤ Int.ofNat k) && decide (Int.ofNat k < Int.ofNat w) then
 bif ((0 : Nat) + k).blt w && [T.int .u8 b].length == (1 : Nat) && true && true then
 some ((Ex.normal, [T.reg [T.int .u8 D.wd, D.rows
 none], T.int .i64 (Int.ofNat w), T.int .i64 (Int.ofNat n), p, T.int .i64 (Int.ofNat i), T.reg [T.int .u8 a, T.int .u8 b], T.own 1 0 0 w (some w), T.int .i64 (IntKind.i64.wrap (Int.ofNat k + (1 : Int)))], [B0, Blk.mk 0 1 w (fun e => [T.int .u8 (bif e == (0 : Nat) + k then b
 else
 bif e == (0 : Nat) + k then a
 else y e)]) true false
 none]))
 else none else none else
 bif decide ((0 : Int) ≤ Int.ofNat k) && decide (Int.ofNat k < Int.ofNat w) then
 bif ((0 : Nat) + k).blt w && [T.int .u8 a].length == (1 : Nat) && true && true then
 some ((Ex.normal, [T.reg [T.int .u8 D.wd, D.rows
 none], T.int .i64 (Int.ofNat w), T.int .i64 (Int.ofNat n), p, T.int .i64 (Int.ofNat i), T.reg [T.int .u8 a, T.int .u8 b], T.own 1 0 0 w (some w), T.int .i64 (IntKind.i64.wrap (Int.ofNat k + (1 : Int)))], [B0, Blk.mk 0 1 w (fun e => [T.int .u8 (bif e == (0 : Nat) + k then a
 else
 bif e == (0 : Nat) + k then a
 else y e)]) true false
 none]))
 else none else none else none else none else none else
 some ((Ex.normal, [T.reg [T.int .u8 D.wd, D.rows
 none], T.int .i64 (Int.ofNat w), T.int .i64 (Int.ofNat n), p, T.int .i64 (Int.ofNat i), T.reg [T.int .u8 a, T.int .u8 b], T.own 1 0 0 w (some w), T.int .i64 (IntKind.i64.wrap (Int.ofNat k + (1 : Int)))], [B0, Blk.mk 0 1 w (fun e => [T.int .u8 (bif e == (0 : Nat) + k then a
 else y e)]) true false
 none]))
 else none else
 some ((Ex.normal, [T.reg [T.int .u8 D.wd, D.rows
 none], T.int .i64 (Int.ofNat w), T.int .i64 (Int.ofNat n), p, T.int .i64 (Int.ofNat i), T.reg [T.int .u8 a, T.int .u8 b], T.own 1 0 0 w (some w), T.int .i64 (IntKind.i64.wrap (Int.ofNat k + (1 : Int)))], [B0, Blk.mk 0 1 w (fun e => [T.int .u8 (bif e == (0 : Nat) + k then a
 else y e)]) true false
 none]))
 else none else none else
 some ((Ex.exit 2, [T.reg [T.int .u8 D.wd, D.rows
 none], T.int .i64 (Int.ofNat w), T.int .i64 (Int.ofNat n), p, T.int .i64 (Int.ofNat i), T.own 1 0 0 w (some w)], [B0, Blk.mk 0 1 w (fun e => [T.int .u8 (y e)]) true false
 none]))) from by kernel_rfl) ?_
      rw [ofNatE k, hkk]
      clear hy2 hy3
      by_cases q3 : i < D.m
      · have q4 : ¬ k < D.ln i := fun h => q ⟨q3, h⟩
        clear q
        (repeat (first | (refine bift (by first | assumption | omega | (simp (disch := omega) only [numsE, List.length_cons, List.length_nil, Nat.reduceAdd]; done) | (simp (disch := omega) only [numsE, List.length_cons, List.length_nil, Nat.reduceAdd]; omega)) ?_) | (refine biff (by first | assumption | (simp (disch := omega) only [numsE, List.length_cons, List.length_nil, Nat.reduceAdd]; done) | (simp (disch := omega) only [numsE, List.length_cons, List.length_nil, Nat.reduceAdd]; omega)) ?_)))
        rfl
      · clear q
        (repeat (first | (refine bift (by first | assumption | omega | (simp (disch := omega) only [numsE, List.length_cons, List.length_nil, Nat.reduceAdd]; done) | (simp (disch := omega) only [numsE, List.length_cons, List.length_nil, Nat.reduceAdd]; omega)) ?_) | (refine biff (by first | assumption | (simp (disch := omega) only [numsE, List.length_cons, List.length_nil, Nat.reduceAdd]; done) | (simp (disch := omega) only [numsE, List.length_cons, List.length_nil, Nat.reduceAdd]; omega)) ?_)))
        rfl
  · obtain ⟨y, hy⟩ : ∃ y : Nat → Int, y = fun e => bif Nat.blt e w then rowF D i a b e else 0 := ⟨_, rfl⟩
    show Last P18 G18 (A18 13) 13 14 _ _ [B0, rbk w fun e => bif Nat.blt e w then rowF D i a b e else 0] _ _ _
    rw [← hy]
    refine Last.mk0 (A := A18) (m := 0) none_ok rfl rfl loops0 (h1 := [B0, rbk w y]) (by simp) ?_ (.cons ⟨rfl, rfl, rfl, id, fun _ _ => rfl⟩ (.cons ⟨rfl, rfl, rfl, id, fun j hj => ?_⟩ .nil))
    · clear hy
      refine Eq.trans (show iterR P18 G18 A18 noneO 0 13 [] 14 (v13 D w n p i a b (.own 1 0 0 w (some w)) (w : Nat)) [B0, rbk w y] =
(
 bif decide (Int.ofNat w < Int.ofNat w) then
 bif decide ((0 : Int) ≤ Int.ofNat w) && decide (Int.ofNat w < Int.ofNat w) then
 bif ((0 : Nat) + w).blt w && [T.int .u8 a].length == (1 : Nat) && true && true then
 bif decide (Int.ofNat i < Int.ofNat D.m) then
 bif decide ((0 : Int) ≤ Int.ofNat i) && decide (Int.ofNat i < Int.ofNat D.m) then
 bif decide (Int.ofNat w < Int.ofNat (D.ln i)) then
 bif decide ((0 : Int) ≤ Int.ofNat i) && decide (Int.ofNat i < Int.ofNat D.m) then
 bif decide ((0 : Int) ≤ Int.ofNat w) && decide (Int.ofNat w < Int.ofNat (D.ln i)) then
 bif decide ((0 : Int) ≤ (D.x i w).tmod (2 : Int)) && decide ((D.x i w).tmod (2 : Int) < (2 : Int)) then
 bif ((D.x i w).tmod (2 : Int)).toNat == (1 : Nat) then
 bif decide ((0 : Int) ≤ Int.ofNat w) && decide (Int.ofNat w < Int.ofNat w) then
 bif ((0 : Nat) + w).blt w && [T.int .u8 b].length == (1 : Nat) && true && true then
 some ((Ex.normal, [T.reg [T.int .u8 D.wd, D.rows
 none], T.int .i64 (Int.ofNat w), T.int .i64 (Int.ofNat n), p, T.int .i64 (Int.ofNat i), T.reg [T.int .u8 a, T.int .u8 b], T.own 1 0 0 w (some w), T.int .i64 (IntKind.i64.wrap (Int.ofNat w + (1 : Int)))], [B0, Blk.mk 0 1 w (fun e => [T.int .u8 (bif e == (0 : Nat) + w then b
 else
 bif e == (0 : Nat) + w then a
 else y e)]) true false
 none]))
 else none else none else
 bif decide ((0 : Int) ≤ Int.ofNat w) && decide (Int.ofNat w < Int.ofNat w) then
 bif ((0 : Nat) + w).blt w && [T.int .u8 a].length == (1 : Nat) && true && true then
 some ((Ex.normal, [T.reg [T.int .u8 D.wd, D.rows
 none], T.int .i64 (Int.ofNat w), T.int .i64 (Int.ofNat n), p, T.int .i64 (Int.ofNat i), T.reg [T.int .u8 a, T.int .u8 b], T.own 1 0 0 w (some w), T.int .i64 (IntKind.i64.wrap (Int.ofNat w + (1 : Int)))], [B0, Blk.mk 0 1 w (fun e => [T.int .u8 (bif e == (0 : Nat) + w then a
 else
 bif e == (0 : Nat) + w then a
 else y e)]) true false
 none]))
 else none else none else none else none else none else
 some ((Ex.normal, [T.reg [T.int .u8 D.wd, D.rows
 none], T.int .i64 (Int.ofNat w), T.int .i64 (Int.ofNat n), p, T.int .i64 (Int.ofNat i), T.reg [T.int .u8 a, T.int .u8 b], T.own 1 0 0 w (some w), T.int .i64 (IntKind.i64.wrap (Int.ofNat w + (1 : Int)))], [B0, Blk.mk 0 1 w (fun e => [T.int .u8 (bif e == (0 : Nat) + w then a
 else y e)]) true false
 none]))
 else none else
 some ((Ex.normal, [T.reg [T.int .u8 D.wd, D.rows
 none], T.int .i64 (Int.ofNat w), T.int .i64 (Int.ofNat n), p, T.int .i64 (Int.ofNat i), T.reg [T.int .u8 a, T.int .u8 b], T.own 1 0 0 w (some w), T.int .i64 (IntKind.i64.wrap (Int.ofNat w + (1 : Int)))], [B0, Blk.mk 0 1 w (fun e => [T.int .u8 (bif e == (0 : Nat) + w then a
 else y e)]) true false
 none]))
 else none else none else
 some ((Ex.exit 2, [T.reg [T.int .u8 D.wd, D.rows
 none], T.int .i64 (Int.ofNat w), T.int .i64 (Int.ofNat n), p, T.int .i64 (Int.ofNat i), T.own 1 0 0 w (some w)], [B0, Blk.mk 0 1 w (fun e => [T.int .u8 (y e)]) true false
 none]))) from by kernel_rfl) ?_
      (repeat (first | (refine bift (by first | assumption | omega | (simp (disch := omega) only [numsE, List.length_cons, List.length_nil, Nat.reduceAdd]; done) | (simp (disch := omega) only [numsE, List.length_cons, List.length_nil, Nat.reduceAdd]; omega)) ?_) | (refine biff (by first | assumption | (simp (disch := omega) only [numsE, List.length_cons, List.length_nil, Nat.reduceAdd]; done) | (simp (disch := omega) only [numsE, List.length_cons, List.length_nil, Nat.reduceAdd]; omega)) ?_)))
      rfl
    · show [T.int .u8 (rowF D i a b j)] = [.int .u8 (y j)]
      rw [hy]
      show _ = [T.int .u8 (bif Nat.blt j w then rowF D i a b j else 0)]
      rw [bltT (show j < w from hj), cond_true]

theorem l13k2 (D : IR) (w n : Nat) (p : T) (i : Nat) (a b : Int) (B0 B1 : Blk) (hD : D.Ok) (hw : w ≤ 1000) :
    LoopOk P18 G18 (A18 13) 13 14 (litS (v13 D w n p i a b (.own 2 0 0 w (some w)) 0) [B0, B1, rbk w fun _ => 0] (.exit 2) (w13 D w n p i ++ [.own 2 0 0 w (some w)]) [B0, B1, rbk w (rowF D i a b)]) := by
  refine loop_steps hm18 (by kernel_rfl) (fun k => v13 D w n p i a b (.own 2 0 0 w (some w)) (k : Nat)) (fun k => [B0, B1, rbk w fun e => bif Nat.blt e k then rowF D i a b e else 0]) (n := w) (fun k hk => ?_) ?_
  · obtain ⟨y, hy2⟩ : ∃ y : Nat → Int, ∀ e, y e = bif Nat.blt e k then rowF D i a b e else 0 := ⟨_, fun _ => rfl⟩
    have hy3 : (fun e => bif Nat.blt e k then rowF D i a b e else 0) = y := by funext e; rw [hy2]
    have hx := hD.x i k
    have hkk : IntKind.i64.wrap ((k : Int) + 1) = ((k + 1 : Nat) : Int) := by rw [wr64 (by omega) (by omega)]; omega
    show Step P18 G18 (A18 13) 13 14 _ _ [B0, B1, rbk w fun e => bif Nat.blt e k then rowF D i a b e else 0] _ _
    rw [hy3]
    by_cases q : i < D.m ∧ k < D.ln i
    · have e1 : (D.x i k).tmod 2 = D.x i k % 2 := by rw [Int.tmod_eq_emod_of_nonneg hx.1]
      by_cases q2 : D.x i k % 2 = 1
      · refine Step.mk0 (A := A18) (m := 0) none_ok rfl rfl loops0 (h1 := [B0, B1, rbk w fun e => bif e == 0 + k then b else bif e == 0 + k then a else y e]) ?_ (.cons ⟨rfl, rfl, rfl, id, fun _ _ => rfl⟩ (.cons ⟨rfl, rfl, rfl, id, fun _ _ => rfl⟩ (.cons ⟨rfl, rfl, rfl, id, fun j _ => rbk_ok (rowF_t a b q.1 q.2 q2) (fun e => by rw [Nat.zero_add, hy2] <;> cases e == k <;> rfl) j⟩ .nil)))
        refine Eq.trans (show iterR P18 G18 A18 noneO 0 13 [] 14 (v13 D w n p i a b (.own 2 0 0 w (some w)) k) [B0, B1, rbk w y] =
(
 bif decide (Int.ofNat k < Int.ofNat w) then
 bif decide ((0 : Int) ≤ Int.ofNat k) && decide (Int.ofNat k < Int.ofNat w) then
 bif ((0 : Nat) + k).blt w && [T.int .u8 a].length == (1 : Nat) && true && true then
 bif decide (Int.ofNat i < Int.ofNat D.m) then
 bif decide ((0 : Int) ≤ Int.ofNat i) && decide (Int.ofNat i < Int.ofNat D.m) then
 bif decide (Int.ofNat k < Int.ofNat (D.ln i)) then
 bif decide ((0 : Int) ≤ Int.ofNat i) && decide (Int.ofNat i < Int.ofNat D.m) then
 bif decide ((0 : Int) ≤ Int.ofNat k) && decide (Int.ofNat k < Int.ofNat (D.ln i)) then
 bif decide ((0 : Int) ≤ (D.x i k).tmod (2 : Int)) && decide ((D.x i k).tmod (2 : Int) < (2 : Int)) then
 bif ((D.x i k).tmod (2 : Int)).toNat == (1 : Nat) then
 bif decide ((0 : Int) ≤ Int.ofNat k) && decide (Int.ofNat k < Int.ofNat w) then
 bif ((0 : Nat) + k).blt w && [T.int .u8 b].length == (1 : Nat) && true && true then
 some ((Ex.normal, [T.reg [T.int .u8 D.wd, D.rows
 none], T.int .i64 (Int.ofNat w), T.int .i64 (Int.ofNat n), p, T.int .i64 (Int.ofNat i), T.reg [T.int .u8 a, T.int .u8 b], T.own 2 0 0 w (some w), T.int .i64 (IntKind.i64.wrap (Int.ofNat k + (1 : Int)))], [B0, B1, Blk.mk 0 1 w (fun e => [T.int .u8 (bif e == (0 : Nat) + k then b
 else
 bif e == (0 : Nat) + k then a
 else y e)]) true false
 none]))
 else none else none else
 bif decide ((0 : Int) ≤ Int.ofNat k) && decide (Int.ofNat k < Int.ofNat w) then
 bif ((0 : Nat) + k).blt w && [T.int .u8 a].length == (1 : Nat) && true && true then
 some ((Ex.normal, [T.reg [T.int .u8 D.wd, D.rows
 none], T.int .i64 (Int.ofNat w), T.int .i64 (Int.ofNat n), p, T.int .i64 (Int.ofNat i), T.reg [T.int .u8 a, T.int .u8 b], T.own 2 0 0 w (some w), T.int .i64 (IntKind.i64.wrap (Int.ofNat k + (1 : Int)))], [B0, B1, Blk.mk 0 1 w (fun e => [T.int .u8 (bif e == (0 : Nat) + k then a
 else
 bif e == (0 : Nat) + k then a
 else y e)]) true false
 none]))
 else none else none else none else none else none else
 some ((Ex.normal, [T.reg [T.int .u8 D.wd, D.rows
 none], T.int .i64 (Int.ofNat w), T.int .i64 (Int.ofNat n), p, T.int .i64 (Int.ofNat i), T.reg [T.int .u8 a, T.int .u8 b], T.own 2 0 0 w (some w), T.int .i64 (IntKind.i64.wrap (Int.ofNat k + (1 : Int)))], [B0, B1, Blk.mk 0 1 w (fun e => [T.int .u8 (bif e == (0 : Nat) + k then a
 else y e)]) true false
 none]))
 else none else
 some ((Ex.normal, [T.reg [T.int .u8 D.wd, D.rows
 none], T.int .i64 (Int.ofNat w), T.int .i64 (Int.ofNat n), p, T.int .i64 (Int.ofNat i), T.reg [T.int .u8 a, T.int .u8 b], T.own 2 0 0 w (some w), T.int .i64 (IntKind.i64.wrap (Int.ofNat k + (1 : Int)))], [B0, B1, Blk.mk 0 1 w (fun e => [T.int .u8 (bif e == (0 : Nat) + k then a
 else y e)]) true false
 none]))
 else none else none else
 some ((Ex.exit 2, [T.reg [T.int .u8 D.wd, D.rows
 none], T.int .i64 (Int.ofNat w), T.int .i64 (Int.ofNat n), p, T.int .i64 (Int.ofNat i), T.own 2 0 0 w (some w)], [B0, B1, Blk.mk 0 1 w (fun e => [T.int .u8 (y e)]) true false
 none]))) from by kernel_rfl) ?_
        rw [e1, q2, ofNatE k, hkk]
        clear hy2 hy3
        (repeat (first | (refine bift (by first | assumption | omega | (simp (disch := omega) only [numsE, List.length_cons, List.length_nil, Nat.reduceAdd]; done) | (simp (disch := omega) only [numsE, List.length_cons, List.length_nil, Nat.reduceAdd]; omega)) ?_) | (refine biff (by first | assumption | (simp (disch := omega) only [numsE, List.length_cons, List.length_nil, Nat.reduceAdd]; done) | (simp (disch := omega) only [numsE, List.length_cons, List.length_nil, Nat.reduceAdd]; omega)) ?_)))
        rfl
      · have q3 : D.x i k % 2 = 0 := by omega
        refine Step.mk0 (A := A18) (m := 0) none_ok rfl rfl loops0 (h1 := [B0, B1, rbk w fun e => bif e == 0 + k then a else bif e == 0 + k then a else y e]) ?_ (.cons ⟨rfl, rfl, rfl, id, fun _ _ => rfl⟩ (.cons ⟨rfl, rfl, rfl, id, fun _ _ => rfl⟩ (.cons ⟨rfl, rfl, rfl, id, fun j _ => rbk_ok (rowF_e a b q.1 q.2 q3) (fun e => by rw [Nat.zero_add, hy2] <;> cases e == k <;> rfl) j⟩ .nil)))
        refine Eq.trans (show iterR P18 G18 A18 noneO 0 13 [] 14 (v13 D w n p i a b (.own 2 0 0 w (some w)) k) [B0, B1, rbk w y] =
(
 bif decide (Int.ofNat k < Int.ofNat w) then
 bif decide ((0 : Int) ≤ Int.ofNat k) && decide (Int.ofNat k < Int.ofNat w) then
 bif ((0 : Nat) + k).blt w && [T.int .u8 a].length == (1 : Nat) && true && true then
 bif decide (Int.ofNat i < Int.ofNat D.m) then
 bif decide ((0 : Int) ≤ Int.ofNat i) && decide (Int.ofNat i < Int.ofNat D.m) then
 bif decide (Int.ofNat k < Int.ofNat (D.ln i)) then
 bif decide ((0 : Int) ≤ Int.ofNat i) && decide (Int.ofNat i < Int.ofNat D.m) then
 bif decide ((0 : Int) ≤ Int.ofNat k) && decide (Int.ofNat k < Int.ofNat (D.ln i)) then
 bif decide ((0 : Int) ≤ (D.x i k).tmod (2 : Int)) && decide ((D.x i k).tmod (2 : Int) < (2 : Int)) then
 bif ((D.x i k).tmod (2 : Int)).toNat == (1 : Nat) then
 bif decide ((0 : Int) ≤ Int.ofNat k) && decide (Int.ofNat k < Int.ofNat w) then
 bif ((0 : Nat) + k).blt w && [T.int .u8 b].length == (1 : Nat) && true && true then
 some ((Ex.normal, [T.reg [T.int .u8 D.wd, D.rows
 none], T.int .i64 (Int.ofNat w), T.int .i64 (Int.ofNat n), p, T.int .i64 (Int.ofNat i), T.reg [T.int .u8 a, T.int .u8 b], T.own 2 0 0 w (some w), T.int .i64 (IntKind.i64.wrap (Int.ofNat k + (1 : Int)))], [B0, B1, Blk.mk 0 1 w (fun e => [T.int .u8 (bif e == (0 : Nat) + k then b
 else
 bif e == (0 : Nat) + k then a
 else y e)]) true false
 none]))
 else none else none else
 bif decide ((0 : Int) ≤ Int.ofNat k) && decide (Int.ofNat k < Int.ofNat w) then
 bif ((0 : Nat) + k).blt w && [T.int .u8 a].length == (1 : Nat) && true && true then
 some ((Ex.normal, [T.reg [T.int .u8 D.wd, D.rows
 none], T.int .i64 (Int.ofNat w), T.int .i64 (Int.ofNat n), p, T.int .i64 (Int.ofNat i), T.reg [T.int .u8 a, T.int .u8 b], T.own 2 0 0 w (some w), T.int .i64 (IntKind.i64.wrap (Int.ofNat k + (1 : Int)))], [B0, B1, Blk.mk 0 1 w (fun e => [T.int .u8 (bif e == (0 : Nat) + k then a
 else
 bif e == (0 : Nat) + k then a
 else y e)]) true false
 none]))
 else none else none else none else none else none else
 some ((Ex.normal, [T.reg [T.int .u8 D.wd, D.rows
 none], T.int .i64 (Int.ofNat w), T.int .i64 (Int.ofNat n), p, T.int .i64 (Int.ofNat i), T.reg [T.int .u8 a, T.int .u8 b], T.own 2 0 0 w (some w), T.int .i64 (IntKind.i64.wrap (Int.ofNat k + (1 : Int)))], [B0, B1, Blk.mk 0 1 w (fun e => [T.int .u8 (bif e == (0 : Nat) + k then a
 else y e)]) true false
 none]))
 else none else
 some ((Ex.normal, [T.reg [T.int .u8 D.wd, D.rows
 none], T.int .i64 (Int.ofNat w), T.int .i64 (Int.ofNat n), p, T.int .i64 (Int.ofNat i), T.reg [T.int .u8 a, T.int .u8 b], T.own 2 0 0 w (some w), T.int .i64 (IntKind.i64.wrap (Int.ofNat k + (1 : Int)))], [B0, B1, Blk.mk 0 1 w (fun e => [T.int .u8 (bif e == (0 : Nat) + k then a
 else y e)]) true false
 none]))
 else none else none else
 some ((Ex.exit 2, [T.reg [T.int .u8 D.wd, D.rows
 none], T.int .i64 (Int.ofNat w), T.int .i64 (Int.ofNat n), p, T.int .i64 (Int.ofNat i), T.own 2 0 0 w (some w)], [B0, B1, Blk.mk 0 1 w (fun e => [T.int .u8 (y e)]) true false
 none]))) from by kernel_rfl) ?_
        rw [e1, q3, ofNatE k, hkk]
        clear hy2 hy3
        (repeat (first | (refine bift (by first | assumption | omega | (simp (disch := omega) only [numsE, List.length_cons, List.length_nil, Nat.reduceAdd]; done) | (simp (disch := omega) only [numsE, List.length_cons, List.length_nil, Nat.reduceAdd]; omega)) ?_) | (refine biff (by first | assumption | (simp (disch := omega) only [numsE, List.length_cons, List.length_nil, Nat.reduceAdd]; done) | (simp (disch := omega) only [numsE, List.length_cons, List.length_nil, Nat.reduceAdd]; omega)) ?_)))
        rfl
    · refine Step.mk0 (A := A18) (m := 0) none_ok rfl rfl loops0 (h1 := [B0, B1, rbk w fun e => bif e == 0 + k then a else y e]) ?_ (.cons ⟨rfl, rfl, rfl, id, fun _ _ => rfl⟩ (.cons ⟨rfl, rfl, rfl, id, fun _ _ => rfl⟩ (.cons ⟨rfl, rfl, rfl, id, fun j _ => rbk_ok (rowF_n a b q) (fun e => by rw [Nat.zero_add, hy2] <;> cases e == k <;> rfl) j⟩ .nil)))
      refine Eq.trans (show iterR P18 G18 A18 noneO 0 13 [] 14 (v13 D w n p i a b (.own 2 0 0 w (some w)) k) [B0, B1, rbk w y] =
(
 bif decide (Int.ofNat k < Int.ofNat w) then
 bif decide ((0 : Int) ≤ Int.ofNat k) && decide (Int.ofNat k < Int.ofNat w) then
 bif ((0 : Nat) + k).blt w && [T.int .u8 a].length == (1 : Nat) && true && true then
 bif decide (Int.ofNat i < Int.ofNat D.m) then
 bif decide ((0 : Int) ≤ Int.ofNat i) && decide (Int.ofNat i < Int.ofNat D.m) then
 bif decide (Int.ofNat k < Int.ofNat (D.ln i)) then
 bif decide ((0 : Int) ≤ Int.ofNat i) && decide (Int.ofNat i < Int.ofNat D.m) then
 bif decide ((0 : Int) ≤ Int.ofNat k) && decide (Int.ofNat k < Int.ofNat (D.ln i)) then
 bif decide ((0 : Int) ≤ (D.x i k).tmod (2 : Int)) && decide ((D.x i k).tmod (2 : Int) < (2 : Int)) then
 bif ((D.x i k).tmod (2 : Int)).toNat == (1 : Nat) then
 bif decide ((0 : Int) ≤ Int.ofNat k) && decide (Int.ofNat k < Int.ofNat w) then
 bif ((0 : Nat) + k).blt w && [T.int .u8 b].length == (1 : Nat) && true && true then
 some ((Ex.normal, [T.reg [T.int .u8 D.wd, D.rows
 none], T.int .i64 (Int.ofNat w), T.int .i64 (Int.ofNat n), p, T.int .i64 (Int.ofNat i), T.reg [T.int .u8 a, T.int .u8 b], T.own 2 0 0 w (some w), T.int .i64 (IntKind.i64.wrap (Int.ofNat k + (1 : Int)))], [B0, B1, Blk.mk 0 1 w (fun e => [T.int .u8 (bif e == (0 : Nat) + k then b
 else
 bif e == (0 : Nat) + k then a
 else y e)]) true false
 none]))
 else none else none else
 bif decide ((0 : Int) ≤ Int.ofNat k) && decide (Int.ofNat k < Int.ofNat w) then
 bif ((0 : Nat) + k).blt w && [T.int .u8 a].length == (1 : Nat) && true && true then
 some ((Ex.normal, [T.reg [T.int .u8 D.wd, D.rows
 none], T.int .i64 (Int.ofNat w), T.int .i64 (Int.ofNat n), p, T.int .i64 (Int.ofNat i), T.reg [T.int .u8 a, T.int .u8 b], T.own 2 0 0 w (some w), T.int .i64 (IntKind.i64.wrap (Int.ofNat k + (1 : Int)))], [B0, B1, Blk.mk 0 1 w (fun e => [T.int .u8 (bif e == (0 : Nat) + k then a
 else
 bif e == (0 : Nat) + k then a
 else y e)]) true false
 none]))
 else none else none else none else none else none else
 some ((Ex.normal, [T.reg [T.int .u8 D.wd, D.rows
 none], T.int .i64 (Int.ofNat w), T.int .i64 (Int.ofNat n), p, T.int .i64 (Int.ofNat i), T.reg [T.int .u8 a, T.int .u8 b], T.own 2 0 0 w (some w), T.int .i64 (IntKind.i64.wrap (Int.ofNat k + (1 : Int)))], [B0, B1, Blk.mk 0 1 w (fun e => [T.int .u8 (bif e == (0 : Nat) + k then a
 else y e)]) true false
 none]))
 else none else
 some ((Ex.normal, [T.reg [T.int .u8 D.wd, D.rows
 none], T.int .i64 (Int.ofNat w), T.int .i64 (Int.ofNat n), p, T.int .i64 (Int.ofNat i), T.reg [T.int .u8 a, T.int .u8 b], T.own 2 0 0 w (some w), T.int .i64 (IntKind.i64.wrap (Int.ofNat k + (1 : Int)))], [B0, B1, Blk.mk 0 1 w (fun e => [T.int .u8 (bif e == (0 : Nat) + k then a
 else y e)]) true false
 none]))
 else none else none else
 some ((Ex.exit 2, [T.reg [T.int .u8 D.wd, D.rows
 none], T.int .i64 (Int.ofNat w), T.int .i64 (Int.ofNat n), p, T.int .i64 (Int.ofNat i), T.own 2 0 0 w (some w)], [B0, B1, Blk.mk 0 1 w (fun e => [T.int .u8 (y e)]) true false
 none]))) from by kernel_rfl) ?_
      rw [ofNatE k, hkk]
      clear hy2 hy3
      by_cases q3 : i < D.m
      · have q4 : ¬ k < D.ln i := fun h => q ⟨q3, h⟩
        clear q
        (repeat (first | (refine bift (by first | assumption | omega | (simp (disch := omega) only [numsE, List.length_cons, List.length_nil, Nat.reduceAdd]; done) | (simp (disch := omega) only [numsE, List.length_cons, List.length_nil, Nat.reduceAdd]; omega)) ?_) | (refine biff (by first | assumption | (simp (disch := omega) only [numsE, List.length_cons, List.length_nil, Nat.reduceAdd]; done) | (simp (disch := omega) only [numsE, List.length_cons, List.length_nil, Nat.reduceAdd]; omega)) ?_)))
        rfl
      · clear q
        (repeat (first | (refine bift (by first | assumption | omega | (simp (disch := omega) only [numsE, List.length_cons, List.length_nil, Nat.reduceAdd]; done) | (simp (disch := omega) only [numsE, List.length_cons, List.length_nil, Nat.reduceAdd]; omega)) ?_) | (refine biff (by first | assumption | (simp (disch := omega) only [numsE, List.length_cons, List.length_nil, Nat.reduceAdd]; done) | (simp (disch := omega) only [numsE, List.length_cons, List.length_nil, Nat.reduceAdd]; omega)) ?_)))
        rfl
  · obtain ⟨y, hy⟩ : ∃ y : Nat → Int, y = fun e => bif Nat.blt e w then rowF D i a b e else 0 := ⟨_, rfl⟩
    show Last P18 G18 (A18 13) 13 14 _ _ [B0, B1, rbk w fun e => bif Nat.blt e w then rowF D i a b e else 0] _ _ _
    rw [← hy]
    refine Last.mk0 (A := A18) (m := 0) none_ok rfl rfl loops0 (h1 := [B0, B1, rbk w y]) (by simp) ?_ (.cons ⟨rfl, rfl, rfl, id, fun _ _ => rfl⟩ (.cons ⟨rfl, rfl, rfl, id, fun _ _ => rfl⟩ (.cons ⟨rfl, rfl, rfl, id, fun j hj => ?_⟩ .nil)))
    · clear hy
      refine Eq.trans (show iterR P18 G18 A18 noneO 0 13 [] 14 (v13 D w n p i a b (.own 2 0 0 w (some w)) (w : Nat)) [B0, B1, rbk w y] =
(
 bif decide (Int.ofNat w < Int.ofNat w) then
 bif decide ((0 : Int) ≤ Int.ofNat w) && decide (Int.ofNat w < Int.ofNat w) then
 bif ((0 : Nat) + w).blt w && [T.int .u8 a].length == (1 : Nat) && true && true then
 bif decide (Int.ofNat i < Int.ofNat D.m) then
 bif decide ((0 : Int) ≤ Int.ofNat i) && decide (Int.ofNat i < Int.ofNat D.m) then
 bif decide (Int.ofNat w < Int.ofNat (D.ln i)) then
 bif decide ((0 : Int) ≤ Int.ofNat i) && decide (Int.ofNat i < Int.ofNat D.m) then
 bif decide ((0 : Int) ≤ Int.ofNat w) && decide (Int.ofNat w < Int.ofNat (D.ln i)) then
 bif decide ((0 : Int) ≤ (D.x i w).tmod (2 : Int)) && decide ((D.x i w).tmod (2 : Int) < (2 : Int)) then
 bif ((D.x i w).tmod (2 : Int)).toNat == (1 : Nat) then
 bif decide ((0 : Int) ≤ Int.ofNat w) && decide (Int.ofNat w < Int.ofNat w) then
 bif ((0 : Nat) + w).blt w && [T.int .u8 b].length == (1 : Nat) && true && true then
 some ((Ex.normal, [T.reg [T.int .u8 D.wd, D.rows
 none], T.int .i64 (Int.ofNat w), T.int .i64 (Int.ofNat n), p, T.int .i64 (Int.ofNat i), T.reg [T.int .u8 a, T.int .u8 b], T.own 2 0 0 w (some w), T.int .i64 (IntKind.i64.wrap (Int.ofNat w + (1 : Int)))], [B0, B1, Blk.mk 0 1 w (fun e => [T.int .u8 (bif e == (0 : Nat) + w then b
 else
 bif e == (0 : Nat) + w then a
 else y e)]) true false
 none]))
 else none else none else
 bif decide ((0 : Int) ≤ Int.ofNat w) && decide (Int.ofNat w < Int.ofNat w) then
 bif ((0 : Nat) + w).blt w && [T.int .u8 a].length == (1 : Nat) && true && true then
 some ((Ex.normal, [T.reg [T.int .u8 D.wd, D.rows
 none], T.int .i64 (Int.ofNat w), T.int .i64 (Int.ofNat n), p, T.int .i64 (Int.ofNat i), T.reg [T.int .u8 a, T.int .u8 b], T.own 2 0 0 w (some w), T.int .i64 (IntKind.i64.wrap (Int.ofNat w + (1 : Int)))], [B0, B1, Blk.mk 0 1 w (fun e => [T.int .u8 (bif e == (0 : Nat) + w then a
 else
 bif e == (0 : Nat) + w then a
 else y e)]) true false
 none]))
 else none else none else none else none else none else
 some ((Ex.normal, [T.reg [T.int .u8 D.wd, D.rows
 none], T.int .i64 (Int.ofNat w), T.int .i64 (Int.ofNat n), p, T.int .i64 (Int.ofNat i), T.reg [T.int .u8 a, T.int .u8 b], T.own 2 0 0 w (some w), T.int .i64 (IntKind.i64.wrap (Int.ofNat w + (1 : Int)))], [B0, B1, Blk.mk 0 1 w (fun e => [T.int .u8 (bif e == (0 : Nat) + w then a
 else y e)]) true false
 none]))
 else none else
 some ((Ex.normal, [T.reg [T.int .u8 D.wd, D.rows
 none], T.int .i64 (Int.ofNat w), T.int .i64 (Int.ofNat n), p, T.int .i64 (Int.ofNat i), T.reg [T.int .u8 a, T.int .u8 b], T.own 2 0 0 w (some w), T.int .i64 (IntKind.i64.wrap (Int.ofNat w + (1 : Int)))], [B0, B1, Blk.mk 0 1 w (fun e => [T.int .u8 (bif e == (0 : Nat) + w then a
 else y e)]) true false
 none]))
 else none else none else
 some ((Ex.exit 2, [T.reg [T.int .u8 D.wd, D.rows
 none], T.int .i64 (Int.ofNat w), T.int .i64 (Int.ofNat n), p, T.int .i64 (Int.ofNat i), T.own 2 0 0 w (some w)], [B0, B1, Blk.mk 0 1 w (fun e => [T.int .u8 (y e)]) true false
 none]))) from by kernel_rfl) ?_
      (repeat (first | (refine bift (by first | assumption | omega | (simp (disch := omega) only [numsE, List.length_cons, List.length_nil, Nat.reduceAdd]; done) | (simp (disch := omega) only [numsE, List.length_cons, List.length_nil, Nat.reduceAdd]; omega)) ?_) | (refine biff (by first | assumption | (simp (disch := omega) only [numsE, List.length_cons, List.length_nil, Nat.reduceAdd]; done) | (simp (disch := omega) only [numsE, List.length_cons, List.length_nil, Nat.reduceAdd]; omega)) ?_)))
      rfl
    · show [T.int .u8 (rowF D i a b j)] = [.int .u8 (y j)]
      rw [hy]
      show _ = [T.int .u8 (bif Nat.blt j w then rowF D i a b j else 0)]
      rw [bltT (show j < w from hj), cond_true]
end Go.Ab

namespace Go.Ab
open Go.Proofs
theorem ren0_row {σ : List Nat} {h : Heap} {ix w : Nat} {y : Nat → Int} (hp : posOf σ ix = none) (hc : σ.contains ix = false) (hi : h[ix]? = some (rbk w y)) : ren0 σ h (.own ix 0 0 w (some w)) = wrow w y := by
  unfold rbk at hi
  simp only [ren0, hp, resolve, hc, cond_false, hi, beq_self_eq_true, Bool.true_and, Option.isNone_none]
  rw [show Nat.ble (0 + w) w = true from bleT (by omega)]
  simp only [cond_true, Nat.zero_add]
  rfl
theorem fr_row {w : Nat} {f : Nat → Int} (g : Nat → List T) (hg : g 0 = [wrow w f]) (R : Nat → Nat → Int) (hR : R 0 = f) (j : Nat) (hj : j < 1) : (pbR w 0 R).get j = g j := by
  obtain rfl := one_of hj
  rw [hg, ← hR]
  rfl
theorem pb_get {w j : Nat} {R : Nat → Nat → Int} {f : Nat → Int} {g : Nat → List T} (hR : R (j + 1) = f) (h1 : ∀ e, e < j + 1 → g e = [wrow w (R e)]) (h2 : g (j + 1) = [wrow w f]) (e : Nat) (he : e < j + 1 + 1) : (pbR w (j + 1) R).get e = g e := by
  show [wrow w (R e)] = g e
  by_cases q : e < j + 1
  · rw [h1 e q]
  · obtain rfl : e = j + 1 := by omega
    rw [h2, hR]
set_option maxRecDepth 100000 in
theorem r13nil_tab (D : IR) (w n i : Nat) (a b : Int) (y : Nat → Int) (R : Nat → Nat → Int) (hR : R 0 = y) (hw : w ≤ 1000) (hi : i < n) (hn : n ≤ 1000) (t : Nat) (ht : t < 4) (him : i < D.m) (hln : 0 < D.ln i) (htv : IntKind.u8.wrap ((D.x i 0).tdiv 64) = (t : Int)) (hab : (a, b) = [((1 : Int), (2 : Int)), (1, 3), (2, 3), (5, 4)].getD t (0, 0)) 
    (hl : LoopOk P18 G18 (A18 13) 13 14 (litS (v13 D w n .nils i a b (.own 1 0 0 w (some w)) 0) [tabB, rbk w fun _ => 0] (.exit 2) (w13 D w n .nils i ++ [.own 1 0 0 w (some w)]) [tabB, rbk w y])) : Step P18 G18 (A18 13) 13 7 0 (w13 D w n .nils i) [] (w13 D w n (pO 0) (i + 1)) [pbR w 0 R] := by
  have hii : IntKind.i64.wrap ((i : Int) + 1) = ((i + 1 : Nat) : Int) := by rw [wr64 (by omega) (by omega)]; omega
  refine Step.mkC (A := A18) (m := 0) none_ok rfl rfl (loops1 hl) [3] (v1 := w13 D w n (.own 3 0 0 1 none) (i + 1)) (h1 := [tabB, rbk w y, ⟨0, 1, 1, fun e => [[.own 1 0 0 w (some w)]].getD e [], false, true, none⟩, ⟨0, 1, 1, fun e => [[.own 1 0 0 w (some w)]].getD (0 + e) [], false, false, none⟩]) ?_ (by kernel_rfl) (v2 := w13 D w n (pO 0) (i + 1)) (by rfl) rfl fun nt => .same (.cons ⟨rfl, rfl, rfl, id, fr_row _ (by show [ren0 [3] _ (.own 1 0 0 w (some w))] = _; rw [ren0_row rfl rfl rfl]) R hR⟩ .nil)
  · rw [(show iterR P18 G18 A18 noneO 0 13 [(14, litS (v13 D w n .nils i a b (.own 1 0 0 w (some w)) 0) [tabB, rbk w fun _ => 0] (.exit 2) (w13 D w n .nils i ++ [.own 1 0 0 w (some w)]) [tabB, rbk w y])] 7 (w13 D w n .nils i) [] =
(
 bif decide (Int.ofNat i < Int.ofNat n) then
 bif decide (Int.ofNat i < Int.ofNat D.m) then
 bif decide ((0 : Int) ≤ Int.ofNat i) && decide (Int.ofNat i < Int.ofNat D.m) then
 bif decide ((0 : Int) < Int.ofNat (D.ln i)) then
 bif decide ((0 : Int) ≤ Int.ofNat i) && decide (Int.ofNat i < Int.ofNat D.m) then
 bif decide ((0 : Int) < Int.ofNat (D.ln i)) then
 bif decide ((0 : Int) ≤ IntKind.u8.wrap ((D.x i (0 : Nat)).tdiv (64 : Int))) && decide (IntKind.u8.wrap ((D.x i (0 : Nat)).tdiv (64 : Int)) < (4 : Int)) then
 bif (0 : Nat) + (IntKind.u8.wrap ((D.x i (0 : Nat)).tdiv (64 : Int))).toNat == (3 : Nat) then
 bif decide ((0 : Int) ≤ Int.ofNat w) && decide (Int.ofNat w ≤ Int.ofNat w) && decide (Int.ofNat w * (1 : Int) ≤ (140737488355328 : Int)) && decide (Int.ofNat w ≤ (9223372036854775807 : Int)) then
 bif weakF [T.reg [T.int .u8 D.wd, D.rows
 none], T.int .i64 (Int.ofNat w), T.int .i64 (Int.ofNat n), T.nils, T.int .i64 (Int.ofNat i), T.reg [T.int .u8 (5 : Int), T.int .u8 (4 : Int)], T.own 1 0 0 w (some w), T.int .i64 (0 : Int)] [tabB, Blk.mk 0 1 w (fun x => [T.int .u8 (0 : Int)]) true false
 none] [T.reg [T.int .u8 D.wd, D.rows
 none], T.int .i64 (Int.ofNat w), T.int .i64 (Int.ofNat n), T.nils, T.int .i64 (Int.ofNat i), T.reg [T.int .u8 a, T.int .u8 b], T.own 1 0 0 w (some w), T.int .i64 (0 : Int)] [tabB, Blk.mk 0 1 w (fun e => [T.int .u8 (0 : Int)]) true false
 none] then
 some ((Ex.normal, [T.reg [T.int .u8 D.wd, D.rows
 none], T.int .i64 (Int.ofNat w), T.int .i64 (Int.ofNat n), T.own [tabB, Blk.mk 0 1 w (fun e => [T.int .u8 (y e)]) true false
 none, Blk.mk 0 1 1 (fun j => [[T.own 1 0 0 w (some w)]].getD j []) false true
 none].length (0 : Nat) (0 : Nat) (1 : Nat)
 none, T.int .i64 (IntKind.i64.wrap (Int.ofNat i + (1 : Int)))], [tabB, Blk.mk 0 1 w (fun e => [T.int .u8 (y e)]) true false
 none, Blk.mk 0 1 1 (fun j => [[T.own 1 0 0 w (some w)]].getD j []) false true
 none, Blk.mk 0 1 1 (fun j => [[T.own 1 0 0 w (some w)]].getD ((0 : Nat) + j) []) false false
 none]))
 else none else none else
 bif (0 : Nat) + (IntKind.u8.wrap ((D.x i (0 : Nat)).tdiv (64 : Int))).toNat == (2 : Nat) then
 bif decide ((0 : Int) ≤ Int.ofNat w) && decide (Int.ofNat w ≤ Int.ofNat w) && decide (Int.ofNat w * (1 : Int) ≤ (140737488355328 : Int)) && decide (Int.ofNat w ≤ (9223372036854775807 : Int)) then
 bif weakF [T.reg [T.int .u8 D.wd, D.rows
 none], T.int .i64 (Int.ofNat w), T.int .i64 (Int.ofNat n), T.nils, T.int .i64 (Int.ofNat i), T.reg [T.int .u8 (2 : Int), T.int .u8 (3 : Int)], T.own 1 0 0 w (some w), T.int .i64 (0 : Int)] [tabB, Blk.mk 0 1 w (fun x => [T.int .u8 (0 : Int)]) true false
 none] [T.reg [T.int .u8 D.wd, D.rows
 none], T.int .i64 (Int.ofNat w), T.int .i64 (Int.ofNat n), T.nils, T.int .i64 (Int.ofNat i), T.reg [T.int .u8 a, T.int .u8 b], T.own 1 0 0 w (some w), T.int .i64 (0 : Int)] [tabB, Blk.mk 0 1 w (fun e => [T.int .u8 (0 : Int)]) true false
 none] then
 some ((Ex.normal, [T.reg [T.int .u8 D.wd, D.rows
 none], T.int .i64 (Int.ofNat w), T.int .i64 (Int.ofNat n), T.own [tabB, Blk.mk 0 1 w (fun e => [T.int .u8 (y e)]) true false
 none, Blk.mk 0 1 1 (fun j => [[T.own 1 0 0 w (some w)]].getD j []) false true
 none].length (0 : Nat) (0 : Nat) (1 : Nat)
 none, T.int .i64 (IntKind.i64.wrap (Int.ofNat i + (1 : Int)))], [tabB, Blk.mk 0 1 w (fun e => [T.int .u8 (y e)]) true false
 none, Blk.mk 0 1 1 (fun j => [[T.own 1 0 0 w (some w)]].getD j []) false true
 none, Blk.mk 0 1 1 (fun j => [[T.own 1 0 0 w (some w)]].getD ((0 : Nat) + j) []) false false
 none]))
 else none else none else
 bif (0 : Nat) + (IntKind.u8.wrap ((D.x i (0 : Nat)).tdiv (64 : Int))).toNat == (1 : Nat) then
 bif decide ((0 : Int) ≤ Int.ofNat w) && decide (Int.ofNat w ≤ Int.ofNat w) && decide (Int.ofNat w * (1 : Int) ≤ (140737488355328 : Int)) && decide (Int.ofNat w ≤ (9223372036854775807 : Int)) then
 bif weakF [T.reg [T.int .u8 D.wd, D.rows
 none], T.int .i64 (Int.ofNat w), T.int .i64 (Int.ofNat n), T.nils, T.int .i64 (Int.ofNat i), T.reg [T.int .u8 (1 : Int), T.int .u8 (3 : Int)], T.own 1 0 0 w (some w), T.int .i64 (0 : Int)] [tabB, Blk.mk 0 1 w (fun x => [T.int .u8 (0 : Int)]) true false
 none] [T.reg [T.int .u8 D.wd, D.rows
 none], T.int .i64 (Int.ofNat w), T.int .i64 (Int.ofNat n), T.nils, T.int .i64 (Int.ofNat i), T.reg [T.int .u8 a, T.int .u8 b], T.own 1 0 0 w (some w), T.int .i64 (0 : Int)] [tabB, Blk.mk 0 1 w (fun e => [T.int .u8 (0 : Int)]) true false
 none] then
 some ((Ex.normal, [T.reg [T.int .u8 D.wd, D.rows
 none], T.int .i64 (Int.ofNat w), T.int .i64 (Int.ofNat n), T.own [tabB, Blk.mk 0 1 w (fun e => [T.int .u8 (y e)]) true false
 none, Blk.mk 0 1 1 (fun j => [[T.own 1 0 0 w (some w)]].getD j []) false true
 none].length (0 : Nat) (0 : Nat) (1 : Nat)
 none, T.int .i64 (IntKind.i64.wrap (Int.ofNat i + (1 : Int)))], [tabB, Blk.mk 0 1 w (fun e => [T.int .u8 (y e)]) true false
 none, Blk.mk 0 1 1 (fun j => [[T.own 1 0 0 w (some w)]].getD j []) false true
 none, Blk.mk 0 1 1 (fun j => [[T.own 1 0 0 w (some w)]].getD ((0 : Nat) + j) []) false false
 none]))
 else none else none else
 bif decide ((0 : Int) ≤ Int.ofNat w) && decide (Int.ofNat w ≤ Int.ofNat w) && decide (Int.ofNat w * (1 : Int) ≤ (140737488355328 : Int)) && decide (Int.ofNat w ≤ (9223372036854775807 : Int)) then
 bif weakF [T.reg [T.int .u8 D.wd, D.rows
 none], T.int .i64 (Int.ofNat w), T.int .i64 (Int.ofNat n), T.nils, T.int .i64 (Int.ofNat i), T.reg [T.int .u8 (1 : Int), T.int .u8 (2 : Int)], T.own 1 0 0 w (some w), T.int .i64 (0 : Int)] [tabB, Blk.mk 0 1 w (fun x => [T.int .u8 (0 : Int)]) true false
 none] [T.reg [T.int .u8 D.wd, D.rows
 none], T.int .i64 (Int.ofNat w), T.int .i64 (Int.ofNat n), T.nils, T.int .i64 (Int.ofNat i), T.reg [T.int .u8 a, T.int .u8 b], T.own 1 0 0 w (some w), T.int .i64 (0 : Int)] [tabB, Blk.mk 0 1 w (fun e => [T.int .u8 (0 : Int)]) true false
 none] then
 some ((Ex.normal, [T.reg [T.int .u8 D.wd, D.rows
 none], T.int .i64 (Int.ofNat w), T.int .i64 (Int.ofNat n), T.own [tabB, Blk.mk 0 1 w (fun e => [T.int .u8 (y e)]) true false
 none, Blk.mk 0 1 1 (fun j => [[T.own 1 0 0 w (some w)]].getD j []) false true
 none].length (0 : Nat) (0 : Nat) (1 : Nat)
 none, T.int .i64 (IntKind.i64.wrap (Int.ofNat i + (1 : Int)))], [tabB, Blk.mk 0 1 w (fun e => [T.int .u8 (y e)]) true false
 none, Blk.mk 0 1 1 (fun j => [[T.own 1 0 0 w (some w)]].getD j []) false true
 none, Blk.mk 0 1 1 (fun j => [[T.own 1 0 0 w (some w)]].getD ((0 : Nat) + j) []) false false
 none]))
 else none else none else none else none else none else
 bif decide ((0 : Int) ≤ Int.ofNat w) && decide (Int.ofNat w ≤ Int.ofNat w) && decide (Int.ofNat w * (1 : Int) ≤ (140737488355328 : Int)) && decide (Int.ofNat w ≤ (9223372036854775807 : Int)) then
 bif weakF [T.reg [T.int .u8 D.wd, D.rows
 none], T.int .i64 (Int.ofNat w), T.int .i64 (Int.ofNat n), T.nils, T.int .i64 (Int.ofNat i), T.reg [T.int .u8 (1 : Int), T.int .u8 (2 : Int)], T.own 0 0 0 w (some w), T.int .i64 (0 : Int)] [Blk.mk 0 1 w (fun x => [T.int .u8 (0 : Int)]) true false
 none] [T.reg [T.int .u8 D.wd, D.rows
 none], T.int .i64 (Int.ofNat w), T.int .i64 (Int.ofNat n), T.nils, T.int .i64 (Int.ofNat i), T.reg [T.int .u8 a, T.int .u8 b], T.own 1 0 0 w (some w), T.int .i64 (0 : Int)] [tabB, Blk.mk 0 1 w (fun e => [T.int .u8 (0 : Int)]) true false
 none] then
 some ((Ex.normal, [T.reg [T.int .u8 D.wd, D.rows
 none], T.int .i64 (Int.ofNat w), T.int .i64 (Int.ofNat n), T.own [tabB, Blk.mk 0 1 w (fun e => [T.int .u8 (y e)]) true false
 none, Blk.mk 0 1 1 (fun j => [[T.own 1 0 0 w (some w)]].getD j []) false true
 none].length (0 : Nat) (0 : Nat) (1 : Nat)
 none, T.int .i64 (IntKind.i64.wrap (Int.ofNat i + (1 : Int)))], [tabB, Blk.mk 0 1 w (fun e => [T.int .u8 (y e)]) true false
 none, Blk.mk 0 1 1 (fun j => [[T.own 1 0 0 w (some w)]].getD j []) false true
 none, Blk.mk 0 1 1 (fun j => [[T.own 1 0 0 w (some w)]].getD ((0 : Nat) + j) []) false false
 none]))
 else none else none else none else
 bif decide ((0 : Int) ≤ Int.ofNat w) && decide (Int.ofNat w ≤ Int.ofNat w) && decide (Int.ofNat w * (1 : Int) ≤ (140737488355328 : Int)) && decide (Int.ofNat w ≤ (9223372036854775807 : Int)) then
 bif weakF [T.reg [T.int .u8 D.wd, D.rows
 none], T.int .i64 (Int.ofNat w), T.int .i64 (Int.ofNat n), T.nils, T.int .i64 (Int.ofNat i), T.reg [T.int .u8 (1 : Int), T.int .u8 (2 : Int)], T.own 0 0 0 w (some w), T.int .i64 (0 : Int)] [Blk.mk 0 1 w (fun x => [T.int .u8 (0 : Int)]) true false
 none] [T.reg [T.int .u8 D.wd, D.rows
 none], T.int .i64 (Int.ofNat w), T.int .i64 (Int.ofNat n), T.nils, T.int .i64 (Int.ofNat i), T.reg [T.int .u8 a, T.int .u8 b], T.own 1 0 0 w (some w), T.int .i64 (0 : Int)] [tabB, Blk.mk 0 1 w (fun e => [T.int .u8 (0 : Int)]) true false
 none] then
 some ((Ex.normal, [T.reg [T.int .u8 D.wd, D.rows
 none], T.int .i64 (Int.ofNat w), T.int .i64 (Int.ofNat n), T.own [tabB, Blk.mk 0 1 w (fun e => [T.int .u8 (y e)]) true false
 none, Blk.mk 0 1 1 (fun j => [[T.own 1 0 0 w (some w)]].getD j []) false true
 none].length (0 : Nat) (0 : Nat) (1 : Nat)
 none, T.int .i64 (IntKind.i64.wrap (Int.ofNat i + (1 : Int)))], [tabB, Blk.mk 0 1 w (fun e => [T.int .u8 (y e)]) true false
 none, Blk.mk 0 1 1 (fun j => [[T.own 1 0 0 w (some w)]].getD j []) false true
 none, Blk.mk 0 1 1 (fun j => [[T.own 1 0 0 w (some w)]].getD ((0 : Nat) + j) []) false false
 none]))
 else none else none else
 some ((Ex.exit 0, [T.nils], []))) from by kernel_rfl)]
    refine bift (by first | assumption | omega | (simp (disch := omega) only [numsE, List.length_cons, List.length_nil, Nat.reduceAdd]; done) | (simp (disch := omega) only [numsE, List.length_cons, List.length_nil, Nat.reduceAdd]; omega)) ?_
    refine bift (by first | assumption | omega | (simp (disch := omega) only [numsE, List.length_cons, List.length_nil, Nat.reduceAdd]; done) | (simp (disch := omega) only [numsE, List.length_cons, List.length_nil, Nat.reduceAdd]; omega)) ?_
    refine bift (by first | assumption | omega | (simp (disch := omega) only [numsE, List.length_cons, List.length_nil, Nat.reduceAdd]; done) | (simp (disch := omega) only [numsE, List.length_cons, List.length_nil, Nat.reduceAdd]; omega)) ?_
    refine bift (by first | assumption | omega | (simp (disch := omega) only [numsE, List.length_cons, List.length_nil, Nat.reduceAdd]; done) | (simp (disch := omega) only [numsE, List.length_cons, List.length_nil, Nat.reduceAdd]; omega)) ?_
    refine bift (by first | assumption | omega | (simp (disch := omega) only [numsE, List.length_cons, List.length_nil, Nat.reduceAdd]; done) | (simp (disch := omega) only [numsE, List.length_cons, List.length_nil, Nat.reduceAdd]; omega)) ?_
    refine bift (by first | assumption | omega | (simp (disch := omega) only [numsE, List.length_cons, List.length_nil, Nat.reduceAdd]; done) | (simp (disch := omega) only [numsE, List.length_cons, List.length_nil, Nat.reduceAdd]; omega)) ?_
    rw [htv]
    obtain rfl | rfl | rfl | rfl : t = 0 ∨ t = 1 ∨ t = 2 ∨ t = 3 := by omega
    · obtain ⟨rfl, rfl⟩ : a = 1 ∧ b = 2 := by simpa using hab
      refine bift (by decide) ?_
      refine biff (by decide) ?_
      refine biff (by decide) ?_
      refine biff (by decide) ?_
      refine bift (by first | assumption | omega | (simp (disch := omega) only [numsE, List.length_cons, List.length_nil, Nat.reduceAdd]; done) | (simp (disch := omega) only [numsE, List.length_cons, List.length_nil, Nat.reduceAdd]; omega)) ?_
      refine bift (weakF_of ⟨rfl, .refl _⟩) ?_
      rw [ofNatE i, hii]
      rfl
    · obtain ⟨rfl, rfl⟩ : a = 1 ∧ b = 3 := by simpa using hab
      refine bift (by decide) ?_
      refine biff (by decide) ?_
      refine biff (by decide) ?_
      refine bift (by decide) ?_
      refine bift (by first | assumption | omega | (simp (disch := omega) only [numsE, List.length_cons, List.length_nil, Nat.reduceAdd]; done) | (simp (disch := omega) only [numsE, List.length_cons, List.length_nil, Nat.reduceAdd]; omega)) ?_
      refine bift (weakF_of ⟨rfl, .refl _⟩) ?_
      rw [ofNatE i, hii]
      rfl
    · obtain ⟨rfl, rfl⟩ : a = 2 ∧ b = 3 := by simpa using hab
      refine bift (by decide) ?_
      refine biff (by decide) ?_
      refine bift (by decide) ?_
      refine bift (by first | assumption | omega | (simp (disch := omega) only [numsE, List.length_cons, List.length_nil, Nat.reduceAdd]; done) | (simp (disch := omega) only [numsE, List.length_cons, List.length_nil, Nat.reduceAdd]; omega)) ?_
      refine bift (weakF_of ⟨rfl, .refl _⟩) ?_
      rw [ofNatE i, hii]
      rfl
    · obtain ⟨rfl, rfl⟩ : a = 5 ∧ b = 4 := by simpa using hab
      refine bift (by decide) ?_
      refine bift (by decide) ?_
      refine bift (by first | assumption | omega | (simp (disch := omega) only [numsE, List.length_cons, List.length_nil, Nat.reduceAdd]; done) | (simp (disch := omega) only [numsE, List.length_cons, List.length_nil, Nat.reduceAdd]; omega)) ?_
      refine bift (weakF_of ⟨rfl, .refl _⟩) ?_
      rw [ofNatE i, hii]
      rfl
set_option maxRecDepth 100000 in
theorem r13nil_none (D : IR) (w n i : Nat) (a b : Int) (y : Nat → Int) (R : Nat → Nat → Int) (hR : R 0 = y) (hw : w ≤ 1000) (hi : i < n) (hn : n ≤ 1000) (hno : ¬ (i < D.m ∧ 0 < D.ln i)) (hab : a = 1 ∧ b = 2) 
    (hl : LoopOk P18 G18 (A18 13) 13 14 (litS (v13 D w n .nils i a b (.own 0 0 0 w (some w)) 0) [rbk w fun _ => 0] (.exit 2) (w13 D w n .nils i ++ [.own 0 0 0 w (some w)]) [rbk w y])) : Step P18 G18 (A18 13) 13 7 0 (w13 D w n .nils i) [] (w13 D w n (pO 0) (i + 1)) [pbR w 0 R] := by
  have hii : IntKind.i64.wrap ((i : Int) + 1) = ((i + 1 : Nat) : Int) := by rw [wr64 (by omega) (by omega)]; omega
  refine Step.mkC (A := A18) (m := 0) none_ok rfl rfl (loops1 hl) [2] (v1 := w13 D w n (.own 2 0 0 1 none) (i + 1)) (h1 := [rbk w y, ⟨0, 1, 1, fun e => [[.own 0 0 0 w (some w)]].getD e [], false, true, none⟩, ⟨0, 1, 1, fun e => [[.own 0 0 0 w (some w)]].getD (0 + e) [], false, false, none⟩]) ?_ (by kernel_rfl) (v2 := w13 D w n (pO 0) (i + 1)) (by rfl) rfl fun nt => .same (.cons ⟨rfl, rfl, rfl, id, fr_row _ (by show [ren0 [2] _ (.own 0 0 0 w (some w))] = _; rw [ren0_row rfl rfl rfl]) R hR⟩ .nil)
  · rw [(show iterR P18 G18 A18 noneO 0 13 [(14, litS (v13 D w n .nils i a b (.own 0 0 0 w (some w)) 0) [rbk w fun _ => 0] (.exit 2) (w13 D w n .nils i ++ [.own 0 0 0 w (some w)]) [rbk w y])] 7 (w13 D w n .nils i) [] =
(
 bif decide (Int.ofNat i < Int.ofNat n) then
 bif decide (Int.ofNat i < Int.ofNat D.m) then
 bif decide ((0 : Int) ≤ Int.ofNat i) && decide (Int.ofNat i < Int.ofNat D.m) then
 bif decide ((0 : Int) < Int.ofNat (D.ln i)) then
 bif decide ((0 : Int) ≤ Int.ofNat i) && decide (Int.ofNat i < Int.ofNat D.m) then
 bif decide ((0 : Int) < Int.ofNat (D.ln i)) then
 bif decide ((0 : Int) ≤ IntKind.u8.wrap ((D.x i (0 : Nat)).tdiv (64 : Int))) && decide (IntKind.u8.wrap ((D.x i (0 : Nat)).tdiv (64 : Int)) < (4 : Int)) then
 bif (0 : Nat) + (IntKind.u8.wrap ((D.x i (0 : Nat)).tdiv (64 : Int))).toNat == (3 : Nat) then
 bif decide ((0 : Int) ≤ Int.ofNat w) && decide (Int.ofNat w ≤ Int.ofNat w) && decide (Int.ofNat w * (1 : Int) ≤ (140737488355328 : Int)) && decide (Int.ofNat w ≤ (9223372036854775807 : Int)) then
 bif weakF [T.reg [T.int .u8 D.wd, D.rows
 none], T.int .i64 (Int.ofNat w), T.int .i64 (Int.ofNat n), T.nils, T.int .i64 (Int.ofNat i), T.reg [T.int .u8 (5 : Int), T.int .u8 (4 : Int)], T.own 1 0 0 w (some w), T.int .i64 (0 : Int)] [tabB, Blk.mk 0 1 w (fun x => [T.int .u8 (0 : Int)]) true false
 none] [T.reg [T.int .u8 D.wd, D.rows
 none], T.int .i64 (Int.ofNat w), T.int .i64 (Int.ofNat n), T.nils, T.int .i64 (Int.ofNat i), T.reg [T.int .u8 a, T.int .u8 b], T.own 0 0 0 w (some w), T.int .i64 (0 : Int)] [Blk.mk 0 1 w (fun e => [T.int .u8 (0 : Int)]) true false
 none] then
 some ((Ex.normal, [T.reg [T.int .u8 D.wd, D.rows
 none], T.int .i64 (Int.ofNat w), T.int .i64 (Int.ofNat n), T.own [Blk.mk 0 1 w (fun e => [T.int .u8 (y e)]) true false
 none, Blk.mk 0 1 1 (fun j => [[T.own 0 0 0 w (some w)]].getD j []) false true
 none].length (0 : Nat) (0 : Nat) (1 : Nat)
 none, T.int .i64 (IntKind.i64.wrap (Int.ofNat i + (1 : Int)))], [Blk.mk 0 1 w (fun e => [T.int .u8 (y e)]) true false
 none, Blk.mk 0 1 1 (fun j => [[T.own 0 0 0 w (some w)]].getD j []) false true
 none, Blk.mk 0 1 1 (fun j => [[T.own 0 0 0 w (some w)]].getD ((0 : Nat) + j) []) false false
 none]))
 else none else none else
 bif (0 : Nat) + (IntKind.u8.wrap ((D.x i (0 : Nat)).tdiv (64 : Int))).toNat == (2 : Nat) then
 bif decide ((0 : Int) ≤ Int.ofNat w) && decide (Int.ofNat w ≤ Int.ofNat w) && decide (Int.ofNat w * (1 : Int) ≤ (140737488355328 : Int)) && decide (Int.ofNat w ≤ (9223372036854775807 : Int)) then
 bif weakF [T.reg [T.int .u8 D.wd, D.rows
 none], T.int .i64 (Int.ofNat w), T.int .i64 (Int.ofNat n), T.nils, T.int .i64 (Int.ofNat i), T.reg [T.int .u8 (2 : Int), T.int .u8 (3 : Int)], T.own 1 0 0 w (some w), T.int .i64 (0 : Int)] [tabB, Blk.mk 0 1 w (fun x => [T.int .u8 (0 : Int)]) true false
 none] [T.reg [T.int .u8 D.wd, D.rows
 none], T.int .i64 (Int.ofNat w), T.int .i64 (Int.ofNat n), T.nils, T.int .i64 (Int.ofNat i), T.reg [T.int .u8 a, T.int .u8 b], T.own 0 0 0 w (some w), T.int .i64 (0 : Int)] [Blk.mk 0 1 w (fun e => [T.int .u8 (0 : Int)]) true false
 none] then
 some ((Ex.normal, [T.reg [T.int .u8 D.wd, D.rows
 none], T.int .i64 (Int.ofNat w), T.int .i64 (Int.ofNat n), T.own [Blk.mk 0 1 w (fun e => [T.int .u8 (y e)]) true false
 none, Blk.mk 0 1 1 (fun j => [[T.own 0 0 0 w (some w)]].getD j []) false true
 none].length (0 : Nat) (0 : Nat) (1 : Nat)
 none, T.int .i64 (IntKind.i64.wrap (Int.ofNat i + (1 : Int)))], [Blk.mk 0 1 w (fun e => [T.int .u8 (y e)]) true false
 none, Blk.mk 0 1 1 (fun j => [[T.own 0 0 0 w (some w)]].getD j []) false true
 none, Blk.mk 0 1 1 (fun j => [[T.own 0 0 0 w (some w)]].getD ((0 : Nat) + j) []) false false
 none]))
 else none else none else
 bif (0 : Nat) + (IntKind.u8.wrap ((D.x i (0 : Nat)).tdiv (64 : Int))).toNat == (1 : Nat) then
 bif decide ((0 : Int) ≤ Int.ofNat w) && decide (Int.ofNat w ≤ Int.ofNat w) && decide (Int.ofNat w * (1 : Int) ≤ (140737488355328 : Int)) && decide (Int.ofNat w ≤ (9223372036854775807 : Int)) then
 bif weakF [T.reg [T.int .u8 D.wd, D.rows
 none], T.int .i64 (Int.ofNat w), T.int .i64 (Int.ofNat n), T.nils, T.int .i64 (Int.ofNat i), T.reg [T.int .u8 (1 : Int), T.int .u8 (3 : Int)], T.own 1 0 0 w (some w), T.int .i64 (0 : Int)] [tabB, Blk.mk 0 1 w (fun x => [T.int .u8 (0 : Int)]) true false
 none] [T.reg [T.int .u8 D.wd, D.rows
 none], T.int .i64 (Int.ofNat w), T.int .i64 (Int.ofNat n), T.nils, T.int .i64 (Int.ofNat i), T.reg [T.int .u8 a, T.int .u8 b], T.own 0 0 0 w (some w), T.int .i64 (0 : Int)] [Blk.mk 0 1 w (fun e => [T.int .u8 (0 : Int)]) true false
 none] then
 some ((Ex.normal, [T.reg [T.int .u8 D.wd, D.rows
 none], T.int .i64 (Int.ofNat w), T.int .i64 (Int.ofNat n), T.own [Blk.mk 0 1 w (fun e => [T.int .u8 (y e)]) true false
 none, Blk.mk 0 1 1 (fun j => [[T.own 0 0 0 w (some w)]].getD j []) false true
 none].length (0 : Nat) (0 : Nat) (1 : Nat)
 none, T.int .i64 (IntKind.i64.wrap (Int.ofNat i + (1 : Int)))], [Blk.mk 0 1 w (fun e => [T.int .u8 (y e)]) true false
 none, Blk.mk 0 1 1 (fun j => [[T.own 0 0 0 w (some w)]].getD j []) false true
 none, Blk.mk 0 1 1 (fun j => [[T.own 0 0 0 w (some w)]].getD ((0 : Nat) + j) []) false false
 none]))
 else none else none else
 bif decide ((0 : Int) ≤ Int.ofNat w) && decide (Int.ofNat w ≤ Int.ofNat w) && decide (Int.ofNat w * (1 : Int) ≤ (140737488355328 : Int)) && decide (Int.ofNat w ≤ (9223372036854775807 : Int)) then
 bif weakF [T.reg [T.int .u8 D.wd, D.rows
 none], T.int .i64 (Int.ofNat w), T.int .i64 (Int.ofNat n), T.nils, T.int .i64 (Int.ofNat i), T.reg [T.int .u8 (1 : Int), T.int .u8 (2 : Int)], T.own 1 0 0 w (some w), T.int .i64 (0 : Int)] [tabB, Blk.mk 0 1 w (fun x => [T.int .u8 (0 : Int)]) true false
 none] [T.reg [T.int .u8 D.wd, D.rows
 none], T.int .i64 (Int.ofNat w), T.int .i64 (Int.ofNat n), T.nils, T.int .i64 (Int.ofNat i), T.reg [T.int .u8 a, T.int .u8 b], T.own 0 0 0 w (some w), T.int .i64 (0 : Int)] [Blk.mk 0 1 w (fun e => [T.int .u8 (0 : Int)]) true false
 none] then
 some ((Ex.normal, [T.reg [T.int .u8 D.wd, D.rows
 none], T.int .i64 (Int.ofNat w), T.int .i64 (Int.ofNat n), T.own [Blk.mk 0 1 w (fun e => [T.int .u8 (y e)]) true false
 none, Blk.mk 0 1 1 (fun j => [[T.own 0 0 0 w (some w)]].getD j []) false true
 none].length (0 : Nat) (0 : Nat) (1 : Nat)
 none, T.int .i64 (IntKind.i64.wrap (Int.ofNat i + (1 : Int)))], [Blk.mk 0 1 w (fun e => [T.int .u8 (y e)]) true false
 none, Blk.mk 0 1 1 (fun j => [[T.own 0 0 0 w (some w)]].getD j []) false true
 none, Blk.mk 0 1 1 (fun j => [[T.own 0 0 0 w (some w)]].getD ((0 : Nat) + j) []) false false
 none]))
 else none else none else none else none else none else
 bif decide ((0 : Int) ≤ Int.ofNat w) && decide (Int.ofNat w ≤ Int.ofNat w) && decide (Int.ofNat w * (1 : Int) ≤ (140737488355328 : Int)) && decide (Int.ofNat w ≤ (9223372036854775807 : Int)) then
 bif weakF [T.reg [T.int .u8 D.wd, D.rows
 none], T.int .i64 (Int.ofNat w), T.int .i64 (Int.ofNat n), T.nils, T.int .i64 (Int.ofNat i), T.reg [T.int .u8 (1 : Int), T.int .u8 (2 : Int)], T.own 0 0 0 w (some w), T.int .i64 (0 : Int)] [Blk.mk 0 1 w (fun x => [T.int .u8 (0 : Int)]) true false
 none] [T.reg [T.int .u8 D.wd, D.rows
 none], T.int .i64 (Int.ofNat w), T.int .i64 (Int.ofNat n), T.nils, T.int .i64 (Int.ofNat i), T.reg [T.int .u8 a, T.int .u8 b], T.own 0 0 0 w (some w), T.int .i64 (0 : Int)] [Blk.mk 0 1 w (fun e => [T.int .u8 (0 : Int)]) true false
 none] then
 some ((Ex.normal, [T.reg [T.int .u8 D.wd, D.rows
 none], T.int .i64 (Int.ofNat w), T.int .i64 (Int.ofNat n), T.own [Blk.mk 0 1 w (fun e => [T.int .u8 (y e)]) true false
 none, Blk.mk 0 1 1 (fun j => [[T.own 0 0 0 w (some w)]].getD j []) false true
 none].length (0 : Nat) (0 : Nat) (1 : Nat)
 none, T.int .i64 (IntKind.i64.wrap (Int.ofNat i + (1 : Int)))], [Blk.mk 0 1 w (fun e => [T.int .u8 (y e)]) true false
 none, Blk.mk 0 1 1 (fun j => [[T.own 0 0 0 w (some w)]].getD j []) false true
 none, Blk.mk 0 1 1 (fun j => [[T.own 0 0 0 w (some w)]].getD ((0 : Nat) + j) []) false false
 none]))
 else none else none else none else
 bif decide ((0 : Int) ≤ Int.ofNat w) && decide (Int.ofNat w ≤ Int.ofNat w) && decide (Int.ofNat w * (1 : Int) ≤ (140737488355328 : Int)) && decide (Int.ofNat w ≤ (9223372036854775807 : Int)) then
 bif weakF [T.reg [T.int .u8 D.wd, D.rows
 none], T.int .i64 (Int.ofNat w), T.int .i64 (Int.ofNat n), T.nils, T.int .i64 (Int.ofNat i), T.reg [T.int .u8 (1 : Int), T.int .u8 (2 : Int)], T.own 0 0 0 w (some w), T.int .i64 (0 : Int)] [Blk.mk 0 1 w (fun x => [T.int .u8 (0 : Int)]) true false
 none] [T.reg [T.int .u8 D.wd, D.rows
 none], T.int .i64 (Int.ofNat w), T.int .i64 (Int.ofNat n), T.nils, T.int .i64 (Int.ofNat i), T.reg [T.int .u8 a, T.int .u8 b], T.own 0 0 0 w (some w), T.int .i64 (0 : Int)] [Blk.mk 0 1 w (fun e => [T.int .u8 (0 : Int)]) true false
 none] then
 some ((Ex.normal, [T.reg [T.int .u8 D.wd, D.rows
 none], T.int .i64 (Int.ofNat w), T.int .i64 (Int.ofNat n), T.own [Blk.mk 0 1 w (fun e => [T.int .u8 (y e)]) true false
 none, Blk.mk 0 1 1 (fun j => [[T.own 0 0 0 w (some w)]].getD j []) false true
 none].length (0 : Nat) (0 : Nat) (1 : Nat)
 none, T.int .i64 (IntKind.i64.wrap (Int.ofNat i + (1 : Int)))], [Blk.mk 0 1 w (fun e => [T.int .u8 (y e)]) true false
 none, Blk.mk 0 1 1 (fun j => [[T.own 0 0 0 w (some w)]].getD j []) false true
 none, Blk.mk 0 1 1 (fun j => [[T.own 0 0 0 w (some w)]].getD ((0 : Nat) + j) []) false false
 none]))
 else none else none else
 some ((Ex.exit 0, [T.nils], []))) from by kernel_rfl)]
    obtain ⟨rfl, rfl⟩ := hab
    refine bift (by first | assumption | omega | (simp (disch := omega) only [numsE, List.length_cons, List.length_nil, Nat.reduceAdd]; done) | (simp (disch := omega) only [numsE, List.length_cons, List.length_nil, Nat.reduceAdd]; omega)) ?_
    by_cases q : i < D.m
    · have q2 : ¬ 0 < D.ln i := fun h => hno ⟨q, h⟩
      refine bift (by first | assumption | omega | (simp (disch := omega) only [numsE, List.length_cons, List.length_nil, Nat.reduceAdd]; done) | (simp (disch := omega) only [numsE, List.length_cons, List.length_nil, Nat.reduceAdd]; omega)) ?_
      refine bift (by first | assumption | omega | (simp (disch := omega) only [numsE, List.length_cons, List.length_nil, Nat.reduceAdd]; done) | (simp (disch := omega) only [numsE, List.length_cons, List.length_nil, Nat.reduceAdd]; omega)) ?_
      refine biff (by first | assumption | (simp (disch := omega) only [numsE, List.length_cons, List.length_nil, Nat.reduceAdd]; done) | (simp (disch := omega) only [numsE, List.length_cons, List.length_nil, Nat.reduceAdd]; omega)) ?_
      refine bift (by first | assumption | omega | (simp (disch := omega) only [numsE, List.length_cons, List.length_nil, Nat.reduceAdd]; done) | (simp (disch := omega) only [numsE, List.length_cons, List.length_nil, Nat.reduceAdd]; omega)) ?_
      refine bift (weakF_of ⟨rfl, .refl _⟩) ?_
      rw [ofNatE i, hii]
      rfl
    · refine biff (by first | assumption | (simp (disch := omega) only [numsE, List.length_cons, List.length_nil, Nat.reduceAdd]; done) | (simp (disch := omega) only [numsE, List.length_cons, List.length_nil, Nat.reduceAdd]; omega)) ?_
      refine bift (by first | assumption | omega | (simp (disch := omega) only [numsE, List.length_cons, List.length_nil, Nat.reduceAdd]; done) | (simp (disch := omega) only [numsE, List.length_cons, List.length_nil, Nat.reduceAdd]; omega)) ?_
      refine bift (weakF_of ⟨rfl, .refl _⟩) ?_
      rw [ofNatE i, hii]
      rfl
set_option maxRecDepth 100000 in
theorem r13own_tab (D : IR) (w n i : Nat) (a b : Int) (y : Nat → Int) (j : Nat) (hj : j ≤ 1000) (R : Nat → Nat → Int) (hR : R (j + 1) = y) (hw : w ≤ 1000) (hi : i < n) (hn : n ≤ 1000) (t : Nat) (ht : t < 4) (him : i < D.m) (hln : 0 < D.ln i) (htv : IntKind.u8.wrap ((D.x i 0).tdiv 64) = (t : Int)) (hab : (a, b) = [((1 : Int), (2 : Int)), (1, 3), (2, 3), (5, 4)].getD t (0, 0)) 
    (hl : LoopOk P18 G18 (A18 13) 13 14 (litS (v13 D w n (pO j) i a b (.own 2 0 0 w (some w)) 0) [pbR w j R, tabB, rbk w fun _ => 0] (.exit 2) (w13 D w n (pO j) i ++ [.own 2 0 0 w (some w)]) [pbR w j R, tabB, rbk w y])) : Step P18 G18 (A18 13) 13 7 0 (w13 D w n (pO j) i) [pbR w j R] (w13 D w n (pO (j + 1)) (i + 1)) [pbR w (j + 1) R] := by
  have hii : IntKind.i64.wrap ((i : Int) + 1) = ((i + 1 : Nat) : Int) := by rw [wr64 (by omega) (by omega)]; omega
  refine Step.mkC (A := A18) (m := 0) none_ok rfl rfl (loops1 hl) [0] (v1 := w13 D w n (pO (j + 1)) (i + 1)) (h1 := [⟨j + 1, 1, j + 1 + 1, fun e => bif Nat.blt e (j + 1) then [wrow w (R (0 + e))] else [[.own 2 0 0 w (some w)]].getD (0 + (e - (j + 1))) [], false, false, none⟩, tabB, rbk w y, ⟨0, 1, 1, fun e => [[.own 2 0 0 w (some w)]].getD e [], false, true, none⟩]) ?_ (by kernel_rfl) (v2 := w13 D w n (pO (j + 1)) (i + 1)) (by rfl) rfl fun nt => .same (.cons ⟨rfl, rfl, rfl, id, pb_get hR (fun e he => by show List.map _ (bif Nat.blt e (j + 1) then [wrow w (R (0 + e))] else _) = _; rw [bltT he, Nat.zero_add]; rfl) (by show List.map _ (bif Nat.blt (j + 1) (j + 1) then _ else [[T.own 2 0 0 w (some w)]].getD (0 + (j + 1 - (j + 1))) []) = _; rw [bltF (Nat.le_refl _), Nat.sub_self]; show [ren0 [0] _ (.own 2 0 0 w (some w))] = _; rw [ren0_row rfl rfl rfl])⟩ .nil)
  · rw [(show iterR P18 G18 A18 noneO 0 13 [(14, litS (v13 D w n (pO j) i a b (.own 2 0 0 w (some w)) 0) [pbR w j R, tabB, rbk w fun _ => 0] (.exit 2) (w13 D w n (pO j) i ++ [.own 2 0 0 w (some w)]) [pbR w j R, tabB, rbk w y])] 7 (w13 D w n (pO j) i) [pbR w j R] =
(
 bif decide (Int.ofNat i < Int.ofNat n) then
 bif decide (Int.ofNat i < Int.ofNat D.m) then
 bif decide ((0 : Int) ≤ Int.ofNat i) && decide (Int.ofNat i < Int.ofNat D.m) then
 bif decide ((0 : Int) < Int.ofNat (D.ln i)) then
 bif decide ((0 : Int) ≤ Int.ofNat i) && decide (Int.ofNat i < Int.ofNat D.m) then
 bif decide ((0 : Int) < Int.ofNat (D.ln i)) then
 bif decide ((0 : Int) ≤ IntKind.u8.wrap ((D.x i (0 : Nat)).tdiv (64 : Int))) && decide (IntKind.u8.wrap ((D.x i (0 : Nat)).tdiv (64 : Int)) < (4 : Int)) then
 bif (0 : Nat) + (IntKind.u8.wrap ((D.x i (0 : Nat)).tdiv (64 : Int))).toNat == (3 : Nat) then
 bif decide ((0 : Int) ≤ Int.ofNat w) && decide (Int.ofNat w ≤ Int.ofNat w) && decide (Int.ofNat w * (1 : Int) ≤ (140737488355328 : Int)) && decide (Int.ofNat w ≤ (9223372036854775807 : Int)) then
 bif weakF [T.reg [T.int .u8 D.wd, D.rows
 none], T.int .i64 (Int.ofNat w), T.int .i64 (Int.ofNat n), T.own 0 j 0 (j + (1 : Nat))
 none, T.int .i64 (Int.ofNat i), T.reg [T.int .u8 (5 : Int), T.int .u8 (4 : Int)], T.own [Blk.mk j 1 (j + (1 : Nat)) (fun e => [T.view 1 w (fun j => [T.int .u8 (R e j)]) (some w)]) false false
 none, tabB].length (0 : Nat) (0 : Nat) w (some w), T.int .i64 (0 : Int)] [Blk.mk j 1 (j + (1 : Nat)) (fun e => [T.view 1 w (fun j => [T.int .u8 (R e j)]) (some w)]) false false
 none, tabB, Blk.mk 0 1 w (fun x => [T.int .u8 (0 : Int)]) true false
 none] [T.reg [T.int .u8 D.wd, D.rows
 none], T.int .i64 (Int.ofNat w), T.int .i64 (Int.ofNat n), T.own 0 j 0 (j + (1 : Nat))
 none, T.int .i64 (Int.ofNat i), T.reg [T.int .u8 a, T.int .u8 b], T.own 2 0 0 w (some w), T.int .i64 (0 : Int)] [Blk.mk j 1 (j + (1 : Nat)) (fun e => [T.view 1 w (fun j => [T.int .u8 (R e j)]) (some w)]) false false
 none, tabB, Blk.mk 0 1 w (fun e => [T.int .u8 (0 : Int)]) true false
 none] then
 bif j == j && true then
 bif ((0 : Nat) + (j + (1 : Nat))).ble (j + (1 : Nat)) then
 bif ((j + (1 : Nat) + (1 : Nat)) * (25 : Nat)).ble 70368744177664 then
 bif ((0 : Nat) + (j + (1 : Nat)) + (1 : Nat)).ble (j + (1 : Nat)) then
 some ((Ex.normal, [T.reg [T.int .u8 D.wd, D.rows
 none], T.int .i64 (Int.ofNat w), T.int .i64 (Int.ofNat n), T.own 0 j 0 (j + (1 : Nat) + (1 : Nat))
 none, T.int .i64 (IntKind.i64.wrap (Int.ofNat i + (1 : Int)))], [Blk.mk j 1 (j + (1 : Nat)) (fun j_1 =>
 bif ((0 : Nat) + (j + (1 : Nat))).ble j_1 && j_1.blt ((0 : Nat) + (j + (1 : Nat)) + (1 : Nat)) then [[T.own 2 0 0 w (some w)]].getD ((0 : Nat) + (j_1 - ((0 : Nat) + (j + (1 : Nat))))) []
 else [T.view 1 w (fun j => [T.int .u8 (R j_1 j)]) (some w)]) false false
 none, tabB, Blk.mk 0 1 w (fun e => [T.int .u8 (y e)]) true false
 none, Blk.mk 0 1 1 (fun j => [[T.own 2 0 0 w (some w)]].getD j []) false true
 none]))
 else
 some ((Ex.normal, [T.reg [T.int .u8 D.wd, D.rows
 none], T.int .i64 (Int.ofNat w), T.int .i64 (Int.ofNat n), T.own 0 (j + (1 : Nat)) (0 : Nat) (j + (1 : Nat) + (1 : Nat))
 none, T.int .i64 (IntKind.i64.wrap (Int.ofNat i + (1 : Int)))], [Blk.mk (j + (1 : Nat)) (1 : Nat) (j + (1 : Nat) + (1 : Nat)) (fun j_1 =>
 bif j_1.blt (j + (1 : Nat)) then [T.view 1 w (fun j => [T.int .u8 (R ((0 : Nat) + j_1) j)]) (some w)]
 else [[T.own 2 0 0 w (some w)]].getD ((0 : Nat) + (j_1 - (j + (1 : Nat)))) []) false false
 none, tabB, Blk.mk 0 1 w (fun e => [T.int .u8 (y e)]) true false
 none, Blk.mk 0 1 1 (fun j => [[T.own 2 0 0 w (some w)]].getD j []) false true
 none]))
 else none else none else none else none else none else
 bif (0 : Nat) + (IntKind.u8.wrap ((D.x i (0 : Nat)).tdiv (64 : Int))).toNat == (2 : Nat) then
 bif decide ((0 : Int) ≤ Int.ofNat w) && decide (Int.ofNat w ≤ Int.ofNat w) && decide (Int.ofNat w * (1 : Int) ≤ (140737488355328 : Int)) && decide (Int.ofNat w ≤ (9223372036854775807 : Int)) then
 bif weakF [T.reg [T.int .u8 D.wd, D.rows
 none], T.int .i64 (Int.ofNat w), T.int .i64 (Int.ofNat n), T.own 0 j 0 (j + (1 : Nat))
 none, T.int .i64 (Int.ofNat i), T.reg [T.int .u8 (2 : Int), T.int .u8 (3 : Int)], T.own [Blk.mk j 1 (j + (1 : Nat)) (fun e => [T.view 1 w (fun j => [T.int .u8 (R e j)]) (some w)]) false false
 none, tabB].length (0 : Nat) (0 : Nat) w (some w), T.int .i64 (0 : Int)] [Blk.mk j 1 (j + (1 : Nat)) (fun e => [T.view 1 w (fun j => [T.int .u8 (R e j)]) (some w)]) false false
 none, tabB, Blk.mk 0 1 w (fun x => [T.int .u8 (0 : Int)]) true false
 none] [T.reg [T.int .u8 D.wd, D.rows
 none], T.int .i64 (Int.ofNat w), T.int .i64 (Int.ofNat n), T.own 0 j 0 (j + (1 : Nat))
 none, T.int .i64 (Int.ofNat i), T.reg [T.int .u8 a, T.int .u8 b], T.own 2 0 0 w (some w), T.int .i64 (0 : Int)] [Blk.mk j 1 (j + (1 : Nat)) (fun e => [T.view 1 w (fun j => [T.int .u8 (R e j)]) (some w)]) false false
 none, tabB, Blk.mk 0 1 w (fun e => [T.int .u8 (0 : Int)]) true false
 none] then
 bif j == j && true then
 bif ((0 : Nat) + (j + (1 : Nat))).ble (j + (1 : Nat)) then
 bif ((j + (1 : Nat) + (1 : Nat)) * (25 : Nat)).ble 70368744177664 then
 bif ((0 : Nat) + (j + (1 : Nat)) + (1 : Nat)).ble (j + (1 : Nat)) then
 some ((Ex.normal, [T.reg [T.int .u8 D.wd, D.rows
 none], T.int .i64 (Int.ofNat w), T.int .i64 (Int.ofNat n), T.own 0 j 0 (j + (1 : Nat) + (1 : Nat))
 none, T.int .i64 (IntKind.i64.wrap (Int.ofNat i + (1 : Int)))], [Blk.mk j 1 (j + (1 : Nat)) (fun j_1 =>
 bif ((0 : Nat) + (j + (1 : Nat))).ble j_1 && j_1.blt ((0 : Nat) + (j + (1 : Nat)) + (1 : Nat)) then [[T.own 2 0 0 w (some w)]].getD ((0 : Nat) + (j_1 - ((0 : Nat) + (j + (1 : Nat))))) []
 else [T.view 1 w (fun j => [T.int .u8 (R j_1 j)]) (some w)]) false false
 none, tabB, Blk.mk 0 1 w (fun e => [T.int .u8 (y e)]) true false
 none, Blk.mk 0 1 1 (fun j => [[T.own 2 0 0 w (some w)]].getD j []) false true
 none]))
 else
 some ((Ex.normal, [T.reg [T.int .u8 D.wd, D.rows
 none], T.int .i64 (Int.ofNat w), T.int .i64 (Int.ofNat n), T.own 0 (j + (1 : Nat)) (0 : Nat) (j + (1 : Nat) + (1 : Nat))
 none, T.int .i64 (IntKind.i64.wrap (Int.ofNat i + (1 : Int)))], [Blk.mk (j + (1 : Nat)) (1 : Nat) (j + (1 : Nat) + (1 : Nat)) (fun j_1 =>
 bif j_1.blt (j + (1 : Nat)) then [T.view 1 w (fun j => [T.int .u8 (R ((0 : Nat) + j_1) j)]) (some w)]
 else [[T.own 2 0 0 w (some w)]].getD ((0 : Nat) + (j_1 - (j + (1 : Nat)))) []) false false
 none, tabB, Blk.mk 0 1 w (fun e => [T.int .u8 (y e)]) true false
 none, Blk.mk 0 1 1 (fun j => [[T.own 2 0 0 w (some w)]].getD j []) false true
 none]))
 else none else none else none else none else none else
 bif (0 : Nat) + (IntKind.u8.wrap ((D.x i (0 : Nat)).tdiv (64 : Int))).toNat == (1 : Nat) then
 bif decide ((0 : Int) ≤ Int.ofNat w) && decide (Int.ofNat w ≤ Int.ofNat w) && decide (Int.ofNat w * (1 : Int) ≤ (140737488355328 : Int)) && decide (Int.ofNat w ≤ (9223372036854775807 : Int)) then
 bif weakF [T.reg [T.int .u8 D.wd, D.rows
 none], T.int .i64 (Int.ofNat w), T.int .i64 (Int.ofNat n), T.own 0 j 0 (j + (1 : Nat))
 none, T.int .i64 (Int.ofNat i), T.reg [T.int .u8 (1 : Int), T.int .u8 (3 : Int)], T.own [Blk.mk j 1 (j + (1 : Nat)) (fun e => [T.view 1 w (fun j => [T.int .u8 (R e j)]) (some w)]) false false
 none, tabB].length (0 : Nat) (0 : Nat) w (some w), T.int .i64 (0 : Int)] [Blk.mk j 1 (j + (1 : Nat)) (fun e => [T.view 1 w (fun j => [T.int .u8 (R e j)]) (some w)]) false false
 none, tabB, Blk.mk 0 1 w (fun x => [T.int .u8 (0 : Int)]) true false
 none] [T.reg [T.int .u8 D.wd, D.rows
 none], T.int .i64 (Int.ofNat w), T.int .i64 (Int.ofNat n), T.own 0 j 0 (j + (1 : Nat))
 none, T.int .i64 (Int.ofNat i), T.reg [T.int .u8 a, T.int .u8 b], T.own 2 0 0 w (some w), T.int .i64 (0 : Int)] [Blk.mk j 1 (j + (1 : Nat)) (fun e => [T.view 1 w (fun j => [T.int .u8 (R e j)]) (some w)]) false false
 none, tabB, Blk.mk 0 1 w (fun e => [T.int .u8 (0 : Int)]) true false
 none] then
 bif j == j && true then
 bif ((0 : Nat) + (j + (1 : Nat))).ble (j + (1 : Nat)) then
 bif ((j + (1 : Nat) + (1 : Nat)) * (25 : Nat)).ble 70368744177664 then
 bif ((0 : Nat) + (j + (1 : Nat)) + (1 : Nat)).ble (j + (1 : Nat)) then
 some ((Ex.normal, [T.reg [T.int .u8 D.wd, D.rows
 none], T.int .i64 (Int.ofNat w), T.int .i64 (Int.ofNat n), T.own 0 j 0 (j + (1 : Nat) + (1 : Nat))
 none, T.int .i64 (IntKind.i64.wrap (Int.ofNat i + (1 : Int)))], [Blk.mk j 1 (j + (1 : Nat)) (fun j_1 =>
 bif ((0 : Nat) + (j + (1 : Nat))).ble j_1 && j_1.blt ((0 : Nat) + (j + (1 : Nat)) + (1 : Nat)) then [[T.own 2 0 0 w (some w)]].getD ((0 : Nat) + (j_1 - ((0 : Nat) + (j + (1 : Nat))))) []
 else [T.view 1 w (fun j => [T.int .u8 (R j_1 j)]) (some w)]) false false
 none, tabB, Blk.mk 0 1 w (fun e => [T.int .u8 (y e)]) true false
 none, Blk.mk 0 1 1 (fun j => [[T.own 2 0 0 w (some w)]].getD j []) false true
 none]))
 else
 some ((Ex.normal, [T.reg [T.int .u8 D.wd, D.rows
 none], T.int .i64 (Int.ofNat w), T.int .i64 (Int.ofNat n), T.own 0 (j + (1 : Nat)) (0 : Nat) (j + (1 : Nat) + (1 : Nat))
 none, T.int .i64 (IntKind.i64.wrap (Int.ofNat i + (1 : Int)))], [Blk.mk (j + (1 : Nat)) (1 : Nat) (j + (1 : Nat) + (1 : Nat)) (fun j_1 =>
 bif j_1.blt (j + (1 : Nat)) then [T.view 1 w (fun j => [T.int .u8 (R ((0 : Nat) + j_1) j)]) (some w)]
 else [[T.own 2 0 0 w (some w)]].getD ((0 : Nat) + (j_1 - (j + (1 : Nat)))) []) false false
 none, tabB, Blk.mk 0 1 w (fun e => [T.int .u8 (y e)]) true false
 none, Blk.mk 0 1 1 (fun j => [[T.own 2 0 0 w (some w)]].getD j []) false true
 none]))
 else none else none else none else none else none else
 bif decide ((0 : Int) ≤ Int.ofNat w) && decide (Int.ofNat w ≤ Int.ofNat w) && decide (Int.ofNat w * (1 : Int) ≤ (140737488355328 : Int)) && decide (Int.ofNat w ≤ (9223372036854775807 : Int)) then
 bif weakF [T.reg [T.int .u8 D.wd, D.rows
 none], T.int .i64 (Int.ofNat w), T.int .i64 (Int.ofNat n), T.own 0 j 0 (j + (1 : Nat))
 none, T.int .i64 (Int.ofNat i), T.reg [T.int .u8 (1 : Int), T.int .u8 (2 : Int)], T.own [Blk.mk j 1 (j + (1 : Nat)) (fun e => [T.view 1 w (fun j => [T.int .u8 (R e j)]) (some w)]) false false
 none, tabB].length (0 : Nat) (0 : Nat) w (some w), T.int .i64 (0 : Int)] [Blk.mk j 1 (j + (1 : Nat)) (fun e => [T.view 1 w (fun j => [T.int .u8 (R e j)]) (some w)]) false false
 none, tabB, Blk.mk 0 1 w (fun x => [T.int .u8 (0 : Int)]) true false
 none] [T.reg [T.int .u8 D.wd, D.rows
 none], T.int .i64 (Int.ofNat w), T.int .i64 (Int.ofNat n), T.own 0 j 0 (j + (1 : Nat))
 none, T.int .i64 (Int.ofNat i), T.reg [T.int .u8 a, T.int .u8 b], T.own 2 0 0 w (some w), T.int .i64 (0 : Int)] [Blk.mk j 1 (j + (1 : Nat)) (fun e => [T.view 1 w (fun j => [T.int .u8 (R e j)]) (some w)]) false false
 none, tabB, Blk.mk 0 1 w (fun e => [T.int .u8 (0 : Int)]) true false
 none] then
 bif j == j && true then
 bif ((0 : Nat) + (j + (1 : Nat))).ble (j + (1 : Nat)) then
 bif ((j + (1 : Nat) + (1 : Nat)) * (25 : Nat)).ble 70368744177664 then
 bif ((0 : Nat) + (j + (1 : Nat)) + (1 : Nat)).ble (j + (1 : Nat)) then
 some ((Ex.normal, [T.reg [T.int .u8 D.wd, D.rows
 none], T.int .i64 (Int.ofNat w), T.int .i64 (Int.ofNat n), T.own 0 j 0 (j + (1 : Nat) + (1 : Nat))
 none, T.int .i64 (IntKind.i64.wrap (Int.ofNat i + (1 : Int)))], [Blk.mk j 1 (j + (1 : Nat)) (fun j_1 =>
 bif ((0 : Nat) + (j + (1 : Nat))).ble j_1 && j_1.blt ((0 : Nat) + (j + (1 : Nat)) + (1 : Nat)) then [[T.own 2 0 0 w (some w)]].getD ((0 : Nat) + (j_1 - ((0 : Nat) + (j + (1 : Nat))))) []
 else [T.view 1 w (fun j => [T.int .u8 (R j_1 j)]) (some w)]) false false
 none, tabB, Blk.mk 0 1 w (fun e => [T.int .u8 (y e)]) true false
 none, Blk.mk 0 1 1 (fun j => [[T.own 2 0 0 w (some w)]].getD j []) false true
 none]))
 else
 some ((Ex.normal, [T.reg [T.int .u8 D.wd, D.rows
 none], T.int .i64 (Int.ofNat w), T.int .i64 (Int.ofNat n), T.own 0 (j + (1 : Nat)) (0 : Nat) (j + (1 : Nat) + (1 : Nat))
 none, T.int .i64 (IntKind.i64.wrap (Int.ofNat i + (1 : Int)))], [Blk.mk (j + (1 : Nat)) (1 : Nat) (j + (1 : Nat) + (1 : Nat)) (fun j_1 =>
 bif j_1.blt (j + (1 : Nat)) then [T.view 1 w (fun j => [T.int .u8 (R ((0 : Nat) + j_1) j)]) (some w)]
 else [[T.own 2 0 0 w (some w)]].getD ((0 : Nat) + (j_1 - (j + (1 : Nat)))) []) false false
 none, tabB, Blk.mk 0 1 w (fun e => [T.int .u8 (y e)]) true false
 none, Blk.mk 0 1 1 (fun j => [[T.own 2 0 0 w (some w)]].getD j []) false true
 none]))
 else none else none else none else none else none else none else none else none else
 bif decide ((0 : Int) ≤ Int.ofNat w) && decide (Int.ofNat w ≤ Int.ofNat w) && decide (Int.ofNat w * (1 : Int) ≤ (140737488355328 : Int)) && decide (Int.ofNat w ≤ (9223372036854775807 : Int)) then
 bif weakF [T.reg [T.int .u8 D.wd, D.rows
 none], T.int .i64 (Int.ofNat w), T.int .i64 (Int.ofNat n), T.own 0 j 0 (j + (1 : Nat))
 none, T.int .i64 (Int.ofNat i), T.reg [T.int .u8 (1 : Int), T.int .u8 (2 : Int)], T.own [Blk.mk j 1 (j + (1 : Nat)) (fun e => [T.view 1 w (fun j => [T.int .u8 (R e j)]) (some w)]) false false
 none].length (0 : Nat) (0 : Nat) w (some w), T.int .i64 (0 : Int)] [Blk.mk j 1 (j + (1 : Nat)) (fun e => [T.view 1 w (fun j => [T.int .u8 (R e j)]) (some w)]) false false
 none, Blk.mk 0 1 w (fun x => [T.int .u8 (0 : Int)]) true false
 none] [T.reg [T.int .u8 D.wd, D.rows
 none], T.int .i64 (Int.ofNat w), T.int .i64 (Int.ofNat n), T.own 0 j 0 (j + (1 : Nat))
 none, T.int .i64 (Int.ofNat i), T.reg [T.int .u8 a, T.int .u8 b], T.own 2 0 0 w (some w), T.int .i64 (0 : Int)] [Blk.mk j 1 (j + (1 : Nat)) (fun e => [T.view 1 w (fun j => [T.int .u8 (R e j)]) (some w)]) false false
 none, tabB, Blk.mk 0 1 w (fun e => [T.int .u8 (0 : Int)]) true false
 none] then
 bif j == j && true then
 bif ((0 : Nat) + (j + (1 : Nat))).ble (j + (1 : Nat)) then
 bif ((j + (1 : Nat) + (1 : Nat)) * (25 : Nat)).ble 70368744177664 then
 bif ((0 : Nat) + (j + (1 : Nat)) + (1 : Nat)).ble (j + (1 : Nat)) then
 some ((Ex.normal, [T.reg [T.int .u8 D.wd, D.rows
 none], T.int .i64 (Int.ofNat w), T.int .i64 (Int.ofNat n), T.own 0 j 0 (j + (1 : Nat) + (1 : Nat))
 none, T.int .i64 (IntKind.i64.wrap (Int.ofNat i + (1 : Int)))], [Blk.mk j 1 (j + (1 : Nat)) (fun j_1 =>
 bif ((0 : Nat) + (j + (1 : Nat))).ble j_1 && j_1.blt ((0 : Nat) + (j + (1 : Nat)) + (1 : Nat)) then [[T.own 2 0 0 w (some w)]].getD ((0 : Nat) + (j_1 - ((0 : Nat) + (j + (1 : Nat))))) []
 else [T.view 1 w (fun j => [T.int .u8 (R j_1 j)]) (some w)]) false false
 none, tabB, Blk.mk 0 1 w (fun e => [T.int .u8 (y e)]) true false
 none, Blk.mk 0 1 1 (fun j => [[T.own 2 0 0 w (some w)]].getD j []) false true
 none]))
 else
 some ((Ex.normal, [T.reg [T.int .u8 D.wd, D.rows
 none], T.int .i64 (Int.ofNat w), T.int .i64 (Int.ofNat n), T.own 0 (j + (1 : Nat)) (0 : Nat) (j + (1 : Nat) + (1 : Nat))
 none, T.int .i64 (IntKind.i64.wrap (Int.ofNat i + (1 : Int)))], [Blk.mk (j + (1 : Nat)) (1 : Nat) (j + (1 : Nat) + (1 : Nat)) (fun j_1 =>
 bif j_1.blt (j + (1 : Nat)) then [T.view 1 w (fun j => [T.int .u8 (R ((0 : Nat) + j_1) j)]) (some w)]
 else [[T.own 2 0 0 w (some w)]].getD ((0 : Nat) + (j_1 - (j + (1 : Nat)))) []) false false
 none, tabB, Blk.mk 0 1 w (fun e => [T.int .u8 (y e)]) true false
 none, Blk.mk 0 1 1 (fun j => [[T.own 2 0 0 w (some w)]].getD j []) false true
 none]))
 else none else none else none else none else none else none else
 bif decide ((0 : Int) ≤ Int.ofNat w) && decide (Int.ofNat w ≤ Int.ofNat w) && decide (Int.ofNat w * (1 : Int) ≤ (140737488355328 : Int)) && decide (Int.ofNat w ≤ (9223372036854775807 : Int)) then
 bif weakF [T.reg [T.int .u8 D.wd, D.rows
 none], T.int .i64 (Int.ofNat w), T.int .i64 (Int.ofNat n), T.own 0 j 0 (j + (1 : Nat))
 none, T.int .i64 (Int.ofNat i), T.reg [T.int .u8 (1 : Int), T.int .u8 (2 : Int)], T.own [Blk.mk j 1 (j + (1 : Nat)) (fun e => [T.view 1 w (fun j => [T.int .u8 (R e j)]) (some w)]) false false
 none].length (0 : Nat) (0 : Nat) w (some w), T.int .i64 (0 : Int)] [Blk.mk j 1 (j + (1 : Nat)) (fun e => [T.view 1 w (fun j => [T.int .u8 (R e j)]) (some w)]) false false
 none, Blk.mk 0 1 w (fun x => [T.int .u8 (0 : Int)]) true false
 none] [T.reg [T.int .u8 D.wd, D.rows
 none], T.int .i64 (Int.ofNat w), T.int .i64 (Int.ofNat n), T.own 0 j 0 (j + (1 : Nat))
 none, T.int .i64 (Int.ofNat i), T.reg [T.int .u8 a, T.int .u8 b], T.own 2 0 0 w (some w), T.int .i64 (0 : Int)] [Blk.mk j 1 (j + (1 : Nat)) (fun e => [T.view 1 w (fun j => [T.int .u8 (R e j)]) (some w)]) false false
 none, tabB, Blk.mk 0 1 w (fun e => [T.int .u8 (0 : Int)]) true false
 none] then
 bif j == j && true then
 bif ((0 : Nat) + (j + (1 : Nat))).ble (j + (1 : Nat)) then
 bif ((j + (1 : Nat) + (1 : Nat)) * (25 : Nat)).ble 70368744177664 then
 bif ((0 : Nat) + (j + (1 : Nat)) + (1 : Nat)).ble (j + (1 : Nat)) then
 some ((Ex.normal, [T.reg [T.int .u8 D.wd, D.rows
 none], T.int .i64 (Int.ofNat w), T.int .i64 (Int.ofNat n), T.own 0 j 0 (j + (1 : Nat) + (1 : Nat))
 none, T.int .i64 (IntKind.i64.wrap (Int.ofNat i + (1 : Int)))], [Blk.mk j 1 (j + (1 : Nat)) (fun j_1 =>
 bif ((0 : Nat) + (j + (1 : Nat))).ble j_1 && j_1.blt ((0 : Nat) + (j + (1 : Nat)) + (1 : Nat)) then [[T.own 2 0 0 w (some w)]].getD ((0 : Nat) + (j_1 - ((0 : Nat) + (j + (1 : Nat))))) []
 else [T.view 1 w (fun j => [T.int .u8 (R j_1 j)]) (some w)]) false false
 none, tabB, Blk.mk 0 1 w (fun e => [T.int .u8 (y e)]) true false
 none, Blk.mk 0 1 1 (fun j => [[T.own 2 0 0 w (some w)]].getD j []) false true
 none]))
 else
 some ((Ex.normal, [T.reg [T.int .u8 D.wd, D.rows
 none], T.int .i64 (Int.ofNat w), T.int .i64 (Int.ofNat n), T.own 0 (j + (1 : Nat)) (0 : Nat) (j + (1 : Nat) + (1 : Nat))
 none, T.int .i64 (IntKind.i64.wrap (Int.ofNat i + (1 : Int)))], [Blk.mk (j + (1 : Nat)) (1 : Nat) (j + (1 : Nat) + (1 : Nat)) (fun j_1 =>
 bif j_1.blt (j + (1 : Nat)) then [T.view 1 w (fun j => [T.int .u8 (R ((0 : Nat) + j_1) j)]) (some w)]
 else [[T.own 2 0 0 w (some w)]].getD ((0 : Nat) + (j_1 - (j + (1 : Nat)))) []) false false
 none, tabB, Blk.mk 0 1 w (fun e => [T.int .u8 (y e)]) true false
 none, Blk.mk 0 1 1 (fun j => [[T.own 2 0 0 w (some w)]].getD j []) false true
 none]))
 else none else none else none else none else none else
 some ((Ex.exit 0, [T.own 0 j 0 (j + (1 : Nat))
 none], [Blk.mk j 1 (j + (1 : Nat)) (fun e => [T.view 1 w (fun j => [T.int .u8 (R e j)]) (some w)]) false false
 none]))) from by kernel_rfl)]
    refine bift (by first | assumption | omega | (simp (disch := omega) only [numsE, List.length_cons, List.length_nil, Nat.reduceAdd]; done) | (simp (disch := omega) only [numsE, List.length_cons, List.length_nil, Nat.reduceAdd]; omega)) ?_
    refine bift (by first | assumption | omega | (simp (disch := omega) only [numsE, List.length_cons, List.length_nil, Nat.reduceAdd]; done) | (simp (disch := omega) only [numsE, List.length_cons, List.length_nil, Nat.reduceAdd]; omega)) ?_
    refine bift (by first | assumption | omega | (simp (disch := omega) only [numsE, List.length_cons, List.length_nil, Nat.reduceAdd]; done) | (simp (disch := omega) only [numsE, List.length_cons, List.length_nil, Nat.reduceAdd]; omega)) ?_
    refine bift (by first | assumption | omega | (simp (disch := omega) only [numsE, List.length_cons, List.length_nil, Nat.reduceAdd]; done) | (simp (disch := omega) only [numsE, List.length_cons, List.length_nil, Nat.reduceAdd]; omega)) ?_
    refine bift (by first | assumption | omega | (simp (disch := omega) only [numsE, List.length_cons, List.length_nil, Nat.reduceAdd]; done) | (simp (disch := omega) only [numsE, List.length_cons, List.length_nil, Nat.reduceAdd]; omega)) ?_
    refine bift (by first | assumption | omega | (simp (disch := omega) only [numsE, List.length_cons, List.length_nil, Nat.reduceAdd]; done) | (simp (disch := omega) only [numsE, List.length_cons, List.length_nil, Nat.reduceAdd]; omega)) ?_
    rw [htv]
    obtain rfl | rfl | rfl | rfl : t = 0 ∨ t = 1 ∨ t = 2 ∨ t = 3 := by omega
    · obtain ⟨rfl, rfl⟩ : a = 1 ∧ b = 2 := by simpa using hab
      refine bift (by decide) ?_
      refine biff (by decide) ?_
      refine biff (by decide) ?_
      refine biff (by decide) ?_
      refine bift (by first | assumption | omega | (simp (disch := omega) only [numsE, List.length_cons, List.length_nil, Nat.reduceAdd]; done) | (simp (disch := omega) only [numsE, List.length_cons, List.length_nil, Nat.reduceAdd]; omega)) ?_
      refine bift (weakF_of ⟨rfl, .refl _⟩) ?_
      refine bift (by simp) ?_
      refine bift (by first | assumption | omega | (simp (disch := omega) only [numsE, List.length_cons, List.length_nil, Nat.reduceAdd]; done) | (simp (disch := omega) only [numsE, List.length_cons, List.length_nil, Nat.reduceAdd]; omega)) ?_
      refine bift (by first | assumption | omega | (simp (disch := omega) only [numsE, List.length_cons, List.length_nil, Nat.reduceAdd]; done) | (simp (disch := omega) only [numsE, List.length_cons, List.length_nil, Nat.reduceAdd]; omega)) ?_
      refine biff (by first | assumption | (simp (disch := omega) only [numsE, List.length_cons, List.length_nil, Nat.reduceAdd]; done) | (simp (disch := omega) only [numsE, List.length_cons, List.length_nil, Nat.reduceAdd]; omega)) ?_
      rw [ofNatE i, hii]
      rfl
    · obtain ⟨rfl, rfl⟩ : a = 1 ∧ b = 3 := by simpa using hab
      refine bift (by decide) ?_
      refine biff (by decide) ?_
      refine biff (by decide) ?_
      refine bift (by decide) ?_
      refine bift (by first | assumption | omega | (simp (disch := omega) only [numsE, List.length_cons, List.length_nil, Nat.reduceAdd]; done) | (simp (disch := omega) only [numsE, List.length_cons, List.length_nil, Nat.reduceAdd]; omega)) ?_
      refine bift (weakF_of ⟨rfl, .refl _⟩) ?_
      refine bift (by simp) ?_
      refine bift (by first | assumption | omega | (simp (disch := omega) only [numsE, List.length_cons, List.length_nil, Nat.reduceAdd]; done) | (simp (disch := omega) only [numsE, List.length_cons, List.length_nil, Nat.reduceAdd]; omega)) ?_
      refine bift (by first | assumption | omega | (simp (disch := omega) only [numsE, List.length_cons, List.length_nil, Nat.reduceAdd]; done) | (simp (disch := omega) only [numsE, List.length_cons, List.length_nil, Nat.reduceAdd]; omega)) ?_
      refine biff (by first | assumption | (simp (disch := omega) only [numsE, List.length_cons, List.length_nil, Nat.reduceAdd]; done) | (simp (disch := omega) only [numsE, List.length_cons, List.length_nil, Nat.reduceAdd]; omega)) ?_
      rw [ofNatE i, hii]
      rfl
    · obtain ⟨rfl, rfl⟩ : a = 2 ∧ b = 3 := by simpa using hab
      refine bift (by decide) ?_
      refine biff (by decide) ?_
      refine bift (by decide) ?_
      refine bift (by first | assumption | omega | (simp (disch := omega) only [numsE, List.length_cons, List.length_nil, Nat.reduceAdd]; done) | (simp (disch := omega) only [numsE, List.length_cons, List.length_nil, Nat.reduceAdd]; omega)) ?_
      refine bift (weakF_of ⟨rfl, .refl _⟩) ?_
      refine bift (by simp) ?_
      refine bift (by first | assumption | omega | (simp (disch := omega) only [numsE, List.length_cons, List.length_nil, Nat.reduceAdd]; done) | (simp (disch := omega) only [numsE, List.length_cons, List.length_nil, Nat.reduceAdd]; omega)) ?_
      refine bift (by first | assumption | omega | (simp (disch := omega) only [numsE, List.length_cons, List.length_nil, Nat.reduceAdd]; done) | (simp (disch := omega) only [numsE, List.length_cons, List.length_nil, Nat.reduceAdd]; omega)) ?_
      refine biff (by first | assumption | (simp (disch := omega) only [numsE, List.length_cons, List.length_nil, Nat.reduceAdd]; done) | (simp (disch := omega) only [numsE, List.length_cons, List.length_nil, Nat.reduceAdd]; omega)) ?_
      rw [ofNatE i, hii]
      rfl
    · obtain ⟨rfl, rfl⟩ : a = 5 ∧ b = 4 := by simpa using hab
      refine bift (by decide) ?_
      refine bift (by decide) ?_
      refine bift (by first | assumption | omega | (simp (disch := omega) only [numsE, List.length_cons, List.length_nil, Nat.reduceAdd]; done) | (simp (disch := omega) only [numsE, List.length_cons, List.length_nil, Nat.reduceAdd]; omega)) ?_
      refine bift (weakF_of ⟨rfl, .refl _⟩) ?_
      refine bift (by simp) ?_
      refine bift (by first | assumption | omega | (simp (disch := omega) only [numsE, List.length_cons, List.length_nil, Nat.reduceAdd]; done) | (simp (disch := omega) only [numsE, List.length_cons, List.length_nil, Nat.reduceAdd]; omega)) ?_
      refine bift (by first | assumption | omega | (simp (disch := omega) only [numsE, List.length_cons, List.length_nil, Nat.reduceAdd]; done) | (simp (disch := omega) only [numsE, List.length_cons, List.length_nil, Nat.reduceAdd]; omega)) ?_
      refine biff (by first | assumption | (simp (disch := omega) only [numsE, List.length_cons, List.length_nil, Nat.reduceAdd]; done) | (simp (disch := omega) only [numsE, List.length_cons, List.length_nil, Nat.reduceAdd]; omega)) ?_
      rw [ofNatE i, hii]
      rfl
set_option maxRecDepth 100000 in
theorem r13own_none (D : IR) (w n i : Nat) (a b : Int) (y : Nat → Int) (j : Nat) (hj : j ≤ 1000) (R : Nat → Nat → Int) (hR : R (j + 1) = y) (hw : w ≤ 1000) (hi : i < n) (hn : n ≤ 1000) (hno : ¬ (i < D.m ∧ 0 < D.ln i)) (hab : a = 1 ∧ b = 2) 
    (hl : LoopOk P18 G18 (A18 13) 13 14 (litS (v13 D w n (pO j) i a b (.own 1 0 0 w (some w)) 0) [pbR w j R, rbk w fun _ => 0] (.exit 2) (w13 D w n (pO j) i ++ [.own 1 0 0 w (some w)]) [pbR w j R, rbk w y])) : Step P18 G18 (A18 13) 13 7 0 (w13 D w n (pO j) i) [pbR w j R] (w13 D w n (pO (j + 1)) (i + 1)) [pbR w (j + 1) R] := by
  have hii : IntKind.i64.wrap ((i : Int) + 1) = ((i + 1 : Nat) : Int) := by rw [wr64 (by omega) (by omega)]; omega
  refine Step.mkC (A := A18) (m := 0) none_ok rfl rfl (loops1 hl) [0] (v1 := w13 D w n (pO (j + 1)) (i + 1)) (h1 := [⟨j + 1, 1, j + 1 + 1, fun e => bif Nat.blt e (j + 1) then [wrow w (R (0 + e))] else [[.own 1 0 0 w (some w)]].getD (0 + (e - (j + 1))) [], false, false, none⟩, rbk w y, ⟨0, 1, 1, fun e => [[.own 1 0 0 w (some w)]].getD e [], false, true, none⟩]) ?_ (by kernel_rfl) (v2 := w13 D w n (pO (j + 1)) (i + 1)) (by rfl) rfl fun nt => .same (.cons ⟨rfl, rfl, rfl, id, pb_get hR (fun e he => by show List.map _ (bif Nat.blt e (j + 1) then [wrow w (R (0 + e))] else _) = _; rw [bltT he, Nat.zero_add]; rfl) (by show List.map _ (bif Nat.blt (j + 1) (j + 1) then _ else [[T.own 1 0 0 w (some w)]].getD (0 + (j + 1 - (j + 1))) []) = _; rw [bltF (Nat.le_refl _), Nat.sub_self]; show [ren0 [0] _ (.own 1 0 0 w (some w))] = _; rw [ren0_row rfl rfl rfl])⟩ .nil)
  · rw [(show iterR P18 G18 A18 noneO 0 13 [(14, litS (v13 D w n (pO j) i a b (.own 1 0 0 w (some w)) 0) [pbR w j R, rbk w fun _ => 0] (.exit 2) (w13 D w n (pO j) i ++ [.own 1 0 0 w (some w)]) [pbR w j R, rbk w y])] 7 (w13 D w n (pO j) i) [pbR w j R] =
(
 bif decide (Int.ofNat i < Int.ofNat n) then
 bif decide (Int.ofNat i < Int.ofNat D.m) then
 bif decide ((0 : Int) ≤ Int.ofNat i) && decide (Int.ofNat i < Int.ofNat D.m) then
 bif decide ((0 : Int) < Int.ofNat (D.ln i)) then
 bif decide ((0 : Int) ≤ Int.ofNat i) && decide (Int.ofNat i < Int.ofNat D.m) then
 bif decide ((0 : Int) < Int.ofNat (D.ln i)) then
 bif decide ((0 : Int) ≤ IntKind.u8.wrap ((D.x i (0 : Nat)).tdiv (64 : Int))) && decide (IntKind.u8.wrap ((D.x i (0 : Nat)).tdiv (64 : Int)) < (4 : Int)) then
 bif (0 : Nat) + (IntKind.u8.wrap ((D.x i (0 : Nat)).tdiv (64 : Int))).toNat == (3 : Nat) then
 bif decide ((0 : Int) ≤ Int.ofNat w) && decide (Int.ofNat w ≤ Int.ofNat w) && decide (Int.ofNat w * (1 : Int) ≤ (140737488355328 : Int)) && decide (Int.ofNat w ≤ (9223372036854775807 : Int)) then
 bif weakF [T.reg [T.int .u8 D.wd, D.rows
 none], T.int .i64 (Int.ofNat w), T.int .i64 (Int.ofNat n), T.own 0 j 0 (j + (1 : Nat))
 none, T.int .i64 (Int.ofNat i), T.reg [T.int .u8 (5 : Int), T.int .u8 (4 : Int)], T.own [Blk.mk j 1 (j + (1 : Nat)) (fun e => [T.view 1 w (fun j => [T.int .u8 (R e j)]) (some w)]) false false
 none, tabB].length (0 : Nat) (0 : Nat) w (some w), T.int .i64 (0 : Int)] [Blk.mk j 1 (j + (1 : Nat)) (fun e => [T.view 1 w (fun j => [T.int .u8 (R e j)]) (some w)]) false false
 none, tabB, Blk.mk 0 1 w (fun x => [T.int .u8 (0 : Int)]) true false
 none] [T.reg [T.int .u8 D.wd, D.rows
 none], T.int .i64 (Int.ofNat w), T.int .i64 (Int.ofNat n), T.own 0 j 0 (j + (1 : Nat))
 none, T.int .i64 (Int.ofNat i), T.reg [T.int .u8 a, T.int .u8 b], T.own 1 0 0 w (some w), T.int .i64 (0 : Int)] [Blk.mk j 1 (j + (1 : Nat)) (fun e => [T.view 1 w (fun j => [T.int .u8 (R e j)]) (some w)]) false false
 none, Blk.mk 0 1 w (fun e => [T.int .u8 (0 : Int)]) true false
 none] then
 bif j == j && true then
 bif ((0 : Nat) + (j + (1 : Nat))).ble (j + (1 : Nat)) then
 bif ((j + (1 : Nat) + (1 : Nat)) * (25 : Nat)).ble 70368744177664 then
 bif ((0 : Nat) + (j + (1 : Nat)) + (1 : Nat)).ble (j + (1 : Nat)) then
 some ((Ex.normal, [T.reg [T.int .u8 D.wd, D.rows
 none], T.int .i64 (Int.ofNat w), T.int .i64 (Int.ofNat n), T.own 0 j 0 (j + (1 : Nat) + (1 : Nat))
 none, T.int .i64 (IntKind.i64.wrap (Int.ofNat i + (1 : Int)))], [Blk.mk j 1 (j + (1 : Nat)) (fun j_1 =>
 bif ((0 : Nat) + (j + (1 : Nat))).ble j_1 && j_1.blt ((0 : Nat) + (j + (1 : Nat)) + (1 : Nat)) then [[T.own 1 0 0 w (some w)]].getD ((0 : Nat) + (j_1 - ((0 : Nat) + (j + (1 : Nat))))) []
 else [T.view 1 w (fun j => [T.int .u8 (R j_1 j)]) (some w)]) false false
 none, Blk.mk 0 1 w (fun e => [T.int .u8 (y e)]) true false
 none, Blk.mk 0 1 1 (fun j => [[T.own 1 0 0 w (some w)]].getD j []) false true
 none]))
 else
 some ((Ex.normal, [T.reg [T.int .u8 D.wd, D.rows
 none], T.int .i64 (Int.ofNat w), T.int .i64 (Int.ofNat n), T.own 0 (j + (1 : Nat)) (0 : Nat) (j + (1 : Nat) + (1 : Nat))
 none, T.int .i64 (IntKind.i64.wrap (Int.ofNat i + (1 : Int)))], [Blk.mk (j + (1 : Nat)) (1 : Nat) (j + (1 : Nat) + (1 : Nat)) (fun j_1 =>
 bif j_1.blt (j + (1 : Nat)) then [T.view 1 w (fun j => [T.int .u8 (R ((0 : Nat) + j_1) j)]) (some w)]
 else [[T.own 1 0 0 w (some w)]].getD ((0 : Nat) + (j_1 - (j + (1 : Nat)))) []) false false
 none, Blk.mk 0 1 w (fun e => [T.int .u8 (y e)]) true false
 none, Blk.mk 0 1 1 (fun j => [[T.own 1 0 0 w (some w)]].getD j []) false true
 none]))
 else none else none else none else none else none else
 bif (0 : Nat) + (IntKind.u8.wrap ((D.x i (0 : Nat)).tdiv (64 : Int))).toNat == (2 : Nat) then
 bif decide ((0 : Int) ≤ Int.ofNat w) && decide (Int.ofNat w ≤ Int.ofNat w) && decide (Int.ofNat w * (1 : Int) ≤ (140737488355328 : Int)) && decide (Int.ofNat w ≤ (9223372036854775807 : Int)) then
 bif weakF [T.reg [T.int .u8 D.wd, D.rows
 none], T.int .i64 (Int.ofNat w), T.int .i64 (Int.ofNat n), T.own 0 j 0 (j + (1 : Nat))
 none, T.int .i64 (Int.ofNat i), T.reg [T.int .u8 (2 : Int), T.int .u8 (3 : Int)], T.own [Blk.mk j 1 (j + (1 : Nat)) (fun e => [T.view 1 w (fun j => [T.int .u8 (R e j)]) (some w)]) false false
 none, tabB].length (0 : Nat) (0 : Nat) w (some w), T.int .i64 (0 : Int)] [Blk.mk j 1 (j + (1 : Nat)) (fun e => [T.view 1 w (fun j => [T.int .u8 (R e j)]) (some w)]) false false
 none, tabB, Blk.mk 0 1 w (fun x => [T.int .u8 (0 : Int)]) true false
 none] [T.reg [T.int .u8 D.wd, D.rows
 none], T.int .i64 (Int.ofNat w), T.int .i64 (Int.ofNat n), T.own 0 j 0 (j + (1 : Nat))
 none, T.int .i64 (Int.ofNat i), T.reg [T.int .u8 a, T.int .u8 b], T.own 1 0 0 w (some w), T.int .i64 (0 : Int)] [Blk.mk j 1 (j + (1 : Nat)) (fun e => [T.view 1 w (fun j => [T.int .u8 (R e j)]) (some w)]) false false
 none, Blk.mk 0 1 w (fun e => [T.int .u8 (0 : Int)]) true false
 none] then
 bif j == j && true then
 bif ((0 : Nat) + (j + (1 : Nat))).ble (j + (1 : Nat)) then
 bif ((j + (1 : Nat) + (1 : Nat)) * (25 : Nat)).ble 70368744177664 then
 bif ((0 : Nat) + (j + (1 : Nat)) + (1 : Nat)).ble (j + (1 : Nat)) then
 some ((Ex.normal, [T.reg [T.int .u8 D.wd, D.rows
 none], T.int .i64 (Int.ofNat w), T.int .i64 (Int.ofNat n), T.own 0 j 0 (j + (1 : Nat) + (1 : Nat))
 none, T.int .i64 (IntKind.i64.wrap (Int.ofNat i + (1 : Int)))], [Blk.mk j 1 (j + (1 : Nat)) (fun j_1 =>
 bif ((0 : Nat) + (j + (1 : Nat))).ble j_1 && j_1.blt ((0 : Nat) + (j + (1 : Nat)) + (1 : Nat)) then [[T.own 1 0 0 w (some w)]].getD ((0 : Nat) + (j_1 - ((0 : Nat) + (j + (1 : Nat))))) []
 else [T.view 1 w (fun j => [T.int .u8 (R j_1 j)]) (some w)]) false false
 none, Blk.mk 0 1 w (fun e => [T.int .u8 (y e)]) true false
 none, Blk.mk 0 1 1 (fun j => [[T.own 1 0 0 w (some w)]].getD j []) false true
 none]))
 else
 some ((Ex.normal, [T.reg [T.int .u8 D.wd, D.rows
 none], T.int .i64 (Int.ofNat w), T.int .i64 (Int.ofNat n), T.own 0 (j + (1 : Nat)) (0 : Nat) (j + (1 : Nat) + (1 : Nat))
 none, T.int .i64 (IntKind.i64.wrap (Int.ofNat i + (1 : Int)))], [Blk.mk (j + (1 : Nat)) (1 : Nat) (j + (1 : Nat) + (1 : Nat)) (fun j_1 =>
 bif j_1.blt (j + (1 : Nat)) then [T.view 1 w (fun j => [T.int .u8 (R ((0 : Nat) + j_1) j)]) (some w)]
 else [[T.own 1 0 0 w (some w)]].getD ((0 : Nat) + (j_1 - (j + (1 : Nat)))) []) false false
 none, Blk.mk 0 1 w (fun e => [T.int .u8 (y e)]) true false
 none, Blk.mk 0 1 1 (fun j => [[T.own 1 0 0 w (some w)]].getD j []) false true
 none]))
 else none else none else none else none else none else
 bif (0 : Nat) + (IntKind.u8.wrap ((D.x i (0 : Nat)).tdiv (64 : Int))).toNat == (1 : Nat) then
 bif decide ((0 : Int) ≤ Int.ofNat w) && decide (Int.ofNat w ≤ Int.ofNat w) && decide (Int.ofNat w * (1 : Int) ≤ (140737488355328 : Int)) && decide (Int.ofNat w ≤ (9223372036854775807 : Int)) then
 bif weakF [T.reg [T.int .u8 D.wd, D.rows
 none], T.int .i64 (Int.ofNat w), T.int .i64 (Int.ofNat n), T.own 0 j 0 (j + (1 : Nat))
 none, T.int .i64 (Int.ofNat i), T.reg [T.int .u8 (1 : Int), T.int .u8 (3 : Int)], T.own [Blk.mk j 1 (j + (1 : Nat)) (fun e => [T.view 1 w (fun j => [T.int .u8 (R e j)]) (some w)]) false false
 none, tabB].length (0 : Nat) (0 : Nat) w (some w), T.int .i64 (0 : Int)] [Blk.mk j 1 (j + (1 : Nat)) (fun e => [T.view 1 w (fun j => [T.int .u8 (R e j)]) (some w)]) false false
 none, tabB, Blk.mk 0 1 w (fun x => [T.int .u8 (0 : Int)]) true false
 none] [T.reg [T.int .u8 D.wd, D.rows
 none], T.int .i64 (Int.ofNat w), T.int .i64 (Int.ofNat n), T.own 0 j 0 (j + (1 : Nat))
 none, T.int .i64 (Int.ofNat i), T.reg [T.int .u8 a, T.int .u8 b], T.own 1 0 0 w (some w), T.int .i64 (0 : Int)] [Blk.mk j 1 (j + (1 : Nat)) (fun e => [T.view 1 w (fun j => [T.int .u8 (R e j)]) (some w)]) false false
 none, Blk.mk 0 1 w (fun e => [T.int .u8 (0 : Int)]) true false
 none] then
 bif j == j && true then
 bif ((0 : Nat) + (j + (1 : Nat))).ble (j + (1 : Nat)) then
 bif ((j + (1 : Nat) + (1 : Nat)) * (25 : Nat)).ble 70368744177664 then
 bif ((0 : Nat) + (j + (1 : Nat)) + (1 : Nat)).ble (j + (1 : Nat)) then
 some ((Ex.normal, [T.reg [T.int .u8 D.wd, D.rows
 none], T.int .i64 (Int.ofNat w), T.int .i64 (Int.ofNat n), T.own 0 j 0 (j + (1 : Nat) + (1 : Nat))
 none, T.int .i64 (IntKind.i64.wrap (Int.ofNat i + (1 : Int)))], [Blk.mk j 1 (j + (1 : Nat)) (fun j_1 =>
 bif ((0 : Nat) + (j + (1 : Nat))).ble j_1 && j_1.blt ((0 : Nat) + (j + (1 : Nat)) + (1 : Nat)) then [[T.own 1 0 0 w (some w)]].getD ((0 : Nat) + (j_1 - ((0 : Nat) + (j + (1 : Nat))))) []
 else [T.view 1 w (fun j => [T.int .u8 (R j_1 j)]) (some w)]) false false
 none, Blk.mk 0 1 w (fun e => [T.int .u8 (y e)]) true false
 none, Blk.mk 0 1 1 (fun j => [[T.own 1 0 0 w (some w)]].getD j []) false true
 none]))
 else
 some ((Ex.normal, [T.reg [T.int .u8 D.wd, D.rows
 none], T.int .i64 (Int.ofNat w), T.int .i64 (Int.ofNat n), T.own 0 (j + (1 : Nat)) (0 : Nat) (j + (1 : Nat) + (1 : Nat))
 none, T.int .i64 (IntKind.i64.wrap (Int.ofNat i + (1 : Int)))], [Blk.mk (j + (1 : Nat)) (1 : Nat) (j + (1 : Nat) + (1 : Nat)) (fun j_1 =>
 bif j_1.blt (j + (1 : Nat)) then [T.view 1 w (fun j => [T.int .u8 (R ((0 : Nat) + j_1) j)]) (some w)]
 else [[T.own 1 0 0 w (some w)]].getD ((0 : Nat) + (j_1 - (j + (1 : Nat)))) []) false false
 none, Blk.mk 0 1 w (fun e => [T.int .u8 (y e)]) true false
 none, Blk.mk 0 1 1 (fun j => [[T.own 1 0 0 w (some w)]].getD j []) false true
 none]))
 else none else none else none else none else none else
 bif decide ((0 : Int) ≤ Int.ofNat w) && decide (Int.ofNat w ≤ Int.ofNat w) && decide (Int.ofNat w * (1 : Int) ≤ (140737488355328 : Int)) && decide (Int.ofNat w ≤ (9223372036854775807 : Int)) then
 bif weakF [T.reg [T.int .u8 D.wd, D.rows
 none], T.int .i64 (Int.ofNat w), T.int .i64 (Int.ofNat n), T.own 0 j 0 (j + (1 : Nat))
 none, T.int .i64 (Int.ofNat i), T.reg [T.int .u8 (1 : Int), T.int .u8 (2 : Int)], T.own [Blk.mk j 1 (j + (1 : Nat)) (fun e => [T.view 1 w (fun j => [T.int .u8 (R e j)]) (some w)]) false false
 none, tabB].length (0 : Nat) (0 : Nat) w (some w), T.int .i64 (0 : Int)] [Blk.mk j 1 (j + (1 : Nat)) (fun e => [T.view 1 w (fun j => [T.int .u8 (R e j)]) (some w)]) false false
 none, tabB, Blk.mk 0 1 w (fun x => [T.int .u8 (0 : Int)]) true false
 none] [T.reg [T.int .u8 D.wd, D.rows
 none], T.int .i64 (Int.ofNat w), T.int .i64 (Int.ofNat n), T.own 0 j 0 (j + (1 : Nat))
 none, T.int .i64 (Int.ofNat i), T.reg [T.int .u8 a, T.int .u8 b], T.own 1 0 0 w (some w), T.int .i64 (0 : Int)] [Blk.mk j 1 (j + (1 : Nat)) (fun e => [T.view 1 w (fun j => [T.int .u8 (R e j)]) (some w)]) false false
 none, Blk.mk 0 1 w (fun e => [T.int .u8 (0 : Int)]) true false
 none] then
 bif j == j && true then
 bif ((0 : Nat) + (j + (1 : Nat))).ble (j + (1 : Nat)) then
 bif ((j + (1 : Nat) + (1 : Nat)) * (25 : Nat)).ble 70368744177664 then
 bif ((0 : Nat) + (j + (1 : Nat)) + (1 : Nat)).ble (j + (1 : Nat)) then
 some ((Ex.normal, [T.reg [T.int .u8 D.wd, D.rows
 none], T.int .i64 (Int.ofNat w), T.int .i64 (Int.ofNat n), T.own 0 j 0 (j + (1 : Nat) + (1 : Nat))
 none, T.int .i64 (IntKind.i64.wrap (Int.ofNat i + (1 : Int)))], [Blk.mk j 1 (j + (1 : Nat)) (fun j_1 =>
 bif ((0 : Nat) + (j + (1 : Nat))).ble j_1 && j_1.blt ((0 : Nat) + (j + (1 : Nat)) + (1 : Nat)) then [[T.own 1 0 0 w (some w)]].getD ((0 : Nat) + (j_1 - ((0 : Nat) + (j + (1 : Nat))))) []
 else [T.view 1 w (fun j => [T.int .u8 (R j_1 j)]) (some w)]) false false
 none, Blk.mk 0 1 w (fun e => [T.int .u8 (y e)]) true false
 none, Blk.mk 0 1 1 (fun j => [[T.own 1 0 0 w (some w)]].getD j []) false true
 none]))
 else
 some ((Ex.normal, [T.reg [T.int .u8 D.wd, D.rows
 none], T.int .i64 (Int.ofNat w), T.int .i64 (Int.ofNat n), T.own 0 (j + (1 : Nat)) (0 : Nat) (j + (1 : Nat) + (1 : Nat))
 none, T.int .i64 (IntKind.i64.wrap (Int.ofNat i + (1 : Int)))], [Blk.mk (j + (1 : Nat)) (1 : Nat) (j + (1 : Nat) + (1 : Nat)) (fun j_1 =>
 bif j_1.blt (j + (1 : Nat)) then [T.view 1 w (fun j => [T.int .u8 (R ((0 : Nat) + j_1) j)]) (some w)]
 else [[T.own 1 0 0 w (some w)]].getD ((0 : Nat) + (j_1 - (j + (1 : Nat)))) []) false false
 none, Blk.mk 0 1 w (fun e => [T.int .u8 (y e)]) true false
 none, Blk.mk 0 1 1 (fun j => [[T.own 1 0 0 w (some w)]].getD j []) false true
 none]))
 else none else none else none else none else none else none else none else none else
 bif decide ((0 : Int) ≤ Int.ofNat w) && decide (Int.ofNat w ≤ Int.ofNat w) && decide (Int.ofNat w * (1 : Int) ≤ (140737488355328 : Int)) && decide (Int.ofNat w ≤ (9223372036854775807 : Int)) then
 bif weakF [T.reg [T.int .u8 D.wd, D.rows
 none], T.int .i64 (Int.ofNat w), T.int .i64 (Int.ofNat n), T.own 0 j 0 (j + (1 : Nat))
 none, T.int .i64 (Int.ofNat i), T.reg [T.int .u8 (1 : Int), T.int .u8 (2 : Int)], T.own [Blk.mk j 1 (j + (1 : Nat)) (fun e => [T.view 1 w (fun j => [T.int .u8 (R e j)]) (some w)]) false false
 none].length (0 : Nat) (0 : Nat) w (some w), T.int .i64 (0 : Int)] [Blk.mk j 1 (j + (1 : Nat)) (fun e => [T.view 1 w (fun j => [T.int .u8 (R e j)]) (some w)]) false false
 none, Blk.mk 0 1 w (fun x => [T.int .u8 (0 : Int)]) true false
 none] [T.reg [T.int .u8 D.wd, D.rows
 none], T.int .i64 (Int.ofNat w), T.int .i64 (Int.ofNat n), T.own 0 j 0 (j + (1 : Nat))
 none, T.int .i64 (Int.ofNat i), T.reg [T.int .u8 a, T.int .u8 b], T.own 1 0 0 w (some w), T.int .i64 (0 : Int)] [Blk.mk j 1 (j + (1 : Nat)) (fun e => [T.view 1 w (fun j => [T.int .u8 (R e j)]) (some w)]) false false
 none, Blk.mk 0 1 w (fun e => [T.int .u8 (0 : Int)]) true false
 none] then
 bif j == j && true then
 bif ((0 : Nat) + (j + (1 : Nat))).ble (j + (1 : Nat)) then
 bif ((j + (1 : Nat) + (1 : Nat)) * (25 : Nat)).ble 70368744177664 then
 bif ((0 : Nat) + (j + (1 : Nat)) + (1 : Nat)).ble (j + (1 : Nat)) then
 some ((Ex.normal, [T.reg [T.int .u8 D.wd, D.rows
 none], T.int .i64 (Int.ofNat w), T.int .i64 (Int.ofNat n), T.own 0 j 0 (j + (1 : Nat) + (1 : Nat))
 none, T.int .i64 (IntKind.i64.wrap (Int.ofNat i + (1 : Int)))], [Blk.mk j 1 (j + (1 : Nat)) (fun j_1 =>
 bif ((0 : Nat) + (j + (1 : Nat))).ble j_1 && j_1.blt ((0 : Nat) + (j + (1 : Nat)) + (1 : Nat)) then [[T.own 1 0 0 w (some w)]].getD ((0 : Nat) + (j_1 - ((0 : Nat) + (j + (1 : Nat))))) []
 else [T.view 1 w (fun j => [T.int .u8 (R j_1 j)]) (some w)]) false false
 none, Blk.mk 0 1 w (fun e => [T.int .u8 (y e)]) true false
 none, Blk.mk 0 1 1 (fun j => [[T.own 1 0 0 w (some w)]].getD j []) false true
 none]))
 else
 some ((Ex.normal, [T.reg [T.int .u8 D.wd, D.rows
 none], T.int .i64 (Int.ofNat w), T.int .i64 (Int.ofNat n), T.own 0 (j + (1 : Nat)) (0 : Nat) (j + (1 : Nat) + (1 : Nat))
 none, T.int .i64 (IntKind.i64.wrap (Int.ofNat i + (1 : Int)))], [Blk.mk (j + (1 : Nat)) (1 : Nat) (j + (1 : Nat) + (1 : Nat)) (fun j_1 =>
 bif j_1.blt (j + (1 : Nat)) then [T.view 1 w (fun j => [T.int .u8 (R ((0 : Nat) + j_1) j)]) (some w)]
 else [[T.own 1 0 0 w (some w)]].getD ((0 : Nat) + (j_1 - (j + (1 : Nat)))) []) false false
 none, Blk.mk 0 1 w (fun e => [T.int .u8 (y e)]) true false
 none, Blk.mk 0 1 1 (fun j => [[T.own 1 0 0 w (some w)]].getD j []) false true
 none]))
 else none else none else none else none else none else none else
 bif decide ((0 : Int) ≤ Int.ofNat w) && decide (Int.ofNat w ≤ Int.ofNat w) && decide (Int.ofNat w * (1 : Int) ≤ (140737488355328 : Int)) && decide (Int.ofNat w ≤ (9223372036854775807 : Int)) then
 bif weakF [T.reg [T.int .u8 D.wd, D.rows
 none], T.int .i64 (Int.ofNat w), T.int .i64 (Int.ofNat n), T.own 0 j 0 (j + (1 : Nat))
 none, T.int .i64 (Int.ofNat i), T.reg [T.int .u8 (1 : Int), T.int .u8 (2 : Int)], T.own [Blk.mk j 1 (j + (1 : Nat)) (fun e => [T.view 1 w (fun j => [T.int .u8 (R e j)]) (some w)]) false false
 none].length (0 : Nat) (0 : Nat) w (some w), T.int .i64 (0 : Int)] [Blk.mk j 1 (j + (1 : Nat)) (fun e => [T.view 1 w (fun j => [T.int .u8 (R e j)]) (some w)]) false false
 none, Blk.mk 0 1 w (fun x => [T.int .u8 (0 : Int)]) true false
 none] [T.reg [T.int .u8 D.wd, D.rows
 none], T.int .i64 (Int.ofNat w), T.int .i64 (Int.ofNat n), T.own 0 j 0 (j + (1 : Nat))
 none, T.int .i64 (Int.ofNat i), T.reg [T.int .u8 a, T.int .u8 b], T.own 1 0 0 w (some w), T.int .i64 (0 : Int)] [Blk.mk j 1 (j + (1 : Nat)) (fun e => [T.view 1 w (fun j => [T.int .u8 (R e j)]) (some w)]) false false
 none, Blk.mk 0 1 w (fun e => [T.int .u8 (0 : Int)]) true false
 none] then
 bif j == j && true then
 bif ((0 : Nat) + (j + (1 : Nat))).ble (j + (1 : Nat)) then
 bif ((j + (1 : Nat) + (1 : Nat)) * (25 : Nat)).ble 70368744177664 then
 bif ((0 : Nat) + (j + (1 : Nat)) + (1 : Nat)).ble (j + (1 : Nat)) then
 some ((Ex.normal, [T.reg [T.int .u8 D.wd, D.rows
 none], T.int .i64 (Int.ofNat w), T.int .i64 (Int.ofNat n), T.own 0 j 0 (j + (1 : Nat) + (1 : Nat))
 none, T.int .i64 (IntKind.i64.wrap (Int.ofNat i + (1 : Int)))], [Blk.mk j 1 (j + (1 : Nat)) (fun j_1 =>
 bif ((0 : Nat) + (j + (1 : Nat))).ble j_1 && j_1.blt ((0 : Nat) + (j + (1 : Nat)) + (1 : Nat)) then [[T.own 1 0 0 w (some w)]].getD ((0 : Nat) + (j_1 - ((0 : Nat) + (j + (1 : Nat))))) []
 else [T.view 1 w (fun j => [T.int .u8 (R j_1 j)]) (some w)]) false false
 none, Blk.mk 0 1 w (fun e => [T.int .u8 (y e)]) true false
 none, Blk.mk 0 1 1 (fun j => [[T.own 1 0 0 w (some w)]].getD j []) false true
 none]))
 else
 some ((Ex.normal, [T.reg [T.int .u8 D.wd, D.rows
 none], T.int .i64 (Int.ofNat w), T.int .i64 (Int.ofNat n), T.own 0 (j + (1 : Nat)) (0 : Nat) (j + (1 : Nat) + (1 : Nat))
 none, T.int .i64 (IntKind.i64.wrap (Int.ofNat i + (1 : Int)))], [Blk.mk (j + (1 : Nat)) (1 : Nat) (j + (1 : Nat) + (1 : Nat)) (fun j_1 =>
 bif j_1.blt (j + (1 : Nat)) then [T.view 1 w (fun j => [T.int .u8 (R ((0 : Nat) + j_1) j)]) (some w)]
 else [[T.own 1 0 0 w (some w)]].getD ((0 : Nat) + (j_1 - (j + (1 : Nat)))) []) false false
 none, Blk.mk 0 1 w (fun e => [T.int .u8 (y e)]) true false
 none, Blk.mk 0 1 1 (fun j => [[T.own 1 0 0 w (some w)]].getD j []) false true
 none]))
 else none else none else none else none else none else
 some ((Ex.exit 0, [T.own 0 j 0 (j + (1 : Nat))
 none], [Blk.mk j 1 (j + (1 : Nat)) (fun e => [T.view 1 w (fun j => [T.int .u8 (R e j)]) (some w)]) false false
 none]))) from by kernel_rfl)]
    obtain ⟨rfl, rfl⟩ := hab
    refine bift (by first | assumption | omega | (simp (disch := omega) only [numsE, List.length_cons, List.length_nil, Nat.reduceAdd]; done) | (simp (disch := omega) only [numsE, List.length_cons, List.length_nil, Nat.reduceAdd]; omega)) ?_
    by_cases q : i < D.m
    · have q2 : ¬ 0 < D.ln i := fun h => hno ⟨q, h⟩
      refine bift (by first | assumption | omega | (simp (disch := omega) only [numsE, List.length_cons, List.length_nil, Nat.reduceAdd]; done) | (simp (disch := omega) only [numsE, List.length_cons, List.length_nil, Nat.reduceAdd]; omega)) ?_
      refine bift (by first | assumption | omega | (simp (disch := omega) only [numsE, List.length_cons, List.length_nil, Nat.reduceAdd]; done) | (simp (disch := omega) only [numsE, List.length_cons, List.length_nil, Nat.reduceAdd]; omega)) ?_
      refine biff (by first | assumption | (simp (disch := omega) only [numsE, List.length_cons, List.length_nil, Nat.reduceAdd]; done) | (simp (disch := omega) only [numsE, List.length_cons, List.length_nil, Nat.reduceAdd]; omega)) ?_
      refine bift (by first | assumption | omega | (simp (disch := omega) only [numsE, List.length_cons, List.length_nil, Nat.reduceAdd]; done) | (simp (disch := omega) only [numsE, List.length_cons, List.length_nil, Nat.reduceAdd]; omega)) ?_
      refine bift (weakF_of ⟨rfl, .refl _⟩) ?_
      refine bift (by simp) ?_
      refine bift (by first | assumption | omega | (simp (disch := omega) only [numsE, List.length_cons, List.length_nil, Nat.reduceAdd]; done) | (simp (disch := omega) only [numsE, List.length_cons, List.length_nil, Nat.reduceAdd]; omega)) ?_
      refine bift (by first | assumption | omega | (simp (disch := omega) only [numsE, List.length_cons, List.length_nil, Nat.reduceAdd]; done) | (simp (disch := omega) only [numsE, List.length_cons, List.length_nil, Nat.reduceAdd]; omega)) ?_
      refine biff (by first | assumption | (simp (disch := omega) only [numsE, List.length_cons, List.length_nil, Nat.reduceAdd]; done) | (simp (disch := omega) only [numsE, List.length_cons, List.length_nil, Nat.reduceAdd]; omega)) ?_
      rw [ofNatE i, hii]
      rfl
    · refine biff (by first | assumption | (simp (disch := omega) only [numsE, List.length_cons, List.length_nil, Nat.reduceAdd]; done) | (simp (disch := omega) only [numsE, List.length_cons, List.length_nil, Nat.reduceAdd]; omega)) ?_
      refine bift (by first | assumption | omega | (simp (disch := omega) only [numsE, List.length_cons, List.length_nil, Nat.reduceAdd]; done) | (simp (disch := omega) only [numsE, List.length_cons, List.length_nil, Nat.reduceAdd]; omega)) ?_
      refine bift (weakF_of ⟨rfl, .refl _⟩) ?_
      refine bift (by simp) ?_
      refine bift (by first | assumption | omega | (simp (disch := omega) only [numsE, List.length_cons, List.length_nil, Nat.reduceAdd]; done) | (simp (disch := omega) only [numsE, List.length_cons, List.length_nil, Nat.reduceAdd]; omega)) ?_
      refine bift (by first | assumption | omega | (simp (disch := omega) only [numsE, List.length_cons, List.length_nil, Nat.reduceAdd]; done) | (simp (disch := omega) only [numsE, List.length_cons, List.length_nil, Nat.reduceAdd]; omega)) ?_
      refine biff (by first | assumption | (simp (disch := omega) only [numsE, List.length_cons, List.length_nil, Nat.reduceAdd]; done) | (simp (disch := omega) only [numsE, List.length_cons, List.length_nil, Nat.reduceAdd]; omega)) ?_
      rw [ofNatE i, hii]
      rfl
end Go.Ab

namespace Go.Ab
open Go.Proofs
def IR.n (D : IR) : Nat := if min D.m 9 % 2 = 0 then min D.m 9 + 1 else min D.m 9
def st13h (D : IR) (w : Nat) : Nat → Heap
  | 0 => []
  | i + 1 => [pbR w i D.r]
def st13p : Nat → T
  | 0 => .nils
  | i + 1 => pO i
theorem IR.r_eq (D : IR) (i : Nat) : D.r i = rowF D i (D.pA i) (D.pB i) := by funext k; rfl
theorem IR.n_bd (D : IR) : 1 ≤ D.n ∧ D.n ≤ 9 ∧ D.n % 2 = 1 := by
  unfold IR.n
  split <;> omega
theorem tdiv64 {v : Int} (h : 0 ≤ v ∧ v < 256) : ∃ t : Nat, t < 4 ∧ IntKind.u8.wrap (v.tdiv 64) = (t : Int) ∧ (pairA v, pairB v) = [((1 : Int), (2 : Int)), (1, 3), (2, 3), (5, 4)].getD t (0, 0) := by
  have e : v.tdiv 64 = v / 64 := Int.tdiv_eq_ediv_of_nonneg h.1
  rw [e, wr8 (by omega) (by omega)]
  unfold pairA pairB
  by_cases h1 : v < 64
  · refine ⟨0, by omega, by omega, ?_⟩
    rw [if_pos h1, if_pos h1]; rfl
  · rw [if_neg h1, if_neg h1]
    by_cases h2 : v < 128
    · refine ⟨1, by omega, by omega, ?_⟩
      rw [if_pos h2, if_pos h2]; rfl
    · rw [if_neg h2, if_neg h2]
      by_cases h3 : v < 192
      · refine ⟨2, by omega, by omega, ?_⟩
        rw [if_pos h3, if_pos h3]; rfl
      · refine ⟨3, by omega, by omega, ?_⟩
        rw [if_neg h3, if_neg h3]; rfl
theorem l13 (D : IR) (w j : Nat) (hD : D.Ok) (hw : w ≤ 1000) (hj : j ≤ 8) : LoopOk P18 G18 (A18 13) 13 7 (litS (w13 D w (j + 1) .nils 0) [] (.exit 0) [pO j] [pbR w j D.r]) := by
  refine loop_steps hm18 (by kernel_rfl) (fun i => w13 D w (j + 1) (st13p i) i) (fun i => st13h D w i) (n := j + 1) (fun i hi => ?_) ?_
  · by_cases q : i < D.m ∧ 0 < D.ln i
    · obtain ⟨t, ht, htv, hab⟩ := tdiv64 (hD.x i 0)
      have hA : D.pA i = pairA (D.x i 0) := by unfold IR.pA; rw [if_pos q]
      have hB : D.pB i = pairB (D.x i 0) := by unfold IR.pB; rw [if_pos q]
      rw [← hA, ← hB] at hab
      have hr := D.r_eq i
      generalize D.pA i = a at *
      generalize D.pB i = b at *
      cases i with
      | zero => exact r13nil_tab D w (j + 1) 0 a b _ D.r hr hw (by omega) (by omega) t ht q.1 q.2 htv hab (l13k1 D w (j + 1) .nils 0 a b tabB hD hw)
      | succ i => exact r13own_tab D w (j + 1) (i + 1) a b _ i (by omega) D.r hr hw (by omega) (by omega) t ht q.1 q.2 htv hab (l13k2 D w (j + 1) (pO i) (i + 1) a b (pbR w i D.r) tabB hD hw)
    · have hA : D.pA i = 1 := by unfold IR.pA; rw [if_neg q]
      have hB : D.pB i = 2 := by unfold IR.pB; rw [if_neg q]
      have hr := D.r_eq i
      generalize D.pA i = a at *
      generalize D.pB i = b at *
      cases i with
      | zero => exact r13nil_none D w (j + 1) 0 a b _ D.r hr hw (by omega) (by omega) q ⟨hA, hB⟩ (l13k0 D w (j + 1) .nils 0 a b hD hw)
      | succ i => exact r13own_none D w (j + 1) (i + 1) a b _ i (by omega) D.r hr hw (by omega) (by omega) q ⟨hA, hB⟩ (l13k1 D w (j + 1) (pO i) (i + 1) a b (pbR w i D.r) hD hw)
  · show Last P18 G18 (A18 13) 13 7 _ (w13 D w (j + 1) (pO j) (j + 1)) [pbR w j D.r] _ _ [pbR w j D.r]
    generalize D.r = R
    have hn : j + 1 ≤ j + 1 := Nat.le_refl _
    generalize hnn : j + 1 = n
    refine Last.mk0 (A := A18) (m := 0) none_ok rfl rfl loops0 (h1 := [pbR w j R]) (by simp) ?_ (.refl _)
    rw [(show iterR P18 G18 A18 noneO 0 13 [] 7 (w13 D w n (pO j) (n : Nat)) [pbR w j R] =
(
 bif decide (Int.ofNat n < Int.ofNat n) then
 bif decide (Int.ofNat n < Int.ofNat D.m) then
 bif decide ((0 : Int) ≤ Int.ofNat n) && decide (Int.ofNat n < Int.ofNat D.m) then
 bif decide ((0 : Int) < Int.ofNat (D.ln n)) then
 bif decide ((0 : Int) ≤ Int.ofNat n) && decide (Int.ofNat n < Int.ofNat D.m) then
 bif decide ((0 : Int) < Int.ofNat (D.ln n)) then
 bif decide ((0 : Int) ≤ IntKind.u8.wrap ((D.x n (0 : Nat)).tdiv (64 : Int))) && decide (IntKind.u8.wrap ((D.x n (0 : Nat)).tdiv (64 : Int)) < (4 : Int)) then
 bif (0 : Nat) + (IntKind.u8.wrap ((D.x n (0 : Nat)).tdiv (64 : Int))).toNat == (3 : Nat) then
 bif decide ((0 : Int) ≤ Int.ofNat w) && decide (Int.ofNat w ≤ Int.ofNat w) && decide (Int.ofNat w * (1 : Int) ≤ (140737488355328 : Int)) && decide (Int.ofNat w ≤ (9223372036854775807 : Int)) then none else none else
 bif (0 : Nat) + (IntKind.u8.wrap ((D.x n (0 : Nat)).tdiv (64 : Int))).toNat == (2 : Nat) then
 bif decide ((0 : Int) ≤ Int.ofNat w) && decide (Int.ofNat w ≤ Int.ofNat w) && decide (Int.ofNat w * (1 : Int) ≤ (140737488355328 : Int)) && decide (Int.ofNat w ≤ (9223372036854775807 : Int)) then none else none else
 bif (0 : Nat) + (IntKind.u8.wrap ((D.x n (0 : Nat)).tdiv (64 : Int))).toNat == (1 : Nat) then
 bif decide ((0 : Int) ≤ Int.ofNat w) && decide (Int.ofNat w ≤ Int.ofNat w) && decide (Int.ofNat w * (1 : Int) ≤ (140737488355328 : Int)) && decide (Int.ofNat w ≤ (9223372036854775807 : Int)) then none else none else
 bif decide ((0 : Int) ≤ Int.ofNat w) && decide (Int.ofNat w ≤ Int.ofNat w) && decide (Int.ofNat w * (1 : Int) ≤ (140737488355328 : Int)) && decide (Int.ofNat w ≤ (9223372036854775807 : Int)) then none else none else none else none else none else
 bif decide ((0 : Int) ≤ Int.ofNat w) && decide (Int.ofNat w ≤ Int.ofNat w) && decide (Int.ofNat w * (1 : Int) ≤ (140737488355328 : Int)) && decide (Int.ofNat w ≤ (9223372036854775807 : Int)) then none else none else none else
 bif decide ((0 : Int) ≤ Int.ofNat w) && decide (Int.ofNat w ≤ Int.ofNat w) && decide (Int.ofNat w * (1 : Int) ≤ (140737488355328 : Int)) && decide (Int.ofNat w ≤ (9223372036854775807 : Int)) then none else none else
 some ((Ex.exit 0, [T.own 0 j 0 (j + (1 : Nat))
 none], [Blk.mk j 1 (j + (1 : Nat)) (fun e => [T.view 1 w (fun j => [T.int .u8 (R e j)]) (some w)]) false false
 none]))) from by kernel_rfl)]
    refine biff (by first | assumption | (simp (disch := omega) only [numsE, List.length_cons, List.length_nil, Nat.reduceAdd]; done) | (simp (disch := omega) only [numsE, List.length_cons, List.length_nil, Nat.reduceAdd]; omega)) ?_
    rfl
/-- The picture of plain data. -/
theorem OfT (D : IR) (hD : D.Ok) : ToldOk P18 G18 13 [.agg [.int .u8 D.wd, D.rows none]] (picV D.r D.w D.n (some D.w) none) := by
  have hwd := hD.wd
  have hw : D.w ≤ 10 ∧ ((D.w : Nat) : Int) = 1 + D.wd % 10 := by unfold IR.w; omega
  obtain ⟨hn1, hn2, _⟩ := D.n_bd
  obtain ⟨j, hj⟩ : ∃ j, D.n = j + 1 := ⟨D.n - 1, by omega⟩
  have hl := l13 D D.w j hD (by omega) (by omega)
  refine ToldOk.frz (r := .fresh false 1 D.n (fun i => [rowV (D.r i) D.w (some D.w)]) D.n none) ?_
  refine stepL_told hm18 hn18 none_ok (A := A18) (m := 0) (by kernel_rfl) (loops1 hl) ?_
  have e1 : IntKind.i64.wrap (1 + IntKind.i64.wrap (D.wd.tmod 10)) = (D.w : Int) := by
    rw [Int.tmod_eq_emod_of_nonneg hwd.1, wr64 (x := D.wd % 10) (by omega) (by omega), wr64 (by omega) (by omega), hw.2]
  have e2 : (bif decide ((9 : Int) < (D.m : Int)) then (9 : Int) else (D.m : Int)) = ((min D.m 9 : Nat) : Int) := by
    by_cases q : (9 : Int) < (D.m : Int)
    · rw [dT q, cond_true]; omega
    · rw [dF q, cond_false]; omega
  have e3 : ((min D.m 9 : Nat) : Int).tmod 2 = ((min D.m 9 % 2 : Nat) : Int) := rfl
  generalize D.w = w at *
  have hn := hj
  unfold IR.n at hn
  rw [hj]
  generalize D.r = R at *
  rw [(show stepL P18 G18 A18 noneO 0 13 [(7, litS (w13 D w (j + 1) .nils 0) [] (.exit 0) [pO j] [pbR w j R])] [.agg [.int .u8 D.wd, D.rows none]] =
(
 bif decide ((bif decide ((9 : Int) < Int.ofNat D.m) then (9 : Int)
 else Int.ofNat D.m).tmod (2 : Int) = (0 : Int)) then
 bif weakF [T.reg [T.int .u8 D.wd, D.rows
 none], T.int .i64 (IntKind.i64.wrap ((1 : Int) + IntKind.i64.wrap (D.wd.tmod (10 : Int)))), T.int .i64 (IntKind.i64.wrap ((bif decide ((9 : Int) < Int.ofNat D.m) then (9 : Int)
 else Int.ofNat D.m) + (1 : Int))), T.nils, T.int .i64 (0 : Int)] [] [T.reg [T.int .u8 D.wd, D.rows
 none], T.int .i64 (Int.ofNat w), T.int .i64 (Int.ofNat (j + (1 : Nat))), T.nils, T.int .i64 (0 : Int)] [] then
 some (bif j == j && ((0 : Nat) + (j + (1 : Nat))).ble (j + (1 : Nat)) then T.fresh false (1 : Nat) (j + (1 : Nat) - (0 : Nat)) (fun j => [T.view 1 w (fun j_1 => [T.int .u8 (R ((0 : Nat) + j) j_1)]) (some w)]) (j + (1 : Nat)) none else T.undef)
 else none else
 bif weakF [T.reg [T.int .u8 D.wd, D.rows
 none], T.int .i64 (IntKind.i64.wrap ((1 : Int) + IntKind.i64.wrap (D.wd.tmod (10 : Int)))), T.int .i64 (bif decide ((9 : Int) < Int.ofNat D.m) then (9 : Int)
 else Int.ofNat D.m), T.nils, T.int .i64 (0 : Int)] [] [T.reg [T.int .u8 D.wd, D.rows
 none], T.int .i64 (Int.ofNat w), T.int .i64 (Int.ofNat (j + (1 : Nat))), T.nils, T.int .i64 (0 : Int)] [] then
 some (bif j == j && ((0 : Nat) + (j + (1 : Nat))).ble (j + (1 : Nat)) then T.fresh false (1 : Nat) (j + (1 : Nat) - (0 : Nat)) (fun j => [T.view 1 w (fun j_1 => [T.int .u8 (R ((0 : Nat) + j) j_1)]) (some w)]) (j + (1 : Nat)) none else T.undef)
 else
 none) from by kernel_rfl)]
  rw [ofNatE D.m, e1, e2, e3]
  have fin : (some (bif j == j && ((0 : Nat) + (j + (1 : Nat))).ble (j + (1 : Nat)) then T.fresh false (1 : Nat) (j + (1 : Nat) - (0 : Nat)) (fun j => [T.view (1 : Nat) w (fun j_1 => [T.int IntKind.u8 (R ((0 : Nat) + j) j_1)]) (some w)]) (j + (1 : Nat)) none else T.undef)) = some (T.fresh false 1 (j + 1) (fun i => [rowV (R i) w (some w)]) (j + 1) none) := by
    simp only [Nat.zero_add, Nat.sub_zero, beq_self_eq_true, bleT (Nat.le_refl _), Bool.true_and, cond_true]
    rfl
  by_cases q : min D.m 9 % 2 = 0
  · rw [if_pos q] at hn
    rw [dT (by omega), cond_true, wr64 (x := ((min D.m 9 : Nat) : Int) + 1) (by omega) (by omega), show ((min D.m 9 : Nat) : Int) + 1 = Int.ofNat (j + 1) by rw [ofNatE]; omega]
    exact bift (weakF_of ⟨rfl, .refl _⟩) fin
  · rw [if_neg q] at hn
    rw [dF (by omega), cond_false, show ((min D.m 9 : Nat) : Int) = Int.ofNat (j + 1) by rw [ofNatE]; omega]
    exact bift (weakF_of ⟨rfl, .refl _⟩) fin
end Go.Ab

namespace Go.Ab
open Go.Proofs
def v16 (R Q : Nat → Nat → Int) (n h : Nat) (rc c rd d : Option Nat) (i : Int) : List T := [picV R n h rc c, picV Q n h rd d, .int .i64 i]
def v17f (b d : Nat → Int) (a : Nat → Int) (m : Nat) (best i : Int) : List T := [.view 3 m (fun j => [.int .u8 (a j), .int .i64 (b j), .int .i64 (d j)]) none, .int .i64 best, .int .i64 i]
end Go.Ab

