/- Each operation of the abstract interpreter is met by the model's: append and copy, whole. -/
import Derived.Test.YtkiedolofnakoaaDoorAbOps8
namespace Go.Ab
section
variable {P : Program} {R : Type} {g : Gh} {h : Heap} {w : World}

theorem plainUpTo_all {m : Nat} {gx : Nat → List T} {fl : Bool} (hf : plainUpTo m gx fl = true) (hfl : fl = true → ∀ j, j < m → ∀ c, c ∈ gx j → plain0 c = true) : ∀ j, j < m → ∀ c, c ∈ gx j → plain0 c = true := by
  unfold plainUpTo at hf
  cases fl with
  | true => exact hfl rfl
  | false =>
    simp only [Bool.false_or, Bool.and_eq_true] at hf
    intro j hj c hc
    exact (List.all_eq_true.1 ((List.all_eq_true.1 hf.2) j (List.mem_range.2 hj))) c hc

/-- The cells of a row that has grown. -/
theorem cat_cells {sz len m nc : Nat} {gs gx : Nat → List T} {olds news : List Value} {z : Array Value} (hol : olds.length = len * sz)
    (hos : ∀ j o c, j < len → (gs j)[o]? = some c → ∃ u, olds[j * sz + o]? = some u ∧ u.oneCell' = true ∧ g.VR h w c u)
    {v : Value} {fl : Bool} (hs : Src P g h w sz v m gx fl news) (ver : Nat) (fl' : Bool) {j o : Nat} {c : T} (hj : j < len + m) (hc : ((catBlk ver sz len m gs gx fl').get j)[o]? = some c) :
    ∃ u, (olds.toArray ++ news.toArray ++ Builtin.zeroCells z (nc - (len + m)))[0 + j * sz + o]? = some u ∧ u.oneCell' = true ∧ g.VR h w c u := by
  simp only [catBlk, Bool.cond_eq_ite] at hc
  have key : ∀ (l : List Value) (i : Nat) (u : Value) (A : Array Value), l[i]? = some u → (l.toArray ++ A)[i]? = some u := by
    intro l i u A hl
    have hi : i < l.length := by
      rcases Nat.lt_or_ge i l.length with hq | hq
      · exact hq
      · rw [List.getElem?_eq_none hq] at hl; cases hl
    rw [Array.getElem?_append_left (by simpa using hi)]
    simpa using hl
  rw [Array.append_assoc]
  split at hc
  · rename_i hlt
    have hlt := blt_lt hlt
    obtain ⟨u, h1, h2, h3⟩ := hos j o c hlt hc
    exact ⟨u, by rw [Nat.zero_add]; exact key _ _ _ _ h1, h2, h3⟩
  · rename_i hge
    have hge : len ≤ j := by
      rcases Nat.lt_or_ge j len with hq | hq
      · exact absurd (Nat.ble_eq_true_of_le hq) hge
      · exact hq
    obtain ⟨u, h1, h3⟩ := hs.cell (j - len) o c (by omega) hc
    refine ⟨u, ?_, hs.one u (List.mem_of_getElem? h1), h3⟩
    rw [Nat.zero_add]
    have e : j * sz + o = olds.length + ((j - len) * sz + o) := by
      rw [hol, ← Nat.add_assoc, ← Nat.add_mul]
      congr 2
      omega
    rw [Array.getElem?_append_right (by simp [e])]
    simp only [List.size_toArray]
    rw [show j * sz + o - olds.length = (j - len) * sz + o by omega]
    exact key _ _ _ _ h1

theorem cat_lens {sz len m : Nat} {gs gx : Nat → List T} {news : List Value} (hls : ∀ j, j < len → (gs j).length = sz) {v : Value} {fl : Bool} (hs : Src P g h w sz v m gx fl news) (ver : Nat) (fl' : Bool) :
    ∀ j, j < len + m → ((catBlk ver sz len m gs gx fl').get j).length = sz := by
  intro j hj
  simp only [catBlk, Bool.cond_eq_ite]
  split
  · rename_i hlt; exact hls j (blt_lt hlt)
  · rename_i hge
    have hge : len ≤ j := by
      rcases Nat.lt_or_ge j len with hq | hq
      · exact absurd (Nat.ble_eq_true_of_le hq) hge
      · exact hq
    exact hs.lens _ (by omega)

theorem cat_flat {sz len m : Nat} {gs gx : Nat → List T} (ver : Nat) (fl' : Bool) (h1 : ∀ j, j < len → ∀ c, c ∈ gs j → plain0 c = true) (h2 : ∀ j, j < m → ∀ c, c ∈ gx j → plain0 c = true) :
    ∀ j, j < len + m → ∀ c, c ∈ (catBlk ver sz len m gs gx fl').get j → plain0 c = true := by
  intro j hj c hc
  simp only [catBlk, Bool.cond_eq_ite] at hc
  split at hc
  · rename_i hlt; exact h1 j (blt_lt hlt) c hc
  · rename_i hge
    have hge : len ≤ j := by
      rcases Nat.lt_or_ge j len with hq | hq
      · exact absurd (Nat.ble_eq_true_of_le hq) hge
      · exact hq
    exact h2 (j - len) (by omega) c hc

theorem cat_size {sz len m nc : Nat} {olds news : List Value} {z : Array Value} (hol : olds.length = len * sz) (hn : news.length = m * sz) (hz : z.size = sz) (hnc : len + m ≤ nc) :
    (olds.toArray ++ news.toArray ++ Builtin.zeroCells z (nc - (len + m))).size = nc * sz := by
  simp only [Array.size_append, List.size_toArray, hol, hn, size_zeroCells, hz]
  rw [← Nat.add_mul, ← Nat.add_mul]
  congr 1
  omega

theorem grow_res (hr : HR g h w) {sz len m nc : Nat} {gs gx : Nat → List T} {olds news : List Value} {z : Array Value} {e : TypeId} (hol : olds.length = len * sz)
    (hls : ∀ j, j < len → (gs j).length = sz) (hos : ∀ j o c, j < len → (gs j)[o]? = some c → ∃ u, olds[j * sz + o]? = some u ∧ u.oneCell' = true ∧ g.VR h w c u)
    {v : Value} {fl : Bool} (hs : Src P g h w sz v m gx fl news) (fl' : Bool) (hfl : fl' = true → (∀ j, j < len → ∀ c, c ∈ gs j → plain0 c = true) ∧ ∀ j, j < m → ∀ c, c ∈ gx j → plain0 c = true)
    (hz : z.size = sz) (hnc : len + m ≤ nc) :
    Res g h w (.own h.length 0 0 (len + m) none) (h ++ [catBlk 0 sz len m gs gx fl']) (.slice (some ⟨w.heap.size, 0, none⟩) (len + m) nc)
      (w.drew.alloc (.cells (olds.toArray ++ news.toArray ++ Builtin.zeroCells z (nc - (len + m))) e)) := by
  have hsz := cat_size hol hs.size hz hnc
  obtain ⟨g', e1, _, hr', hkeep, hfr⟩ := hr.alloc (w' := w.drew.alloc (.cells (olds.toArray ++ news.toArray ++ Builtin.zeroCells z (nc - (len + m))) e)) (cb := w.heap.size) (sh := 0) (e := e)
    (b' := catBlk 0 sz len m gs gx fl') (by simp) (fun k hk => RowKit.Below.heap_alloc w.drew _ _ hk) (heap_new w.drew _) (Nat.le_refl _)
    (by rw [hsz, Nat.zero_add]; exact Nat.mul_le_mul_right _ hnc) (cat_lens hls hs 0 fl') (fun j o c hj ho => cat_cells hol hos hs 0 fl' hj ho) (fun hf => cat_flat 0 fl' (hfl hf).1 (hfl hf).2) rfl rfl rfl
  exact ⟨g', hr', .own _ _ _ _ _ _ _ (at_end h _) (Nat.le_refl _) rfl fun _ => ⟨_, _, nc, _, e1, rfl, rfl, fun _ => by simp, hnc, fun _ hm => (by cases hm), by simp [catBlk], ⟨_, e, heap_new w.drew _, by rw [hsz]; simp [catBlk]⟩⟩, hkeep, hfr⟩

theorem Src.one_cell {sz m : Nat} {v : Value} {gx : Nat → List T} {fl : Bool} {news : List Value} (hs : Src P g h w sz v m gx fl news) :
    ∀ j o c, j < m → (gx j)[o]? = some c → ∃ u, news[j * sz + o]? = some u ∧ u.oneCell' = true ∧ g.VR h w c u := by
  intro j o c hj ho
  obtain ⟨u, h1, h2⟩ := hs.cell j o c hj ho
  exact ⟨u, h1, hs.one u (List.mem_of_getElem? h1), h2⟩

theorem xTy_ok {tx : TypeId} (hx : ((elemTy P tx).isSome || strTy P tx) = true) : ∃ d, P.underlying tx = some d ∧ ∀ k, d ≠ .int k := by
  rcases Bool.or_eq_true _ _ ▸ hx with h1 | h1
  · obtain ⟨e, he⟩ := Option.isSome_iff_exists.1 h1
    exact ⟨_, elemTy_eq he, fun k hk => by cases hk⟩
  · exact ⟨_, strTy_eq h1, fun k hk => by cases hk⟩

theorem lt_of_get {α : Type} {l : List α} {i : Nat} {x : α} (hb : l[i]? = some x) : i < l.length := by
  rcases Nat.lt_or_ge i l.length with hq | hq
  · exact hq
  · rw [List.getElem?_eq_none hq] at hb; cases hb

theorem room_is {cb n : Nat} {arr : Array Value} {e : TypeId} (hh : w.heap[cb]? = some (.cells arr e (0, 0))) (hn : room w cb n) : n ≤ arr.size := by
  obtain ⟨a', e'', q1, q2⟩ := hn
  rw [hh] at q1
  simp only [Option.some.injEq, Obj.cells.injEq] at q1
  rw [q1.1]; exact q2

/-- Some elements of a block are written. -/
theorem put_res (hr : HR g h w) {i : Nat} {b : Blk} (hb : h[i]? = some b) {cb sh : Nat} {arr : Array Value} {e : TypeId} (hok : BlkOk w g h i b cb sh arr e) {p m : Nat} {gx : Nat → List T} {news : List Value}
    (hl : ∀ j, j < m → (gx j).length = b.sz) (hn : news.length = m * b.sz) (hc : ∀ j o c, j < m → (gx j)[o]? = some c → ∃ u, news[j * b.sz + o]? = some u ∧ u.oneCell' = true ∧ g.VR h w c u)
    (fl' : Bool) (hfl : fl' = true → b.flat = true ∧ ∀ j, j < m → ∀ c, c ∈ gx j → plain0 c = true) (hfits : sh + p * b.sz + news.length ≤ arr.size) :
    ∃ g', g'.φ i = some (cb, sh) ∧ HR g' (h.set i { b with get := fun j => bif Nat.ble p j && Nat.blt j (p + m) then gx (j - p) else b.get j, flat := fl' }) (w.setRow cb (arr.toList.take (sh + p * b.sz) ++ news ++ arr.toList.drop (sh + p * b.sz + news.length)).toArray) ∧
      Keep g h w g' (h.set i { b with get := fun j => bif Nat.ble p j && Nat.blt j (p + m) then gx (j - p) else b.get j, flat := fl' }) (w.setRow cb (arr.toList.take (sh + p * b.sz) ++ news ++ arr.toList.drop (sh + p * b.sz + news.length)).toArray) ∧
      FrO g w g' (w.setRow cb (arr.toList.take (sh + p * b.sz) ++ news ++ arr.toList.drop (sh + p * b.sz + news.length)).toArray) := by
  have hws := written_size arr news _ hfits
  have inr : ∀ j, (Nat.ble p j && Nat.blt j (p + m)) = true ↔ p ≤ j ∧ j < p + m := by
    intro j
    simp only [Bool.and_eq_true]
    exact ⟨fun ⟨q1, q2⟩ => ⟨ble_le q1, blt_lt q2⟩, fun ⟨q1, q2⟩ => ⟨Nat.ble_eq_true_of_le q1, Nat.ble_eq_true_of_le q2⟩⟩
  obtain ⟨g', f1, f2, _, hr', hkeep, hfr⟩ := hr.change hb (w' := w.setRow cb (arr.toList.take (sh + p * b.sz) ++ news ++ arr.toList.drop (sh + p * b.sz + news.length)).toArray) (cb := cb) (sh := sh) (e := e)
    (b' := { b with get := fun j => bif Nat.ble p j && Nat.blt j (p + m) then gx (j - p) else b.get j, flat := fl' })
    (by simp [World.setRow]) (fun k _ hne => setRow_other w cb k _ hne) (setRow_at w cb arr _ e hok.heap) (.inl hok.own) (fun n hn => by rw [hws]; exact room_is hok.heap hn) (Nat.le_refl _) (fun _ => ⟨rfl, Nat.le_refl _, hok.φ⟩) (by rw [hws]; exact hok.room)
    (fun j hj => by
      simp only [Bool.cond_eq_ite]
      split
      · rename_i hin
        have := (inr j).1 hin
        exact hl _ (by omega)
      · exact hok.len j hj)
    (fun j o c hj hc' => by
      simp only [Bool.cond_eq_ite] at hc' hj ⊢
      rw [written arr _ _ _ hfits]
      have ho : o < b.sz := by
        have hlt := lt_of_get hc'
        split at hlt
        · rename_i hin
          rw [hl (j - p) (by have := (inr j).1 hin; omega)] at hlt; exact hlt
        · rw [hok.len j hj] at hlt; exact hlt
      split at hc'
      · rename_i hin
        have hin := (inr j).1 hin
        obtain ⟨u, u1, u2, u3⟩ := hc (j - p) o c (by omega) hc'
        have hj1 : p * b.sz ≤ j * b.sz := Nat.mul_le_mul_right _ hin.1
        have hj2 : (j + 1) * b.sz ≤ (p + m) * b.sz := Nat.mul_le_mul_right _ hin.2
        rw [Nat.add_mul, Nat.one_mul, Nat.add_mul p] at hj2
        have hj3 : (j - p) * b.sz = j * b.sz - p * b.sz := Nat.sub_mul _ _ _
        rw [if_pos ⟨by omega, by rw [hn]; omega⟩]
        refine ⟨u, ?_, u2, u3⟩
        rw [← u1, hj3]
        congr 1
        omega
      · rename_i hout
        have hout := fun q => hout ((inr j).2 q)
        rw [if_neg ?_]
        · exact hok.cell j o c hj hc'
        · rw [hn]
          rintro ⟨q1, q2⟩
          apply hout
          constructor
          · rcases Nat.lt_or_ge j p with hq | hq
            · have : (j + 1) * b.sz ≤ p * b.sz := Nat.mul_le_mul_right _ hq
              rw [Nat.add_mul, Nat.one_mul] at this
              omega
            · exact hq
          · rcases Nat.lt_or_ge j (p + m) with hq | hq
            · exact hq
            · have : (p + m) * b.sz ≤ j * b.sz := Nat.mul_le_mul_right _ hq
              rw [Nat.add_mul p] at this
              omega)
    (fun hf j hj c hc' => by
      simp only [Bool.cond_eq_ite] at hc'
      split at hc'
      · rename_i hin
        exact (hfl hf).2 _ (by have := (inr j).1 hin; omega) c hc'
      · exact hok.flat (hfl hf).1 j hj c hc') rfl rfl rfl
  exact ⟨g', f1, hr', hkeep, hfr⟩

/-- A grown block grows again: in its place, or in new memory. -/
theorem rehome_res (hr : HR g h w) {i : Nat} {b : Blk} (hb : h[i]? = some b) {len m : Nat} {gs gx : Nat → List T} {w' : World} {cb sh : Nat} {arr : Array Value} {e : TypeId} (fl' : Bool) (hsize : w.heap.size ≤ w'.heap.size)
    (hheap : ∀ k, k < w.heap.size → k ≠ cb → w'.heap[k]? = w.heap[k]?) (hcb : w'.heap[cb]? = some (.cells arr e (0, 0))) (hplace : g.own cb = some (.inl i) ∨ w.heap.size ≤ cb) (hrm : ∀ n, room w cb n → n ≤ arr.size)
    (hroom : sh + (len + m) * b.sz ≤ arr.size) (hlen : ∀ j, j < len + m → ((catBlk (b.ver + 1) b.sz len m gs gx fl').get j).length = b.sz)
    (hcell : ∀ j o c, j < len + m → ((catBlk (b.ver + 1) b.sz len m gs gx fl').get j)[o]? = some c → ∃ v, arr[sh + j * b.sz + o]? = some v ∧ v.oneCell' = true ∧ g.VR h w c v)
    (hflat : fl' = true → ∀ j, j < len + m → ∀ c, c ∈ (catBlk (b.ver + 1) b.sz len m gs gx fl').get j → plain0 c = true) (hos : w'.os = w.os) (htape : w'.tape = w.tape) (hout : w'.output = w.output)
    {nc : Nat} {ad : Addr} (hads : ad.spot = none) (had : 0 < nc → ad = ⟨cb, sh, none⟩) (hnc : len + m ≤ nc) (hroom2 : sh + nc * b.sz ≤ arr.size) :
    Res g h w (.own i (b.ver + 1) 0 (len + m) none) (h.set i (catBlk (b.ver + 1) b.sz len m gs gx fl')) (.slice (some ad) (len + m) nc) w' := by
  obtain ⟨g', f1, f2, _, hr', hkeep, hfr⟩ := hr.change hb (w' := w') (cb := cb) (sh := sh) (e := e) (b' := catBlk (b.ver + 1) b.sz len m gs gx fl') hsize hheap hcb hplace hrm
    (Nat.le_succ _) (fun q => by simp [catBlk] at q) hroom hlen hcell hflat hos htape hout
  exact ⟨g', hr', .own _ _ _ _ _ _ _ (List.getElem?_set_self (lt_of_get hb)) (Nat.le_refl _) rfl fun _ => ⟨cb, sh, nc, ad, f1, rfl, hads, fun hp => by simpa using had hp, hnc, fun _ hm => (by cases hm), by simp [catBlk], ⟨arr, e, hcb, by simpa [catBlk] using hroom2⟩⟩, hkeep, hfr⟩

theorem semAppend_sound {t tx ty : TypeId} {s x : T} {cs cx : Value} {k : Kont R} {r : R} (hk : semAppend P t s x h k = some r) (hx' : ((elemTy P tx).isSome || strTy P tx) = true) (hr : HR g h w) (hs : g.VR h w s cs) (hx : g.VR h w x cx) :
    ∃ y h' wr, k y h' wr = some r ∧ (wr = false → h' = h) ∧ ∃ v w', (Builtin.append_ #[t, tx] ty #[cs, cx]).run P w = .ok v w' ∧ Res g h w y h' v w' := by
  unfold semAppend at hk
  have hxt := xTy_ok hx'
  cases he : elemTy P t with
  | none => simp [he] at hk
  | some e =>
    rw [he] at hk
    obtain ⟨hz, hk⟩ := bif_none hk
    obtain ⟨z, hzr, hkn, hz1, hz2, hz3, hz4⟩ := zero_run (P := P) (g := g) (h := h) (w := w) hz
    obtain ⟨z', hzr', _⟩ := zero_run (P := P) (g := g) (h := h) (w := w.drew) hz
    have hzz : z' = z := by
      obtain ⟨i, hi⟩ := known_info hkn
      cases hiz : i.zero with
      | none => simp [zeroValue, typeInfo, hi, hiz] at hzr
      | some q =>
        simp only [zeroValue, typeInfo, Sem.run_bind, run_program, Result.andThen_ok, hi, Sem.run_pure, hiz, Result.ok.injEq] at hzr hzr'
        exact hzr'.1.symm.trans hzr.1
    subst hzz
    obtain ⟨m, gx, fl, news, hk, hsrc⟩ := source_sound (P := P) hk hr hx
    have ht := elemTy_eq he
    have roomle : ∀ n, appRoom P e n = true → n * (bytesTy P e + 1) ≤ 70368744177664 := fun n hn => ble_le hn
    cases s with
    | nils =>
      dsimp only at hk
      obtain rfl := hs.nils
      rcases bif_some hk with ⟨hm, hk⟩ | ⟨hm, hk⟩
      · have hm : m = 0 := by simpa using hm
        subst hm
        exact ⟨_, _, _, hk, fun _ => rfl, _, w, run_append_in (P := P) ht hkn hxt hsrc (Nat.le_refl _) rfl, .pure hr (.imm _ _ .nils)⟩
      · have hm : m ≠ 0 := by simpa using hm
        obtain ⟨hroom, hk⟩ := bif_none hk
        obtain ⟨nc, hnc, hrun⟩ := run_append_out (P := P) (w := w) (ty := ty) (base := none) (len := 0) (cc := 0) (olds := []) ht hkn hzr' hxt hsrc (by simp [Builtin.firstCells]) (by omega) (by simpa using roomle _ hroom)
        refine ⟨_, _, _, hk, (fun hh => by cases hh), _, _, hrun, ?_⟩
        have := grow_res (P := P) (e := e) hr (sz := szTy P e) (len := 0) (gs := fun _ => []) (olds := []) (by simp) (fun j hj => by omega) (fun j o c hj => by omega) hsrc (plainUpTo m gx fl)
          (fun hf => ⟨fun j hj => by omega, plainUpTo_all hf hsrc.flat⟩) hz2 hnc
        have eb : catBlk 0 (szTy P e) 0 m (fun _ => []) gx (plainUpTo m gx fl) = ⟨0, szTy P e, m, gx, plainUpTo m gx fl, false⟩ := by
          simp only [catBlk, Nat.zero_add, Nat.sub_zero]
          rfl
        rw [eb] at this
        simpa using this
    | view sz n gs cap =>
      dsimp only at hk
      obtain ⟨hsz, hk⟩ := bif_none hk
      have hsz : sz = szTy P e := by simpa using hsz
      subst hsz
      obtain ⟨n', gs', fl0, olds, e0, hold⟩ := source_sound (P := P) (R := Nat × (Nat → List T) × Bool) (sz := szTy P e) (x := .view (szTy P e) n gs cap) (k := fun a b c => some (a, b, c)) (r := (n, gs, false)) (by simp [source]) hr hs
      simp only [Option.some.injEq, Prod.mk.injEq] at e0
      obtain ⟨rfl, rfl, rfl⟩ := e0
      cases hs.view with
      | view _ _ _ _ a cc vs hsp hcap hn hU hl hcl hv =>
        rcases bif_some hk with ⟨hm, hk⟩ | ⟨hm, hk⟩
        · have hm : m = 0 := by simpa using hm
          subst hm
          refine ⟨_, _, _, hk, fun _ => rfl, _, w, run_append_in (P := P) ht hkn hxt hsrc (by omega) ?_, .pure hr hs⟩
          have : news = [] := by have := hsrc.size; simp at this; exact this
          subst this
          simp [storeCells]
        · cases cap with
          | none => cases hk
          | some c =>
            obtain rfl := hcap c rfl
            obtain ⟨hc, hk⟩ := bif_none hk
            simp only [Bool.and_eq_true] at hc
            obtain ⟨hgt, hroom⟩ := hc
            have hgt := blt_lt hgt
            obtain ⟨nc, hnc, hrun⟩ := run_append_out (P := P) (w := w) (ty := ty) (olds := olds) ht hkn hzr' hxt hsrc hold.runD hgt (roomle _ hroom)
            exact ⟨_, _, _, hk, (fun hh => by cases hh), _, _, hrun, grow_res hr hold.size hold.lens hold.one_cell hsrc _ (fun hf => by
              simp only [Bool.and_eq_true] at hf
              exact ⟨plainUpTo_all hf.1 hold.flat, plainUpTo_all hf.2 hsrc.flat⟩) hz2 hnc⟩
    | own i ver off len cap =>
      dsimp only at hk
      obtain ⟨b, hb, hver, hk⟩ := blk_of hk
      obtain ⟨hc, hk⟩ := bif_none hk
      simp only [Bool.and_eq_true, beq_iff_eq] at hc
      obtain ⟨hsz, hle⟩ := hc
      have hle := ble_le hle
      obtain ⟨n', gs', fl0, olds, e0, hold⟩ := source_sound (P := P) (R := Nat × (Nat → List T) × Bool) (sz := szTy P e) (x := .own i ver off len cap) (k := fun a b c => some (a, b, c)) (r := (len, (fun j => b.get (off + j)), b.flat))
        (by simp [source, withBlk, hb, hver, hsz, Nat.ble_eq_true_of_le hle]) hr hs
      have e0 := e0.symm
      simp only [Option.some.injEq, Prod.mk.injEq] at e0
      obtain ⟨rfl, rfl, rfl⟩ := e0
      obtain ⟨cb, sh, cc, ad, e1, rfl, es, e2, e3, e4, e5, e6⟩ := own_slice hb hver hs
      obtain ⟨cb', sh', arr, e', hok⟩ := hr.blk i b hb
      rw [hok.φ] at e1
      obtain ⟨rfl, rfl⟩ := Prod.mk.inj (Option.some.inj e1)
      rcases bif_some hk with ⟨hm, hk⟩ | ⟨hm, hk⟩
      · have hm : m = 0 := by simpa using hm
        subst hm
        refine ⟨_, _, _, hk, fun _ => rfl, _, w, run_append_in (P := P) ht hkn hxt hsrc (by omega) ?_, .pure hr hs⟩
        have : news = [] := by have := hsrc.size; simp at this; exact this
        subst this
        simp [storeCells]
      · have hm : m ≠ 0 := by simpa using hm
        obtain ⟨hroom, hk⟩ := bif_none hk
        have hroom2 := room_is hok.heap e6
        rw [← hsz] at hsrc hold hz2
        have inplace : len + m ≤ cc → (Builtin.append_ #[t, tx] ty #[.slice (some ad) len cc, cx]).run P w =
            .ok (.slice (some ad) (len + m) cc) (w.setRow cb' (arr.toList.take (sh' + (off + len) * b.sz) ++ news ++ arr.toList.drop (sh' + (off + len) * b.sz + news.length)).toArray) ∧ sh' + (off + len) * b.sz + news.length ≤ arr.size := by
          intro hfit
          have hfits : sh' + (off + len) * b.sz + news.length ≤ arr.size := by
            rw [hsrc.size]
            refine Nat.le_trans ?_ hroom2
            have : (off + len) * b.sz + m * b.sz ≤ (off + cc) * b.sz := by rw [← Nat.add_mul]; exact Nat.mul_le_mul_right _ (by omega)
            omega
          refine ⟨run_append_in (P := P) ht hkn hxt (hsz ▸ hsrc) hfit ?_, hfits⟩
          rw [e2 (by omega)]
          dsimp only
          rw [add_none, ← hsz, Nat.add_assoc, ← Nat.add_mul]
          have := run_storeCells_at P cb' (sh' + (off + len) * b.sz) e' news 0 arr w hok.heap (by simpa using hfits) hsrc.one
          simpa using this
        have grows : cc < len + m →
            ∃ nc, len + m ≤ nc ∧ (Builtin.append_ #[t, tx] ty #[.slice (some ad) len cc, cx]).run P w = .ok (.slice (some ⟨w.heap.size, 0, none⟩) (len + m) nc) (w.drew.alloc (.cells (olds.toArray ++ news.toArray ++ Builtin.zeroCells z'.cells (nc - (len + m))) e)) :=
          fun hgt => run_append_out (P := P) (w := w) (ty := ty) (olds := olds) ht hkn hzr' hxt (hsz ▸ hsrc) (hsz ▸ hold).runD hgt (roomle _ hroom)
        have hfl : (b.flat && plainUpTo m gx fl) = true → (∀ j, j < len → ∀ c, c ∈ b.get (off + j) → plain0 c = true) ∧ ∀ j, j < m → ∀ c, c ∈ gx j → plain0 c = true := by
          intro hf
          simp only [Bool.and_eq_true] at hf
          exact ⟨hold.flat hf.1, plainUpTo_all hf.2 hsrc.flat⟩
        cases cap with
        | some c =>
          obtain ⟨rfl, hcn⟩ := e4 c rfl
          dsimp only at hk
          rcases bif_some hk with ⟨hfit, hk⟩ | ⟨hfit, hk⟩
          · have hfit := ble_le hfit
            obtain ⟨_, hk⟩ := bif_none hk
            obtain ⟨hrun, hfits⟩ := inplace hfit
            obtain ⟨g', f1, hr', hkeep, hfr⟩ := put_res hr hb hok (p := off + len) (m := m) hsrc.lens hsrc.size hsrc.one_cell (b.flat && plainUpTo m gx fl) (fun hf => by
              simp only [Bool.and_eq_true] at hf
              exact ⟨hf.1, plainUpTo_all hf.2 hsrc.flat⟩) hfits
            refine ⟨_, _, _, hk, (fun hh => by cases hh), _, _, hrun, g', hr', .own _ _ _ _ _ _ _ (List.getElem?_set_self (lt_of_get hb)) (Nat.le_of_eq hver.symm) rfl fun _ => ⟨cb', sh', cc, ad, f1, rfl, es, e2, hfit, fun m' hm' => ?_, ?_, ⟨_, e', setRow_at w cb' arr _ e' hok.heap, by rw [written_size arr news _ hfits]; exact hroom2⟩⟩, hkeep, hfr⟩
            · simp only [Option.some.injEq] at hm'; subst hm'; exact ⟨rfl, hcn⟩
            · dsimp only; omega
          · have hgt : cc < len + m := by
              rcases Nat.lt_or_ge cc (len + m) with hq | hq
              · exact hq
              · rw [Nat.ble_eq_true_of_le hq] at hfit; cases hfit
            obtain ⟨nc, hnc, hrun⟩ := grows hgt
            exact ⟨_, _, _, hk, (fun hh => by cases hh), _, _, hrun, grow_res (P := P) (e := e) hr hold.size hold.lens hold.one_cell hsrc _ hfl hz2 hnc⟩
        | none =>
          dsimp only at hk
          rw [← hver] at hk
          refine ⟨_, _, _, hk, (fun hh => by cases hh), ?_⟩
          rcases Nat.lt_or_ge cc (len + m) with hgt | hfit
          · obtain ⟨nc, hnc, hrun⟩ := grows hgt
            refine ⟨_, _, hrun, ?_⟩
            have hsz' := cat_size (nc := nc) hold.size hsrc.size hz2 hnc
            exact rehome_res hr hb (cb := w.heap.size) (sh := 0) (arr := olds.toArray ++ news.toArray ++ Builtin.zeroCells z'.cells (nc - (len + m))) (e := e) _ (by simp) (fun k hk _ => RowKit.Below.heap_alloc w.drew _ _ hk) (heap_new w.drew _) (.inr (Nat.le_refl _))
              (fun n hn => by obtain ⟨a', e'', q1, _⟩ := hn; have := lt_of_heap q1; omega) (by rw [hsz', Nat.zero_add]; exact Nat.mul_le_mul_right _ hnc)
              (cat_lens hold.lens hsrc _ _) (fun j o c hj ho => cat_cells hold.size hold.one_cell hsrc _ _ hj ho) (fun hf => cat_flat _ _ (hfl hf).1 (hfl hf).2) rfl rfl rfl rfl (fun _ => rfl) hnc (by rw [hsz', Nat.zero_add]; exact Nat.le_refl _)
          · obtain ⟨hrun, hfits⟩ := inplace hfit
            refine ⟨_, _, hrun, ?_⟩
            have hws := written_size arr news _ hfits
            refine rehome_res hr hb (cb := cb') (sh := sh' + off * b.sz) (arr := (arr.toList.take (sh' + (off + len) * b.sz) ++ news ++ arr.toList.drop (sh' + (off + len) * b.sz + news.length)).toArray) (e := e') _ (by simp [World.setRow]) (fun k _ hne => setRow_other w cb' k _ hne) (setRow_at w cb' arr _ e' hok.heap) (.inl hok.own)
              (fun n hn => by rw [hws]; exact room_is hok.heap hn) ?_ (cat_lens hold.lens hsrc _ _) (fun j o c hj ho => ?_) (fun hf => cat_flat _ _ (hfl hf).1 (hfl hf).2) rfl rfl rfl es e2 hfit ?_
            · rw [hws]
              refine Nat.le_trans ?_ hroom2
              have : off * b.sz + (len + m) * b.sz ≤ (off + cc) * b.sz := by rw [← Nat.add_mul]; exact Nat.mul_le_mul_right _ (by omega)
              omega
            · rw [written arr _ _ _ hfits]
              have hos : o < b.sz := by
                have hlt := lt_of_get ho
                rw [cat_lens hold.lens hsrc _ _ j hj] at hlt
                exact hlt
              simp only [catBlk, Bool.cond_eq_ite] at ho
              rw [Nat.add_mul off len] at *
              split at ho
              · rename_i hlt
                have hlt := blt_lt hlt
                have hj2 : (j + 1) * b.sz ≤ len * b.sz := Nat.mul_le_mul_right _ hlt
                rw [Nat.add_mul, Nat.one_mul] at hj2
                rw [if_neg (by omega)]
                have := hok.cell (off + j) o c (by omega) ho
                rw [Nat.add_mul, ← Nat.add_assoc] at this
                exact this
              · rename_i hge
                have hge : len ≤ j := by
                  rcases Nat.lt_or_ge j len with hq | hq
                  · exact absurd (Nat.ble_eq_true_of_le hq) hge
                  · exact hq
                obtain ⟨u, u1, u2, u3⟩ := hsrc.one_cell (j - len) o c (by omega) ho
                have hj1 : len * b.sz ≤ j * b.sz := Nat.mul_le_mul_right _ hge
                have hj2 : (j + 1) * b.sz ≤ (len + m) * b.sz := Nat.mul_le_mul_right _ hj
                rw [Nat.add_mul, Nat.one_mul, Nat.add_mul len] at hj2
                have hj3 : (j - len) * b.sz = j * b.sz - len * b.sz := Nat.sub_mul _ _ _
                rw [if_pos ⟨by omega, by rw [hsrc.size]; omega⟩]
                refine ⟨u, ?_, u2, u3⟩
                rw [← u1, hj3]
                congr 1
                omega
            · rw [hws]
              refine Nat.le_trans ?_ hroom2
              rw [Nat.add_mul]
              omega
    | _ => simp at hk

theorem semCopy_sound {t tx ty : TypeId} {d x : T} {cd cx : Value} {k : Kont R} {r : R} (hk : semCopy P t d x h k = some r) (hr : HR g h w) (hd : g.VR h w d cd) (hx : g.VR h w x cx) :
    ∃ y h' wr, k y h' wr = some r ∧ (wr = false → h' = h) ∧ ∃ v w', (Builtin.copy_ #[t, tx] ty #[cd, cx]).run P w = .ok v w' ∧ Res g h w y h' v w' := by
  unfold semCopy at hk
  cases he : elemTy P t with
  | none => simp [he] at hk
  | some e =>
    rw [he] at hk
    obtain ⟨hkn, hk⟩ := bif_none hk
    have ht := elemTy_eq he
    obtain ⟨m, gx, fl, news, hk, hsrc⟩ := source_sound (P := P) hk hr hx
    cases d with
    | nils =>
      dsimp only at hk
      obtain rfl := hd.nils
      refine ⟨_, _, _, hk, fun _ => rfl, goInt 0, w, ?_, .pure hr (.imm _ _ (.int _ _))⟩
      have h0 := hsrc.run 0 (Nat.zero_le _)
      simp only [Nat.zero_mul, List.take_zero] at h0
      unfold Builtin.copy_
      simp only [List.getElem?_toArray, List.getElem?_cons_zero, List.getElem?_cons_succ, Sem.run_bind, run_underlying' ht, Result.andThen_ok, hsrc.len, run_size hkn]
      rw [show Nat.min m 0 = 0 from Nat.min_zero m, h0]
      rfl
    | own i ver off len cap =>
      dsimp only at hk
      obtain ⟨b, hb, hver, hk⟩ := blk_of hk
      obtain ⟨hc, hk⟩ := bif_none hk
      simp only [Bool.and_eq_true, beq_iff_eq] at hc
      obtain ⟨hsz, hle⟩ := hc
      have hle := ble_le hle
      obtain ⟨cb, sh, cc, ad, e1, rfl, es, e2, e3, e4, e5, e6⟩ := own_slice hb hver hd
      obtain ⟨cb', sh', arr, e', hok⟩ := hr.blk i b hb
      rw [hok.φ] at e1
      obtain ⟨rfl, rfl⟩ := Prod.mk.inj (Option.some.inj e1)
      have hroom2 := room_is hok.heap e6
      rw [← hsz] at hsrc
      have hmin : Nat.min m len ≤ m := Nat.min_le_left _ _
      have hmin2 : Nat.min m len ≤ len := Nat.min_le_right _ _
      have hnl : (news.take (Nat.min m len * b.sz)).length = Nat.min m len * b.sz := by
        rw [List.length_take, hsrc.size]
        exact Nat.min_eq_left (Nat.mul_le_mul_right _ hmin)
      have hfits : sh' + off * b.sz + (news.take (Nat.min m len * b.sz)).length ≤ arr.size := by
        rw [hnl]
        refine Nat.le_trans ?_ hroom2
        have : off * b.sz + Nat.min m len * b.sz ≤ (off + cc) * b.sz := by rw [← Nat.add_mul]; exact Nat.mul_le_mul_right _ (by omega)
        omega
      obtain ⟨g', f1, hr', hkeep, hfr⟩ := put_res hr hb hok (p := off) (m := Nat.min m len) (gx := gx) (news := news.take (Nat.min m len * b.sz)) (fun j hj => hsrc.lens j (by omega)) hnl (fun j o c hj ho => by
          obtain ⟨u, u1, u2, u3⟩ := hsrc.one_cell j o c (by omega) ho
          refine ⟨u, ?_, u2, u3⟩
          rw [List.getElem?_take, if_pos ?_]
          · exact u1
          · have ho' := lt_of_get ho
            rw [hsrc.lens j (by omega)] at ho'
            have : (j + 1) * b.sz ≤ Nat.min m len * b.sz := Nat.mul_le_mul_right _ hj
            rw [Nat.add_mul, Nat.one_mul] at this
            omega) (b.flat && plainUpTo m gx fl) (fun hf => by
          simp only [Bool.and_eq_true] at hf
          exact ⟨hf.1, fun j hj => plainUpTo_all hf.2 hsrc.flat j (by omega)⟩) hfits
      refine ⟨_, _, _, hk, (fun hh => by cases hh), goInt (Nat.min m len : Nat), _, ?_, g', hr', .imm _ _ (.int _ _), hkeep, hfr⟩
      have hst : (storeCells ad (news.take (Nat.min m len * b.sz))).run P w = .ok () (w.setRow cb' (arr.toList.take (sh' + off * b.sz) ++ news.take (Nat.min m len * b.sz) ++ arr.toList.drop (sh' + off * b.sz + (news.take (Nat.min m len * b.sz)).length)).toArray) := by
        by_cases h0 : 0 < cc
        · rw [e2 h0]
          have := run_storeCells_at P cb' (sh' + off * b.sz) e' (news.take (Nat.min m len * b.sz)) 0 arr w hok.heap (by simpa using hfits) (fun v hv => hsrc.one v (List.mem_of_mem_take hv))
          simpa using this
        · have e0 : Nat.min m len = 0 := by omega
          rw [e0]
          simp only [Nat.zero_mul, List.take_zero, storeCells, List.append_nil, List.length_nil, Nat.add_zero, List.take_append_drop, Array.toArray_toList]
          rw [setRow_self w cb' arr e' (0, 0) hok.heap]
          rfl
      unfold Builtin.copy_
      simp only [List.getElem?_toArray, List.getElem?_cons_zero, List.getElem?_cons_succ, Sem.run_bind, run_underlying' ht, Result.andThen_ok, hsrc.len, run_size hkn]
      rw [← hsz, hsrc.run _ hmin]
      simp only [Result.andThen_ok, hst]
      rfl
    | _ => simp at hk
end
end Go.Ab
