/- What a typed argument looks like. -/
import Derived.Test.YtkiedolofnakoaaDoorP3
set_option linter.all false
namespace Go.Ab

section
variable {P : Program} {H : Type} {t : TypeId} {ts : List T} {d : DataW H}

/-- Parts, one behind the other. -/
def CTs (P : Program) : List TypeId → List (List T) → List (DataW H) → Prop
  | [], [], [] => True
  | t :: l, p :: ps, d :: ds => CT P t p d ∧ CTs P l ps ds
  | _, _, _ => False

theorem CTs_of : ∀ (l : List TypeId) (parts : List (List T)) (ds : List (DataW H)), parts.length = l.length → ds.length = l.length →
    (∀ (i : Nat) t p d, l[i]? = some t → parts[i]? = some p → ds[i]? = some d → CT P t p d) → CTs P l parts ds
  | [], [], [], _, _, _ => trivial
  | t :: l, p :: ps, d :: ds, h1, h2, h => ⟨h 0 t p d rfl rfl rfl, CTs_of l ps ds (by simpa using h1) (by simpa using h2) fun i t p d a b c => h (i + 1) t p d (by simpa using a) (by simpa using b) (by simpa using c)⟩
  | [], _ :: _, _, h1, _, _ => by simp at h1
  | [], [], _ :: _, _, h2, _ => by simp at h2
  | _ :: _, [], _, h1, _, _ => by simp at h1
  | _ :: _, _ :: _, [], _, h2, _ => by simp at h2

theorem CTs.cons {t : TypeId} {l : List TypeId} {parts : List (List T)} {ds : List (DataW H)} (h : CTs P (t :: l) parts ds) :
    ∃ p ps d ds', parts = p :: ps ∧ ds = d :: ds' ∧ CT P t p d ∧ CTs P l ps ds' := by
  match parts, ds, h with
  | p :: ps, d :: ds', h => exact ⟨p, ps, d, ds', rfl, rfl, h.1, h.2⟩
theorem CTs.nil {parts : List (List T)} {ds : List (DataW H)} (h : CTs P [] parts ds) : parts = [] ∧ ds = [] := by
  match parts, ds, h with
  | [], [], _ => exact ⟨rfl, rfl⟩

theorem CT.bool_inv (ht : P.underlying t = some .bool) (h : CT P t ts d) : ∃ b, ts = [.bool b] ∧ d = .lit (.bool b) := by
  cases h with
  | bool _ b _ => exact ⟨b, rfl, rfl⟩
  | oth _ _ ho => rw [ht] at ho; cases ho
  | int _ _ _ h2 => rw [ht] at h2; cases h2
  | str _ _ h2 => rw [ht] at h2; cases h2
  | nils _ _ h2 => rw [ht] at h2; cases h2
  | view _ _ _ _ _ _ _ h2 => rw [ht] at h2; cases h2
  | thin _ _ _ h2 => rw [ht] at h2; cases h2
  | struct _ _ _ _ h2 => rw [ht] at h2; cases h2
  | array _ _ _ _ _ h2 => rw [ht] at h2; cases h2
theorem CT.int_inv {k : IntKind} (ht : P.underlying t = some (.int k)) (h : CT P t ts d) : ∃ n, ts = [.int k n] ∧ d = .lit (.int k n) ∧ (Lit.int k n).wf = true := by
  cases h with
  | int _ k' n h2 hn =>
    rw [ht] at h2
    obtain rfl : k = k' := by cases h2; rfl
    exact ⟨n, rfl, rfl, hn⟩
  | oth _ _ ho => rw [ht] at ho; cases ho
  | bool _ _ h2 => rw [ht] at h2; cases h2
  | str _ _ h2 => rw [ht] at h2; cases h2
  | nils _ _ h2 => rw [ht] at h2; cases h2
  | view _ _ _ _ _ _ _ h2 => rw [ht] at h2; cases h2
  | thin _ _ _ h2 => rw [ht] at h2; cases h2
  | struct _ _ _ _ h2 => rw [ht] at h2; cases h2
  | array _ _ _ _ _ h2 => rw [ht] at h2; cases h2
theorem CT.str_inv (ht : P.underlying t = some .string) (h : CT P t ts d) : ∃ s, ts = [.str s] ∧ d = .lit (.string s) ∧ s.length ≤ maxLen := by
  cases h with
  | str _ s h2 hs => exact ⟨s, rfl, rfl, hs⟩
  | oth _ _ ho => rw [ht] at ho; cases ho
  | bool _ _ h2 => rw [ht] at h2; cases h2
  | int _ _ _ h2 => rw [ht] at h2; cases h2
  | nils _ _ h2 => rw [ht] at h2; cases h2
  | view _ _ _ _ _ _ _ h2 => rw [ht] at h2; cases h2
  | thin _ _ _ h2 => rw [ht] at h2; cases h2
  | struct _ _ _ _ h2 => rw [ht] at h2; cases h2
  | array _ _ _ _ _ h2 => rw [ht] at h2; cases h2
theorem CT.slice_inv {e : TypeId} (ht : P.underlying t = some (.slice e)) (hz : P.cellsOf e ≠ 0) (h : CT P t ts d) : (ts = [.nils] ∧ d = .nil) ∨
    ∃ n c g elems spare, ts = [.view (P.cellsOf e) n g (some c)] ∧ d = .slice elems spare ∧ elems.length = n ∧ spare.length = c - n ∧ n ≤ c ∧ c ≤ maxLen ∧ ∀ j d, elems[j]? = some d → CT P e (g j) d := by
  cases h with
  | nils _ _ h2 => exact .inl ⟨rfl, rfl⟩
  | view _ e' n c g elems spare h2 he hs hn hc hg =>
    rw [ht] at h2
    obtain rfl : e = e' := by cases h2; rfl
    exact .inr ⟨n, c, g, elems, spare, rfl, rfl, he, hs, hn, hc, hg⟩
  | thin _ e' _ h2 h0 =>
    rw [ht] at h2
    obtain rfl : e = e' := by cases h2; rfl
    exact absurd h0 hz
  | oth _ _ ho => rw [ht] at ho; cases ho
  | bool _ _ h2 => rw [ht] at h2; cases h2
  | int _ _ _ h2 => rw [ht] at h2; cases h2
  | str _ _ h2 => rw [ht] at h2; cases h2
  | struct _ _ _ _ h2 => rw [ht] at h2; cases h2
  | array _ _ _ _ _ h2 => rw [ht] at h2; cases h2
theorem CT.struct_inv {fs : Array Field} (ht : P.underlying t = some (.struct fs)) (h : CT P t ts d) : ∃ parts ds, ts = parts.flatten ∧ d = .agg ds ∧ CTs P (fs.toList.map (·.type)) parts ds := by
  cases h with
  | struct _ fs' parts ds h2 h1 h3 hp =>
    rw [ht] at h2
    obtain rfl : fs = fs' := by cases h2; rfl
    refine ⟨parts, ds, rfl, rfl, CTs_of _ _ _ (by simpa using h1) (by simpa using h3) fun i t p d a b c => ?_⟩
    rw [List.getElem?_map, Option.map_eq_some_iff] at a
    obtain ⟨f, hf, rfl⟩ := a
    exact hp i f p d (by simpa using hf) b c
  | oth _ _ ho => rw [ht] at ho; cases ho
  | bool _ _ h2 => rw [ht] at h2; cases h2
  | int _ _ _ h2 => rw [ht] at h2; cases h2
  | str _ _ h2 => rw [ht] at h2; cases h2
  | nils _ _ h2 => rw [ht] at h2; cases h2
  | view _ _ _ _ _ _ _ h2 => rw [ht] at h2; cases h2
  | thin _ _ _ h2 => rw [ht] at h2; cases h2
  | array _ _ _ _ _ h2 => rw [ht] at h2; cases h2
theorem CT.array_inv {e : TypeId} {n : Nat} (ht : P.underlying t = some (.array n e)) (h : CT P t ts d) : ∃ parts ds, ts = parts.flatten ∧ d = .agg ds ∧ CTs P (List.replicate n e) parts ds := by
  cases h with
  | array _ e' n' parts ds h2 h1 h3 hp =>
    rw [ht] at h2
    obtain ⟨rfl, rfl⟩ : n = n' ∧ e = e' := by cases h2; exact ⟨rfl, rfl⟩
    refine ⟨parts, ds, rfl, rfl, CTs_of _ _ _ (by simpa using h1) (by simpa using h3) fun i t p d a b c => ?_⟩
    have : t = e := by
      have := List.mem_of_getElem? a
      exact (List.mem_replicate.1 this).2
    subst this
    exact hp i p d b c
  | oth _ _ ho => rw [ht] at ho; cases ho
  | bool _ _ h2 => rw [ht] at h2; cases h2
  | int _ _ _ h2 => rw [ht] at h2; cases h2
  | str _ _ h2 => rw [ht] at h2; cases h2
  | nils _ _ h2 => rw [ht] at h2; cases h2
  | view _ _ _ _ _ _ _ h2 => rw [ht] at h2; cases h2
  | thin _ _ _ h2 => rw [ht] at h2; cases h2
  | struct _ _ _ _ h2 => rw [ht] at h2; cases h2

theorem ATs.cons {l : List TypeId} {xs : List T} {ds : List (DataW H)} (h : ATs P (t :: l) xs ds) :
    ∃ x xs' d ds' ts, xs = x :: xs' ∧ ds = d :: ds' ∧ CT P t ts d ∧ x = topT P t ts ∧ ATs P l xs' ds' := by
  match xs, ds, h with
  | x :: xs', d :: ds', h => exact ⟨x, xs', d, ds', h.1.choose, rfl, rfl, h.1.choose_spec.1, h.1.choose_spec.2, h.2⟩
theorem ATs.nil {xs : List T} {ds : List (DataW H)} (h : ATs P [] xs ds) : xs = [] ∧ ds = [] := by
  match xs, ds, h with
  | [], [], _ => exact ⟨rfl, rfl⟩

theorem wf_u8 {n : Int} (h : (Lit.int .u8 n).wf = true) : 0 ≤ n ∧ n ≤ 255 := by
  simp [Lit.wf, IntKind.min, IntKind.max, IntKind.signed, IntKind.bits] at h
  omega
theorem wf_u16 {n : Int} (h : (Lit.int .u16 n).wf = true) : 0 ≤ n ∧ n ≤ 65535 := by
  simp [Lit.wf, IntKind.min, IntKind.max, IntKind.signed, IntKind.bits] at h
  omega
theorem wf_i64 {n : Int} (h : (Lit.int .i64 n).wf = true) : -9223372036854775808 ≤ n ∧ n ≤ 9223372036854775807 := by
  simp [Lit.wf, IntKind.min, IntKind.max, IntKind.signed, IntKind.bits] at h
  omega
theorem wf_u64 {n : Int} (h : (Lit.int .u64 n).wf = true) : 0 ≤ n ∧ n ≤ 18446744073709551615 := by
  simp [Lit.wf, IntKind.min, IntKind.max, IntKind.signed, IntKind.bits] at h
  omega
theorem wf_i32 {n : Int} (h : (Lit.int .i32 n).wf = true) : -2147483648 ≤ n ∧ n ≤ 2147483647 := by
  simp [Lit.wf, IntKind.min, IntKind.max, IntKind.signed, IntKind.bits] at h
  omega
end
end Go.Ab

