/- The abstract interpreter: definitions. No program is named here. -/
import GoSem.Step
namespace Go.Ab

def Det {A : Type} (f : ∀ R : Type, (A → Option R) → Option R) : Prop := (∀ R k, f R k = none) ∨ ∃ a, ∀ R k, f R k = k a
/-- What a result that came tells. -/
theorem det_some {A : Type} {f : ∀ R : Type, (A → Option R) → Option R} (hf : Det f) {R : Type} {k : A → Option R} {r : R} (hk : f R k = some r) : ∃ a, k a = some r ∧ ∀ (R' : Type) (k' : A → Option R'), f R' k' = k' a := by
  rcases hf with h | ⟨a, h⟩
  · rw [h] at hk; cases hk
  · exact ⟨a, (h R k).symm.trans hk, h⟩
/-- Abstract values. 'view', 'vp': immutable memory; 'own', 'ptr': a block of the activation's own list; 'fresh': in results; 'reg': the contents of a promoted box. -/
inductive T where
  | undef
  /-- What a passed-over operation leaves: no truth value. -/
  | gone
  | bool (b : Bool)
  | int (k : IntKind) (n : Int)
  | str (s : List UInt8)
  | nilp
  | vp (cells : List T)
  | ptr (i ver j o : Nat)
  | nils
  | view (sz n : Nat) (g : Nat → List T) (cap : Option Nat)
  | own (i ver off len : Nat) (cap : Option Nat)
  | fresh (flat : Bool) (sz n : Nat) (g : Nat → List T) (len : Nat) (cap : Option Nat)
  | nilf
  | fn (f : FuncId) (caps : List T)
  | agg (l : List T)
  | tup (l : List T)
  | nili
  | iface (t : TypeId) (v : T)
  | nilm
  | reg (cells : List T)

instance : Inhabited T := ⟨.undef⟩

/-- An own block: 'n' elements of 'sz' cells. -/
structure Blk where
  ver : Nat
  sz : Nat
  n : Nat
  get : Nat → List T
  flat : Bool
  /-- A small table: an index into it is parted. -/
  tab : Bool

abbrev Heap := List Blk

/-! ### The slots: a tree of depth 10 (1024 slots) -/
inductive Tr where
  | nil
  | leaf (v : T)
  | node (l r : Tr)

def Tr.get : Nat → Tr → Nat → T
  | 0, .leaf v, _ => v
  | d + 1, .node l r, i => bif i % 2 == 0 then Tr.get d l (i / 2) else Tr.get d r (i / 2)
  | _, _, _ => .undef

def Tr.set : Nat → Tr → Nat → T → Tr
  | 0, _, _, v => .leaf v
  | d + 1, .node l r, i, v => bif i % 2 == 0 then .node (Tr.set d l (i / 2) v) r else .node l (Tr.set d r (i / 2) v)
  | d + 1, _, i, v => bif i % 2 == 0 then .node (Tr.set d .nil (i / 2) v) .nil else .node .nil (Tr.set d .nil (i / 2) v)

def deep : Nat := 10

structure St where
  env : Tr
  loc : Nat → Option (Nat × Nat)
  /-- Boxes of which a place is known: not laid anew. -/
  used : Nat → Bool
  h : Heap

def St.at (s : St) (t : Nat) : T := bif Nat.blt t 1024 then s.env.get deep t else .undef
/-- What an operation changes. -/
structure Eff where
  slot : Option (Nat × T)
  place : Option (Nat × Option (Nat × Nat))
  heap : Option Heap

def putEnv (env : Tr) : Option (Nat × T) → Tr
  | some (d, v) => env.set deep d v
  | none => env
def putPlace (loc : Nat → Option (Nat × Nat)) : Option (Nat × Option (Nat × Nat)) → Nat → Option (Nat × Nat)
  | some (d, p) => fun e => bif e == d then p else loc e
  | none => loc
def putUsed (used : Nat → Bool) : Option (Nat × Option (Nat × Nat)) → Nat → Bool
  | some (_, some (t, _)) => fun x => bif x == t then true else used x
  | _ => used
def Eff.app (f : Eff) (s : St) : St := { env := putEnv s.env f.slot, loc := putPlace s.loc f.place, used := putUsed s.used f.place, h := f.heap.getD s.h }

/-! ### Constants -/
def ofVal0 : Value → T
  | .bool b => .bool b
  | .int k n => .int k n
  | .string s => .str s.data.toList
  | .pointer none => .nilp
  | .slice none 0 0 => .nils
  | .nilFunc => .nilf
  | .nilIface => .nili
  | .map none => .nilm
  | _ => .undef
def ofVal : Value → T
  | .agg cs => .agg (cs.toList.map ofVal0)
  | .tuple cs => .tup (cs.toList.map ofVal0)
  | v => ofVal0 v

/-- A constant whose cells are single. -/
def flatVal : Value → Bool
  | .agg cs => cs.toList.all fun | .agg _ | .tuple _ => false | _ => true
  | _ => true

def T.cells : T → List T
  | .agg l => l
  | v => [v]

/-- Its cells are known. -/
def cellsOk : T → Bool
  | .undef | .gone | .tup _ | .reg _ | .fresh .. => false
  | _ => true

/-- No reference to an own block. -/
def imm0 : T → Bool
  | .undef | .gone | .bool _ | .int _ _ | .str _ | .nilp | .vp _ | .nils | .view .. | .nilf | .nili | .nilm => true
  | .fn _ caps => caps.isEmpty
  | _ => false
def imm : T → Bool
  | .agg l => l.all imm0
  | .tup l => l.all imm0
  | .fn _ caps => caps.all imm0
  | .iface _ v => imm0 v
  | v => imm0 v
/-- A cell that may lie in a flat block. -/
def plain0 : T → Bool
  | .undef | .bool _ | .int _ _ | .str _ => true
  | _ => false

section
variable (P : Program)

def aggTy (t : TypeId) : Bool := match P.underlying t with
  | some (.struct _) | some (.array _ _) => true
  | _ => false
def szTy (t : TypeId) : Nat := match P.info? t with | some i => i.size | none => 0
def known (t : TypeId) : Bool := match P.info? t with | some _ => true | none => false
def bytesTy (t : TypeId) : Nat := match P.info? t with | some i => i.bytes | none => 0
def zeroTy (t : TypeId) : List T := match P.info? t with
  | some i => match i.zero with | some v => (ofVal v).cells | none => []
  | none => []
def zeroOk (t : TypeId) : Bool := match P.info? t with
  | some i => match i.zero with | some v => (v.cells.size == i.size) && flatVal v && (match v with | .tuple _ => false | _ => true) | none => false
  | none => false
def elemTy (t : TypeId) : Option TypeId := match P.underlying t with
  | some (.slice e) => some e
  | _ => none
def strTy (t : TypeId) : Bool := match P.underlying t with
  | some .string => true
  | _ => false
def fieldOf (t : TypeId) (f : Nat) : Option (Nat × TypeId) := match P.underlying t with
  | some (.struct fs) => match fs[f]? with | some x => bif known P x.type && !(szTy P x.type == 0) then some (x.offset, x.type) else none | none => none
  | _ => none
def arrayOf (t : TypeId) : Option (Nat × TypeId) := match P.underlying t with
  | some (.array n e) => some (n, e)
  | _ => none

/-! ### Operations, each handing its result on -/
variable {R : Type}
abbrev Kont (R : Type) := T → Heap → Bool → Option R

/-- A value of a type out of cells. -/
def ld (t : TypeId) (cells : List T) (k : T → Option R) : Option R :=
  match P.underlying t with
  | none => none
  | some _ => bif aggTy P t then (bif Nat.ble (szTy P t) cells.length then k (.agg (cells.take (szTy P t))) else none)
    else match cells with
      | c :: _ => k c
      | [] => none

def splice (cells : List T) (o : Nat) (new : List T) : List T :=
  cells.take o ++ new ++ cells.drop (o + new.length)

def withBlk (h : Heap) (i ver : Nat) (k : Blk → Option R) : Option R :=
  match h[i]? with
  | some b => bif b.ver == ver then k b else none
  | none => none

def semLoad (t : TypeId) (v : T) (h : Heap) (k : Kont R) : Option R :=
  match v with
  | .vp cells => ld P t cells fun x => k x h false
  | .ptr i ver j o => withBlk h i ver fun b => bif Nat.blt j b.n then ld P t ((b.get j).drop o) fun x => k x h false else none
  | _ => none

def Blk.upd (b : Blk) (j : Nat) (cells : List T) : Blk :=
  { b with get := fun e => bif e == j then cells else b.get e, flat := b.flat && cells.all plain0 }

def semStore (t : TypeId) (a v : T) (h : Heap) (k : Kont R) : Option R :=
  match a with
  | .ptr i ver j o => withBlk h i ver fun b =>
      bif known P t && Nat.blt j b.n && (v.cells.length == szTy P t) && cellsOk v && Nat.ble (o + szTy P t) (b.get j).length then
        k .undef (h.set i (b.upd j (splice (b.get j) o v.cells))) true
      else none
  | _ => none

def semAlloc (cells : List T) (h : Heap) (k : Kont R) : Option R :=
  k (.ptr h.length 0 0 0) (h ++ [⟨0, cells.length, 1, fun _ => cells, cells.all plain0, false⟩]) true

def fillAll (place : Nat → Option (Nat × Nat)) (cells : List T) : List (Nat × T) → (List T → Option R) → Option R
  | [], k => k cells
  | (i, v) :: rest, k =>
    match place i with
    | none => none
    | some (off, size) =>
      bif (v.cells.length == size) && cellsOk v && Nat.ble (off + size) cells.length then fillAll place (splice cells off v.cells) rest k else none

def placeOf (fs : Array Field) (i : Nat) : Option (Nat × Nat) := match fs[i]? with
  | some f => some (f.offset, szTy P f.type)
  | none => none
def rowPlace (sz : Nat) (i : Nat) : Option (Nat × Nat) := some (i * sz, sz)

def semBuild (t : TypeId) (parts : List (Nat × T)) (h : Heap) (k : Kont R) : Option R :=
  match P.underlying t with
  | some (.struct fs) => bif zeroOk P t && fs.toList.all (fun f => known P f.type) then fillAll (placeOf P fs) (zeroTy P t) parts fun l => k (.agg l) h false else none
  | some (.array _ e) => bif zeroOk P t && known P e then fillAll (rowPlace (szTy P e)) (zeroTy P t) parts fun l => k (.agg l) h false else none
  | _ => none

def setElems (sz : Nat) (elems : List (List T)) : List (Nat × T) → (List (List T) → Option R) → Option R
  | [], k => k elems
  | (i, v) :: rest, k => bif (v.cells.length == sz) && cellsOk v && Nat.blt i elems.length then setElems sz (elems.set i v.cells) rest k else none

def semBuildSlice (t : TypeId) (len : Nat) (parts : List (Nat × T)) (h : Heap) (k : Kont R) : Option R :=
  match elemTy P t with
  | some e => bif zeroOk P e && Nat.ble (len * szTy P e) 16777216 then
      setElems (szTy P e) (List.replicate len (zeroTy P e)) parts fun elems =>
        k (.own h.length 0 0 len (some len)) (h ++ [⟨0, szTy P e, len, fun j => elems.getD j [], elems.all (·.all plain0), Nat.ble len 8⟩]) true
      else none
  | none => none

def semMake (t : TypeId) (l c : T) (h : Heap) (k : Kont R) : Option R :=
  match elemTy P t, l, c with
  | some e, .int _ l, .int _ c =>
    bif zeroOk P e then
      bif decide (0 ≤ l) && decide (l ≤ c) && decide (c * (bytesTy P e : Int) ≤ 140737488355328) && decide (c ≤ 9223372036854775807) then
        k (.own h.length 0 0 l.toNat (some c.toNat)) (h ++ [⟨0, szTy P e, c.toNat, fun _ => zeroTy P e, (zeroTy P e).all plain0, false⟩]) true
      else none
    else none
  | _, _, _ => none

/-- An index that may be left out. -/
def optInt (x : Option T) (d : Int) (k : Int → Option R) : Option R :=
  match x with
  | none => k d
  | some (.int _ i) => k i
  | some _ => none

/-- The bounds of a slice expression. -/
def bounds (len : Nat) (cap : Option Nat) (lo hi mx : Option T) (k : Nat → Nat → Option Nat → Option R) : Option R :=
  optInt lo 0 fun l => optInt hi (len : Int) fun h =>
    match mx with
    | none => bif decide (0 ≤ l) && decide (l ≤ h) && decide (h ≤ (cap.getD len : Int)) then
        k l.toNat h.toNat (cap.map fun c => c - l.toNat) else none
    | some (.int _ m) => match hi with
      | none => none
      | some _ => bif decide (0 ≤ l) && decide (l ≤ h) && decide (h ≤ m) && decide (m ≤ (cap.getD len : Int)) then
        k l.toNat h.toNat (some (m.toNat - l.toNat)) else none
    | some _ => none

def semSlice (t : TypeId) (x : T) (lo hi mx : Option T) (h : Heap) (k : Kont R) : Option R :=
  match x with
  | .str s => match mx with
    | none => bif strTy P t then bounds s.length (some s.length) lo hi none fun l r _ => k (.str ((s.take r).drop l)) h false else none
    | _ => none
  | .nils => match elemTy P t with
    | some e => bif known P e then bounds 0 (some 0) lo hi mx fun _ _ _ => k .nils h false else none
    | none => none
  | .view sz n g cap => match elemTy P t with
    | some e => bif known P e && (sz == szTy P e) then bounds n cap lo hi mx fun l r c => bif Nat.ble r n then k (.view sz (r - l) (fun j => g (l + j)) c) h false else none
      else none
    | none => none
  | .own i ver off len cap => match elemTy P t with
    | some e => withBlk h i ver fun b => bif known P e && (b.sz == szTy P e) then
        bounds len cap lo hi mx fun l r c => k (.own i ver (off + l) (r - l) c) h false
      else none
    | none => none
  | _ => none

def semField (t : TypeId) (x : T) (f : Nat) (h : Heap) (k : Kont R) : Option R :=
  match x, fieldOf P t f with
  | .agg l, some (off, ty) => ld P ty (l.drop off) fun v => k v h false
  | _, _ => none

def semFieldAddr (t : TypeId) (x : T) (f : Nat) (h : Heap) (k : Kont R) : Option R :=
  match x, fieldOf P t f with
  | .ptr i ver j o, some (off, _) => withBlk h i ver fun _ => k (.ptr i ver j (o + off)) h false
  | .vp cells, some (off, _) => k (.vp (cells.drop off)) h false
  | _, _ => none

/-- An index below 'n', parted. -/
def disp : Nat → Nat → (Nat → Option R) → Option R
  | 0, _, _ => none
  | 1, _, k => k 0
  | n + 2, i, k => bif i == n + 1 then k (n + 1) else disp (n + 1) i k
def pickAt (n i : Nat) (k : Nat → Option R) : Option R := bif Nat.ble n 8 then disp n i k else k i

theorem disp_some {n i : Nat} {k : Nat → Option R} {r : R} (hi : i < n) (h : disp n i k = some r) : k i = some r := by
  induction n with
  | zero => omega
  | succ n ih =>
    cases n with
    | zero => obtain rfl : i = 0 := by omega
              exact h
    | succ n =>
      simp only [disp] at h
      cases hc : i == n + 1 with
      | true =>
        rw [hc] at h
        have : i = n + 1 := by simpa using hc
        rw [this]; exact h
      | false =>
        rw [hc] at h
        have : i ≠ n + 1 := by simpa using hc
        exact ih (by omega) h
theorem pickAt_some {n i : Nat} {k : Nat → Option R} {r : R} (hi : i < n) (h : pickAt n i k = some r) : k i = some r := by
  unfold pickAt at h
  cases hc : Nat.ble n 8 with
  | true => rw [hc] at h; exact disp_some hi h
  | false => rw [hc] at h; exact h

def semIndexAddr (t : TypeId) (x i : T) (h : Heap) (k : Kont R) : Option R :=
  match i with
  | .int _ i => match x with
    | .own b ver off len _ => match elemTy P t with
      | some e => withBlk h b ver fun blk => bif known P e && (blk.sz == szTy P e) then (bif decide (0 ≤ i) && decide (i < (len : Int)) then (bif blk.tab then disp blk.n (off + i.toNat) fun j => k (.ptr b ver j 0) h false else k (.ptr b ver (off + i.toNat) 0) h false) else none) else none
      | none => none
    | .view sz n g _ => match elemTy P t with
      | some e => bif known P e && (sz == szTy P e) then (bif decide (0 ≤ i) && decide (i < (n : Int)) then k (.vp (g i.toNat)) h false else none) else none
      | none => none
    | .ptr b ver j o => match arrayOf P t with
      | some (n, e) => bif known P e && decide (0 ≤ i) && decide (i < (n : Int)) then withBlk h b ver fun _ => pickAt n i.toNat fun i => k (.ptr b ver j (o + i * szTy P e)) h false else none
      | none => none
    | .vp cells => match arrayOf P t with
      | some (n, e) => bif known P e && decide (0 ≤ i) && decide (i < (n : Int)) then pickAt n i.toNat fun i => k (.vp (cells.drop (i * szTy P e))) h false else none
      | none => none
    | _ => none
  | _ => none

def semIndex (t : TypeId) (x i : T) (h : Heap) (k : Kont R) : Option R :=
  match x, i with
  | .str s, .int _ i => bif strTy P t then (bif decide (0 ≤ i) && decide (i < (s.length : Int)) then k (.int .u8 ((s.getD i.toNat 0).toNat : Int)) h false else none) else none
  | .agg l, .int _ i => match arrayOf P t with
    | some (n, e) => bif known P e && decide (0 ≤ i) && decide (i < (n : Int)) then pickAt n i.toNat fun i => ld P e (l.drop (i * szTy P e)) fun v => k v h false else none
    | none => none
  | _, _ => none

def semExtract (x : T) (ix : Nat) (h : Heap) (k : Kont R) : Option R :=
  match x with
  | .tup l => match l[ix]? with | some v => k v h false | none => none
  | _ => none

/-! Comparison, arithmetic. -/
def boolTy (t : TypeId) : Bool := match P.underlying t with | some .bool => true | _ => false
def intTy (t : TypeId) : Bool := match P.underlying t with | some (.int _) => true | _ => false
def funcTy (t : TypeId) : Bool := match P.underlying t with | some (.func _ _ _) => true | _ => false
def structOf (t : TypeId) : Option (List Field) := match P.underlying t with | some (.struct fs) => some fs.toList | _ => none

/-- The fields of two structs, one behind the other. -/
def eqFields (eq : TypeId → T → T → (Bool → Option R) → Option R) (l m : List T) : List Field → (Bool → Option R) → Option R
  | [], k => k true
  | f :: fs, k => bif f.name == "_" then eqFields eq l m fs k else
      ld P f.type (l.drop f.offset) fun a => ld P f.type (m.drop f.offset) fun b => eq f.type a b fun r => bif r then eqFields eq l m fs k else k false

/-- Are two values of a type without slices, functions and pointers the same? -/
def eqIn : Nat → TypeId → T → T → (Bool → Option R) → Option R
  | 0, _, _, _, _ => none
  | d + 1, t, x, y, k =>
    match x, y with
    | .int kx a, .int ky b => bif intTy P t && decide (kx = ky) then k (decide (a = b)) else none
    | .bool a, .bool b => bif boolTy P t then k (bif a then b else !b) else none
    | .str a, .str b => bif strTy P t then k (decide (a = b)) else none
    | .agg l, .agg m => match structOf P t with
      | some fs => bif P.stoodInHeld t then none else eqFields P (eqIn d) l m fs k
      | none => none
    | _, _ => none

def semEq (t : TypeId) (x y : T) (h : Heap) (k : Bool → Option R) : Option R :=
  match x, y with
  | .int kx a, .int ky b => bif decide (kx = ky) then k (decide (a = b)) else none
  | .str a, .str b => k (decide (a = b))
  | .bool _, .bool _ => eqIn P 1 t x y k
  | .agg _, .agg _ => bif P.eqGuardType P.depth t then none else eqIn P 10 t x y k
  | .nils, .nils => bif (elemTy P t).isSome then k true else none
  | .nils, .view .. | .view .., .nils => bif (elemTy P t).isSome then k false else none
  | .nils, .own i ver _ _ _ | .own i ver _ _ _, .nils => bif (elemTy P t).isSome then withBlk h i ver fun _ => k false else none
  | .nilf, .nilf => bif funcTy P t then k true else none
  | .nilf, .fn .. | .fn .., .nilf => bif funcTy P t then k false else none
  | _, _ => none

def bitsOf (op : BinOp) (k : IntKind) (x y : Int) : Int :=
  match op with
  | .and => k.wrap (BitVec.ofInt k.bits x &&& BitVec.ofInt k.bits y).toNat
  | .or => k.wrap (BitVec.ofInt k.bits x ||| BitVec.ofInt k.bits y).toNat
  | .xor => k.wrap (BitVec.ofInt k.bits x ^^^ BitVec.ofInt k.bits y).toNat
  | _ => k.wrap (BitVec.ofInt k.bits x &&& ~~~(BitVec.ofInt k.bits y)).toNat

def semInt (op : BinOp) (kx : IntKind) (a b : Int) (h : Heap) (k : Kont R) : Option R :=
  match op with
  | .add => k (.int kx (kx.wrap (a + b))) h false
  | .sub => k (.int kx (kx.wrap (a - b))) h false
  | .mul => k (.int kx (kx.wrap (a * b))) h false
  | .quo => bif decide (b = 0) then none else k (.int kx (kx.wrap (a.tdiv b))) h false
  | .rem => bif decide (b = 0) then none else k (.int kx (a.tmod b)) h false
  | .and | .or | .xor | .andNot => k (.int kx (bitsOf op kx a b)) h false
  | .lss => k (.bool (decide (a < b))) h false
  | .leq => k (.bool (decide (a ≤ b))) h false
  | .gtr => k (.bool (decide (b < a))) h false
  | .geq => k (.bool (decide (b ≤ a))) h false
  | _ => none

def semStr (op : BinOp) (a b : List UInt8) (h : Heap) (k : Kont R) : Option R :=
  match op with
  | .add => bif Nat.ble (a.length + b.length) 9223372036854775807 then k (.str (a ++ b)) h false else none
  | .lss => k (.bool (Op.bytesLess a b)) h false
  | .geq => k (.bool (!(Op.bytesLess a b))) h false
  | .leq => k (.bool (Op.bytesLess a b || decide (a = b))) h false
  | .gtr => k (.bool (!(Op.bytesLess a b || decide (a = b)))) h false
  | _ => none

def semShift (op : BinOp) (kx : IntKind) (a b : Int) (h : Heap) (k : Kont R) : Option R :=
  bif decide (0 ≤ b) then match op with
    | .shl => k (.int kx (kx.wrap (a * 2 ^ min b.toNat kx.bits))) h false
    | .shr => k (.int kx (a.fdiv (2 ^ min b.toNat kx.bits))) h false
    | _ => none
  else none

def semShiftT (op : BinOp) (x y : T) (h : Heap) (k : Kont R) : Option R :=
  match x, y with
  | .int kx a, .int _ b => semShift op kx a b h k
  | _, _ => none
def semArith (op : BinOp) (x y : T) (h : Heap) (k : Kont R) : Option R :=
  match x, y with
  | .int kx a, .int ky b => bif decide (kx = ky) then semInt op kx a b h k else none
  | .str a, .str b => semStr op a b h k
  | _, _ => none

def semBin (op : BinOp) (t : TypeId) (x y : T) (h : Heap) (k : Kont R) : Option R :=
  match op with
  | .eql => semEq P t x y h fun b => k (.bool b) h false
  | .neq => semEq P t x y h fun b => k (.bool (!b)) h false
  | .shl | .shr => semShiftT op x y h k
  | _ => semArith op x y h k

def semUn (op : UnOp) (x : T) (h : Heap) (k : Kont R) : Option R :=
  match op, x with
  | .not, .bool b => k (.bool (!b)) h false
  | .neg, .int kx a => k (.int kx (kx.wrap (0 - a))) h false
  | _, _ => none

def byteOf : List T → Option Int
  | [.int .u8 n] => some n
  | _ => none
def bytesOf : List (List T) → (List UInt8 → Option R) → Option R
  | [], k => k []
  | e :: l, k => match byteOf e with
    | some n => bytesOf l fun m => k (UInt8.ofNat n.toNat :: m)
    | none => none

/-- The first elements of a slice, as a list of elements. -/
def elemsOf (g : Nat → List T) (n : Nat) : List (List T) := (List.range n).map g

def semConvert (src dst : TypeId) (x : T) (h : Heap) (k : Kont R) : Option R :=
  match x with
  | .int _ n => match P.underlying dst with
    | some (.int kd) => k (.int kd (kd.wrap n)) h false
    | _ => none
  | .str s => match P.underlying dst with
    | some .string => k (.str s) h false
    | _ => none
  | .nils => match P.underlying src, P.underlying dst with
    | some (.slice e), some .string => match P.underlying e with
      | some (.int .u8) => k (.str []) h false
      | _ => none
    | _, _ => none
  | .view sz n g _ => match P.underlying src, P.underlying dst with
    | some (.slice e), some .string => match P.underlying e with
      | some (.int .u8) => bif sz == 1 then bytesOf (elemsOf g n) fun l => k (.str l) h false else none
      | _ => none
    | _, _ => none
  | .own i ver off len _ => match P.underlying src, P.underlying dst with
    | some (.slice e), some .string => match P.underlying e with
      | some (.int .u8) => withBlk h i ver fun b => bif b.sz == 1 && Nat.ble (off + len) b.n then bytesOf (elemsOf (fun j => b.get (off + j)) len) fun l => k (.str l) h false else none
      | _ => none
    | _, _ => none
  | _ => none

/-! ### Handing values over a call -/
/-- A value as immutable: what a callee may read. -/
def resolve : Nat → List Nat → Heap → T → T
  | 0, _, _, x => bif imm0 x then x else .undef
  | d + 1, ex, h, x => match x with
    | .own i ver off len cap => bif ex.contains i then .undef else match h[i]? with
      | some b => bif b.ver == ver && Nat.ble (off + len) b.n then
          .view b.sz len (bif b.flat then fun j => b.get (off + j) else fun j => (b.get (off + j)).map (resolve d ex h)) cap
        else .undef
      | none => .undef
    | .ptr i ver j o => bif ex.contains i then .undef else match h[i]? with
      | some b => bif b.ver == ver && Nat.blt j b.n then
          .vp (bif b.flat then (b.get j).drop o else ((b.get j).drop o).map (resolve d ex h))
        else .undef
      | none => .undef
    | .agg l => .agg (l.map (resolve d ex h))
    | .tup l => .tup (l.map (resolve d ex h))
    | .fn f caps => .fn f (caps.map (resolve d ex h))
    | .iface t v => .iface t (resolve d ex h v)
    | x => bif imm0 x then x else .undef

def resolveArg (h : Heap) (x : T) : T := bif imm x then x else resolve 4 [] h x

/-- The own blocks that a result names at its top. -/
def tops0 : T → List Nat
  | .own i _ _ _ _ => [i]
  | _ => []
def nodupB : List Nat → Bool
  | [] => true
  | a :: l => !(l.contains a) && nodupB l

def give0 (ok : Bool) (all : List Nat) (h : Heap) (x : T) : T :=
  match x with
  | .own i ver off len cap => bif ok then match h[i]? with
      | some b => bif b.ver == ver && Nat.ble (off + len) b.n then
          .fresh b.flat b.sz (b.n - off) (bif b.flat then fun j => b.get (off + j) else fun j => (b.get (off + j)).map (resolve 3 all h)) len cap
        else .undef
      | none => .undef
    else .undef
  | x => bif imm x then x else resolve 4 all h x
def give1 (ok : Bool) (all : List Nat) (h : Heap) (x : T) : T :=
  match x with
  | .agg m => .agg (m.map (give0 ok all h))
  | y => give0 ok all h y
def tops1 : T → List Nat
  | .agg m => m.flatMap tops0
  | x => tops0 x
def tops : T → List Nat
  | .tup l => l.flatMap tops1
  | x => tops1 x
def give (h : Heap) (x : T) : T :=
  match x with
  | .tup l => .tup (l.map (give1 (nodupB (tops x)) (tops x) h))
  | y => give1 (nodupB (tops x)) (tops x) h y

/-- What names no memory. -/
def scal (x : T) : T :=
  match x with
  | .bool _ | .int _ _ | .str _ | .nilp | .nils | .nilf | .nili | .nilm => x
  | _ => .undef

/-- A result arrives: fresh memory becomes own blocks. 'safe': the arguments named no own block. -/
def take0 (safe : Bool) (h : Heap) (x : T) : T × Heap :=
  match x with
  | .fresh flat sz n g len cap => bif safe || flat then (.own h.length 0 0 len cap, h ++ [⟨0, sz, n, g, flat, false⟩]) else (.undef, h)
  | x => (bif safe then x else scal x, h)
def takeL (safe : Bool) (h : Heap) : List T → List T × Heap
  | [] => ([], h)
  | x :: l => let (y, h1) := take0 safe h x; let (m, h2) := takeL safe h1 l; (y :: m, h2)
def take1 (safe : Bool) (h : Heap) (x : T) : T × Heap :=
  match x with
  | .agg l => let (m, h1) := takeL safe h l; (.agg m, h1)
  | x => take0 safe h x
def takeLL (safe : Bool) (h : Heap) : List T → List T × Heap
  | [] => ([], h)
  | x :: l => let (y, h1) := take1 safe h x; let (m, h2) := takeLL safe h1 l; (y :: m, h2)
def taken (safe : Bool) (h : Heap) (x : T) : T × Heap :=
  match x with
  | .tup l => let (m, h1) := takeLL safe h l; (.tup m, h1)
  | x => take1 safe h x

def noFresh0 : T → Bool
  | .fresh .. => false
  | _ => true
def noFresh1 : T → Bool
  | .agg l => l.all noFresh0
  | x => noFresh0 x
def noFresh : T → Bool
  | .tup l => l.all noFresh1
  | x => noFresh1 x

/-- What is known of the callees. -/
structure Orc where
  byRef : FuncId → Bool
  val : FuncId → List T → ∀ R : Type, (T → Option R) → Option R
  ref : FuncId → List T → Heap → ∀ R : Type, (T → Heap → Option R) → Option R
  valDet : ∀ f args, Det (val f args)
  refDet : ∀ f args h, Det (A := T × Heap) fun R k => ref f args h R fun v h => k (v, h)

variable (K : Orc)

def semCall (f : T) (args : List T) (h : Heap) (k : Kont R) : Option R :=
  match f with
  | .fn f caps =>
    bif K.byRef f then K.ref f (args ++ caps) h R fun v h' => k v h' true
    else K.val f ((args ++ caps).map (resolveArg h)) R fun r => k (taken ((args ++ caps).all imm) h r).1 (taken ((args ++ caps).all imm) h r).2 (!(noFresh r))
  | _ => none

/-- The source of an append or a copy: its length and its elements. -/
def source (sz : Nat) (x : T) (h : Heap) (k : Nat → (Nat → List T) → Bool → Option R) : Option R :=
  match x with
  | .nils => k 0 (fun _ => []) true
  | .view sz' n g _ => bif sz' == sz then k n g false else none
  | .own i ver off len _ => withBlk h i ver fun b => bif (b.sz == sz) && Nat.ble (off + len) b.n then k len (fun j => b.get (off + j)) b.flat else none
  | .str s => bif sz == 1 then k s.length (fun j => [.int .u8 ((s.getD j 0).toNat : Int)]) true else none
  | _ => none

/-- Is what is appended plain? Asked element by element where it is short. -/
def plainUpTo (m : Nat) (g : Nat → List T) (flat : Bool) : Bool :=
  flat || (Nat.ble m 8 && (List.range m).all fun j => (g j).all plain0)

def catBlk (ver sz len m : Nat) (g gx : Nat → List T) (flat : Bool) : Blk :=
  ⟨ver, sz, len + m, fun j => bif Nat.blt j len then g j else gx (j - len), flat, false⟩

/-- A bound on what grows. -/
def appRoom (e : TypeId) (n : Nat) : Bool := Nat.ble (n * (bytesTy P e + 1)) 70368744177664

def semAppend (t : TypeId) (s x : T) (h : Heap) (k : Kont R) : Option R :=
  match elemTy P t with
  | none => none
  | some e => bif zeroOk P e then source (szTy P e) x h fun m gx fl =>
    match s with
    | .nils => bif m == 0 then k .nils h false
        else bif appRoom P e m then k (.own h.length 0 0 m none) (h ++ [⟨0, szTy P e, m, gx, plainUpTo m gx fl, false⟩]) true else none
    | .view sz n g cap => bif sz == szTy P e then bif m == 0 then k s h false else match cap with
        | some c => bif Nat.blt c (n + m) && appRoom P e (n + m) then
            k (.own h.length 0 0 (n + m) none) (h ++ [catBlk 0 sz n m g gx (plainUpTo n g false && plainUpTo m gx fl)]) true else none
        | none => none
      else none
    | .own i ver off len cap => withBlk h i ver fun b => bif (b.sz == szTy P e) && Nat.ble (off + len) b.n then
        bif m == 0 then k s h false else
        bif appRoom P e (len + m) then
          match cap with
          | some c => bif Nat.ble (len + m) c then
                bif Nat.ble (off + len + m) b.n then
                  k (.own i ver off (len + m) cap) (h.set i { b with get := fun j => bif Nat.ble (off + len) j && Nat.blt j (off + len + m) then gx (j - (off + len)) else b.get j, flat := b.flat && plainUpTo m gx fl }) true
                else none
              else k (.own h.length 0 0 (len + m) none) (h ++ [catBlk 0 b.sz len m (fun j => b.get (off + j)) gx (b.flat && plainUpTo m gx fl)]) true
          | none => k (.own i (ver + 1) 0 (len + m) none) (h.set i (catBlk (ver + 1) b.sz len m (fun j => b.get (off + j)) gx (b.flat && plainUpTo m gx fl))) true
        else none
      else none
    | _ => none
    else none

def semCopy (t : TypeId) (d x : T) (h : Heap) (k : Kont R) : Option R :=
  match elemTy P t with
  | none => none
  | some e => bif known P e then source (szTy P e) x h fun m gx fl =>
    match d with
    | .nils => k (.int .i64 0) h false
    | .own i ver off len _ => withBlk h i ver fun b => bif (b.sz == szTy P e) && Nat.ble (off + len) b.n then
        k (.int .i64 ((Nat.min m len : Nat) : Int)) (h.set i { b with get := fun j => bif Nat.ble off j && Nat.blt j (off + Nat.min m len) then gx (j - off) else b.get j, flat := b.flat && plainUpTo m gx fl }) true
      else none
    | _ => none
    else none

def semLen (t : TypeId) (x : T) (h : Heap) (k : Kont R) : Option R :=
  match x with
  | .str s => bif strTy P t then k (.int .i64 (s.length : Int)) h false else none
  | .nils => bif (elemTy P t).isSome then k (.int .i64 0) h false else none
  | .view _ n _ _ => bif (elemTy P t).isSome then k (.int .i64 (n : Int)) h false else none
  | .own i ver _ len _ => bif (elemTy P t).isSome then withBlk h i ver fun _ => k (.int .i64 (len : Int)) h false else none
  | .agg _ => match arrayOf P t with
    | some (n, _) => k (.int .i64 (n : Int)) h false
    | none => none
  | _ => none

def semCap (t : TypeId) (x : T) (h : Heap) (k : Kont R) : Option R :=
  bif (elemTy P t).isSome then match x with
    | .nils => k (.int .i64 0) h false
    | .view _ _ _ (some c) => k (.int .i64 (c : Int)) h false
    | .own i ver _ _ (some c) => withBlk h i ver fun _ => k (.int .i64 (c : Int)) h false
    | _ => none
  else none

def semMin2 (mx : Bool) (x y : T) (h : Heap) (k : Kont R) : Option R :=
  match x, y with
  | .int kx a, .int ky b => bif decide (kx = ky) then k (.int kx (bif mx then (bif decide (a < b) then b else a) else (bif decide (b < a) then b else a))) h false else none
  | _, _ => none

def semBuiltin (b : Builtin) (types : List TypeId) (args : List T) (h : Heap) (k : Kont R) : Option R :=
  match b, types, args with
  | .len, t :: _, [x] => semLen P t x h k
  | .cap, t :: _, [x] => semCap P t x h k
  | .append, t :: tx :: _, [s, x] => bif (elemTy P tx).isSome || strTy P tx then semAppend P t s x h k else none
  | .copy, t :: _, [d, x] => semCopy P t d x h k
  | .min, _, [x, y] => semMin2 false x y h k
  | .max, _, [x, y] => semMin2 true x y h k
  | _, _, _ => none

/-! ### One operation -/
structure FP where
  rs : List Nat
  ws : List Nat
  rd : Bool
  wr : Bool

variable (G : Nat → Option (List T)) (prom : List Nat) (nt : Nat)

def ev (s : St) : Operand → T
  | .tmp t => bif prom.contains t then .undef else s.at t
  | .const v => bif flatVal v then ofVal v else .undef
  | .func f => .fn f []
  | .global g => match G g with | some cells => .vp cells | none => .undef

def slotOf : Operand → List Nat
  | .tmp t => [t]
  | _ => []

def base (s : St) : Operand → Option (Nat × Nat)
  | .tmp x => bif prom.contains x then some (x, 0) else s.loc x
  | _ => none

def semNil (x : T) (h : Heap) (k : Kont R) : Option R :=
  match x with
  | .vp _ | .fn .. => k x h false
  | .ptr i ver _ _ => withBlk h i ver fun _ => k x h false
  | _ => none

/-- An operation on values. -/
def semOp (op : Op) (e : Operand → T) (h : Heap) (k : Kont R) : Option R :=
  match op with
  | .move x | .assign x => k (e x) h false
  | .pick c a b => match e c with | .bool t => bif t then k (e a) h false else k (e b) h false | _ => none
  | .alloc ty => bif zeroOk P ty then semAlloc (zeroTy P ty) h k else none
  | .box _ x => bif cellsOk (e x) then semAlloc (e x).cells h k else none
  | .build t parts => semBuild P t (parts.toList.map fun p => (p.1, e p.2)) h k
  | .buildSlice t len parts => semBuildSlice P t len (parts.toList.map fun p => (p.1, e p.2)) h k
  | .load t a => semLoad P t (e a) h k
  | .store t a v => semStore P t (e a) (e v) h k
  | .nilCheck x => semNil (e x) h k
  | .binOp op t x y _ => semBin P op t (e x) (e y) h k
  | .unOp op _ x => semUn op (e x) h k
  | .convert a b x => bif (P.underlying a).isSome then semConvert P a b (e x) h k else none
  | .makeFunc (.func f) first captured => bif first.size == 0 then k (.fn f (captured.toList.map e)) h false else none
  | .makeSlice t l c => semMake P t (e l) (e c) h k
  | .slice t x lo hi mx => semSlice P t (e x) (lo.map e) (hi.map e) (mx.map e) h k
  | .fieldAddr t x f => semFieldAddr P t (e x) f h k
  | .field t x f => semField P t (e x) f h k
  | .indexAddr t x i => semIndexAddr P t (e x) (e i) h k
  | .index t x i => semIndex P t (e x) (e i) h k
  | .extract x i => semExtract (e x) i h k
  | .call { callee := .value f, args, .. } => semCall K (e f) (args.toList.map e) h k
  | .call { callee := .builtin b, args, argTypes } => semBuiltin P b argTypes.toList (args.toList.map e) h k
  | _ => none

/-- Operations on values alone. -/
def onVals : Op → Bool
  | .move _ | .assign _ | .pick .. | .build .. | .makeFunc .. | .field .. | .index .. | .extract .. | .unOp .. => true
  | _ => false
/-- Operations that lay nothing: they look into own blocks where an operand names one. -/
def onMem : Op → Bool
  | .load .. | .nilCheck _ | .binOp .. | .convert .. | .slice .. | .fieldAddr .. | .indexAddr .. => true
  | .call { callee := .builtin .len, .. } | .call { callee := .builtin .cap, .. } | .call { callee := .builtin .min, .. } | .call { callee := .builtin .max, .. } => true
  | _ => false
/-- No own block is looked into. -/
def noHeap (op : Op) (e : Operand → T) : Bool := onVals op || (onMem op && op.operands.toList.all fun x => imm (e x))
/-- Does a call look into the own blocks? -/
def callReads (op : Op) (e : Operand → T) : Bool :=
  match op with
  | .call { callee := .value f, args, .. } => match e f with
    | .fn f caps => K.byRef f || !((args.toList.map e ++ caps).all imm)
    | _ => true
  | _ => true

def opSlots (op : Op) : List Nat := op.operands.toList.flatMap slotOf

/-- A truth value is parted at once: what stands behind it knows it. -/
def parted {A : Type} (v : T) (k : T → Option A) : Option A :=
  match v with
  | .bool b => bif b then k (.bool true) else k (.bool false)
  | v => k v

def done (o : Oper) (s : St) (v : T) (hp : Option Heap) (rs : List Nat) (rd wr : Bool) (k : Eff → FP → Option R) : Option R :=
  match o.dst with
  | none => k ⟨none, none, hp⟩ ⟨rs, [], rd, wr⟩
  | some d => bif Nat.blt d nt && !(s.used d) then parted v fun v => k ⟨some (d, v), some (d, none), hp⟩ ⟨rs, [d], rd, wr⟩ else none

def doneLoc (o : Oper) (t off : Nat) (rs : List Nat) (k : Eff → FP → Option R) : Option R :=
  match o.dst with
  | none => none
  | some d => bif Nat.blt d nt && !(prom.contains d) then k ⟨some (d, .undef), some (d, some (t, off)), none⟩ ⟨t :: rs, [d], false, false⟩ else none

def plainStep (o : Oper) (s : St) (k : Eff → FP → Option R) : Option R :=
  bif noHeap o.op (ev G prom s) then semOp P K o.op (ev G prom s) [] fun v _ wr => bif wr then none else done nt o s v none (opSlots o.op) false false k
  else semOp P K o.op (ev G prom s) s.h fun v h wr => done nt o s v (bif wr then some h else none) (opSlots o.op) (callReads K o.op (ev G prom s)) wr k

def opStep (o : Oper) (s : St) (k : Eff → FP → Option R) : Option R :=
  match o.op with
  | .box _ x => match o.dst with
    | some d => bif prom.contains d then (bif cellsOk (ev G prom s x) then done nt o s (.reg (ev G prom s x).cells) none (slotOf x) false false k else none) else plainStep P K G prom nt o s k
    | none => none
  | .alloc ty => match o.dst with
    | some d => bif prom.contains d then (bif zeroOk P ty then done nt o s (.reg (zeroTy P ty)) none [] false false k else none) else plainStep P K G prom nt o s k
    | none => none
  | .load ty a => match base prom s a with
    | some (t, off) => match s.at t with
      | .reg cells => ld P ty (cells.drop off) fun v => done nt o s v none (t :: slotOf a) false false k
      | _ => none
    | none => plainStep P K G prom nt o s k
  | .store ty a x => match base prom s a with
    | some (t, off) => match s.at t, o.dst with
      | .reg cells, none => bif known P ty && ((ev G prom s x).cells.length == szTy P ty) && cellsOk (ev G prom s x) && Nat.ble (off + szTy P ty) cells.length then
          k ⟨some (t, .reg (splice cells off (ev G prom s x).cells)), none, none⟩ ⟨t :: (slotOf a ++ slotOf x), [t], false, false⟩ else none
      | _, _ => none
    | none => plainStep P K G prom nt o s k
  | .fieldAddr ty a f => match base prom s a with
    | some (t, off) => match s.at t with
      | .reg _ => match fieldOf P ty f with
        | some (o', _) => doneLoc prom nt o t (off + o') (slotOf a) k
        | none => none
      | _ => none
    | none => plainStep P K G prom nt o s k
  | .indexAddr ty a i => match base prom s a with
    | some (t, off) => match s.at t with
      | .reg _ => match ev G prom s i with
        | .int _ i' => match arrayOf P ty with
          | some (n, e) => bif known P e && decide (0 ≤ i') && decide (i' < (n : Int)) then pickAt n i'.toNat fun i' => doneLoc prom nt o t (off + i' * szTy P e) (slotOf a ++ slotOf i) k else none
          | none => none
        | _ => none
      | _ => none
    | none => plainStep P K G prom nt o s k
  | .nilCheck a => match base prom s a with
    | some (t, off) => match s.at t with
      | .reg _ => doneLoc prom nt o t off (slotOf a) k
      | _ => none
    | none => plainStep P K G prom nt o s k
  | _ => plainStep P K G prom nt o s k

def guardSlot (ops : List Oper) (j : Nat) : Option Nat := match ops[j]? with
  | some o => o.dst
  | none => none

/-- One operation under its guard. -/
def guarded (ops : List Oper) (o : Oper) (s : St) (k : Eff → FP → Option R) : Option R :=
  match o.guard with
  | none => opStep P K G prom nt o s k
  | some (j, want) => match guardSlot ops j with
    | none => none
    | some g => match s.at g with
      | .bool b => bif prom.contains g then none else bif (bif b then want else !want) then
          opStep P K G prom nt o s fun f fp => k f { fp with rs := g :: fp.rs }
        else done nt o s .gone none [g] false false k
      | .gone => bif prom.contains g then none else done nt o s .gone none [g] false false k
      | _ => none

def runOps (ops : List Oper) : List Oper → St → (St → List FP → Option R) → Option R
  | [], s, k => k s []
  | o :: l, s, k => guarded P K G prom nt ops o s fun f fp => runOps ops l (f.app s) fun s'' fps => k s'' (fp :: fps)

def meets (a b : List Nat) : Bool := a.any fun x => b.contains x
def clash (a b : FP) : Bool :=
  meets a.ws b.rs || meets a.ws b.ws || meets b.ws a.rs || (a.wr && (b.rd || b.wr)) || (b.wr && a.rd)

def pairsOk (before : List Nat) : List (Nat × FP) → Bool
  | [] => true
  | (i, a) :: l => (l.all fun p => (before.getD p.1 0).testBit i || !(clash a p.2)) && pairsOk before l

/-- Each edge points back. -/
def edgesOk : Nat → List Oper → Bool
  | _, [] => true
  | j, o :: l => (o.after.toList.all fun e => !(Region.binds .any e) || Nat.blt e.on j) && edgesOk (j + 1) l

/-- A region that draws its order: whatever order, the same comes out. -/
def orderOk (ops : Array Oper) (fps : List FP) : Bool :=
  edgesOk 0 ops.toList && pairsOk (Region.before ops).toList ((List.range ops.size).zip fps)

inductive Ex where
  | normal
  | exit (id : Nat)
  | ret

/-- The slots that live over a loop's head or its end, as a list, and back. -/
def getL (s : St) (l : List Nat) : List T := l.map s.at
def putL : List Nat → List T → Tr → Tr
  | i :: l, v :: vs, e => putL l vs (bif Nat.blt i 1024 then e.set deep i v else e)
  | _, _, e => e
def mkSt (l : List Nat) (vs : List T) (h : Heap) : St := { env := putL l vs .nil, loc := fun _ => none, used := fun _ => false, h := h }

/-- What is told of a loop: by its body, the values of its slots, the own blocks. -/
abbrev Rec := ∀ R : Type, Code → List T → Heap → (Ex → List T → Heap → Option R) → Option R
/-- Told at once. -/
def recOf (f : Code → List T → Heap → Option (Ex × List T × Heap)) : Rec := fun _ b vs h k => match f b vs h with
  | some (e, vs, h) => k e vs h
  | none => none

/-- A loop is known by the first region of its body. -/
def firstReg : Code → Nat
  | .region id _ _ => id
  | .seq a _ => firstReg a
  | .block _ a => firstReg a
  | .scope a => firstReg a
  | .loop a => firstReg a
  | _ => 1000000

variable (live : Nat → Bool → List Nat)

/-- The bodies of the loops in a code. -/
def loopsOf : Code → List Code
  | .seq a b => loopsOf a ++ loopsOf b
  | .cond _ a b => loopsOf a ++ loopsOf b
  | .block _ a => loopsOf a
  | .loop a => a :: loopsOf a
  | _ => []

/-- Assumptions behind a region: slots that hold 'true', slots that hold 'false'. Where they fail, nothing is told. -/
def asmOk (ts fs : List Nat) (s : St) : Bool :=
  (ts.all fun t => match s.at t with | .bool b => b | _ => true) && (fs.all fun t => match s.at t with | .bool b => !b | _ => true)

def exK (rec : Rec) : Code → St → (Ex → St → Option R) → Option R
  | .skip, s, k => k .normal s
  | .label _, s, k => k .normal s
  | .region id ops draw, s, k => runOps P K G prom nt ops.toList ops.toList { s with loc := fun _ => none, used := fun _ => false } fun s' fps =>
      bif asmOk (live (id + 2000000) true) (live (id + 2000000) false) s' then
        (bif draw then (bif orderOk ops fps then k .normal s' else none) else k .normal s') else none
  | .seq a b, s, k => exK rec a s fun e s' => match e with
      | .normal => exK rec b s' k
      | e => k e s'
  | .cond c a b, s, k => match ev G prom s c with
      | .bool t => bif t then exK rec a s k else exK rec b s k
      | _ => none
  | .block id b, s, k => exK rec b s fun e s' => match e with
      | .exit i => bif i == id then k .normal s' else k (.exit i) s'
      | e => k e s'
  | .loop b, s, k => rec R b (getL s (live (firstReg b) false)) s.h fun e vs h => k e (mkSt (live (firstReg b) true) vs h)
  | .exit id, s, k => k (.exit id) s
  | .ret, s, k => k .ret s
  | _, _, _ => none

def loopN : Nat → Rec
  | 0, _, _, _, _, _ => none
  | n + 1, R, b, vs, h, k => exK (R := R) P K G prom nt live (loopN n) b (mkSt (live (firstReg b) false) vs h) fun e s' => match e with
      | .normal => loopN n R b (getL s' (live (firstReg b) false)) s'.h k
      | e => k e (getL s' (live (firstReg b) true)) s'.h

def resOf (s : St) : ResultVar → (T → Option R) → Option R
  | .tmp t, k => k (ev G prom s (.tmp t))
  | .cell a ty, k => match base prom s (.tmp a) with
    | some (t, off) => match s.at t with
      | .reg cells => ld P ty (cells.drop off) k
      | _ => none
    | none => semLoad P ty (s.at a) s.h fun v _ _ => k v

def resAll (s : St) : List ResultVar → (List T → Option R) → Option R
  | [], k => k []
  | r :: l, k => resOf P G prom s r fun v => resAll s l fun vs => k (v :: vs)

def resK (fn : Func) (s : St) (k : T → Option R) : Option R :=
  resAll P G prom s fn.results.toList fun
    | [v] => k v
    | vs => k (.tup vs)

def resE (fn : Func) (e : Ex) (s : St) (k : T → Heap → Option R) : Option R :=
  match e with
  | .exit _ => none
  | _ => resK P G prom fn s fun v => k v s.h

def enterEnv : Nat → List T → Tr → Tr
  | _, [], e => e
  | i, x :: l, e => enterEnv (i + 1) l (e.set deep i x)
def enter (args : List T) (h : Heap) : St :=
  { env := enterEnv 0 args .nil, loc := fun _ => none, used := fun _ => false, h := h }

end

/-- What is told of a function: its promoted boxes, the slots that live over a loop's head, whether it shares the caller's blocks. -/
structure Ann where
  prom : List Nat
  live : Nat → Bool → List Nat
  byRef : Bool

/-- With assumptions: region, slot, value. -/
def Ann.assume (a : Ann) (l : List (Nat × Nat × Bool)) : Ann :=
  { a with live := fun r o => bif Nat.ble 2000000 r then l.filterMap (fun p => bif p.1 + 2000000 == r && p.2.2 == o then some p.2.1 else none) else a.live r o }
def annWith (A : FuncId → Ann) (f : FuncId) (l : List (Nat × Nat × Bool)) : FuncId → Ann := fun e => bif e == f then (A e).assume l else A e

section
variable (P : Program) (G : Nat → Option (List T)) (A : FuncId → Ann)

/-- One call over known callees and loops. -/
def bodyR {R : Type} (K : Orc) (rec : Rec) (f : FuncId) (fn : Func) (c : Code) (args : List T) (h : Heap) (k : T → Heap → Option R) : Option R :=
  bif Nat.ble fn.ntmps 1024 && Nat.ble args.length fn.ntmps then
    exK P K G (A f).prom fn.ntmps (A f).live rec c (enter args h) fun e s => resE P G (A f).prom fn e s k
  else none

def runR {R : Type} (K : Orc) (rec : Func → Rec) (f : FuncId) (args : List T) (h : Heap) (k : T → Heap → Option R) : Option R :=
  match P.funcs[f]? with
  | some fn => match fn.body with
    | some c => bodyR P G A K (rec fn) f fn c args h k
    | none => none
  | none => none

/-- Rounds of a loop are run, 'm' of them. -/
def recN (K : Orc) (m : Nat) (f : FuncId) (fn : Func) : Rec := loopN P K G (A f).prom fn.ntmps (A f).live m

/-- The same, what comes out handed over at once: for evaluation. -/
def stepV (K : Orc) (m : Nat) (f : FuncId) (args : List T) : Option T := runR P G A K (recN P G A K m f) f args [] fun v h' => some (give h' v)

end
end Go.Ab
