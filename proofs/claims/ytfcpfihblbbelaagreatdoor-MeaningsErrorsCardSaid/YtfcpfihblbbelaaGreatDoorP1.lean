/- A part of the proof: nothing is assumed. -/
import GoSem.Step
import Derived.WalkKit
import Derived.Maps.OwnIn
import Derived.WideKeyEntry
import Derived.IntWalk
import Derived.ChangeKeysEq
set_option linter.all false
namespace Go.Ab
def keq:List Int->List Int->Bool
 |[],[]=>true
 |a::l,b::m=>decide (a=b)&&keq l m
 |_,_=>false
theorem kE:∀{l m:List Int},keq l m=true↔l=m
 |[],[]=>by simp[keq]
 |a::l,b::m=>by simp[keq,kE (l:=l) (m:=m)]
 |[],_::_=>by simp[keq]
 |_::_,[]=>by simp[keq]
theorem YN(l:List Int):keq l l=true:=kE.2 rfl
theorem qdY{l m:List Int}(h:l≠m):keq l m=false:=by
 rw[Bool.eq_false_iff];exact fun q=>h (kE.1 q)
inductive KS where
 |int (q:IntKind)
 |row (l:List (Option IntKind))
deriving DecidableEq
structure MapD where
 ks:KS
 q:IntKind
 has:List Int->Bool
 val:List Int->Int
 born:List Int->Nat
 clock:Nat
 last:Option (List Int×Nat)
def MapD.stamp(m:MapD)(k:List Int):Nat:=bif m.has k then m.born k else m.clock
def MapD.put(m:MapD)(k:List Int)(z:Int):MapD :=
 { ks:=m.ks,q:=m.q,has:=fun l=>keq l k || m.has l,val:=fun l=>bif keq l k then z else m.val l,born:=fun l=>bif keq l k then m.stamp k else m.born l,clock:=bif m.has k then m.clock else m.clock+1,last:=none }
def MapD.entry(m:MapD)(k:List Int):MapD:={ m.put k (m.val k) with last:=some (k,m.stamp k) }
def MapD.del(m:MapD)(k:List Int):MapD :=
 { ks:=m.ks,q:=m.q,has:=fun l=>!(keq l k)&&m.has l,val:=fun l=>bif keq l k then 0 else m.val l,born:=m.born,clock:=m.clock,last:=none }
def MapD.made(ks:KS)(q:IntKind):MapD:=⟨ks,q,fun _=>false,fun _=>0,fun _=>0,0,none⟩
def Det{A:Type}(f:∀R:Type,(A->Option R)->Option R):Prop:=(∀R k,f R k=none)∨∃a,∀R k,f R k=k a
theorem qq{A:Type}{f:∀R:Type,(A->Option R)->Option R}(hf:Det f){R:Type}{k:A->Option R}{r:R}(hk:f R k=some r):∃a,k a=some r/\∀(R':Type) (k':A->Option R'),f R' k'=k' a:=by
 rcases hf with h|⟨a,h⟩
 ·rw[h] at hk;cases hk
 ·exact⟨a,(h R k).symm.trans hk,h⟩
inductive T where
 |undef
 |gone
 |bool (b:Bool)
 |int (k:IntKind) (n:Int)
 |str (s:List UInt8)
 |nilp
 |vp (cells:List T)
 |ptr (i ver j o:Nat)
 |nils
 |view (sz n:Nat) (g:Nat->List T) (cap:Option Nat)
 |own (i ver off len:Nat) (cap:Option Nat)
 |fresh (flat:Bool) (sz n:Nat) (g:Nat->List T) (len:Nat) (cap:Option Nat)
 |nilf
 |fn (f:FuncId) (caps:List T)
 |agg (l:List T)
 |tup (l:List T)
 |nili
 |iface (t:TypeId) (v:T)
 |nilm
 |reg (cells:List T)
 |yld (l:Nat)
 |new (x:T)
 |mp (i ver:Nat)
 |freshm (m:MapD)
instance:Inhabited T:=⟨.undef⟩
structure Blk where
 ver:Nat
 sz:Nat
 n:Nat
 get:Nat->List T
 flat:Bool
 tab:Bool
 mp:Option MapD
def yD(ver:Nat)(m:MapD):Blk:=⟨ver,0,0,fun _=>[],false,false,some m⟩
abbrev qa:=List Blk
inductive Tr where
 |nil
 |leaf (v:T)
 |node (l r:Tr)
def Tr.get:Nat->Tr->Nat->T
 |0,.leaf v,_=>v
 |d+1,.node l r,i=>bif i%2==0 then Tr.get d l (i/2) else Tr.get d r (i/2)
 |_,_,_=>.undef
def Tr.set:Nat->Tr->Nat->T->Tr
 |0,_,_,v=>.leaf v
 |d+1,.node l r,i,v=>bif i%2==0 then .node (Tr.set d l (i/2) v) r else .node l (Tr.set d r (i/2) v)
 |d+1,_,i,v=>bif i%2==0 then .node (Tr.set d .nil (i/2) v) .nil else .node .nil (Tr.set d .nil (i/2) v)
def Qt:Nat:=10
structure St where
 env:Tr
 loc:Nat->Option (Nat×Nat)
 used:Nat->Bool
 h:qa
def St.at(s:St)(t:Nat):T:=bif Nat.blt t 1024 then s.env.get Qt t else .undef
structure Eff where
 slot:Option (Nat×T)
 place:Option (Nat×Option (Nat×Nat))
 heap:Option qa
def qb3(env:Tr):Option (Nat×T)->Tr
 |some (d,v)=>env.set Qt d v
 |none=>env
def ZZ(loc:Nat->Option (Nat×Nat)):Option (Nat×Option (Nat×Nat))->Nat->Option (Nat×Nat)
 |some (d,p)=>fun e=>bif e==d then p else loc e
 |none=>loc
def Zr(used:Nat->Bool):Option (Nat×Option (Nat×Nat))->Nat->Bool
 |some (_,some (t,_))=>fun x=>bif x==t then true else used x
 |_=>used
def Eff.app(f:Eff)(s:St):St:={ env:=qb3 s.env f.slot,loc:=ZZ s.loc f.place,used:=Zr s.used f.place,h:=f.heap.getD s.h }
def Ya:Value->T
 |.bool b=>.bool b
 |.int k n=>.int k n
 |.string s=>.str s.data.toList
 |.pointer none=>.nilp
 |.slice none 0 0=>.nils
 |.nilFunc=>.nilf
 |.nilIface=>.nili
 |.map none=>.nilm
 |_=>.undef
def YF:Value->T
 |.agg cs=>.agg (cs.toList.map Ya)
 |.tuple cs=>.tup (cs.toList.map Ya)
 |v=>Ya v
def JU:Value->Bool
 |.agg cs=>cs.toList.all fun|.agg _|.tuple _=>false|_=>true
 |_=>true
def T.cells:T->List T
 |.agg l=>l
 |v=>[v]
def zK:T->Bool
 |.undef|.gone|.tup _|.reg _|.fresh ..|.new _|.freshm _=>false
 |_=>true
def Zg:T->Bool
 |.undef|.gone|.bool _|.int _ _|.str _|.nilp|.vp _|.nils|.view ..|.nilf|.nili|.nilm|.yld _=>true
 |.fn _ caps=>caps.isEmpty
 |_=>false
def imm:T->Bool
 |.agg l=>l.all Zg
 |.tup l=>l.all Zg
 |.fn _ caps=>caps.all Zg
 |.iface _ v=>Zg v
 |v=>Zg v
def qw:T->Bool
 |.undef|.bool _|.int _ _|.str _=>true
 |_=>false
section
variable (P:Program)
def zY(t:TypeId):Bool:=match P.underlying t with
 |some (.struct _)|some (.array _ _)=>true
 |_=>false
def qz(t:TypeId):Nat:=match P.info? t with|some i=>i.size|none=>0
def QP(t:TypeId):Bool:=match P.info? t with|some _=>true|none=>false
def ym(t:TypeId):Nat:=match P.info? t with|some i=>i.bytes|none=>0
def qS(t:TypeId):List T:=match P.info? t with
 |some i=>match i.zero with|some v=>(YF v).cells|none=>[]
 |none=>[]
def ZD(t:TypeId):Bool:=match P.info? t with
 |some i=>match i.zero with|some v=>(v.cells.size==i.size)&&JU v&&(match v with|.tuple _=>false|_=>true)|none=>false
 |none=>false
def qD(t:TypeId):Option TypeId:=match P.underlying t with
 |some (.slice e)=>some e
 |_=>none
def KU(t:TypeId):Bool:=match P.underlying t with
 |some .string=>true
 |_=>false
def zs(t:TypeId)(f:Nat):Option (Nat×TypeId):=match P.underlying t with
 |some (.struct fs)=>match fs[f]? with|some x=>bif QP P x.type&&!(qz P x.type==0) then some (x.offset,x.type) else none|none=>none
 |_=>none
def Qu(t:TypeId):Option (Nat×TypeId):=match P.underlying t with
 |some (.array n e)=>some (n,e)
 |_=>none
variable {R:Type}
abbrev qO(R:Type):=T->qa->Bool->Option R
def ld(t:TypeId)(cells:List T)(k:T->Option R):Option R :=
 match P.underlying t with
 |none=>none
 |some _=>bif zY P t then(bif Nat.ble (qz P t) cells.length then k (.agg (cells.take (qz P t))) else none)
  else match cells with
   |c::_=>k c
   |[]=>none
def ZE(cells:List T)(o:Nat)(new:List T):List T :=
 cells.take o++new++cells.drop (o+new.length)
def spl(sz:Nat)(cells:List T)(o:Nat)(new:List T):List T:=bif (o==0)&&(new.length==sz) then new else ZE cells o new
theorem qhn{sz:Nat}{cells:List T}{o:Nat}{new:List T}(h:cells.length=sz):spl sz cells o new=ZE cells o new:=by
 unfold spl;cases hc:(o==0)&&(new.length==sz) with
 |false=>rfl
 |true =>
  simp only[Bool.and_eq_true,beq_iff_eq] at hc;obtain⟨rfl,rfl⟩:=hc;unfold ZE;simp[←h]
def qM(h:qa)(i ver:Nat)(k:Blk->Option R):Option R :=
 match h[i]? with
 |some b=>bif (b.ver==ver)&&b.mp.isNone then k b else none
 |none=>none
def ZI(h:qa)(i ver:Nat)(k:Blk->MapD->Option R):Option R :=
 match h[i]? with
 |some b=>bif b.ver==ver then(match b.mp with|some m=>k b m|none=>none) else none
 |none=>none
def Yb(t:TypeId)(v:T)(h:qa)(k:qO R):Option R :=
 match v with
 |.vp cells=>ld P t cells fun x=>k x h false
 |.ptr i ver j o=>qM h i ver fun b=>bif Nat.blt j b.n then ld P t ((b.get j).drop o) fun x=>k x h false else none
 |_=>none
def qdZ(c:Bool)(x y:T):T:=match x,y with
 |.int k a,.int k' b=>bif decide (k=k') then .int k (bif c then a else b) else(bif c then .int k a else .int k' b)
 |.bool a,.bool b=>.bool (bif c then a else b)
 |x,y=>bif c then x else y
def qb4(c:Bool):List T->List T->List T
 |x::l,y::m=>qdZ c x y::qb4 c l m
 |[],[]=>[]
 |l,m=>bif c then l else m
theorem qfb(c:Bool)(x y:T):qdZ c x y=bif c then x else y:=by
 unfold qdZ;split
 ·rename_i k a k' b;cases hk:decide (k=k') with
  |false=>rfl
  |true =>
   obtain rfl:k=k':=by simpa using hk
   cases c<;>rfl
 ·cases c<;>rfl
 ·rfl
theorem kF(c:Bool):∀(l m:List T),qb4 c l m=bif c then l else m
 |x::l,y::m=>by
  simp only[qb4,qfb,kF c l m];cases c<;>rfl
 |[],[]=>by cases c<;>rfl
 |[],_::_=>rfl
 |_::_,[]=>rfl
def Blk.upd(b:Blk)(j:Nat)(cells:List T):Blk :=
 { b with get:=fun e=>qb4 (e==j) cells (b.get e),flat:=b.flat&&cells.all qw }
def YO(t:TypeId)(a v:T)(h:qa)(k:qO R):Option R :=
 match a with
 |.ptr i ver j o=>qM h i ver fun b =>
  bif QP P t&&Nat.blt j b.n&&(v.cells.length==qz P t)&&zK v&&Nat.ble (o+qz P t) b.sz then
   k .undef (h.set i (b.upd j (spl b.sz (b.get j) o v.cells))) true
  else none
 |_=>none
def KW(cells:List T)(h:qa)(k:qO R):Option R :=
 k (.ptr h.length 0 0 0) (h++[⟨0,cells.length,1,fun _=>cells,cells.all qw,false,none⟩]) true
def qd0:T->T->Bool
 |.bool a,.bool b=>a==b
 |.int k a,.int k' b=>decide (k=k')&&decide (a=b)
 |.nils,.nils=>true
 |.nilp,.nilp=>true
 |.nilm,.nilm=>true
 |.str [],.str []=>true
 |_,_=>false
def jM:List T->List T->Bool
 |[],[]=>true
 |a::l,b::m=>qd0 a b&&jM l m
 |_,_=>false
def qd1(ty:TypeId):Option (Nat×Nat×List T):=match Qu P ty with
 |some (n,e)=>bif Nat.ble 9 n&&((qS P e).length==qz P e)&&jM (qS P ty) (List.replicate n (qS P e)).flatten then some (n,qz P e,qS P e) else none
 |none=>none
def ZS(ty:TypeId)(h:qa)(k:qO R):Option R :=
 match qd1 P ty with
 |some (n,sz,z)=>k (.ptr h.length 0 0 0) (h++[⟨0,sz,n,fun _=>z,z.all qw,false,none⟩]) true
 |none=>KW (qS P ty) h k
def yn(place:Nat->Option (Nat×Nat))(cells:List T):List (Nat×T)->(List T->Option R)->Option R
 |[],k=>k cells
 |(i,v)::rest,k =>
  match place i with
  |none=>none
  |some (off,size) =>
   bif (v.cells.length==size)&&zK v&&Nat.ble (off+size) cells.length then yn place (ZE cells off v.cells) rest k else none
def qb5(fs:Array Field)(i:Nat):Option (Nat×Nat):=match fs[i]? with
 |some f=>some (f.offset,qz P f.type)
 |none=>none
def qc0(sz:Nat)(i:Nat):Option (Nat×Nat):=some (i*sz,sz)
def YP(t:TypeId)(parts:List (Nat×T))(h:qa)(k:qO R):Option R :=
 match P.underlying t with
 |some (.struct fs)=>bif ZD P t&&fs.toList.all (fun f=>QP P f.type) then yn (qb5 P fs) (qS P t) parts fun l=>k (.agg l) h false else none
 |some (.array _ e)=>bif ZD P t&&QP P e then yn (qc0 (qz P e)) (qS P t) parts fun l=>k (.agg l) h false else none
 |_=>none
def Z0(sz:Nat)(elems:List (List T)):List (Nat×T)->(List (List T)->Option R)->Option R
 |[],k=>k elems
 |(i,v)::rest,k=>bif (v.cells.length==sz)&&zK v&&Nat.blt i elems.length then Z0 sz (elems.set i v.cells) rest k else none
def Q4(t:TypeId)(len:Nat)(parts:List (Nat×T))(h:qa)(k:qO R):Option R :=
 match qD P t with
 |some e=>bif ZD P e&&Nat.ble (len*qz P e) 16777216 then
  Z0 (qz P e) (List.replicate len (qS P e)) parts fun elems =>
   k (.own h.length 0 0 len (some len)) (h++[⟨0,qz P e,len,fun j=>elems.getD j [],elems.all (·.all qw),Nat.ble len 8,none⟩]) true
  else none
 |none=>none
def Zw(t:TypeId)(len:Nat)(parts:List (Nat×T))(k:T->Option R):Option R :=
 match qD P t with
 |some e=>bif ZD P e&&Nat.ble (len*qz P e) 16777216 then
  Z0 (qz P e) (List.replicate len (qS P e)) parts fun elems =>
   bif elems.all (·.all imm) then k (.view (qz P e) len (fun j=>elems.getD j []) (some len)) else none
  else none
 |none=>none
def KX(t:TypeId)(l c:T)(h:qa)(k:qO R):Option R :=
 match qD P t,l,c with
 |some e,.int _ l,.int _ c =>
  bif ZD P e then
   bif decide (0<=l)&&decide (l<=c)&&decide (c*(ym P e:Int)<=140737488355328)&&decide (c<=9223372036854775807) then
    k (.own h.length 0 0 l.toNat (some c.toNat)) (h++[⟨0,qz P e,c.toNat,fun _=>qS P e,(qS P e).all qw,false,none⟩]) true
   else none
  else none
 |_,_,_=>none
def Yc(x:Option T)(d:Int)(k:Int->Option R):Option R :=
 match x with
 |none=>k d
 |some (.int _ i)=>k i
 |some _=>none
def Z1(len lim:Nat)(cap:Option Nat)(lo hi mx:Option T)(k:Nat->Nat->Option Nat->Option R):Option R :=
 Yc lo 0 fun l=>Yc hi (len:Int) fun h =>
  match mx with
  |none=>bif decide (0<=l)&&decide (l<=h)&&decide (h<=(cap.getD lim:Int)) then
   k l.toNat h.toNat (cap.map fun c=>c-l.toNat) else none
  |some (.int _ m)=>match hi with
   |none=>none
   |some _=>bif decide (0<=l)&&decide (l<=h)&&decide (h<=m)&&decide (m<=(cap.getD lim:Int)) then
    k l.toNat h.toNat (some (m.toNat-l.toNat)) else none
  |some _=>none
def QH(t:TypeId)(x:T)(lo hi mx:Option T)(h:qa)(k:qO R):Option R :=
 match x with
 |.str s=>match mx with
  |none=>bif KU P t then Z1 s.length s.length (some s.length) lo hi none fun l r _=>k (.str ((s.take r).drop l)) h false else none
  |_=>none
 |.nils=>match qD P t with
  |some e=>bif QP P e then Z1 0 0 (some 0) lo hi mx fun _ _ _=>k .nils h false else none
  |none=>none
 |.view sz n g cap=>match qD P t with
  |some e=>bif QP P e&&(sz==qz P e) then Z1 n n cap lo hi mx fun l r c=>bif Nat.ble r n then k (.view sz (r-l) (fun j=>g (l+j)) c) h false else none
   else none
  |none=>none
 |.own i ver off len cap=>match qD P t with
  |some e=>qM h i ver fun b=>bif QP P e&&(b.sz==qz P e) then
   Z1 len (b.n-off) cap lo hi mx fun l r c=>k (.own i ver (off+l) (r-l) c) h false
   else none
  |none=>none
 |_=>none
def YQ(t:TypeId)(x:T)(f:Nat)(h:qa)(k:qO R):Option R :=
 match x,zs P t f with
 |.agg l,some (off,ty)=>ld P ty (l.drop off) fun v=>k v h false
 |_,_=>none
def zu(t:TypeId)(x:T)(f:Nat)(h:qa)(k:qO R):Option R :=
 match x,zs P t f with
 |.ptr i ver j o,some (off,_)=>qM h i ver fun _=>k (.ptr i ver j (o+off)) h false
 |.vp cells,some (off,_)=>k (.vp (cells.drop off)) h false
 |_,_=>none
def qb6:Nat->Nat->(Nat->Option R)->Option R
 |0,_,_=>none
 |1,_,k=>k 0
 |n+2,i,k=>bif i==n+1 then k (n+1) else qb6 (n+1) i k
def Z2(n i:Nat)(k:Nat->Option R):Option R:=bif Nat.ble n 8 then qb6 n i k else k i
theorem qbr{n i:Nat}{k:Nat->Option R}{r:R}(hi:i<n)(h:qb6 n i k=some r):k i=some r:=by
 induction n with
 |zero=>omega
 |succ n ih =>
  cases n with
  |zero=>obtain rfl:i=0:=by omega
         exact h
  |succ n =>
   simp only[qb6] at h;cases hc:i==n+1 with
   |true =>
    rw[hc] at h;have:i=n+1:=by simpa using hc
    rw[this];exact h
   |false =>
    rw[hc] at h;have:i≠n+1:=by simpa using hc
    exact ih (by omega) h
theorem zj{n i:Nat}{k:Nat->Option R}{r:R}(hi:i<n)(h:Z2 n i k=some r):k i=some r:=by
 unfold Z2 at h;cases hc:Nat.ble n 8 with
 |true=>rw[hc] at h;exact qbr hi h
 |false=>rw[hc] at h;exact h
def QI(t:TypeId)(x i:T)(h:qa)(k:qO R):Option R :=
 match i with
 |.int _ i=>match x with
  |.own b ver off len _=>match qD P t with
   |some e=>qM h b ver fun blk=>bif QP P e&&(blk.sz==qz P e) then(bif decide (0<=i)&&decide (i<(len:Int)) then(bif blk.tab then qb6 blk.n (off+i.toNat) fun j=>k (.ptr b ver j 0) h false else k (.ptr b ver (off+i.toNat) 0) h false) else none) else none
   |none=>none
  |.view sz n g _=>match qD P t with
   |some e=>bif QP P e&&(sz==qz P e) then(bif decide (0<=i)&&decide (i<(n:Int)) then k (.vp (g i.toNat)) h false else none) else none
   |none=>none
  |.ptr b ver j o=>match Qu P t with
   |some (n,e)=>bif QP P e&&decide (0<=i)&&decide (i<(n:Int)) then qM h b ver fun blk=>bif (blk.sz==qz P e)&&Nat.blt 1 blk.n then k (.ptr b ver (j+i.toNat) o) h false else Z2 n i.toNat fun i=>k (.ptr b ver j (o+i*qz P e)) h false else none
   |none=>none
  |.vp cells=>match Qu P t with
   |some (n,e)=>bif QP P e&&decide (0<=i)&&decide (i<(n:Int)) then Z2 n i.toNat fun i=>k (.vp (cells.drop (i*qz P e))) h false else none
   |none=>none
  |_=>none
 |_=>none
def YR(t:TypeId)(x i:T)(h:qa)(k:qO R):Option R :=
 match x,i with
 |.str s,.int _ i=>bif KU P t then(bif decide (0<=i)&&decide (i<(s.length:Int)) then k (.int .u8 ((s.getD i.toNat 0).toNat:Int)) h false else none) else none
 |.agg l,.int _ i=>match Qu P t with
  |some (n,e)=>bif QP P e&&decide (0<=i)&&decide (i<(n:Int)) then Z2 n i.toNat fun i=>ld P e (l.drop (i*qz P e)) fun v=>k v h false else none
  |none=>none
 |_,_=>none
def Zh(x:T)(ix:Nat)(h:qa)(k:qO R):Option R :=
 match x with
 |.tup l=>match l[ix]? with|some v=>k v h false|none=>none
 |_=>none
def qd2(t:TypeId):Bool:=match P.underlying t with|some .bool=>true|_=>false
def qfJ(t:TypeId):Bool:=match P.underlying t with|some (.int _)=>true|_=>false
def qb7(t:TypeId):Bool:=match P.underlying t with|some (.func _ _ _)=>true|_=>false
def YS(t:TypeId):Option (List Field):=match P.underlying t with|some (.struct fs)=>some fs.toList|_=>none
def eqFields(eq:TypeId->T->T->(Bool->Option R)->Option R)(l m:List T):List Field->(Bool->Option R)->Option R
 |[],k=>k true
 |f::fs,k=>bif f.name=="_" then eqFields eq l m fs k else
  ld P f.type (l.drop f.offset) fun a=>ld P f.type (m.drop f.offset) fun b=>eq f.type a b fun r=>bif r then eqFields eq l m fs k else k false
def eqItems(eq:TypeId->T->T->(Bool->Option R)->Option R)(l m:List T)(e:TypeId):List Nat->(Bool->Option R)->Option R
 |[],k=>k true
 |i::is,k=>ld P e (l.drop (i*P.cellsOf e)) fun a=>ld P e (m.drop (i*P.cellsOf e)) fun b=>eq e a b fun r=>bif r then eqItems eq l m e is k else k false
def qc1(t:TypeId):Option (Nat×TypeId):=match P.underlying t with|some (.array n e)=>(match P.info? e with|some _=>some (n,e)|none=>none)|_=>none
def YL:Nat->TypeId->T->T->(Bool->Option R)->Option R
 |0,_,_,_,_=>none
 |d+1,t,x,y,k =>
  match x,y with
  |.int kx a,.int ky b=>bif qfJ P t&&decide (kx=ky) then k (decide (a=b)) else none
  |.bool a,.bool b=>bif qd2 P t then k (bif a then b else !b) else none
  |.str a,.str b=>bif KU P t then k (decide (a=b)) else none
  |.agg l,.agg m=>match YS P t with
   |some fs=>bif P.stoodInHeld t then none else eqFields P (YL d) l m fs k
   |none=>match qc1 P t with
    |some ne=>eqItems P (YL d) l m ne.2 (List.range ne.1) k
    |none=>none
  |_,_=>none
def J5(t:TypeId)(x y:T)(h:qa)(k:Bool->Option R):Option R :=
 match x,y with
 |.int kx a,.int ky b=>bif decide (kx=ky) then k (decide (a=b)) else none
 |.str a,.str b=>k (decide (a=b))
 |.bool _,.bool _=>YL P 1 t x y k
 |.agg _,.agg _=>bif P.eqGuardType P.depth t then none else YL P 10 t x y k
 |.nils,.nils=>bif (qD P t).isSome then k true else none
 |.nils,.view _ n _ c|.view _ n _ c,.nils=>bif (qD P t).isSome&&(Nat.blt 0 (c.getD 0) || Nat.blt 0 n) then k false else none
 |.nils,.own i ver _ _ _|.own i ver _ _ _,.nils=>bif (qD P t).isSome then qM h i ver fun b=>bif Nat.blt 0 b.n then k false else none else none
 |.nilf,.nilf=>bif qb7 P t then k true else none
 |.nilf,.fn ..|.fn ..,.nilf=>bif qb7 P t then k false else none
 |_,_=>none
def J6(op:BinOp)(k:IntKind)(x y:Int):Int :=
 match op with
 |.and=>k.wrap (BitVec.ofInt k.bits x &&& BitVec.ofInt k.bits y).toNat
 |.or=>k.wrap (BitVec.ofInt k.bits x ||| BitVec.ofInt k.bits y).toNat
 |.xor=>k.wrap (BitVec.ofInt k.bits x ^^^ BitVec.ofInt k.bits y).toNat
 |_=>k.wrap (BitVec.ofInt k.bits x &&& ~~~(BitVec.ofInt k.bits y)).toNat
def qb8(op:BinOp)(kx:IntKind)(a b:Int)(h:qa)(k:qO R):Option R :=
 match op with
 |.add=>k (.int kx (kx.wrap (a+b))) h false
 |.sub=>k (.int kx (kx.wrap (a-b))) h false
 |.mul=>k (.int kx (kx.wrap (a*b))) h false
 |.quo=>bif decide (b=0) then none else k (.int kx (kx.wrap (a.tdiv b))) h false
 |.rem=>bif decide (b=0) then none else k (.int kx (a.tmod b)) h false
 |.and|.or|.xor|.andNot=>k (.int kx (J6 op kx a b)) h false
 |.lss=>k (.bool (decide (a<b))) h false
 |.leq=>k (.bool (decide (a<=b))) h false
 |.gtr=>k (.bool (decide (b<a))) h false
 |.geq=>k (.bool (decide (b<=a))) h false
 |_=>none
def qb9(op:BinOp)(a b:List UInt8)(h:qa)(k:qO R):Option R :=
 match op with
 |.add=>bif Nat.ble (a.length+b.length) 9223372036854775807 then k (.str (a++b)) h false else none
 |.lss=>k (.bool (Op.bytesLess a b)) h false
 |.geq=>k (.bool (!(Op.bytesLess a b))) h false
 |.leq=>k (.bool (Op.bytesLess a b || decide (a=b))) h false
 |.gtr=>k (.bool (!(Op.bytesLess a b || decide (a=b)))) h false
 |_=>none
def KY(op:BinOp)(kx:IntKind)(a b:Int)(h:qa)(k:qO R):Option R :=
 bif decide (0<=b) then match op with
  |.shl=>k (.int kx (kx.wrap (a*2 ^ min b.toNat kx.bits))) h false
  |.shr=>k (.int kx (a.fdiv (2 ^ min b.toNat kx.bits))) h false
  |_=>none
 else none
def yN(op:BinOp)(x y:T)(h:qa)(k:qO R):Option R :=
 match x,y with
 |.int kx a,.int _ b=>KY op kx a b h k
 |_,_=>none
def YT(op:BinOp)(x y:T)(h:qa)(k:qO R):Option R :=
 match x,y with
 |.int kx a,.int ky b=>bif decide (kx=ky) then qb8 op kx a b h k else none
 |.str a,.str b=>qb9 op a b h k
 |_,_=>none
def qca(op:BinOp)(t:TypeId)(x y:T)(h:qa)(k:qO R):Option R :=
 match op with
 |.eql=>J5 P t x y h fun b=>k (.bool b) h false
 |.neq=>J5 P t x y h fun b=>k (.bool (!b)) h false
 |.shl|.shr=>yN op x y h k
 |_=>YT op x y h k
def qc2(op:UnOp)(x:T)(h:qa)(k:qO R):Option R :=
 match op,x with
 |.not,.bool b=>k (.bool (!b)) h false
 |.neg,.int kx a=>k (.int kx (kx.wrap (0-a))) h false
 |_,_=>none
def YU:List T->Option Int
 |[.int .u8 n]=>some n
 |_=>none
def z6:List (List T)->(List UInt8->Option R)->Option R
 |[],k=>k []
 |e::l,k=>match YU e with
  |some n=>z6 l fun m=>k (UInt8.ofNat n.toNat::m)
  |none=>none
def Zs(g:Nat->List T)(n:Nat):List (List T):=(List.range n).map g
def qho(g:Nat->List T)(n:Nat):Bool:=(Zs g n).all fun e=>(YU e).isSome
def qiD(g:Nat->List T)(n:Nat):List UInt8:=(Zs g n).map fun e=>UInt8.ofNat ((YU e).getD 0).toNat
def Kq(g:Nat->List T)(n:Nat)(k:List UInt8->Option R):Option R:=bif qho g n then k (qiD g n) else none
def Z3(src dst:TypeId)(x:T)(h:qa)(k:qO R):Option R :=
 match x with
 |.int _ n=>match P.underlying dst with
  |some (.int kd)=>k (.int kd (kd.wrap n)) h false
  |_=>none
 |.str s=>match P.underlying dst with
  |some .string=>k (.str s) h false
  |_=>none
 |.nils=>match P.underlying src,P.underlying dst with
  |some (.slice e),some .string=>match P.underlying e with
   |some (.int .u8)=>k (.str []) h false
   |_=>none
  |_,_=>none
 |.view sz n g _=>match P.underlying src,P.underlying dst with
  |some (.slice e),some .string=>match P.underlying e with
   |some (.int .u8)=>bif sz==1 then Kq g n fun l=>k (.str l) h false else none
   |_=>none
  |_,_=>none
 |.own i ver off len _=>match P.underlying src,P.underlying dst with
  |some (.slice e),some .string=>match P.underlying e with
   |some (.int .u8)=>qM h i ver fun b=>bif b.sz==1&&Nat.ble (off+len) b.n then Kq (fun j=>b.get (off+j)) len fun l=>k (.str l) h false else none
   |_=>none
  |_,_=>none
 |_=>none
def resolve:Nat->List Nat->qa->T->T
 |0,_,_,x=>bif Zg x then x else .undef
 |d+1,ex,h,x=>match x with
  |.own i ver off len cap=>bif ex.contains i then .undef else match h[i]? with
   |some b=>bif b.mp.isNone&&(b.ver==ver&&Nat.ble (off+len) b.n) then
    .view b.sz len (bif b.flat then fun j=>b.get (off+j) else fun j=>(b.get (off+j)).map (resolve d ex h)) cap
    else .undef
   |none=>.undef
  |.ptr i ver j o=>bif ex.contains i then .undef else match h[i]? with
   |some b=>bif b.mp.isNone&&(b.ver==ver&&Nat.blt j b.n) then
    .vp (bif b.flat then(b.get j).drop o else((b.get j).drop o).map (resolve d ex h))
    else .undef
   |none=>.undef
  |.agg l=>.agg (l.map (resolve d ex h))
  |.tup l=>.tup (l.map (resolve d ex h))
  |.fn f caps=>.fn f (caps.map (resolve d ex h))
  |.iface t v=>.iface t (resolve d ex h v)
  |x=>bif Zg x then x else .undef
def zO(h:qa)(x:T):T:=bif imm x then x else resolve 4 [] h x
def yO:T->List Nat
 |.own i _ _ _ _=>[i]
 |.mp i _=>[i]
 |_=>[]
def Q9:List Nat->Bool
 |[]=>true
 |a::l=>!(l.contains a)&&Q9 l
def KZ(ok:Bool)(all:List Nat)(h:qa)(x:T):T :=
 match x with
 |.own i ver off len cap=>bif ok then match h[i]? with
  |some b=>bif b.mp.isNone&&(b.ver==ver&&Nat.ble (off+len) b.n) then
   .fresh b.flat b.sz (b.n-off) (bif b.flat then fun j=>b.get (off+j) else fun j=>(b.get (off+j)).map (resolve 3 all h)) len cap
   else .undef
  |none=>.undef
  else .undef
 |.mp i ver=>bif ok then match h[i]? with
  |some b=>bif b.ver==ver then(match b.mp with|some m=>.freshm m|none=>.undef) else .undef
  |none=>.undef
  else .undef
 |x=>bif imm x then x else resolve 4 all h x
def qbs(ok:Bool)(all:List Nat)(h:qa)(x:T):T :=
 match x with
 |.agg m=>.agg (m.map (KZ ok all h))
 |y=>KZ ok all h y
def Jk:T->List Nat
 |.agg m=>m.flatMap yO
 |x=>yO x
def zP:T->List Nat
 |.tup l=>l.flatMap Jk
 |x=>Jk x
def yP(h:qa)(x:T):T :=
 match x with
 |.tup l=>.tup (l.map (qbs (Q9 (zP x)) (zP x) h))
 |y=>qbs (Q9 (zP x)) (zP x) h y
def qfc(x:T):T :=
 match x with
 |.bool _|.int _ _|.str _|.nilp|.nils|.nilf|.nili|.nilm=>x
 |_=>.undef
def qeN(x:T):T :=
 match x with
 |.view _ n _ _=>.view 0 n (fun _=>[]) none
 |x=>qfc x
def Zd(safe:Bool)(h:qa)(x:T):T×qa :=
 match x with
 |.fresh flat sz n g len cap=>bif safe || flat then(.own h.length 0 0 len cap,h++[⟨0,sz,n,g,flat,false,none⟩]) else(.own h.length 0 0 len cap,h++[⟨0,sz,n,fun j=>(g j).map qeN,false,false,none⟩])
 |.freshm m=>(.mp h.length 0,h++[yD 0 m])
 |.new x=>(x,h)
 |x=>(bif safe then x else qfc x,h)
def Z4(safe:Bool)(h:qa):List T->List T×qa
 |[]=>([],h)
 |x::l=>let (y,h1):=Zd safe h x;let (m,h2):=Z4 safe h1 l;(y::m,h2)
def Zx(safe:Bool)(h:qa)(x:T):T×qa :=
 match x with
 |.agg l=>let (m,h1):=Z4 safe h l;(.agg m,h1)
 |x=>Zd safe h x
def zQ(safe:Bool)(h:qa):List T->List T×qa
 |[]=>([],h)
 |x::l=>let (y,h1):=Zx safe h x;let (m,h2):=zQ safe h1 l;(y::m,h2)
def zG(safe:Bool)(h:qa)(x:T):T×qa :=
 match x with
 |.tup l=>let (m,h1):=zQ safe h l;(.tup m,h1)
 |x=>Zx safe h x
def z7:T->Bool
 |.fresh ..|.freshm _=>false
 |_=>true
def z8:T->Bool
 |.agg l=>l.all z7
 |x=>z7 x
def Yd:T->Bool
 |.tup l=>l.all z8
 |x=>z8 x
structure Orc where
 byRef:FuncId->Bool
 val:FuncId->List T->∀R:Type,(T->Option R)->Option R
 ref:FuncId->List T->qa->∀R:Type,(T->qa->Option R)->Option R
 valDet:∀f args,Det (val f args)
 refDet:∀f args h,Det (A:=T×qa) fun R k=>ref f args h R fun v h=>k (v,h)
 ro:FuncId->Bool:=fun _=>false
variable (K:Orc)
def Ye(f:T)(args:List T)(h:qa)(k:qO R):Option R :=
 match f with
 |.fn f caps =>
  bif K.byRef f then(bif K.ro f then K.ref f (args++caps) h R fun v _=>k v h false else K.ref f (args++caps) h R fun v h'=>k v h' true)
  else K.val f ((args++caps).map (zO h)) R fun r=>k (zG ((args++caps).all imm) h r).1 (zG ((args++caps).all imm) h r).2 (!(Yd r))
 |_=>none
def YV(sz:Nat)(x:T)(h:qa)(k:Nat->(Nat->List T)->Bool->Option R):Option R :=
 match x with
 |.nils=>k 0 (fun _=>[]) true
 |.view sz' n g _=>bif sz'==sz then k n g false else none
 |.own i ver off len _=>qM h i ver fun b=>bif (b.sz==sz)&&Nat.ble (off+len) b.n then k len (fun j=>b.get (off+j)) b.flat else none
 |.str s=>bif sz==1 then k s.length (fun j=>[.int .u8 ((s.getD j 0).toNat:Int)]) true else none
 |_=>none
def Yf(c:T):T:=bif qw c then c else .undef
def yo(pl:Bool)(sz:Nat)(x:T)(h:qa)(k:Nat->(Nat->List T)->Bool->Option R):Option R :=
 YV sz x h fun m gx fl=>bif fl then k m gx true else bif pl then k m (fun j=>(gx j).map Yf) true else k m gx false
def qK(m:Nat)(g:Nat->List T)(flat:Bool):Bool :=
 flat || (Nat.ble m 8&&(List.range m).all fun j=>(g j).all qw)
def Qg(ver sz len m:Nat)(g gx:Nat->List T)(flat:Bool):Blk :=
 ⟨ver,sz,len+m,fun j=>bif Nat.blt j len then g j else gx (j-len),flat,false,none⟩
def Yg(e:TypeId)(n:Nat):Bool:=Nat.ble (n*(ym P e+1)) 70368744177664
def qgs(pl:Bool)(sz len m:Nat)(g gx:Nat->List T)(fx:Bool):Blk:=bif pl then Qg 0 sz len m (fun j=>(g j).map Yf) gx fx else Qg 0 sz len m g gx (qK len g false&&fx)
def Zi(t:TypeId)(s x:T)(h:qa)(k:qO R):Option R :=
 match qD P t with
 |none=>none
 |some e=>bif ZD P e then yo ((qS P e).all qw) (qz P e) x h fun m gx fl =>
  match s with
  |.nils=>bif m==0 then k .nils h false
   else bif Yg P e m then k (.own h.length 0 0 m none) (h++[⟨0,qz P e,m,gx,qK m gx fl,false,none⟩]) true else none
  |.view sz n g cap=>bif sz==qz P e then bif m==0 then k s h false else match cap with
   |some c=>bif Nat.blt c (n+m)&&Yg P e (n+m) then
    k (.own h.length 0 0 (n+m) none) (h++[qgs ((qS P e).all qw) sz n m g gx (qK m gx fl)]) true else none
   |none=>none
   else none
  |.own i ver off len cap=>qM h i ver fun b=>bif (b.sz==qz P e)&&Nat.ble (off+len) b.n then
   bif m==0 then k s h false else
   bif Yg P e (len+m) then
    match cap with
    |some c=>bif Nat.ble (len+m) c then
     bif Nat.ble (off+len+m) b.n then
      k (.own i ver off (len+m) cap) (h.set i { b with get:=fun j=>bif Nat.ble (off+len) j&&Nat.blt j (off+len+m) then gx (j-(off+len)) else b.get j,flat:=b.flat&&qK m gx fl }) true
     else none
     else k (.own h.length 0 0 (len+m) none) (h++[Qg 0 b.sz len m (fun j=>b.get (off+j)) gx (b.flat&&qK m gx fl)]) true
    |none=>bif Nat.ble (off+len+m) b.n then
     k (.own i ver off (len+m) none) (h.set i { b with get:=fun j=>bif Nat.ble (off+len) j&&Nat.blt j (off+len+m) then gx (j-(off+len)) else b.get j,flat:=b.flat&&qK m gx fl }) true
     else k (.own i (ver+1) 0 (len+m) none) (h.set i (Qg (ver+1) b.sz len m (fun j=>b.get (off+j)) gx (b.flat&&qK m gx fl))) true
   else none
   else none
  |_=>none
  else none
def K1(t:TypeId)(d x:T)(h:qa)(k:qO R):Option R :=
 match qD P t with
 |none=>none
 |some e=>bif QP P e then yo ((qS P e).all qw) (qz P e) x h fun m gx fl =>
  match d with
  |.nils=>k (.int .i64 0) h false
  |.own i ver off len _=>qM h i ver fun b=>bif (b.sz==qz P e)&&Nat.ble (off+len) b.n then
   k (.int .i64 ((Nat.min m len:Nat):Int)) (h.set i { b with get:=fun j=>bif Nat.ble off j&&Nat.blt j (off+Nat.min m len) then gx (j-off) else b.get j,flat:=b.flat&&qK m gx fl }) true
   else none
  |_=>none
  else none
def YW(t:TypeId)(d:T)(h:qa)(k:qO R):Option R :=
 match qD P t with
 |none=>none
 |some e=>bif ZD P e then
  match d with
  |.nils=>k (.tup []) h false
  |.own i ver off len _=>qM h i ver fun b=>bif (b.sz==qz P e)&&Nat.ble (off+len) b.n then
   k (.tup []) (h.set i { b with get:=fun j=>bif Nat.ble off j&&Nat.blt j (off+len) then qS P e else b.get j,flat:=b.flat&&(qS P e).all qw }) true
   else none
  |_=>none
  else none
def Kr(t:TypeId)(x:T)(h:qa)(k:qO R):Option R :=
 match x with
 |.str s=>bif KU P t then k (.int .i64 (s.length:Int)) h false else none
 |.nils=>bif (qD P t).isSome then k (.int .i64 0) h false else none
 |.view _ n _ _=>bif (qD P t).isSome then k (.int .i64 (n:Int)) h false else none
 |.own i ver _ len _=>bif (qD P t).isSome then qM h i ver fun _=>k (.int .i64 (len:Int)) h false else none
 |.agg _=>match Qu P t with
  |some (n,_)=>k (.int .i64 (n:Int)) h false
  |none=>none
 |_=>none
def qcb(t:TypeId)(x:T)(h:qa)(k:qO R):Option R :=
 bif (qD P t).isSome then match x with
  |.nils=>k (.int .i64 0) h false
  |.view _ _ _ (some c)=>k (.int .i64 (c:Int)) h false
  |.own i ver _ _ (some c)=>qM h i ver fun _=>k (.int .i64 (c:Int)) h false
  |_=>none
 else none
def QQ:List (Option IntKind)->List T->(List Int->Option R)->Option R
 |[],[],k=>k []
 |some q'::fs,.int q n::l,k=>bif decide (q=q') then QQ fs l fun m=>k (n::m) else none
 |none::fs,.bool b::l,k=>QQ fs l fun m=>k ((bif b then 1 else 0)::m)
 |_,_,_=>none
def qc3:Nat->List Field->Option (List (Option IntKind))
 |_,[]=>some []
 |i,f::fs=>bif (f.offset==i)&&!(f.name=="_")&&QP P f.type then match P.underlying f.type,qc3 (i+1) fs with
  |some (.int q),some l=>some (some q::l)
  |some .bool,some l=>some (none::l)
  |_,_=>none
  else none
def qeO(k:TypeId):Option KS:=match P.underlying k with
 |some (.int q)=>some (.int q)
 |some (.struct fs)=>bif !(P.stoodInHeld k) then(match qc3 P 0 fs.toList with|some l=>some (.row l)|none=>none) else none
 |_=>none
def kG(ks:KS)(x:T)(k:List Int->Option R):Option R :=
 match ks,x with
 |.int q,.int q' n=>bif decide (q'=q) then k [n] else none
 |.row fs,.agg l=>QQ fs l k
 |_,_=>none
def qeP(e:TypeId)(q:IntKind):Bool:=match P.info? e with
 |some i=>match i.zero with|some (.int q' z)=>decide (q'=q)&&decide (z=0)|_=>false
 |none=>false
def K2(t:TypeId):Option (TypeId×KS×IntKind):=match P.underlying t with
 |some (.map k e)=>match P.underlying e,qeO P k with
  |some (.int q),some ks=>bif qeP P e q then some (k,ks,q) else none
  |_,_=>none
 |_=>none
def Zj(t:TypeId)(h:qa)(k:qO R):Option R :=
 match K2 P t with
 |some (_,ks,q)=>k (.mp h.length 0) (h++[yD 0 (.made ks q)]) true
 |none=>none
def yp(t:TypeId)(x:T)(h:qa)(k:Nat->Blk->MapD->Option R):Option R :=
 match x with
 |.mp i ver=>ZI h i ver fun b m=>match K2 P t with
  |some (_,ks,q)=>bif decide (m.ks=ks)&&decide (m.q=q) then k i b m else none
  |none=>none
 |_=>none
def Ze(t:TypeId)(x key:T)(h:qa)(k:Nat->Blk->MapD->List Int->Option R):Option R :=
 yp P t x h fun i b m=>kG m.ks key fun l=>k i b m l
def Qx(t:TypeId)(x key:T)(c:Bool)(h:qa)(k:qO R):Option R :=
 Ze P t x key h fun _ _ m l=>k (bif c then .tup [.int m.q (m.val l),.bool (m.has l)] else .int m.q (m.val l)) h false
def ZT(t:TypeId)(x key v:T)(h:qa)(k:qO R):Option R :=
 match v with
 |.int q' z=>Ze P t x key h fun i b m l=>bif decide (q'=m.q) then k .undef (h.set i ({ b with mp:=some (m.put l z) })) true else none
 |_=>none
def Zy(t:TypeId)(x key:T)(h:qa)(k:qO R):Option R :=
 Ze P t x key h fun i b m l=>k (.tup [.int m.q (m.val l),.int .i64 (m.stamp l)]) (h.set i ({ b with mp:=some (m.entry l) })) true
def Q5(t:TypeId)(x st v:T)(h:qa)(k:qO R):Option R :=
 match st,v with
 |.int ks n,.int q' z=>yp P t x h fun i b m=>match m.last with
  |some (l,s)=>bif decide (q'=m.q)&&decide (ks = .i64)&&decide (n=(s:Int)) then k .undef (h.set i ({ b with mp:=some (m.put l z) })) true else none
  |none=>none
 |_,_=>none
def yQ(t kt:TypeId)(x key:T)(h:qa)(k:qO R):Option R :=
 match K2 P t with
 |some (kt',_)=>bif kt'==kt then Ze P t x key h fun i b m l=>k (.tup []) (h.set i ({ b with mp:=some (m.del l) })) true else none
 |none=>none
def kH(mx:Bool)(x y:T)(h:qa)(k:qO R):Option R :=
 match x,y with
 |.int kx a,.int ky b=>bif decide (kx=ky) then k (.int kx (bif mx then(bif decide (a<b) then b else a) else(bif decide (b<a) then b else a))) h false else none
 |_,_=>none
def zk(b:Builtin)(types:List TypeId)(args:List T)(h:qa)(k:qO R):Option R :=
 match b,types,args with
 |.len,t::_,[x]=>Kr P t x h k
 |.cap,t::_,[x]=>qcb P t x h k
 |.append,t::tx::_,[s,x]=>bif (qD P tx).isSome || KU P tx then Zi P t s x h k else none
 |.copy,t::_,[d,x]=>K1 P t d x h k
 |.clear,t::_,[d]=>YW P t d h k
 |.min,_,[x,y]=>kH false x y h k
 |.max,_,[x,y]=>kH true x y h k
 |.delete,[t,kt],[x,y]=>yQ P t kt x y h k
 |_,_,_=>none
structure FP where
 rs:List Nat
 ws:List Nat
 rd:Bool
 wr:Bool
 rb:Option Nat×Bool
 wb:Option Nat×Bool
variable (G:Nat->Option (List T)) (prom:List Nat) (nt:Nat)
def ev(s:St):Operand->T
 |.tmp t=>bif prom.contains t then .undef else s.at t
 |.const v=>bif JU v then YF v else .undef
 |.func f=>.fn f []
 |.global g=>match G g with|some cells=>.vp cells|none=>.undef
def Qz:Operand->List Nat
 |.tmp t=>[t]
 |_=>[]
def base(s:St):Operand->Option (Nat×Nat)
 |.tmp x=>bif prom.contains x then some (x,0) else s.loc x
 |_=>none
def J7(x:T)(h:qa)(k:qO R):Option R :=
 match x with
 |.vp _|.fn ..=>k x h false
 |.ptr i ver _ _=>qM h i ver fun _=>k x h false
 |_=>none
def qP(op:Op)(e:Operand->T)(h:qa)(k:qO R):Option R :=
 match op with
 |.move x|.assign x=>k (e x) h false
 |.pick c a b=>match e c with|.bool t=>bif t then k (e a) h false else k (e b) h false|_=>none
 |.alloc ty=>bif ZD P ty then ZS P ty h k else none
 |.box _ x=>bif zK (e x) then KW (e x).cells h k else none
 |.build t parts=>YP P t (parts.toList.map fun p=>(p.1,e p.2)) h k
 |.buildSlice t len parts=>Q4 P t len (parts.toList.map fun p=>(p.1,e p.2)) h k
 |.load t a=>Yb P t (e a) h k
 |.store t a v=>YO P t (e a) (e v) h k
 |.nilCheck x=>J7 (e x) h k
 |.binOp op t x y _=>qca P op t (e x) (e y) h k
 |.unOp op _ x=>qc2 op (e x) h k
 |.convert a b x=>bif (P.underlying a).isSome then Z3 P a b (e x) h k else none
 |.makeFunc (.func f) first captured=>bif first.size==0 then k (.fn f (captured.toList.map e)) h false else none
 |.makeSlice t l c=>KX P t (e l) (e c) h k
 |.slice t x lo hi mx=>QH P t (e x) (lo.map e) (hi.map e) (mx.map e) h k
 |.fieldAddr t x f=>zu P t (e x) f h k
 |.field t x f=>YQ P t (e x) f h k
 |.indexAddr t x i=>QI P t (e x) (e i) h k
 |.index t x i=>YR P t (e x) (e i) h k
 |.extract x i=>Zh (e x) i h k
 |.makeMap t none=>Zj P t h k
 |.lookup t x i c=>Qx P t (e x) (e i) c h k
 |.mapUpdate t x i v=>ZT P t (e x) (e i) (e v) h k
 |.mapEntry t x i=>Zy P t (e x) (e i) h k
 |.entryStore t x s v=>Q5 P t (e x) (e s) (e v) h k
 |.call { callee:=.value f,args,.. }=>Ye K (e f) (args.toList.map e) h k
 |.call { callee:=.builtin b,args,argTypes }=>zk P b argTypes.toList (args.toList.map e) h k
 |_=>none
def qd3:Op->Bool
 |.move _|.assign _|.pick ..|.build ..|.makeFunc ..|.field ..|.index ..|.extract ..|.unOp ..=>true
 |_=>false
def J8:Op->Bool
 |.load ..|.nilCheck _|.binOp ..|.convert ..|.slice ..|.fieldAddr ..|.indexAddr ..=>true
 |.call { callee:=.builtin .len,.. }|.call { callee:=.builtin .cap,.. }|.call { callee:=.builtin .min,.. }|.call { callee:=.builtin .max,.. }=>true
 |_=>false
def Ks(op:Op)(e:Operand->T):Bool:=qd3 op || (J8 op&&op.operands.toList.all fun x=>imm (e x))
def Qq(op:Op)(e:Operand->T):Bool :=
 match op with
 |.call { callee:=.value f,args,.. }=>match e f with
  |.fn f caps=>K.byRef f || !((args.toList.map e++caps).all imm)
  |_=>true
 |_=>true
def Qf(op:Op):List Nat:=op.operands.toList.flatMap Qz
def YX:T->Option Nat
 |.ptr i _ _ _=>some i
 |_=>none
def jN:T->Option Nat
 |.own i _ _ _ _=>some i
 |_=>none
def Kb:T->Option Nat
 |.mp i _=>some i
 |_=>none
def Q0(op:Op)(e:Operand->T):Option Nat :=
 match op with
 |.load _ a=>YX (e a)
 |.fieldAddr _ a _=>YX (e a)
 |.nilCheck a=>YX (e a)
 |.indexAddr _ x _=>match e x with|.own i _ _ _ _=>some i|.ptr i _ _ _=>some i|_=>none
 |.slice _ x _ _ _=>jN (e x)
 |.lookup _ x _ _=>Kb (e x)
 |_=>none
def yR(op:Op)(e:Operand->T)(h:qa)(v:T):Option Nat :=
 match op with
 |.store _ a _=>YX (e a)
 |.buildSlice ..=>some h.length
 |.alloc _=>some h.length
 |.box ..=>some h.length
 |.makeMap ..=>some h.length
 |.mapUpdate _ x _ _=>Kb (e x)
 |.mapEntry _ x _=>Kb (e x)
 |.entryStore _ x _ _=>Kb (e x)
 |.call { callee:=.builtin .append,.. }=>jN v
 |_=>none
def za(op:Op)(e:Operand->T)(h:qa)(v:T)(wr:Bool):Option Nat :=
 match op with
 |.call { callee:=.value f,.. }=>match e f with
  |.fn g _=>bif K.byRef g || !wr then none else match v with
   |.own i _ _ _ _=>bif i==h.length then some i else none
   |_=>none
  |_=>none
 |op=>yR op e h v
def Kc(op:Op):Bool:=match op with|.lookup _ _ _ c=>!c|_=>false
def qc4(op:Op):Bool:=match op with|.mapEntry ..=>true|_=>false
def jO{A:Type}(v:T)(k:T->Option A):Option A :=
 match v with
 |.bool b=>bif b then k (.bool true) else k (.bool false)
 |v=>k v
def done(o:Oper)(s:St)(v:T)(hp:Option qa)(rs:List Nat)(rd wr:Bool)(k:Eff->FP->Option R):Option R :=
 match o.dst with
 |none=>k ⟨none,none,hp⟩ ⟨rs,[],rd,wr,(none,false),(none,false)⟩
 |some d=>bif Nat.blt d nt&&!(s.used d) then jO v fun v=>k ⟨some (d,v),some (d,none),hp⟩ ⟨rs,[d],rd,wr,(none,false),(none,false)⟩ else none
def ze(o:Oper)(t off:Nat)(rs:List Nat)(k:Eff->FP->Option R):Option R :=
 match o.dst with
 |none=>none
 |some d=>bif Nat.blt d nt&&!(prom.contains d) then k ⟨some (d,.undef),some (d,some (t,off)),none⟩ ⟨t::rs,[d],false,false,(none,false),(none,false)⟩ else none
def qQ(o:Oper)(s:St)(k:Eff->FP->Option R):Option R :=
 bif Ks o.op (ev G prom s) then qP P K o.op (ev G prom s) [] fun v _ wr=>bif wr then none else done nt o s v none (Qf o.op) false false k
 else qP P K o.op (ev G prom s) s.h fun v h wr=>done nt o s v (bif wr then some h else none) (Qf o.op) (Qq K o.op (ev G prom s)) wr fun f fp=>k f { fp with rb:=(Q0 o.op (ev G prom s),Kc o.op),wb:=(za K o.op (ev G prom s) s.h v wr,qc4 o.op) }
def zb(o:Oper)(s:St)(k:Eff->FP->Option R):Option R :=
 match o.op with
 |.box _ x=>match o.dst with
  |some d=>bif prom.contains d then(bif zK (ev G prom s x) then done nt o s (.reg (ev G prom s x).cells) none (Qz x) false false k else none) else qQ P K G prom nt o s k
  |none=>none
 |.alloc ty=>match o.dst with
  |some d=>bif prom.contains d then(bif ZD P ty then done nt o s (.reg (qS P ty)) none [] false false k else none) else qQ P K G prom nt o s k
  |none=>none
 |.load ty a=>match base prom s a with
  |some (t,off)=>match s.at t with
   |.reg cells=>ld P ty (cells.drop off) fun v=>done nt o s v none (t::Qz a) false false k
   |_=>none
  |none=>qQ P K G prom nt o s k
 |.store ty a x=>match base prom s a with
  |some (t,off)=>match s.at t,o.dst with
   |.reg cells,none=>bif QP P ty&&((ev G prom s x).cells.length==qz P ty)&&zK (ev G prom s x)&&Nat.ble (off+qz P ty) cells.length then
    k ⟨some (t,.reg (ZE cells off (ev G prom s x).cells)),none,none⟩ ⟨t::(Qz a++Qz x),[t],false,false,(none,false),(none,false)⟩ else none
   |_,_=>none
  |none=>qQ P K G prom nt o s k
 |.fieldAddr ty a f=>match base prom s a with
  |some (t,off)=>match s.at t with
   |.reg _=>match zs P ty f with
    |some (o',_)=>ze prom nt o t (off+o') (Qz a) k
    |none=>none
   |_=>none
  |none=>qQ P K G prom nt o s k
 |.indexAddr ty a i=>match base prom s a with
  |some (t,off)=>match s.at t with
   |.reg _=>match ev G prom s i with
    |.int _ i'=>match Qu P ty with
     |some (n,e)=>bif QP P e&&decide (0<=i')&&decide (i'<(n:Int)) then Z2 n i'.toNat fun i'=>ze prom nt o t (off+i'*qz P e) (Qz a++Qz i) k else none
     |none=>none
    |_=>none
   |_=>none
  |none=>qQ P K G prom nt o s k
 |.nilCheck a=>match base prom s a with
  |some (t,off)=>match s.at t with
   |.reg _=>ze prom nt o t off (Qz a) k
   |_=>none
  |none=>qQ P K G prom nt o s k
 |_=>qQ P K G prom nt o s k
def zZ(ops:List Oper)(j:Nat):Option Nat:=match ops[j]? with
 |some o=>o.dst
 |none=>none
def qfK(o:Oper):Bool:=match o.op with
 |.call { callee:=.builtin .append,.. }=>true
 |_=>false
def qgt(byRef:FuncId->Bool)(ops:List Oper):Operand->Bool
 |.tmp c=>ops.any fun q=>(match q.dst with|some d=>d==c|none=>false)&&(match q.op with|.call { callee:=.value (.func f),.. }=>!(byRef f)&&!(byRef 1000000)|_=>false)
 |_=>false
def qg7(byRef:FuncId->Bool)(ops:List Oper)(o:Oper):Bool:=match o.op,o.dst with
 |.buildSlice ..,some d=>byRef 1000002 || (Nat.ble 2 (ops.filter qfK).length&&ops.any fun q=>match q.op with
  |.call { callee:=.builtin .append,args,.. }=>(match args.toList with|[_,.tmp x]=>x==d|_=>false)
  |_=>false) || (ops.any fun q=>match q.op with
  |.call { callee:=.builtin .append,args,.. }=>(match args.toList with|[a,.tmp x]=>x==d&&(qgt byRef ops a || byRef 1000001)|_=>false)
  |_=>false) || ops.any fun q=>match q.op with
  |.call { callee:=.value (.func f),args,.. }=>!(byRef f)&&args.toList.any fun a=>(match a with|.tmp x=>x==d|_=>false)
  |.buildSlice _ _ parts=>parts.toList.any fun p=>(match p.2 with|.tmp x=>x==d|_=>false)
  |_=>false
 |_,_=>false
def zv(o:Oper)(s:St)(k:Eff->FP->Option R):Option R :=
 match o.op with
 |.buildSlice t len parts=>Zw P t len (parts.toList.map fun p=>(p.1,ev G prom s p.2)) fun v=>done nt o s v none (Qf o.op) false false k
 |_=>none
def YY(s:St)(o:Oper):Bool:=match o.op with
 |.buildSlice _ _ parts=>parts.toList.all fun p=>(ev G prom s p.2).cells.all imm
 |_=>false
def QW(ops:List Oper)(o:Oper)(s:St)(k:Eff->FP->Option R):Option R :=
 match o.guard with
 |none=>bif qg7 K.byRef ops o&&YY G prom s o then zv P G prom nt o s k else zb P K G prom nt o s k
 |some (j,want)=>match zZ ops j with
  |none=>none
  |some g=>match s.at g with
   |.bool b=>bif prom.contains g then none else bif (bif b then want else !want) then
    zb P K G prom nt o s fun f fp=>k f { fp with rs:=g::fp.rs }
    else done nt o s .gone none [g] false false k
   |.gone=>bif prom.contains g then none else done nt o s .gone none [g] false false k
   |_=>none
def Zk(ops:List Oper):List Oper->St->(St->List FP->Option R)->Option R
 |[],s,k=>k s []
 |o::l,s,k=>QW P K G prom nt ops o s fun f fp=>Zk ops l (f.app s) fun s'' fps=>k s'' (fp::fps)
def Kd(a b:List Nat):Bool:=a.any fun x=>b.contains x
def qgu(w r:Option Nat×Bool):Bool:=(match w.1,r.1 with
 |some i,some j=>!(i==j)
 |_,_=>false) || (w.2&&r.2)
def K3(a b:FP):Bool :=
 Kd a.ws b.rs || Kd a.ws b.ws || Kd b.ws a.rs || (a.wr&&(b.wr || (b.rd&&!(qgu a.wb b.rb)))) || (b.wr&&(a.rd&&!(qgu b.wb a.rb)))
def JV(before:List Nat):List (Nat×FP)->Bool
 |[]=>true
 |(i,a)::l=>(l.all fun p=>(before.getD p.1 0).testBit i || !(K3 a p.2))&&JV before l
def K4:Nat->List Oper->Bool
 |_,[]=>true
 |j,o::l=>(o.after.toList.all fun e=>!(Region.binds .any e) || Nat.blt e.on j)&&K4 (j+1) l
def qcc(ops:Array Oper)(fps:List FP):Bool :=
 K4 0 ops.toList&&JV (Region.before ops).toList ((List.range ops.size).zip fps)
inductive Ex where
 |normal
 |exit (id:Nat)
 |ret
def zS(s:St)(l:List Nat):List T:=l.map s.at
def Zl:List Nat->List T->Tr->Tr
 |i::l,v::vs,e=>Zl l vs (bif Nat.blt i 1024 then e.set Qt i v else e)
 |_,_,e=>e
def qx(l:List Nat)(vs:List T)(h:qa):St:={ env:=Zl l vs .nil,loc:=fun _=>none,used:=fun _=>false,h:=h }
abbrev Rec:=∀R:Type,Code->List T->qa->(Ex->List T->qa->Option R)->Option R
def qm:Code->Nat
 |.region id _ _=>id
 |.seq a b=>bif qm a==1000000 then qm b else qm a
 |.block _ a=>qm a
 |.scope a=>qm a
 |.loop _=>1000000
 |.rangeFunc _ _ a b=>Nat.min (qm a) (qm b)
 |_=>1000000
def K5:Code->Bool
 |.rangeFunc ..=>true
 |_=>false
def qf:Code->Bool
 |.seq a b=>qf a || qf b
 |.cond _ a b=>qf a || qf b
 |.block _ a=>qf a
 |.loop a=>qf a
 |.scope a=>qf a
 |.rangeFunc ..=>true
 |_=>false
def zc(c:Code):Code:=bif K5 c then c else .loop c
variable (live:Nat->Bool->List Nat)
def qn:Code->List Code
 |.seq a b=>qn a++qn b
 |.cond _ a b=>qn a++qn b
 |.block _ a=>qn a
 |.scope a=>qn a
 |.loop a=>a::qn a
 |.rangeFunc f ps a b=>.rangeFunc f ps a b::(qn a++qn b)
 |_=>[]
def qhW(ts fs:List Nat)(s:St):Bool :=
 (ts.all fun t=>match s.at t with|.bool b=>b|_=>true)&&(fs.all fun t=>match s.at t with|.bool b=>!b|_=>true)
def exK(rec:Rec):Code->St->(Ex->St->Option R)->Option R
 |.skip,s,k=>k .normal s
 |.label _,s,k=>k .normal s
 |.region id ops draw,s,k=>Zk P K G prom nt ops.toList ops.toList { s with loc:=fun _=>none,used:=fun _=>false } fun s' fps =>
  bif qhW (live (id+2000000) true) (live (id+2000000) false) s' then
   (bif draw then(bif qcc ops fps then k .normal s' else none) else k .normal s') else none
 |.seq a b,s,k=>exK rec a s fun e s'=>match e with
  |.normal=>exK rec b s' k
  |e=>k e s'
 |.cond c a b,s,k=>match ev G prom s c with
  |.bool t=>bif t then exK rec a s k else exK rec b s k
  |_=>none
 |.block id b,s,k=>exK rec b s fun e s'=>match e with
  |.exit i=>bif i==id then k .normal s' else k (.exit i) s'
  |e=>k e s'
 |.scope b,s,k=>exK rec b s k
 |.loop b,s,k=>bif K5 b then none else rec R b (zS s (live (qm b) false)) s.h fun e vs h=>k e (qx (live (qm b) true) vs h)
 |.rangeFunc f ps a b,s,k=>rec R (.rangeFunc f ps a b) (zS s (live (qm (.rangeFunc f ps a b)) false)) s.h fun e vs h=>k e (qx (live (qm (.rangeFunc f ps a b)) true) vs h)
 |.exit id,s,k=>k (.exit id) s
 |.ret,s,k=>k .ret s
 |_,_,_=>none
def yq:Nat->Rec
 |0,_,_,_,_,_=>none
 |n+1,R,b,vs,h,k=>bif K5 b then none else exK (R:=R) P K G prom nt live (yq n) b (qx (live (qm b) false) vs h) fun e s'=>match e with
  |.normal=>yq n R b (zS s' (live (qm b) false)) s'.h k
  |e=>k e (zS s' (live (qm b) true)) s'.h
def qc5(s:St):ResultVar->(T->Option R)->Option R
 |.tmp t,k=>k (ev G prom s (.tmp t))
 |.cell a ty,k=>match base prom s (.tmp a) with
  |some (t,off)=>match s.at t with
   |.reg cells=>ld P ty (cells.drop off) k
   |_=>none
  |none=>Yb P ty (s.at a) s.h fun v _ _=>k v
def YZ(s:St):List ResultVar->(List T->Option R)->Option R
 |[],k=>k []
 |r::l,k=>qc5 P G prom s r fun v=>YZ s l fun vs=>k (v::vs)
def Yh(fn:Func)(s:St)(k:T->Option R):Option R :=
 YZ P G prom s fn.results.toList fun
  |[v]=>k v
  |vs=>k (.tup vs)
def qgv(fn:Func)(e:Ex)(s:St)(k:T->qa->Option R):Option R :=
 match e with
 |.exit _=>none
 |_=>Yh P G prom fn s fun v=>k v s.h
def Y0:Nat->List T->Tr->Tr
 |_,[],e=>e
 |i,x::l,e=>Y0 (i+1) l (e.set Qt i x)
def enter(args:List T)(h:qa):St :=
 { env:=Y0 0 args .nil,loc:=fun _=>none,used:=fun _=>false,h:=h }
end
structure Ann where
 prom:List Nat
 live:Nat->Bool->List Nat
 byRef:Bool
section
variable (P:Program) (G:Nat->Option (List T)) (A:FuncId->Ann)
def qc6{R:Type}(K:Orc)(rec:Rec)(f:FuncId)(fn:Func)(c:Code)(args:List T)(h:qa)(k:T->qa->Option R):Option R :=
 bif Nat.ble fn.ntmps 1024&&Nat.ble args.length fn.ntmps then
  exK P K G (A f).prom fn.ntmps (A f).live rec c (enter args h) fun e s=>qgv P G (A f).prom fn e s k
 else none
def kX{R:Type}(K:Orc)(rec:Func->Rec)(f:FuncId)(args:List T)(h:qa)(k:T->qa->Option R):Option R :=
 match P.funcs[f]? with
 |some fn=>match fn.body with
  |some c=>qc6 P G A K (rec fn) f fn c args h k
  |none=>none
 |none=>none
def jP(K:Orc)(m:Nat)(f:FuncId)(fn:Func):Rec:=yq P K G (A f).prom fn.ntmps (A f).live m
def Zf(K:Orc)(m:Nat)(f:FuncId)(args:List T):Option T:=kX P G A K (jP P G A K m f) f args [] fun v h'=>some (yP h' v)
end
abbrev iI(n:Int):T:=.int .i64 n
abbrev uI(n:Int):T:=.int .u8 n
abbrev gD{R:Type}(c:Bool)(x:Option R):Option R:=bif c then x else none
abbrev zN(v:List T)(h:qa):Option (Ex×List T×qa):=some (.normal,v,h)
abbrev zR(v:List T)(h:qa):Option (Ex×List T×qa):=some (.ret,v,h)
abbrev zX(n:Nat)(v:List T)(h:qa):Option (Ex×List T×qa):=some (.exit n,v,h)
abbrev zd(f:∀R:Type,qO R->Option R):Prop:=Det (A:=T×qa×Bool) fun R k=>f R fun y h w=>k (y,h,w)
section
variable {A B:Type}
theorem qb:Det (A:=A) fun _ _=>none:=.inl fun _ _=>rfl
theorem qd(a:A):Det (A:=A) fun _ k=>k a:=.inr ⟨a,fun _ _=>rfl⟩
theorem qv{x y:∀R:Type,(A->Option R)->Option R}(c:Bool)(hx:Det x)(hy:Det y):Det fun R k=>bif c then x R k else y R k:=by
 cases c
 ·exact hy
 ·exact hx
theorem ql{x:∀R:Type,(A->Option R)->Option R}(c:Bool)(hx:Det x):Det fun R k=>bif c then x R k else none:=qv c hx qb
theorem J9{f:Nat->∀R:Type,(A->Option R)->Option R}(hf:∀j,Det (f j))(i:Nat):∀n,Det fun R k=>qb6 n i fun j=>f j R k
 |0=>qb
 |1=>hf 0
 |n+2=>by
  simp only[qb6];exact qv _ (hf _) (J9 hf i (n+1))
theorem Yi{f:Nat->∀R:Type,(A->Option R)->Option R}(hf:∀j,Det (f j))(n i:Nat):Det fun R k=>Z2 n i fun j=>f j R k:=by
 unfold Z2;exact qv _ (J9 hf i n) (hf i)
theorem qp{f:∀R:Type,(A->Option R)->Option R}{g:A->∀R:Type,(B->Option R)->Option R}(hf:Det f)(hg:∀a,Det (g a)):Det fun R k=>f R fun a=>g a R k:=by
 rcases hf with h|⟨a,h⟩
 ·exact .inl fun R k=>h R _
 ·rcases hg a with h2|⟨b,h2⟩
  ·exact .inl fun R k=>(h R _).trans (h2 R k)
  ·exact .inr ⟨b,fun R k=>(h R _).trans (h2 R k)⟩
theorem Kt{D:Type}{f:∀R:Type,(A->B->Option R)->Option R}{g:A->B->∀R:Type,(D->Option R)->Option R}(hf:Det (A:=A×B) fun R k=>f R fun a b=>k (a,b))
 (hg:∀a b,Det (g a b)):Det fun R k=>f R fun a b=>g a b R k:=by
 rcases hf with h|⟨p,h⟩
 ·exact .inl fun R k=>h R fun q=>g q.1 q.2 R k
 ·rcases hg p.1 p.2 with h2|⟨b,h2⟩
  ·exact .inl fun R k=>(h R fun q=>g q.1 q.2 R k).trans (h2 R k)
  ·exact .inr ⟨b,fun R k=>(h R fun q=>g q.1 q.2 R k).trans (h2 R k)⟩
theorem Qr{C D:Type}{f:∀R:Type,(A->B->C->Option R)->Option R}{g:A->B->C->∀R:Type,(D->Option R)->Option R}(hf:Det (A:=A×B×C) fun R k=>f R fun a b c=>k (a,b,c))
 (hg:∀a b c,Det (g a b c)):Det fun R k=>f R fun a b c=>g a b c R k:=by
 rcases hf with h|⟨p,h⟩
 ·exact .inl fun R k=>h R fun q=>g q.1 q.2.1 q.2.2 R k
 ·rcases hg p.1 p.2.1 p.2.2 with h2|⟨b,h2⟩
  ·exact .inl fun R k=>(h R fun q=>g q.1 q.2.1 q.2.2 R k).trans (h2 R k)
  ·exact .inr ⟨b,fun R k=>(h R fun q=>g q.1 q.2.1 q.2.2 R k).trans (h2 R k)⟩
end
section
variable (P:Program) (h:qa)
theorem z9(t:TypeId)(cells:List T):Det fun R k=>ld (R:=R) P t cells k:=by
 unfold ld;cases P.underlying t with
 |none=>exact qb
 |some d =>
  refine qv _ (ql _ (qd _)) ?_;cases cells with
  |nil=>exact qb
  |cons c l=>exact qd c
attribute [local irreducible] ld
theorem qX(i ver:Nat):Det fun R k=>qM (R:=R) h i ver k:=by
 unfold qM;cases h[i]? with
 |none=>exact qb
 |some b=>exact ql _ (qd b)
attribute [local irreducible] qM
theorem Jl(t:TypeId)(v:T):zd fun R k=>Yb (R:=R) P t v h k:=by
 cases v with
 |vp cells=>exact qp (z9 P t cells) fun x=>qd (x,h,false)
 |ptr i ver j o=>exact qp (qX h i ver) fun b=>ql _ (qp (z9 P t _) fun x=>qd (x,h,false))
 |_=>exact qb
theorem qcd(t:TypeId)(a v:T):zd fun R k=>YO (R:=R) P t a v h k:=by
 cases a with
 |ptr i ver j o=>exact qp (qX h i ver) fun b=>ql _ (qd (_,_,_))
 |_=>exact qb
theorem qce(cells:List T):zd fun R k=>KW (R:=R) cells h k:=qd (_,_,_)
theorem Y3(pl:Nat->Option (Nat×Nat)):∀(parts:List (Nat×T)) (cells:List T),Det fun R k=>yn (R:=R) pl cells parts k
 |[],cells=>qd cells
 |(i,v)::rest,cells=>by
  simp only[yn];cases pl i with
  |none=>exact qb
  |some p=>exact ql _ (Y3 pl rest _)
attribute [local irreducible] yn
theorem qcf(t:TypeId)(parts:List (Nat×T)):zd fun R k=>YP (R:=R) P t parts h k:=by
 unfold YP;cases P.underlying t with
 |none=>exact qb
 |some d =>
  cases d with
  |struct fs=>exact ql _ (qp (Y3 _ _ _) fun l=>qd (_,_,_))
  |array n e=>exact ql _ (qp (Y3 _ _ _) fun l=>qd (_,_,_))
  |_=>exact qb
theorem ZJ(sz:Nat):∀(parts:List (Nat×T)) (elems:List (List T)),Det fun R k=>Z0 (R:=R) sz elems parts k
 |[],elems=>qd elems
 |_::rest,_=>ql _ (ZJ sz rest _)
attribute [local irreducible] Z0
theorem K6(t:TypeId)(len:Nat)(parts:List (Nat×T)):zd fun R k=>Q4 (R:=R) P t len parts h k:=by
 unfold Q4;cases qD P t with
 |none=>exact qb
 |some e=>exact ql _ (qp (ZJ _ _ _) fun l=>qd (_,_,_))
theorem zL(t:TypeId)(len:Nat)(parts:List (Nat×T)):Det fun R k=>Zw (R:=R) P t len parts k:=by
 unfold Zw;cases qD P t with
 |none=>exact qb
 |some e=>exact ql _ (qp (ZJ _ _ _) fun l=>ql _ (qd _))
theorem qc7(t:TypeId)(l c:T):zd fun R k=>KX (R:=R) P t l c h k:=by
 unfold KX;cases qD P t with
 |none=>exact qb
 |some e =>
  cases l with
  |int kl l =>
   cases c with
   |int kc c=>exact ql _ (ql _ (qd (_,_,_)))
   |_=>exact qb
  |_=>exact qb
theorem qaa(x:Option T)(d:Int):Det fun R k=>Yc (R:=R) x d k:=by
 cases x with
 |none=>exact qd d
 |some x =>
  cases x with
  |int kk i=>exact qd i
  |_=>exact qb
attribute [local irreducible] Yc
theorem Z5(len lim:Nat)(cap:Option Nat)(lo hi mx:Option T):Det (A:=Nat×Nat×Option Nat) fun R k=>Z1 (R:=R) len lim cap lo hi mx fun a b c=>k (a,b,c):=by
 unfold Z1;refine qp (qaa lo 0) fun l=>qp (qaa hi _) fun hh=>?_;cases mx with
 |none=>exact ql _ (qd (_,_,_))
 |some m =>
  cases m with
  |int kk m =>
   cases hi with
   |none=>exact qb
   |some _=>exact ql _ (qd (_,_,_))
  |_=>exact qb
attribute [local irreducible] Z1
theorem qcg(t:TypeId)(x:T)(lo hi mx:Option T):zd fun R k=>QH (R:=R) P t x lo hi mx h k:=by
 cases x with
 |str s =>
  cases mx with
  |some _=>exact qb
  |none=>exact ql _ (Qr (Z5 _ _ _ _ _ _) fun _ _ _=>qd (_,_,_))
 |nils =>
  simp only[QH];cases qD P t with
  |none=>exact qb
  |some e=>exact ql _ (Qr (Z5 _ _ _ _ _ _) fun _ _ _=>qd (_,_,_))
 |view sz n g cap =>
  simp only[QH];cases qD P t with
  |none=>exact qb
  |some e=>exact ql _ (Qr (Z5 _ _ _ _ _ _) fun _ _ _=>ql _ (qd (_,_,_)))
 |own i ver off len cap =>
  simp only[QH];cases qD P t with
  |none=>exact qb
  |some e=>exact qp (qX h i ver) fun b=>ql _ (Qr (Z5 _ _ _ _ _ _) fun _ _ _=>qd (_,_,_))
 |_=>exact qb
theorem qch(t:TypeId)(x:T)(f:Nat):zd fun R k=>YQ (R:=R) P t x f h k:=by
 unfold YQ;cases x with
 |agg l =>
  cases zs P t f with
  |none=>exact qb
  |some p=>exact qp (z9 P _ _) fun v=>qd (v,h,false)
 |_=>exact qb
theorem jQ(t:TypeId)(x:T)(f:Nat):zd fun R k=>zu (R:=R) P t x f h k:=by
 unfold zu;cases x with
 |ptr i ver j o =>
  cases zs P t f with
  |none=>exact qb
  |some p=>exact qp (qX h i ver) fun _=>qd (_,_,_)
 |vp cells =>
  cases zs P t f with
  |none=>exact qb
  |some p=>exact qd (_,_,_)
 |_=>exact qb
theorem qa9(ty:TypeId):zd fun R k=>ZS (R:=R) P ty h k:=by
 unfold ZS;split
 ·exact qd (_,_,_)
 ·exact qd (_,_,_)
theorem jR(t:TypeId)(x i:T):zd fun R k=>QI (R:=R) P t x i h k:=by
 unfold QI;cases i with
 |int kk i =>
  cases x with
  |own b ver off len cap =>
   dsimp only;cases qD P t with
   |none=>exact qb
   |some e=>exact qp (qX h b ver) fun blk=>ql _ (ql _ (qv _ (J9 (fun j=>qd (T.ptr b ver j 0,h,false)) _ _) (qd (_,_,_))))
  |view sz n g cap =>
   dsimp only;cases qD P t with
   |none=>exact qb
   |some e=>exact ql _ (ql _ (qd (_,_,_)))
  |ptr b ver j o =>
   dsimp only;cases Qu P t with
   |none=>exact qb
   |some p=>exact ql _ (qp (qX h b ver) fun _=>qv _ (qd (_,_,_)) (Yi (fun i=>qd (T.ptr b ver j (o+i*qz P p.2),h,false)) _ _))
  |vp cells =>
   dsimp only;cases Qu P t with
   |none=>exact qb
   |some p=>exact ql _ (Yi (fun i=>qd (T.vp (cells.drop (i*qz P p.2)),h,false)) _ _)
  |_=>exact qb
 |_=>exact qb
theorem qci(t:TypeId)(x i:T):zd fun R k=>YR (R:=R) P t x i h k:=by
 unfold YR;cases x with
 |str s =>
  cases i with
  |int kk i=>exact ql _ (ql _ (qd (_,_,_)))
  |_=>exact qb
 |agg l =>
  cases i with
  |int kk i =>
   dsimp only;cases Qu P t with
   |none=>exact qb
   |some p=>exact ql _ (Yi (fun i=>qp (z9 P _ _) fun v=>qd (v,h,false)) _ _)
  |_=>exact qb
 |_=>cases i<;>exact qb
theorem qab(x:T)(i:Nat):zd fun R k=>Zh (R:=R) x i h k:=by
 cases x with
 |tup l =>
  simp only[Zh];cases l[i]? with
  |none=>exact qb
  |some v=>exact qd (_,_,_)
 |_=>exact qb
theorem K7{eq:∀R:Type,TypeId->T->T->(Bool->Option R)->Option R}(heq:∀t x y,Det fun R k=>eq R t x y k)(l m:List T):∀fs,Det fun R k=>eqFields (R:=R) P (eq R) l m fs k
 |[]=>qd true
 |f::fs=>by
  have ih:=K7 heq l m fs;simp only[eqFields];exact qv _ ih (qp (z9 P _ _) fun a=>qp (z9 P _ _) fun b=>qp (heq _ a b) fun r=>qv r ih (qd false))
theorem Jm{eq:∀R:Type,TypeId->T->T->(Bool->Option R)->Option R}(heq:∀t x y,Det fun R k=>eq R t x y k)(l m:List T)(e:TypeId):∀is,Det fun R k=>eqItems (R:=R) P (eq R) l m e is k
 |[]=>qd true
 |i::is=>by
  have ih:=Jm heq l m e is;simp only[eqItems];exact qp (z9 P _ _) fun a=>qp (z9 P _ _) fun b=>qp (heq _ a b) fun r=>qv r ih (qd false)
theorem K9:∀(d:Nat) (t:TypeId) (x y:T),Det fun R k=>YL (R:=R) P d t x y k
 |0,_,_,_=>qb
 |d+1,t,x,y=>by
  cases x with
  |int kx a=>cases y with|int ky b=>exact ql _ (qd _)|_=>exact qb
  |bool a=>cases y with|bool b=>exact ql _ (qd _)|_=>exact qb
  |str a=>cases y with|str b=>exact ql _ (qd _)|_=>exact qb
  |agg l =>
   cases y with
   |agg m =>
    simp only[YL];cases YS P t with
    |none =>
     cases qc1 P t with
     |none=>exact qb
     |some ne=>exact Jm P (fun t x y=>K9 d t x y) l m ne.2 (List.range ne.1)
    |some fs=>exact qv _ qb (K7 P (fun t x y=>K9 d t x y) l m fs)
   |_=>exact qb
  |_=>exact qb
attribute [local irreducible] YL
theorem qbt(t:TypeId)(x y:T):Det fun R k=>J5 (R:=R) P t x y h k:=by
 unfold J5;cases x with
 |int kx a=>cases y with|int ky b=>exact ql _ (qd _)|_=>exact qb
 |str a=>cases y with|str b=>exact qd _|_=>exact qb
 |bool a=>cases y with|bool b=>exact K9 P 1 t _ _|_=>exact qb
 |agg a=>cases y with|agg b=>exact qv _ qb (K9 P 10 t _ _)|_=>exact qb
 |nils=>cases y with
  |nils=>exact ql _ (qd _)
  |view _ _ _ _=>exact ql _ (qd _)
  |own i ver _ _ _=>exact ql _ (qp (qX h i ver) fun _=>ql _ (qd _))
  |_=>exact qb
 |view _ _ _ _=>cases y with|nils=>exact ql _ (qd _)|_=>exact qb
 |own i ver _ _ _=>cases y with|nils=>exact ql _ (qp (qX h i ver) fun _=>ql _ (qd _))|_=>exact qb
 |nilf=>cases y with|nilf=>exact ql _ (qd _)|fn _ _=>exact ql _ (qd _)|_=>exact qb
 |fn _ _=>cases y with|nilf=>exact ql _ (qd _)|_=>exact qb
 |_=>cases y<;>exact qb
attribute [local irreducible] J5
theorem qd4(op:BinOp)(kx:IntKind)(a b:Int):zd fun R k=>qb8 (R:=R) op kx a b h k:=by
 cases op<;>first|exact qd (_,_,_)|exact qv _ qb (qd (_,_,_))|exact qb
theorem qd5(op:BinOp)(a b:List UInt8):zd fun R k=>qb9 (R:=R) op a b h k:=by
 cases op<;>first|exact qd (_,_,_)|exact ql _ (qd (_,_,_))|exact qb
theorem qcj(op:BinOp)(kx:IntKind)(a b:Int):zd fun R k=>KY (R:=R) op kx a b h k:=by
 unfold KY;cases op<;>first|exact ql _ (qd (_,_,_))|exact ql _ qb
theorem qck(op:BinOp)(x y:T):zd fun R k=>YT (R:=R) op x y h k:=by
 unfold YT;cases x with
 |int kx a=>cases y with|int ky b=>exact ql _ (qd4 h op kx a b)|_=>exact qb
 |str a=>cases y with|str b=>exact qd5 h op a b|_=>exact qb
 |_=>cases y<;>exact qb
theorem Ke(op:BinOp)(x y:T):zd fun R k=>yN (R:=R) op x y h k:=by
 unfold yN;cases x with
 |int kx a=>cases y with|int ky b=>exact qcj h op kx a b|_=>exact qb
 |_=>cases y<;>exact qb
theorem qd6(op:BinOp)(t:TypeId)(x y:T):zd fun R k=>qca (R:=R) P op t x y h k:=by
 cases op
 case eql=>exact qp (qbt P h t x y) fun b=>qd (_,_,_)
 case neq=>exact qp (qbt P h t x y) fun b=>qd (_,_,_)
 case shl=>exact Ke h _ x y
 case shr=>exact Ke h _ x y
 all_goals exact qck h _ x y
theorem qfd(op:UnOp)(x:T):zd fun R k=>qc2 (R:=R) op x h k:=by
 unfold qc2;cases op<;>cases x<;>first|exact qd (_,_,_)|exact qb
theorem qac(g:Nat->List T)(n:Nat):Det fun R k=>Kq (R:=R) g n k:=by
 unfold Kq;exact ql _ (qd _)
attribute [local irreducible] Kq
theorem qad(a b:TypeId)(x:T):zd fun R k=>Z3 (R:=R) P a b x h k:=by
 unfold Z3;cases x with
 |int kx n =>
  dsimp only;cases P.underlying b with
  |none=>exact qb
  |some d=>cases d<;>first|exact qd (_,_,_)|exact qb
 |str s =>
  dsimp only;cases P.underlying b with
  |none=>exact qb
  |some d=>cases d<;>first|exact qd (_,_,_)|exact qb
 |nils =>
  dsimp only;cases P.underlying a with
  |none=>exact qb
  |some da =>
   cases P.underlying b with
   |none=>cases da<;>exact qb
   |some db =>
    cases da with
    |slice e =>
     cases db with
     |string =>
      dsimp only;cases P.underlying e with
      |none=>exact qb
      |some de =>
       cases de with
       |int kk=>cases kk<;>first|exact qd (_,_,_)|exact qb
       |_=>exact qb
     |_=>exact qb
    |_=>exact qb
 |view sz n g cap =>
  dsimp only;cases P.underlying a with
  |none=>exact qb
  |some da =>
   cases P.underlying b with
   |none=>cases da<;>exact qb
   |some db =>
    cases da with
    |slice e =>
     cases db with
     |string =>
      dsimp only;cases P.underlying e with
      |none=>exact qb
      |some de =>
       cases de with
       |int kk=>cases kk<;>first|exact ql _ (qp (qac _ _) fun l=>qd (_,_,_))|exact qb
       |_=>exact qb
     |_=>exact qb
    |_=>exact qb
 |own i ver off len cap =>
  dsimp only;cases P.underlying a with
  |none=>exact qb
  |some da =>
   cases P.underlying b with
   |none=>cases da<;>exact qb
   |some db =>
    cases da with
    |slice e =>
     cases db with
     |string =>
      dsimp only;cases P.underlying e with
      |none=>exact qb
      |some de =>
       cases de with
       |int kk=>cases kk<;>first|exact qp (qX h i ver) fun _=>ql _ (qp (qac _ _) fun l=>qd (_,_,_))|exact qb
       |_=>exact qb
     |_=>exact qb
    |_=>exact qb
 |_=>exact qb
theorem qc8(K:Orc)(f:T)(args:List T):zd fun R k=>Ye (R:=R) K f args h k:=by
 cases f with
 |fn f caps =>
  refine qv _ ?_ ?_
  ·exact qv _ (Kt (K.refDet f (args++caps) h) fun v _=>qd (v,h,false)) (Kt (K.refDet f (args++caps) h) fun v h'=>qd (v,h',true))
  ·exact qp (K.valDet f _) fun r=>qd (_,_,_)
 |_=>exact qb
theorem qd7(sz:Nat)(x:T):Det (A:=Nat×(Nat->List T)×Bool) fun R k=>YV (R:=R) sz x h fun a b c=>k (a,b,c):=by
 unfold YV;cases x with
 |nils=>exact qd (_,_,_)
 |view sz' n g cap=>exact ql _ (qd (_,_,_))
 |own i ver off len cap=>exact qp (qX h i ver) fun b=>ql _ (qd (_,_,_))
 |str s=>exact ql _ (qd (_,_,_))
 |_=>exact qb
attribute [local irreducible] YV
theorem Y4(pl:Bool)(sz:Nat)(x:T):Det (A:=Nat×(Nat->List T)×Bool) fun R k=>yo (R:=R) pl sz x h fun a b c=>k (a,b,c):=by
 unfold yo;exact Qr (qd7 h sz x) fun m gx fl=>qv _ (qd (_,_,_)) (qv _ (qd (_,_,_)) (qd (_,_,_)))
attribute [local irreducible] yo
theorem Kf(t:TypeId)(s x:T):zd fun R k=>Zi (R:=R) P t s x h k:=by
 unfold Zi;cases qD P t with
 |none=>exact qb
 |some e =>
  refine ql _ (Qr (Y4 h _ _ x) fun m gx fl=>?_);cases s with
  |nils=>exact qv _ (qd (_,_,_)) (ql _ (qd (_,_,_)))
  |view sz n g cap =>
   refine ql _ (qv _ (qd (_,_,_)) ?_);cases cap with
   |none=>exact qb
   |some c=>exact ql _ (qd (_,_,_))
  |own i ver off len cap =>
   refine qp (qX h i ver) fun b=>ql _ (qv _ (qd (_,_,_)) (ql _ ?_));cases cap with
   |none=>exact qv _ (qd (_,_,_)) (qd (_,_,_))
   |some c=>exact qv _ (ql _ (qd (_,_,_))) (qd (_,_,_))
  |_=>exact qb
theorem Jn(t:TypeId)(d x:T):zd fun R k=>K1 (R:=R) P t d x h k:=by
 unfold K1;cases qD P t with
 |none=>exact qb
 |some e =>
  refine ql _ (Qr (Y4 h _ _ x) fun m gx fl=>?_);cases d with
  |nils=>exact qd (_,_,_)
  |own i ver off len cap=>exact qp (qX h i ver) fun b=>ql _ (qd (_,_,_))
  |_=>exact qb
theorem qcl(t:TypeId)(d:T):zd fun R k=>YW (R:=R) P t d h k:=by
 unfold YW;cases qD P t with
 |none=>exact qb
 |some e =>
  refine ql _ ?_;cases d with
  |nils=>exact qd (_,_,_)
  |own i ver off len cap=>exact qp (qX h i ver) fun b=>ql _ (qd (_,_,_))
  |_=>exact qb
theorem qae(t:TypeId)(x:T):zd fun R k=>Kr (R:=R) P t x h k:=by
 unfold Kr;cases x with
 |str s=>exact ql _ (qd (_,_,_))
 |nils=>exact ql _ (qd (_,_,_))
 |view _ _ _ _=>exact ql _ (qd (_,_,_))
 |own i ver _ _ _=>exact ql _ (qp (qX h i ver) fun _=>qd (_,_,_))
 |agg l =>
  dsimp only;cases Qu P t with
  |none=>exact qb
  |some p=>exact qd (_,_,_)
 |_=>exact qb
theorem qaf(t:TypeId)(x:T):zd fun R k=>qcb (R:=R) P t x h k:=by
 refine ql _ ?_;cases x with
 |nils=>exact qd (_,_,_)
 |view _ _ _ cap=>cases cap with|none=>exact qb|some c=>exact qd (_,_,_)
 |own i ver _ _ cap=>cases cap with|none=>exact qb|some c=>exact qp (qX h i ver) fun _=>qd (_,_,_)
 |_=>exact qb
theorem yr(mx:Bool)(x y:T):zd fun R k=>kH (R:=R) mx x y h k:=by
 unfold kH;cases x with
 |int kx a=>cases y with|int ky b=>exact ql _ (qd (_,_,_))|_=>exact qb
 |_=>cases y<;>exact qb
theorem qd8(x:T):zd fun R k=>J7 (R:=R) x h k:=by
 cases x with
 |vp _=>exact qd (_,_,_)
 |fn _ _=>exact qd (_,_,_)
 |ptr i ver _ _=>exact qp (qX h i ver) fun _=>qd (_,_,_)
 |_=>exact qb
theorem qc9(i ver:Nat):Det (A:=Blk×MapD) fun R k=>ZI (R:=R) h i ver fun b m=>k (b,m):=by
 unfold ZI;cases h[i]? with
 |none=>exact qb
 |some b =>
  dsimp only;cases b.mp with
  |none=>exact ql _ qb
  |some m=>exact ql _ (qd (b,m))
attribute [local irreducible] ZI
theorem qcm:∀(fs:List (Option IntKind)) (l:List T),Det fun R k=>QQ (R:=R) fs l k:=by
 intro fs
 induction fs with
 |nil =>
  intro l;cases l with
  |nil=>exact qd ([]:List Int)
  |cons x l=>exact qb
 |cons f fs ih =>
  intro l;cases l with
  |nil=>cases f<;>exact qb
  |cons x l =>
   cases f with
   |some q' =>
    cases x with
    |int q n=>exact ql _ (qp (ih l) fun m=>qd (n::m))
    |_=>exact qb
   |none =>
    cases x with
    |bool b=>exact qp (f:=fun R k=>QQ (R:=R) fs l k) (g:=fun m R k=>k ((bif b then 1 else 0)::m)) (ih l) fun m=>qd _
    |_=>exact qb
attribute [local irreducible] QQ
theorem yt(ks:KS)(x:T):Det fun R k=>kG (R:=R) ks x k:=by
 unfold kG;split
 ·exact ql _ (qd _)
 ·exact qcm _ _
 ·exact qb
attribute [local irreducible] kG
theorem qag(t:TypeId):zd fun R k=>Zj (R:=R) P t h k:=by
 unfold Zj;split
 ·exact qd (_,_,_)
 ·exact qb
theorem qbu(t:TypeId)(x:T):Det (A:=Nat×Blk×MapD) fun R k=>yp (R:=R) P t x h fun a b c=>k (a,b,c):=by
 unfold yp;split
 ·rename_i i ver;refine Kt (qc9 h i ver) fun b m=>?_;split
  ·exact ql _ (qd (i,b,m))
  ·exact qb
 ·exact qb
attribute [local irreducible] yp
theorem yS(t:TypeId)(x key:T):Det (A:=Nat×Blk×MapD×List Int) fun R k=>Ze (R:=R) P t x key h fun a b c d=>k (a,b,c,d):=by
 unfold Ze;exact Qr (qbu P h t x) fun i ver m=>qp (yt m.ks key) fun l=>qd (i,ver,m,l)
attribute [local irreducible] Ze
theorem yT{A B C E D:Type}{f:∀R:Type,(A->B->C->E->Option R)->Option R}{g:A->B->C->E->∀R:Type,(D->Option R)->Option R}(hf:Det (A:=A×B×C×E) fun R k=>f R fun a b c d=>k (a,b,c,d))
 (hg:∀a b c d,Det (g a b c d)):Det fun R k=>f R fun a b c d=>g a b c d R k:=qp (f:=fun R k=>f R fun a b c d=>k (a,b,c,d)) (g:=fun p=>g p.1 p.2.1 p.2.2.1 p.2.2.2) hf fun p=>hg _ _ _ _
theorem qba(t:TypeId)(x key:T)(c:Bool):zd fun R k=>Qx (R:=R) P t x key c h k:=by
 unfold Qx;exact yT (yS P h t x key) fun i ver m l=>qd (_,_,_)
theorem qbb(t:TypeId)(x key v:T):zd fun R k=>ZT (R:=R) P t x key v h k:=by
 unfold ZT;split
 ·exact yT (yS P h t x key) fun i ver m l=>ql _ (qd (_,_,_))
 ·exact qb
theorem qcn(t:TypeId)(x key:T):zd fun R k=>Zy (R:=R) P t x key h k:=by
 unfold Zy;exact yT (yS P h t x key) fun i ver m l=>qd (_,_,_)
theorem ja(t:TypeId)(x st v:T):zd fun R k=>Q5 (R:=R) P t x st v h k:=by
 unfold Q5;split
 ·refine Qr (qbu P h t x) fun i ver m=>?_;split
  ·exact ql _ (qd (_,_,_))
  ·exact qb
 ·exact qb
theorem qbc(t kt:TypeId)(x key:T):zd fun R k=>yQ (R:=R) P t kt x key h k:=by
 unfold yQ;split
 ·exact ql _ (yT (yS P h t x key) fun i ver m l=>qd (_,_,_))
 ·exact qb
theorem qah(b:Builtin)(ts:List TypeId)(args:List T):zd fun R k=>zk (R:=R) P b ts args h k:=by
 match b,ts,args with
 |.len,t::_,[x]=>exact qae P h t x
 |.cap,t::_,[x]=>exact qaf P h t x
 |.append,t::tx::_,[s,x]=>exact ql _ (Kf P h t s x)
 |.copy,t::_,[d,x]=>exact Jn P h t d x
 |.min,_,[x,y]=>exact yr h false x y
 |.max,_,[x,y]=>exact yr h true x y
 |b,ts,args =>
  unfold zk;split
  ·exact qae P h _ _
  ·exact qaf P h _ _
  ·exact ql _ (Kf P h _ _ _)
  ·exact Jn P h _ _ _
  ·exact qcl P h _ _
  ·exact yr h false _ _
  ·exact yr h true _ _
  ·exact qbc P h _ _ _ _
  ·exact qb
end
section
variable (P:Program) (K:Orc) (Gl:Nat->Option (List T)) (prom:List Nat) (nt:Nat)
theorem zw(op:Op)(e:Operand->T)(h:qa):zd fun R k=>qP (R:=R) P K op e h k:=by
 unfold qP;split
 ·exact qd (_,_,_)
 ·exact qd (_,_,_)
 ·split
  ·exact qv _ (qd (_,_,_)) (qd (_,_,_))
  ·exact qb
 ·exact ql _ (qa9 P h _)
 ·exact ql _ (qce h _)
 ·exact qcf P h _ _
 ·exact K6 P h _ _ _
 ·exact Jl P h _ _
 ·exact qcd P h _ _ _
 ·exact qd8 h _
 ·exact qd6 P h _ _ _ _
 ·exact qfd h _ _
 ·exact ql _ (qad P h _ _ _)
 ·exact ql _ (qd (_,_,_))
 ·exact qc7 P h _ _ _
 ·exact qcg P h _ _ _ _ _
 ·exact jQ P h _ _ _
 ·exact qch P h _ _ _
 ·exact jR P h _ _ _
 ·exact qci P h _ _ _
 ·exact qab h _ _
 ·exact qag P h _
 ·exact qba P h _ _ _ _
 ·exact qbb P h _ _ _ _
 ·exact qcn P h _ _ _
 ·exact ja P h _ _ _ _
 ·exact qc8 h K _ _
 ·exact qah P h _ _ _
 ·exact qb
theorem qd9(v:T):Det fun R k=>jO (A:=R) v k:=by
 cases v with
 |bool b=>exact qv b (qd _) (qd _)
 |_=>exact qd _
abbrev qfe(f:∀R:Type,(Eff->FP->Option R)->Option R):Prop:=Det (A:=Eff×FP) fun R k=>f R fun s fp=>k (s,fp)
theorem Za(o:Oper)(s:St)(v:T)(hp:Option qa)(rs:List Nat)(rd wr:Bool):qfe fun R k=>done (R:=R) nt o s v hp rs rd wr k:=by
 unfold done;cases o.dst with
 |none=>exact qd (_,_)
 |some d=>exact ql _ (qp (qd9 v) fun v=>qd (_,_))
theorem Y5(o:Oper)(t off:Nat)(rs:List Nat):qfe fun R k=>ze (R:=R) prom nt o t off rs k:=by
 unfold ze;cases o.dst with
 |none=>exact qb
 |some d=>exact ql _ (qd (_,_))
attribute [local irreducible] qP jO done ze ld
theorem qff{A B C:Type}{F:∀R:Type,(A->B->Option R)->Option R}(h:Det (A:=A×B) fun R k=>F R fun a b=>k (a,b))(g:A->B->C):Det (A:=A×C) fun R k=>F R fun a b=>k (a,g a b):=by
 rcases h with h|⟨⟨a,b⟩,h⟩
 ·exact .inl fun R k=>h R fun p=>k (p.1,g p.1 p.2)
 ·exact .inr ⟨(a,g a b),fun R k=>h R fun p=>k (p.1,g p.1 p.2)⟩
theorem Qw(o:Oper)(s:St):qfe fun R k=>qQ (R:=R) P K Gl prom nt o s k:=by
 unfold qQ;exact qv _ (Qr (zw P K _ _ _) fun _ _ wr=>qv wr qb (Za nt _ _ _ _ _ _ _)) (Qr (zw P K _ _ _) fun _ _ _=>qff (Za nt _ _ _ _ _ _ _) _)
attribute [local irreducible] qQ
theorem Zm(o:Oper)(s:St):qfe fun R k=>zb (R:=R) P K Gl prom nt o s k:=by
 unfold zb;split
 ·cases o.dst with
  |none=>exact qb
  |some d=>exact qv _ (ql _ (Za nt _ _ _ _ _ _ _)) (Qw P K Gl prom nt o s)
 ·cases o.dst with
  |none=>exact qb
  |some d=>exact qv _ (ql _ (Za nt _ _ _ _ _ _ _)) (Qw P K Gl prom nt o s)
 ·split
  ·split
   ·exact qp (z9 P _ _) fun v=>Za nt _ _ _ _ _ _ _
   ·exact qb
  ·exact Qw P K Gl prom nt o s
 ·split
  ·split
   ·exact ql _ (qd (_,_))
   ·exact qb
  ·exact Qw P K Gl prom nt o s
 ·split
  ·split
   ·split
    ·exact Y5 prom nt _ _ _ _
    ·exact qb
   ·exact qb
  ·exact Qw P K Gl prom nt o s
 ·split
  ·split
   ·split
    ·split
     ·exact ql _ (Yi (fun j=>Y5 prom nt _ _ _ _) _ _)
     ·exact qb
    ·exact qb
   ·exact qb
  ·exact Qw P K Gl prom nt o s
 ·split
  ·split
   ·exact Y5 prom nt _ _ _ _
   ·exact qb
  ·exact Qw P K Gl prom nt o s
 ·exact Qw P K Gl prom nt o s
attribute [local irreducible] zb
theorem QR{A B D:Type}{f:∀R:Type,(A->B->Option R)->Option R}{g:A->B->∀R:Type,(D->Option R)->Option R}(hf:Det (A:=A×B) fun R k=>f R fun a b=>k (a,b))
 (hg:∀a b,Det (g a b)):Det fun R k=>f R fun a b=>g a b R k:=by
 rcases hf with h|⟨p,h⟩
 ·exact .inl fun R k=>h R fun q=>g q.1 q.2 R k
 ·rcases hg p.1 p.2 with h2|⟨b,h2⟩
  ·exact .inl fun R k=>(h R fun q=>g q.1 q.2 R k).trans (h2 R k)
  ·exact .inr ⟨b,fun R k=>(h R fun q=>g q.1 q.2 R k).trans (h2 R k)⟩
theorem qda(o:Oper)(s:St):qfe fun R k=>zv (R:=R) P Gl prom nt o s k:=by
 unfold zv;split
 ·exact qp (zL P _ _ _) fun v=>Za nt _ _ _ _ _ _ _
 ·exact qb
theorem Jo(ops:List Oper)(o:Oper)(s:St):qfe fun R k=>QW (R:=R) P K Gl prom nt ops o s k:=by
 unfold QW;split
 ·exact qv _ (qda (P:=P) (Gl:=Gl) (prom:=prom) (nt:=nt) (o:=o) (s:=s)) (Zm P K Gl prom nt o s)
 ·split
  ·exact qb
  ·split
   ·exact qv _ qb (qv _ (QR (Zm P K Gl prom nt o s) fun s' fp=>qd (_,_)) (Za nt _ _ _ _ _ _ _))
   ·exact qv _ qb (Za nt _ _ _ _ _ _ _)
   ·exact qb
attribute [local irreducible] QW
abbrev qiE(f:∀R:Type,(St->List FP->Option R)->Option R):Prop:=Det (A:=St×List FP) fun R k=>f R fun s fp=>k (s,fp)
theorem qai(ops:List Oper):∀(l:List Oper) (s:St),qiE fun R k=>Zk (R:=R) P K Gl prom nt ops l s k
 |[],s=>qd (s,[])
 |o::l,s=>by
  simp only[Zk];exact QR (Jo P K Gl prom nt ops o s) fun f fp=>QR (qai ops l (f.app s)) fun s'' fps=>qd (_,_)
attribute [local irreducible] Zk
variable (live:Nat->Bool->List Nat)
def zD(rec:Rec):Prop:=∀b vs h,Det (A:=Ex×List T×qa) fun R k=>rec R b vs h fun e vs h=>k (e,vs,h)
abbrev qiF(f:∀R:Type,(Ex->St->Option R)->Option R):Prop:=Det (A:=Ex×St) fun R k=>f R fun e s=>k (e,s)
theorem Zb{rec:Rec}(hrec:zD rec):∀(c:Code) (s:St),qiF fun R k=>exK (R:=R) P K Gl prom nt live rec c s k
 |.skip,s=>qd (_,_)
 |.label _,s=>qd (_,_)
 |.region id ops draw,s=>by
  simp only[exK];exact QR (qai P K Gl prom nt ops.toList ops.toList _) fun s' fps=>ql _ (qv _ (ql _ (qd (_,_))) (qd (_,_)))
 |.seq a b,s=>by
  simp only[exK];refine QR (Zb hrec a s) fun e s'=>?_;cases e with
  |normal=>exact Zb hrec b s'
  |_=>exact qd (_,_)
 |.cond c a b,s=>by
  simp only[exK];split
  ·exact qv _ (Zb hrec a s) (Zb hrec b s)
  ·exact qb
 |.block id b,s=>by
  simp only[exK];refine QR (Zb hrec b s) fun e s'=>?_;cases e with
  |exit i=>exact qv _ (qd (_,_)) (qd (_,_))
  |_=>exact qd (_,_)
 |.loop b,s=>by
  simp only[exK];exact qv _ qb (Qr (hrec b _ s.h) fun e vs h=>qd (_,_))
 |.exit id,s=>qd (_,_)
 |.ret,s=>qd (_,_)
 |.scope b,s=>by
  simp only[exK];exact Zb hrec b s
 |.goto _,_=>qb
 |.refuse _,_=>qb
 |.rangeFunc f ps a b,s=>by
  simp only[exK];exact Qr (hrec _ _ s.h) fun e vs h=>qd (_,_)
theorem z0:∀n,zD (yq P K Gl prom nt live n)
 |0=>fun b vs h=>qb
 |n+1=>fun b vs h=>by
  simp only[yq];refine qv _ qb ?_;refine QR (Zb P K Gl prom nt live (z0 n) b _) fun e s'=>?_;cases e with
  |normal=>exact z0 n b _ _
  |_=>exact qd (_,_,_)
theorem qco(t:TypeId)(v:T)(h:qa):Det fun R k=>Yb (R:=R) P t v h fun v _ _=>k v :=
 Qr (Jl P h t v) fun v _ _=>qd v
theorem qbv(s:St)(r:ResultVar):Det fun R k=>qc5 (R:=R) P Gl prom s r k:=by
 cases r with
 |tmp t=>exact qd _
 |cell a ty =>
  simp only[qc5];split
  ·split
   ·exact z9 P _ _
   ·exact qb
  ·exact qco P _ _ _
theorem qaj(s:St):∀l:List ResultVar,Det fun R k=>YZ (R:=R) P Gl prom s l k
 |[]=>qd []
 |r::l=>by
  simp only[YZ];exact qp (qbv P Gl prom s r) fun v=>qp (qaj s l) fun vs=>qd _
end
section
variable (P:Program) (K:Orc) (Gl:Nat->Option (List T)) (prom:List Nat) (nt:Nat)
theorem qbw{e e':Operand->T}(ps:Array (Nat×Operand))(h:∀x∈(ps.toList.map (·.2)),e' x=e x):(ps.toList.map fun p=>(p.1,e' p.2))=(ps.toList.map fun p=>(p.1,e p.2)):=by
 apply List.map_congr_left;intro p hp;rw[h p.2 (List.mem_map.2 ⟨p,hp,rfl⟩)]
theorem jb{e e':Operand->T}(xs:Array Operand)(h:∀x∈xs.toList,e' x=e x):xs.toList.map e'=xs.toList.map e:=List.map_congr_left fun x hx=>h x hx
theorem Jp{R:Type}(op:Op){e e':Operand->T}(hd:qa)(k:qO R)(h:∀x∈op.operands.toList,e' x=e x):qP P K op e' hd k=qP P K op e hd k:=by
 cases op with
 |call c =>
  obtain⟨callee,args,argTypes⟩:=c;cases callee with
  |value f =>
   have h1:=h f (by simp[Op.operands,Call.operands]);have h2:=jb (e:=e) (e':=e') args fun x hx=>h x (by simp[Op.operands,Call.operands];right;simpa using hx);simp only[qP,h1,h2]
  |builtin b =>
   have h2:=jb (e:=e) (e':=e') args fun x hx=>h x (by simpa [Op.operands,Call.operands] using hx);simp only[qP,h2]
  |invoke r m=>rfl
 |build t ps =>
  simp only[qP];rw[qbw (e:=e) (e':=e') ps fun x hx=>h x (by simpa [Op.operands] using hx)]
 |buildSlice t n ps =>
  simp only[qP];rw[qbw (e:=e) (e':=e') ps fun x hx=>h x (by simpa [Op.operands] using hx)]
 |makeFunc fn first captured =>
  have h2:=jb (e:=e) (e':=e') captured fun x hx=>h x (by simp only[Op.operands,Array.toList_append,List.mem_append];exact .inr hx);cases fn<;>simp only[qP,h2]
 |slice t x lo hi mx=>cases lo<;>cases hi<;>cases mx<;>simp_all [Op.operands,qP]
 |makeMap t r=>cases r<;>rfl
 |_=>first|rfl|(simp[Op.operands] at h;simp[qP,h];done)
theorem jc(op:Op){e e':Operand->T}(h:∀x∈op.operands.toList,e' x=e x):Ks op e'=Ks op e:=by
 unfold Ks;congr 1;congr 1;have:∀l:List Operand,(∀x∈l,e' x=e x)->(l.all fun x=>imm (e' x))=(l.all fun x=>imm (e x)):=by
  intro l
  induction l with
  |nil=>exact fun _=>rfl
  |cons x l ih=>intro hl;simp only[List.all_cons,hl x (by simp),ih fun y hy=>hl y (by simp[hy])]
 exact this _ h
theorem JJ(op:Op){e e':Operand->T}(h:∀x∈op.operands.toList,e' x=e x):Qq K op e'=Qq K op e:=by
 cases op with
 |call c =>
  obtain⟨callee,args,argTypes⟩:=c;cases callee with
  |value f =>
   have h1:=h f (by simp[Op.operands,Call.operands]);have h2:=jb (e:=e) (e':=e') args fun x hx=>h x (by simp[Op.operands,Call.operands];right;simpa using hx);simp only[Qq,h1,h2]
  |_=>rfl
 |_=>rfl
theorem qdb(op:Op){e e':Operand->T}(h:∀x∈op.operands.toList,e' x=e x):Q0 op e'=Q0 op e:=by
 cases op with
 |load t a=>simp only[Q0,h a (by simp[Op.operands])]
 |fieldAddr t a f=>simp only[Q0,h a (by simp[Op.operands])]
 |nilCheck a=>simp only[Q0,h a (by simp[Op.operands])]
 |indexAddr t x i=>simp only[Q0,h x (by simp[Op.operands])]
 |slice t x lo hi mx=>simp only[Q0,h x (by simp[Op.operands])]
 |lookup t x i c=>simp only[Q0,h x (by simp[Op.operands])]
 |_=>rfl
theorem Y6(op:Op){e e':Operand->T}(h:∀x∈op.operands.toList,e' x=e x)(hp:qa)(v:T):yR op e' hp v=yR op e hp v:=by
 cases op with
 |store t a v=>simp only[yR,h a (by simp[Op.operands])]
 |mapUpdate t x i v=>simp only[yR,h x (by simp[Op.operands])]
 |mapEntry t x i=>simp only[yR,h x (by simp[Op.operands])]
 |entryStore t x i v=>simp only[yR,h x (by simp[Op.operands])]
 |call c =>
  obtain⟨callee,_,_⟩:=c;cases callee with
  |builtin b=>cases b<;>rfl
  |_=>rfl
 |_=>rfl
theorem qcp(op:Op){e e':Operand->T}(h:∀x∈op.operands.toList,e' x=e x)(hp:qa)(v:T)(wr:Bool):za K op e' hp v wr=za K op e hp v wr:=by
 cases op with
 |call c =>
  obtain⟨callee,args,argTypes⟩:=c;cases callee with
  |value f =>
   have h1:=h f (by simp[Op.operands,Call.operands]);simp only[za,h1]
  |builtin b=>exact Y6 (.call ⟨.builtin b,args,argTypes⟩) h hp v
  |invoke r m=>exact Y6 (.call ⟨.invoke r m,args,argTypes⟩) h hp v
 |_=>exact Y6 _ h hp v
theorem qdc{op:Op}{e:Operand->T}{j:Nat}(h:Q0 op e=some j)(hp:qa)(v:T)(wr:Bool):za K op e hp v wr=none:=by
 cases op with
 |load=>rfl
 |fieldAddr=>rfl
 |nilCheck=>rfl
 |indexAddr=>rfl
 |slice=>rfl
 |lookup=>rfl
 |_=>cases h
theorem qbd{K:Orc}{op:Op}{e:Operand->T}(h:Qq K op e=false)(hp:qa)(v:T):za K op e hp v false=none:=by
 unfold Qq at h;split at h
 ·simp only[za];split
  ·simp
  ·rfl
 ·cases h
theorem qak(h:qa){x:T}(hx:z7 x=true):Zd true h x=((Zd true [] x).1,h):=by
 cases x with
 |fresh=>cases hx
 |freshm=>cases hx
 |_=>rfl
theorem qdd(h:qa):∀{l:List T},l.all z7=true->Z4 true h l=((Z4 true [] l).1,h)
 |[],_=>rfl
 |x::l,hl=>by
  simp only[List.all_cons,Bool.and_eq_true] at hl;simp only[Z4];rw[qak h hl.1,qak [] hl.1];dsimp only;rw[qdd h hl.2]
theorem qal(h:qa){x:T}(hx:z8 x=true):Zx true h x=((Zx true [] x).1,h):=by
 cases x with
 |agg l=>simp only[Zx];rw[qdd h (show l.all z7=true from hx)]
 |_=>(simp only[z8] at hx;simp only[Zx];exact qak h hx)
theorem qbx(h:qa):∀{l:List T},l.all z8=true->zQ true h l=((zQ true [] l).1,h)
 |[],_=>rfl
 |x::l,hl=>by
  simp only[List.all_cons,Bool.and_eq_true] at hl;simp only[zQ];rw[qal h hl.1,qal [] hl.1];dsimp only;rw[qbx h hl.2]
theorem qde(h:qa){x:T}(hx:Yd x=true):zG true h x=((zG true [] x).1,h):=by
 cases x with
 |tup l=>simp only[zG];rw[qbx h (show l.all z8=true from hx)]
 |_=>(simp only[Yd] at hx;simp only[zG];exact qal h hx)
theorem yu(h:qa):∀{l:List T},l.all imm=true->l.map (zO h)=l
 |[],_=>rfl
 |x::l,hl=>by
  simp only[List.all_cons,Bool.and_eq_true] at hl;simp only[List.map_cons,yu h hl.2,zO,hl.1,cond_true]
theorem qfg{R:Type}{op:Op}{e:Operand->T}{h h1:qa}{k:qO R}{r:R}(hc:Qq K op e=false)(hk:qP P K op e h k=some r) :
 ∃y h' w,k y h' w=some r/\(w=false->qP P K op e h1 k=k y h1 false):=by
 cases op with
 |call c =>
  obtain⟨callee,args,argTypes⟩:=c;cases callee with
  |value f =>
   simp only[Qq] at hc;simp only[qP] at hk ⊢;cases hf:e f with
   |fn f caps =>
    rw[hf] at hc hk;dsimp only at hc;simp only[Bool.or_eq_false_iff,Bool.not_eq_false'] at hc;obtain⟨hb,hi⟩:=hc;simp only[Ye,hb,cond_false,yu _ hi,hi] at hk ⊢;obtain⟨r',hk,hall⟩:=qq (K.valDet f (args.toList.map e++caps)) hk;refine⟨_,_,_,hk,fun hw=>?_⟩;have hn:Yd r'=true:=by simpa using hw
    rw[hall];have e1:=qde h1 hn;have e2:=qde h hn;rw[show(zG true h1 r').1=(zG true h r').1 by rw[e1,e2],show(zG true h1 r').2=h1 by rw[e1],hw]
   |_=>rw[hf] at hk;cases hk
  |_=>cases hc
 |_=>cases hc
def mvw(h:qa)(j:Nat):Option (Nat×Option (KS×IntKind×(List Int->Int))):=h[j]?.map fun b=>(b.ver,b.mp.map fun m=>(m.ks,m.q,m.val))
structure Agree(s s1:St)(fp:FP):Prop where
 at':∀e∈fp.rs,s1.at e=s.at e
 loc:∀e∈fp.rs,s1.loc e=s.loc e
 used:∀d∈fp.ws,s1.used d=s.used d
 heap:fp.wr=true->s1.h=s.h
 heapR:fp.rd=true->s1.h=s.h∨(∃j:Nat,fp.rb.1=some j/\s1.h[j]?=s.h[j]?)∨(fp.rb.2=true/\∀j,mvw s1.h j=mvw s.h j)
variable {P K Gl prom nt}
variable {s s1:St} {f:Eff} {fp:FP}
abbrev two(f:Eff)(fp:FP):Option (Eff×FP):=some (f,fp)
theorem yU{x:Operand}(h:∀t∈Qz x,s1.at t=s.at t):ev Gl prom s1 x=ev Gl prom s x:=by
 cases x with
 |tmp t=>simp only[ev,h t (by simp[Qz])]
 |_=>rfl
theorem QM{x:Operand}(h:∀t∈Qz x,s1.loc t=s.loc t):base prom s1 x=base prom s x:=by
 cases x with
 |tmp t=>simp only[base,h t (by simp[Qz])]
 |_=>rfl
theorem QU{A:Type}{v:T}{k:T->Option A}:jO v k=k v:=by
 cases v with
 |bool b=>cases b<;>rfl
 |_=>rfl
theorem zl{o:Oper}{v:T}{hp:Option qa}{rs:List Nat}{rd wr:Bool}(hk:done nt o s v hp rs rd wr two=some (f,fp)) :
 fp.rs=rs/\fp.rd=rd/\fp.wr=wr/\((∀d∈fp.ws,s1.used d=s.used d)->done nt o s1 v hp rs rd wr two=some (f,fp)):=by
 unfold done at hk ⊢;cases hd:o.dst with
 |none =>
  rw[hd] at hk;simp only[Option.some.injEq,Prod.mk.injEq] at hk;obtain⟨rfl,rfl⟩:=hk;exact⟨rfl,rfl,rfl,fun _=>rfl⟩
 |some d =>
  rw[hd] at hk;dsimp only at hk;cases hb:(Nat.blt d nt&&!s.used d) with
  |false=>rw[hb] at hk;cases hk
  |true =>
   rw[hb] at hk;simp only[cond_true,QU,Option.some.injEq,Prod.mk.injEq] at hk;obtain⟨rfl,rfl⟩:=hk;refine⟨rfl,rfl,rfl,fun h=>?_⟩;have:=h d (by simp);rw[←this] at hb;simp only[hb,cond_true,QU]
theorem qdf{o:Oper}{v:T}{hp:Option qa}{rs:List Nat}{rd wr:Bool}{rb wb:Option Nat×Bool}(hk:done nt o s v hp rs rd wr (fun f fp=>two f { fp with rb:=rb,wb:=wb })=some (f,fp)) :
 fp.rs=rs/\fp.rd=rd/\fp.wr=wr/\fp.rb=rb/\fp.wb=wb/\((∀d∈fp.ws,s1.used d=s.used d)->done nt o s1 v hp rs rd wr (fun f fp=>two f { fp with rb:=rb,wb:=wb })=some (f,fp)):=by
 unfold done at hk ⊢;cases hd:o.dst with
 |none =>
  rw[hd] at hk;simp only[Option.some.injEq,Prod.mk.injEq] at hk;obtain⟨rfl,rfl⟩:=hk;exact⟨rfl,rfl,rfl,rfl,rfl,fun _=>rfl⟩
 |some d =>
  rw[hd] at hk;dsimp only at hk;cases hb:(Nat.blt d nt&&!s.used d) with
  |false=>rw[hb] at hk;cases hk
  |true =>
   rw[hb] at hk;simp only[cond_true,QU,Option.some.injEq,Prod.mk.injEq] at hk;obtain⟨rfl,rfl⟩:=hk;refine⟨rfl,rfl,rfl,rfl,rfl,fun h=>?_⟩;have:=h d (by simp);rw[←this] at hb;simp only[hb,cond_true,QU]
theorem qI{R:Type}{c:Bool}{x:Option R}{r:R}(h:(bif c then x else none)=some r):c=true/\x=some r:=by
 cases c
 ·simp at h
 ·exact⟨rfl,h⟩
theorem yv{R:Type}{h:qa}{i ver:Nat}{k:Blk->Option R}{r:R}(hk:qM h i ver k=some r):∃b,h[i]?=some b/\b.mp=none/\b.ver=ver/\k b=some r:=by
 unfold qM at hk;cases hb:h[i]? with
 |none=>rw[hb] at hk;cases hk
 |some b =>
  rw[hb] at hk;obtain⟨hv,hk⟩:=qI hk;simp only[Bool.and_eq_true,beq_iff_eq,Option.isNone_iff_eq_none] at hv;exact⟨b,rfl,hv.2,hv.1,hk⟩
theorem jS{A:Type}:∀(n i:Nat) (g:Nat->A),Det fun R (k:A->Option R)=>qb6 n i fun j=>k (g j)
 |0,_,_=>qb
 |1,_,g=>qd (g 0)
 |n+2,i,g=>qv _ (qd (g (n+1))) (jS (n+1) i g)
theorem qdg{A:Type}(n i:Nat)(g:Nat->A):Det fun R (k:A->Option R)=>Z2 n i fun j=>k (g j):=by
 unfold Z2;exact qv _ (jS n i g) (qd (g i))
theorem qfh{R:Type}{op:Op}{e:Operand->T}{h h1:qa}{j:Nat}{k:qO R}{r:R}(ho:Q0 op e=some j)(hh:h1[j]?=h[j]?)(hk:qP P K op e h k=some r) :
 ∃y,k y h false=some r/\∀(R':Type) (k':qO R'),qP P K op e h1 k'=k' y h1 false:=by
 cases op with
 |load t a =>
  simp only[Q0] at ho;cases hx:e a with
  |ptr i ver jj o =>
   rw[hx] at ho;obtain rfl:i=j:=by simpa [YX] using ho
   simp only[qP,Yb,hx] at hk ⊢;obtain⟨b,hb,hmp,hver,hk⟩:=yv hk;obtain⟨hj,hk⟩:=qI hk;obtain⟨y,q1,q2⟩:=qq (z9 P t ((b.get jj).drop o)) hk;refine⟨y,q1,fun R' k'=>?_⟩;simp only[qM,hh,hb,hver,beq_self_eq_true,hmp,Option.isNone_none,Bool.and_self,cond_true,hj,q2]
  |_=>rw[hx] at ho;cases ho
 |fieldAddr t a f =>
  simp only[Q0] at ho;cases hx:e a with
  |ptr i ver jj o =>
   rw[hx] at ho;obtain rfl:i=j:=by simpa [YX] using ho
   simp only[qP,zu,hx] at hk ⊢;cases hf:zs P t f with
   |none=>rw[hf] at hk;cases hk
   |some q =>
    obtain⟨off,ty⟩:=q;rw[hf] at hk;dsimp only at hk ⊢;obtain⟨b,hb,hmp,hver,hk⟩:=yv hk;refine⟨_,hk,fun R' k'=>?_⟩;simp only[qM,hh,hb,hver,beq_self_eq_true,hmp,Option.isNone_none,Bool.and_self,cond_true]
  |_=>rw[hx] at ho;cases ho
 |nilCheck a =>
  simp only[Q0] at ho;cases hx:e a with
  |ptr i ver jj o =>
   rw[hx] at ho;obtain rfl:i=j:=by simpa [YX] using ho
   simp only[qP,J7,hx] at hk ⊢;obtain⟨b,hb,hmp,hver,hk⟩:=yv hk;refine⟨_,hk,fun R' k'=>?_⟩;simp only[qM,hh,hb,hver,beq_self_eq_true,hmp,Option.isNone_none,Bool.and_self,cond_true]
  |_=>rw[hx] at ho;cases ho
 |lookup t x i c =>
  simp only[Q0] at ho;cases hx:e x with
  |mp ii ver =>
   rw[hx] at ho;obtain rfl:ii=j:=by simpa [Kb] using ho
   have same:∀(R':Type) (k':qO R'),Qx P t (.mp ii ver) (e i) c h1 k'=Qx P t (.mp ii ver) (e i) c h (fun y _ _=>k' y h1 false):=by
    intro R' k';simp only[Qx,Ze,yp,ZI,hh]
   simp only[qP,hx] at hk ⊢;simp only[same];have hd:Det fun (R:Type) (k:T->Option R)=>Qx P t (.mp ii ver) (e i) c h (fun y _ _=>k y):=by
    unfold Qx;exact yT (yS P h t _ _) fun i b m l=>qd _
   have hk':Qx P t (.mp ii ver) (e i) c h (fun y _ _=>k y h false)=some r:=hk;obtain⟨y,q1,q2⟩:=qq hd (k:=fun y=>k y h false) hk';exact⟨y,q1,fun R' k'=>q2 R' fun y=>k' y h1 false⟩
  |_=>rw[hx] at ho;cases ho
 |slice t x lo hi mx =>
  simp only[Q0] at ho;cases hx:e x with
  |own i ver off len cap =>
   rw[hx] at ho;obtain rfl:i=j:=by simpa [jN] using ho
   simp only[qP,QH,hx] at hk ⊢;cases he:qD P t with
   |none=>rw[he] at hk;cases hk
   |some ee =>
    rw[he] at hk;dsimp only at hk ⊢;obtain⟨bb,hb,hmp,hver,hk⟩:=yv hk;obtain⟨h1',hk⟩:=qI hk;obtain⟨⟨l,r2,c⟩,q1,q2⟩:=qq (k:=fun p=>k (.own i ver (off+p.1) (p.2.1-p.1) p.2.2) h false) (Z5 len (bb.n-off) cap _ _ _) hk;refine⟨_,q1,fun R' k'=>?_⟩;simp only[qM,hh,hb,hver,beq_self_eq_true,hmp,Option.isNone_none,Bool.and_self,cond_true,h1'];exact q2 R' fun p=>k' (.own i ver (off+p.1) (p.2.1-p.1) p.2.2) h1 false
  |_=>rw[hx] at ho;cases ho
 |indexAddr t x i =>
  simp only[Q0] at ho;cases hi:e i with
  |int ki n =>
   cases hx:e x with
   |own b ver off len cap =>
    rw[hx] at ho;obtain rfl:b=j:=by simpa using ho
    simp only[qP,QI,hx,hi] at hk ⊢;cases he:qD P t with
    |none=>rw[he] at hk;cases hk
    |some ee =>
     rw[he] at hk;dsimp only at hk ⊢;obtain⟨bb,hb,hmp,hver,hk⟩:=yv hk;obtain⟨h1',hk⟩:=qI hk;obtain⟨h2',hk⟩:=qI hk;cases ht:bb.tab with
     |true =>
      rw[ht] at hk;simp only[cond_true] at hk;have hdt:Det (A:=T) fun R k=>qb6 (R:=R) bb.n (off+n.toNat) fun jj=>k (.ptr b ver jj 0):=jS _ _ fun jj=>T.ptr b ver jj 0;obtain⟨y,q1,q2⟩:=qq (k:=fun y=>k y h false) hdt hk;refine⟨y,q1,fun R' k'=>?_⟩;simp only[qM,hh,hb,hver,beq_self_eq_true,hmp,Option.isNone_none,Bool.and_self,cond_true,h1',h2',ht];exact q2 R' fun y=>k' y h1 false
     |false =>
      rw[ht] at hk;simp only[cond_false] at hk;refine⟨_,hk,fun R' k'=>?_⟩;simp only[qM,hh,hb,hver,beq_self_eq_true,hmp,Option.isNone_none,Bool.and_self,cond_true,h1',h2',ht,cond_false]
   |ptr b ver jj o =>
    rw[hx] at ho;obtain rfl:b=j:=by simpa using ho
    simp only[qP,QI,hx,hi] at hk ⊢;cases ha:Qu P t with
    |none=>rw[ha] at hk;cases hk
    |some q =>
     obtain⟨nn,ee⟩:=q;rw[ha] at hk;dsimp only at hk ⊢;obtain⟨h1',hk⟩:=qI hk;obtain⟨bb,hb,hmp,hver,hk⟩:=yv hk;cases ht:((bb.sz==qz P ee)&&Nat.blt 1 bb.n) with
     |true =>
      rw[ht] at hk;simp only[cond_true] at hk;refine⟨_,hk,fun R' k'=>?_⟩;simp only[qM,hh,hb,hver,beq_self_eq_true,hmp,Option.isNone_none,Bool.and_self,cond_true,h1',ht]
     |false =>
     rw[ht] at hk;simp only[cond_false] at hk;have hdt:Det (A:=T) fun R k=>Z2 (R:=R) nn n.toNat fun i=>k (.ptr b ver jj (o+i*qz P ee)):=qdg _ _ fun i=>T.ptr b ver jj (o+i*qz P ee);obtain⟨y,q1,q2⟩:=qq (k:=fun y=>k y h false) hdt hk;refine⟨y,q1,fun R' k'=>?_⟩;simp only[qM,hh,hb,hver,beq_self_eq_true,hmp,Option.isNone_none,Bool.and_self,cond_true,h1',ht,cond_false];exact q2 R' fun y=>k' y h1 false
   |_=>rw[hx] at ho;cases ho
  |_=>(simp only[qP,QI,hi] at hk;cases hk)
 |_=>cases ho
theorem qam{op:Op}{e:Operand->T}(ho:Kc op=true)(hp:qa)(v:T)(wr:Bool):za K op e hp v wr=none:=by
 cases op with
 |lookup=>rfl
 |_=>cases ho
theorem qea{R:Type}{op:Op}{e:Operand->T}{h h1:qa}{k:qO R}{r:R}(ho:Kc op=true)(hh:∀j,mvw h1 j=mvw h j)(hk:qP P K op e h k=some r) :
 ∃y,k y h false=some r/\∀(R':Type) (k':qO R'),qP P K op e h1 k'=k' y h1 false:=by
 cases op with
 |lookup t x i c =>
  have hc:c=false:=by simpa [Kc] using ho
  subst hc;cases hx:e x with
  |mp ii ver =>
   simp only[qP,hx,Qx,Ze,yp,ZI,cond_false] at hk ⊢;have hj:=hh ii;unfold mvw at hj;cases hb:h[ii]? with
   |none=>rw[hb] at hk;cases hk
   |some b =>
    rw[hb] at hk hj;cases hb1:h1[ii]? with
    |none=>rw[hb1] at hj;cases hj
    |some b1 =>
     rw[hb1] at hj;simp only[Option.map_some,Option.some.injEq,Prod.mk.injEq] at hj;obtain⟨v1,v2⟩:=hj;dsimp only at hk ⊢;rw[v1];cases hm:b.mp with
     |none=>rw[hm] at hk;cases hv:(b.ver==ver)<;>rw[hv] at hk<;>cases hk
     |some m =>
      rw[hm] at hk v2;cases hm1:b1.mp with
      |none=>rw[hm1] at v2;cases v2
      |some m1 =>
       rw[hm1] at v2;simp only[Option.map_some,Option.some.injEq,Prod.mk.injEq] at v2;obtain⟨w1,w2,w3⟩:=v2;dsimp only at hk ⊢;rw[w1,w2,w3];obtain⟨hv,hk⟩:=qI hk;cases ht:K2 P t with
       |none=>rw[ht] at hk;cases hk
       |some p =>
        obtain⟨kt,ks,q⟩:=p;rw[ht] at hk;dsimp only at hk ⊢;obtain⟨hd,hk⟩:=qI hk;obtain⟨l,hk,hall⟩:=qq (yt m.ks (e i)) (k:=fun l=>k (.int m.q (m.val l)) h false) hk;refine⟨_,hk,fun R' k'=>?_⟩;rw[hv,hd];exact hall R' fun l=>k' (.int m.q (m.val l)) h1 false
  |_=>(simp only[qP,hx,Qx,Ze,yp] at hk;cases hk)
 |_=>cases ho
theorem q8{o:Oper}(hk:qQ P K Gl prom nt o s two=some (f,fp)) :
 (∀t∈Qf o.op,t∈fp.rs)/\(Agree s s1 fp->qQ P K Gl prom nt o s1 two=some (f,fp)):=by
 have evs:Agree s s1 fp->(∀t∈Qf o.op,t∈fp.rs)->∀x∈o.op.operands.toList,ev Gl prom s1 x=ev Gl prom s x:=by
  intro ha hsub x hx;exact yU fun t ht=>ha.at' t (hsub t (List.mem_flatMap.2 ⟨x,hx,ht⟩))
 unfold qQ at hk ⊢;cases hn:Ks o.op (ev Gl prom s) with
 |true =>
  rw[hn] at hk;simp only[cond_true] at hk;obtain⟨⟨y,h',wr⟩,hk1,hall⟩:=qq (zw P K o.op (ev Gl prom s) []) (k:=fun p=>bif p.2.2 then none else done nt o s p.1 none (Qf o.op) false false two) hk;dsimp only at hk1;cases wr with
  |true=>cases hk1
  |false =>
   simp only[cond_false] at hk1;obtain⟨h1,h2,h3,h4⟩:=zl (s1:=s1) hk1;have hsub:∀t∈Qf o.op,t∈fp.rs:=fun t ht=>h1▸ht;refine⟨hsub,fun ha=>?_⟩;have he:=evs ha hsub;rw[jc o.op he,hn];simp only[cond_true];rw[Jp P K o.op [] _ he];have:=hall _ fun p=>bif p.2.2 then none else done nt o s1 p.1 none (Qf o.op) false false two;simp only[cond_false] at this;rw[this];exact h4 ha.used
 |false =>
  rw[hn] at hk;simp only[cond_false] at hk;obtain⟨⟨y,h',wr⟩,hk1,hall⟩:=qq (zw P K o.op (ev Gl prom s) s.h) (k:=fun p=>done nt o s p.1 (bif p.2.2 then some p.2.1 else none) (Qf o.op) (Qq K o.op (ev Gl prom s)) p.2.2 fun f fp=>two f { fp with rb:=(Q0 o.op (ev Gl prom s),Kc o.op),wb:=(za K o.op (ev Gl prom s) s.h p.1 p.2.2,qc4 o.op) }) hk;dsimp only at hk1;obtain⟨h1,h2,h3,h3b,h3w,h4⟩:=qdf (s1:=s1) hk1;have hsub:∀t∈Qf o.op,t∈fp.rs:=fun t ht=>h1▸ht;refine⟨hsub,fun ha=>?_⟩;have he:=evs ha hsub;have heR:Q0 o.op (ev Gl prom s1)=Q0 o.op (ev Gl prom s):=qdb o.op he;have heW:∀v wr,za K o.op (ev Gl prom s1) s1.h v wr=za K o.op (ev Gl prom s) s1.h v wr:=qcp K o.op he s1.h;rw[jc o.op he,hn];simp only[cond_false];simp only[Jp P K o.op s1.h _ he,JJ K o.op he,heR,heW];have sameH:s1.h=s.h->qP P K o.op (ev Gl prom s) s1.h (fun v h wr=>done nt o s1 v (bif wr then some h else none) (Qf o.op) (Qq K o.op (ev Gl prom s)) wr fun f fp=>two f { fp with rb:=(Q0 o.op (ev Gl prom s),Kc o.op),wb:=(za K o.op (ev Gl prom s) s1.h v wr,qc4 o.op) })=some (f,fp):=fun hh=>by
   rw[hh];have:=hall _ fun p=>done nt o s1 p.1 (bif p.2.2 then some p.2.1 else none) (Qf o.op) (Qq K o.op (ev Gl prom s)) p.2.2 fun f fp=>two f { fp with rb:=(Q0 o.op (ev Gl prom s),Kc o.op),wb:=(za K o.op (ev Gl prom s) s.h p.1 p.2.2,qc4 o.op) };dsimp only at this;rw[this];exact h4 ha.used
  by_cases hw:fp.wr=true
  ·exact sameH (ha.heap hw)
  ·by_cases hr:fp.rd=true
   ·rcases ha.heapR hr with hh|⟨j,hj,hh⟩|⟨hj,hh⟩
    ·exact sameH hh
    ·rw[h3b] at hj;obtain⟨y2,q1,q2⟩:=qfh (P:=P) (K:=K) (h1:=s1.h) hj hh (k:=fun y h w=>some (y,h,w)) (r:=(y,h',wr)) (hall _ some);simp only[Option.some.injEq,Prod.mk.injEq] at q1;obtain⟨rfl,rfl,rfl⟩:=q1;rw[q2];rw[qdc K hj] at h4 ⊢;exact h4 ha.used
    ·rw[h3b] at hj;obtain⟨y2,q1,q2⟩:=qea (P:=P) (K:=K) (h1:=s1.h) hj hh (k:=fun y h w=>some (y,h,w)) (r:=(y,h',wr)) (hall _ some);simp only[Option.some.injEq,Prod.mk.injEq] at q1;obtain⟨rfl,rfl,rfl⟩:=q1;rw[q2];rw[qam hj] at h4 ⊢;exact h4 ha.used
   ·simp only[Bool.not_eq_true] at hr hw;rw[h2] at hr;rw[h3] at hw;subst hw;obtain⟨y3,h3',w3,hk3,hfar3⟩:=qfg P K (h1:=s1.h) (k:=fun y h w=>some (y,h,w)) (r:=(y,h',false)) hr (hall _ some);simp only[Option.some.injEq,Prod.mk.injEq] at hk3;obtain⟨rfl,rfl,rfl⟩:=hk3;have h5:=hfar3 rfl;obtain⟨q,hq1,hq2⟩:=qq (zw P K o.op (ev Gl prom s) s1.h) (k:=some) h5;simp only[Option.some.injEq] at hq1;subst hq1;have:=hq2 _ fun p=>done nt o s1 p.1 (bif p.2.2 then some p.2.1 else none) (Qf o.op) (Qq K o.op (ev Gl prom s)) p.2.2 fun f fp=>two f { fp with rb:=(Q0 o.op (ev Gl prom s),Kc o.op),wb:=(za K o.op (ev Gl prom s) s1.h p.1 p.2.2,qc4 o.op) };dsimp only at this;rw[this];rw[qbd (K:=K) hr] at h4 ⊢;exact h4 ha.used
theorem Ku{o:Oper}{t off:Nat}{rs:List Nat}(hk:ze prom nt o t off rs two=some (f,fp)):fp.rs=t::rs:=by
 unfold ze at hk;cases hd:o.dst with
 |none=>rw[hd] at hk;cases hk
 |some d =>
  rw[hd] at hk;dsimp only at hk;cases hb:(Nat.blt d nt&&!prom.contains d) with
  |false=>rw[hb] at hk;cases hk
  |true =>
   rw[hb] at hk;simp only[cond_true,Option.some.injEq,Prod.mk.injEq] at hk;obtain⟨rfl,rfl⟩:=hk;rfl
theorem jd{o:Oper}(hk:zb P K Gl prom nt o s two=some (f,fp))(ha:Agree s s1 fp):zb P K Gl prom nt o s1 two=some (f,fp):=by
 have sub1:∀{x:Operand} {rs:List Nat},(∀t∈Qz x,t∈rs)->fp.rs=rs->(∀t∈Qz x,s1.at t=s.at t)/\(∀t∈Qz x,s1.loc t=s.loc t):=by
  intro x rs h1 h2;exact⟨fun t ht=>ha.at' t (h2▸h1 t ht),fun t ht=>ha.loc t (h2▸h1 t ht)⟩
 have subp:∀{x:Operand},x∈o.op.operands.toList->qQ P K Gl prom nt o s two=some (f,fp)->(∀t∈Qz x,s1.at t=s.at t)/\(∀t∈Qz x,s1.loc t=s.loc t):=by
  intro x hx hp;have:=(q8 (s1:=s1) hp).1;exact⟨fun t ht=>ha.at' t (this t (List.mem_flatMap.2 ⟨x,hx,ht⟩)),fun t ht=>ha.loc t (this t (List.mem_flatMap.2 ⟨x,hx,ht⟩))⟩
 unfold zb at hk ⊢;split at hk
 ·rename_i ty x ho;cases hd:o.dst with
  |none=>rw[hd] at hk;cases hk
  |some d =>
   rw[hd] at hk;dsimp only at hk ⊢;cases hp:prom.contains d with
   |false=>rw[hp] at hk;simp only[cond_false] at hk ⊢;exact(q8 hk).2 ha
   |true =>
    rw[hp] at hk;simp only[cond_true] at hk ⊢;cases hc:zK (ev Gl prom s x) with
    |false=>rw[hc] at hk;cases hk
    |true =>
     rw[hc] at hk;simp only[cond_true] at hk;obtain⟨h1,_,_,h4⟩:=zl (s1:=s1) hk;have he:=yU (Gl:=Gl) (prom:=prom) (sub1 (x:=x) (fun t ht=>ht) h1).1;rw[he,hc];exact h4 ha.used
 ·rename_i ty ho;cases hd:o.dst with
  |none=>rw[hd] at hk;cases hk
  |some d =>
   rw[hd] at hk;dsimp only at hk ⊢;cases hp:prom.contains d with
   |false=>rw[hp] at hk;simp only[cond_false] at hk ⊢;exact(q8 hk).2 ha
   |true =>
    rw[hp] at hk;simp only[cond_true] at hk ⊢;cases hz:ZD P ty with
    |false=>rw[hz] at hk;cases hk
    |true =>
     rw[hz] at hk;simp only[cond_true] at hk ⊢;obtain⟨h1,_,_,h4⟩:=zl (s1:=s1) hk;exact h4 ha.used
 ·rename_i ty x ho;cases hb:base prom s x with
  |none =>
   rw[hb] at hk;dsimp only at hk;rw[QM (subp (x:=x) (by rw[ho];simp[Op.operands]) hk).2,hb];exact(q8 hk).2 ha
  |some p =>
   obtain⟨t,off⟩:=p;rw[hb] at hk;dsimp only at hk;cases hc:s.at t with
   |reg cells =>
    rw[hc] at hk;dsimp only at hk;obtain⟨v,hk1,hall⟩:=qq (z9 P ty (cells.drop off)) hk;obtain⟨h1,_,_,h4⟩:=zl (s1:=s1) hk1;have h5:=sub1 (x:=x) (rs:=t::Qz x) (fun t ht=>List.mem_cons_of_mem _ ht) h1;rw[QM h5.2,hb];dsimp only;rw[ha.at' t (h1▸List.mem_cons_self),hc];dsimp only;rw[hall];exact h4 ha.used
   |_=>rw[hc] at hk;cases hk
 ·rename_i ty x v ho;cases hb:base prom s x with
  |none =>
   rw[hb] at hk;dsimp only at hk;rw[QM (subp (x:=x) (by rw[ho];simp[Op.operands]) hk).2,hb];exact(q8 hk).2 ha
  |some p =>
   obtain⟨t,off⟩:=p;rw[hb] at hk;dsimp only at hk;cases hc:s.at t with
   |reg cells =>
    rw[hc] at hk;cases hd:o.dst with
    |some d=>rw[hd] at hk;cases hk
    |none =>
     rw[hd] at hk;dsimp only at hk;generalize hg:(QP P ty&&((ev Gl prom s v).cells.length==qz P ty)&&zK (ev Gl prom s v)&&Nat.ble (off+qz P ty) cells.length)=c at hk;cases c with
     |false=>cases hk
     |true =>
      simp only[cond_true,Option.some.injEq,Prod.mk.injEq] at hk;obtain⟨hf,hfp⟩:=hk;have h1:fp.rs=t::(Qz x++Qz v):=by rw[←hfp]
      have h5:=sub1 (x:=x) (fun t' ht=>List.mem_cons_of_mem _ (List.mem_append_left _ ht)) h1;have h6:=sub1 (x:=v) (fun t' ht=>List.mem_cons_of_mem _ (List.mem_append_right _ ht)) h1;rw[QM h5.2,hb];dsimp only;rw[ha.at' t (h1▸List.mem_cons_self),hc];dsimp only;rw[yU h6.1,hg];simp only[cond_true,hf,hfp]
   |_=>rw[hc] at hk;cases hk
 ·rename_i ty x fl ho;cases hb:base prom s x with
  |none =>
   rw[hb] at hk;dsimp only at hk;rw[QM (subp (x:=x) (by rw[ho];simp[Op.operands]) hk).2,hb];exact(q8 hk).2 ha
  |some p =>
   obtain⟨t,off⟩:=p;rw[hb] at hk;dsimp only at hk;cases hc:s.at t with
   |reg cells =>
    rw[hc] at hk;dsimp only at hk;cases hf:zs P ty fl with
    |none=>rw[hf] at hk;cases hk
    |some q =>
     rw[hf] at hk;dsimp only at hk;have h1:=Ku hk;have h5:=sub1 (x:=x) (rs:=t::Qz x) (fun t ht=>List.mem_cons_of_mem _ ht) h1;rw[QM h5.2,hb];dsimp only;rw[ha.at' t (h1▸List.mem_cons_self),hc];exact hk
   |_=>rw[hc] at hk;cases hk
 ·rename_i ty x i ho;cases hb:base prom s x with
  |none =>
   rw[hb] at hk;dsimp only at hk;rw[QM (subp (x:=x) (by rw[ho];simp[Op.operands]) hk).2,hb];exact(q8 hk).2 ha
  |some p =>
   obtain⟨t,off⟩:=p;rw[hb] at hk;dsimp only at hk;cases hc:s.at t with
   |reg cells =>
    rw[hc] at hk;dsimp only at hk;cases hi:ev Gl prom s i with
    |int ki i' =>
     rw[hi] at hk;dsimp only at hk;cases hf:Qu P ty with
     |none=>rw[hf] at hk;cases hk
     |some q =>
      obtain⟨n,e⟩:=q;rw[hf] at hk;dsimp only at hk;generalize hg:(QP P e&&decide (0<=i')&&decide (i'<(n:Int)))=c at hk;cases c with
      |false=>cases hk
      |true =>
       simp only[cond_true] at hk;have hlt:=hg;simp only[Bool.and_eq_true,decide_eq_true_eq] at hlt;have h1:=Ku (zj (by omega) hk);have h5:=sub1 (x:=x) (fun t' ht=>List.mem_cons_of_mem _ (List.mem_append_left _ ht)) h1;have h6:=sub1 (x:=i) (fun t' ht=>List.mem_cons_of_mem _ (List.mem_append_right _ ht)) h1;rw[QM h5.2,hb];dsimp only;rw[ha.at' t (h1▸List.mem_cons_self),hc];dsimp only;rw[yU h6.1,hi];dsimp only;rw[hg];simpa only[cond_true] using hk
    |_=>rw[hi] at hk;cases hk
   |_=>rw[hc] at hk;cases hk
 ·rename_i x ho;cases hb:base prom s x with
  |none =>
   rw[hb] at hk;dsimp only at hk;rw[QM (subp (x:=x) (by rw[ho];simp[Op.operands]) hk).2,hb];exact(q8 hk).2 ha
  |some p =>
   obtain⟨t,off⟩:=p;rw[hb] at hk;dsimp only at hk;cases hc:s.at t with
   |reg cells =>
    rw[hc] at hk;dsimp only at hk;have h1:=Ku hk;have h5:=sub1 (x:=x) (rs:=t::Qz x) (fun t ht=>List.mem_cons_of_mem _ ht) h1;rw[QM h5.2,hb];dsimp only;rw[ha.at' t (h1▸List.mem_cons_self),hc];exact hk
   |_=>rw[hc] at hk;cases hk
 ·exact(q8 hk).2 ha
end
def cellAt(w:World)(b n:Nat)(v:Value):Prop:=w.cell? ⟨b,n,none⟩ = some v/\v.oneCell'=true
inductive VI(w:World)(U:Nat->Prop):T->Value->Prop
 |undef (v:Value):VI w U .undef v
 |gone (v:Value) (h:∀b,v≠.bool b):VI w U .gone v
 |bool (b:Bool):VI w U (.bool b) (.bool b)
 |int (k:IntKind) (n:Int):VI w U (.int k n) (.int k n)
 |str (s:List UInt8) (b:ByteArray) (h:b.data.toList=s):VI w U (.str s) (.string b)
 |nilp:VI w U .nilp (.pointer none)
 |vp (cells:List T) (a:Addr) (vs:Nat->Value) (hs:a.spot=none) (hU:0<cells.length->U a.block)
  (hc:∀o c,cells[o]?=some c->cellAt w a.block (a.off+o) (vs o)) (hv:∀o c,cells[o]?=some c->VI w U c (vs o)):VI w U (.vp cells) (.pointer (some a))
 |nils:VI w U .nils (.slice none 0 0)
 |view (sz n:Nat) (g:Nat->List T) (cap:Option Nat) (a:Addr) (c:Nat) (vs:Nat->Nat->Value) (hs:0<c->a.spot=none) (hcap:∀m,cap=some m->c=m) (hn:n<=c)
  (hU:0<n->0<sz->U a.block) (hl:∀j,j<n->(g j).length=sz)
  (hc:∀j o c,j<n->(g j)[o]?=some c->cellAt w a.block (a.off+j*sz+o) (vs j o)) (hv:∀j o c,j<n->(g j)[o]?=some c->VI w U c (vs j o)) :
  VI w U (.view sz n g cap) (.slice (some a) n c)
 |vnil (sz:Nat) (g:Nat->List T) (cap:Option Nat) (hc:cap=none∨cap=some 0):VI w U (.view sz 0 g cap) (.slice none 0 0)
 |nilf:VI w U .nilf .nilFunc
 |fn (f:FuncId) (caps:List T) (cs:Array Value) (vs:Nat->Value) (hl:caps.length=cs.size)
  (hc:∀(i:Nat) (c:T),caps[i]?=some c->cs[i]?=some (vs i)) (hv:∀(i:Nat) (c:T),caps[i]?=some c->VI w U c (vs i)):VI w U (.fn f caps) (.func (.func f) #[] cs)
 |agg (l:List T) (cs:Array Value) (vs:Nat->Value) (hl:l.length=cs.size) (h1:∀(i:Nat) (v:Value),cs[i]?=some v->v.oneCell'=true)
  (hc:∀(i:Nat) (c:T),l[i]?=some c->cs[i]?=some (vs i)) (hv:∀(i:Nat) (c:T),l[i]?=some c->VI w U c (vs i)):VI w U (.agg l) (.agg cs)
 |tup (l:List T) (cs:Array Value) (vs:Nat->Value) (hl:l.length=cs.size)
  (hc:∀(i:Nat) (c:T),l[i]?=some c->cs[i]?=some (vs i)) (hv:∀(i:Nat) (c:T),l[i]?=some c->VI w U c (vs i)):VI w U (.tup l) (.tuple cs)
 |nili:VI w U .nili .nilIface
 |iface (t:TypeId) (x:T) (v:Value) (h:VI w U x v):VI w U (.iface t x) (.iface t v)
 |nilm:VI w U .nilm (.map none)
 |yld (l:Nat):VI w U (.yld l) (.func (.yield l) #[] #[])
def room(w:World)(b n:Nat):Prop:=∃arr e,w.heap[b]?=some (.cells arr e (0,0))/\n<=arr.size
def qg8(w:World)(φ:Nat->Option (Nat×Nat))(b:Blk)(i off len:Nat)(cap:Option Nat)(v:Value):Prop :=
 ∃cb sh c ad,φ i=some (cb,sh)/\v = .slice (some ad) len c/\ad.spot=none/\(0<c->ad=⟨cb,sh+off*b.sz,none⟩)/\len<=c/\(∀m,cap=some m->c=m/\off+m<=b.n)/\off+len<=b.n/\room w cb (sh+(off+c)*b.sz)/\(cap=none->b.n<=off+c)
def qhp(φ:Nat->Option (Nat×Nat))(b:Blk)(i off len:Nat)(cap:Option Nat)(v:Value):Prop:=φ i=none/\b.n=0/\off=0/\len=0/\(∀m,cap=some m->m=0)/\v = .slice none 0 0
def qfL(w:World)(φ:Nat->Option (Nat×Nat))(b:Blk)(i off len:Nat)(cap:Option Nat)(v:Value):Prop:=qg8 w φ b i off len cap v∨qhp φ b i off len cap v
def qg9(φ:Nat->Option (Nat×Nat))(b:Blk)(i j o:Nat)(v:Value):Prop :=
 ∃cb sh,φ i=some (cb,sh)/\v = .pointer (some ⟨cb,sh+j*b.sz+o,none⟩)
inductive VR(w:World)(U:Nat->Prop)(φ:Nat->Option (Nat×Nat))(h:qa):T->Value->Prop
 |imm (x:T) (v:Value) (hv:VI w U x v):VR w U φ h x v
 |own (i ver off len:Nat) (cap:Option Nat) (b:Blk) (v:Value) (hb:h[i]?=some b) (hver:ver<=b.ver) (h1:v.oneCell'=true) (hok:b.ver=ver->qfL w φ b i off len cap v):VR w U φ h (.own i ver off len cap) v
 |ptr (i ver j o:Nat) (b:Blk) (v:Value) (hb:h[i]?=some b) (hver:ver<=b.ver) (h1:v.oneCell'=true) (hok:b.ver=ver->qg9 φ b i j o v):VR w U φ h (.ptr i ver j o) v
 |mp (i ver:Nat) (b:Blk) (v:Value) (hb:h[i]?=some b) (hver:ver<=b.ver) (h1:v.oneCell'=true) (hok:b.ver=ver->∃cb,φ i=some (cb,0)/\v = .map (some cb)):VR w U φ h (.mp i ver) v
 |fn (f:FuncId) (caps:List T) (cs:Array Value) (vs:Nat->Value) (hl:caps.length=cs.size)
  (hc:∀(i:Nat) (c:T),caps[i]?=some c->cs[i]?=some (vs i)) (hv:∀(i:Nat) (c:T),caps[i]?=some c->VR w U φ h c (vs i)):VR w U φ h (.fn f caps) (.func (.func f) #[] cs)
 |agg (l:List T) (cs:Array Value) (vs:Nat->Value) (hl:l.length=cs.size) (h1:∀(i:Nat) (v:Value),cs[i]?=some v->v.oneCell'=true)
  (hc:∀(i:Nat) (c:T),l[i]?=some c->cs[i]?=some (vs i)) (hv:∀(i:Nat) (c:T),l[i]?=some c->VR w U φ h c (vs i)):VR w U φ h (.agg l) (.agg cs)
 |tup (l:List T) (cs:Array Value) (vs:Nat->Value) (hl:l.length=cs.size)
  (hc:∀(i:Nat) (c:T),l[i]?=some c->cs[i]?=some (vs i)) (hv:∀(i:Nat) (c:T),l[i]?=some c->VR w U φ h c (vs i)):VR w U φ h (.tup l) (.tuple cs)
 |iface (t:TypeId) (x:T) (v:Value) (hv:VR w U φ h x v):VR w U φ h (.iface t x) (.iface t v)
def KeepU(w:World)(U:Nat->Prop)(w':World)(U':Nat->Prop):Prop:=∀b,U b->U' b/\w'.heap[b]?=w.heap[b]?
theorem cellAt.of_block{w w':World}{b n:Nat}{v:Value}(h:cellAt w b n v)(e:w'.heap[b]?=w.heap[b]?):cellAt w' b n v :=
 ⟨by rw[←h.1];exact World.cell?_of_block e,h.2⟩
theorem VI.keep{w w':World}{U U':Nat->Prop}(k:KeepU w U w' U'){x:T}{v:Value}(h:VI w U x v):VI w' U' x v:=by
 induction h with
 |undef v=>exact .undef v
 |gone v h=>exact .gone v h
 |bool b=>exact .bool b
 |int k n=>exact .int k n
 |str s b h=>exact .str s b h
 |nilp=>exact .nilp
 |vp cells a vs hs hU hc hv ih =>
  refine .vp cells a vs hs (fun h=>(k _ (hU h)).1) (fun o c ho=>?_) ih;have hpos:0<cells.length:=by
   rcases Nat.lt_or_ge o cells.length with h|h
   ·omega
   ·simp[List.getElem?_eq_none h] at ho
  exact(hc o c ho).of_block (k _ (hU hpos)).2
 |nils=>exact .nils
 |view sz n g cap a c vs hs hcap hn hU hl hc hv ih =>
  exact .view sz n g cap a c vs hs hcap hn (fun h h2=>(k _ (hU h h2)).1) hl (fun j o x hj ho=>(hc j o x hj ho).of_block (k _ (hU (by omega) (by have h1:=hl j hj;have h2:=(List.getElem?_eq_some_iff.1 ho).1;omega))).2) ih
 |vnil sz g cap hc=>exact .vnil sz g cap hc
 |nilf=>exact .nilf
 |fn f caps cs vs hl hc hv ih=>exact .fn f caps cs vs hl hc ih
 |agg l cs vs hl h1 hc hv ih=>exact .agg l cs vs hl h1 hc ih
 |tup l cs vs hl hc hv ih=>exact .tup l cs vs hl hc ih
 |nili=>exact .nili
 |iface t x v h ih=>exact .iface t x v ih
 |nilm=>exact .nilm
 |yld l=>exact .yld l
structure KeepR(w:World)(U:Nat->Prop)(φ:Nat->Option (Nat×Nat))(h:qa)(w':World)(U':Nat->Prop)(φ':Nat->Option (Nat×Nat))(h':qa):Prop where
 u:KeepU w U w' U'
 blk:∀i b,h[i]?=some b->∃b',h'[i]?=some b'/\b.ver<=b'.ver/\(b'.ver=b.ver->b'.sz=b.sz/\b'.n=b.n/\φ' i=φ i)
 rm:∀b n,room w b n->room w' b n
theorem KeepU.refl(w:World)(U:Nat->Prop):KeepU w U w U:=fun _ h=>⟨h,rfl⟩
theorem KeepU.trans{w w1 w2:World}{U U1 U2:Nat->Prop}(a:KeepU w U w1 U1)(b:KeepU w1 U1 w2 U2):KeepU w U w2 U2 :=
 fun x h=>⟨(b x (a x h).1).1,(b x (a x h).1).2.trans (a x h).2⟩
theorem KeepR.refl(w:World)(U:Nat->Prop)(φ:Nat->Option (Nat×Nat))(h:qa):KeepR w U φ h w U φ h :=
 ⟨.refl w U,fun _ b hb=>⟨b,hb,Nat.le_refl _,fun _=>⟨rfl,rfl,rfl⟩⟩,fun _ _ h=>h⟩
theorem KeepR.trans{w w1 w2:World}{U U1 U2:Nat->Prop}{φ φ1 φ2:Nat->Option (Nat×Nat)}{h h1 h2:qa}
 (a:KeepR w U φ h w1 U1 φ1 h1) (b:KeepR w1 U1 φ1 h1 w2 U2 φ2 h2):KeepR w U φ h w2 U2 φ2 h2:=by
 refine⟨a.u.trans b.u,fun i x hx=>?_,fun k n hr=>b.rm k n (a.rm k n hr)⟩;obtain⟨y,hy,hxy,e1⟩:=a.blk i x hx;obtain⟨z,hz,hyz,e2⟩:=b.blk i y hy;refine⟨z,hz,Nat.le_trans hxy hyz,fun e=>?_⟩;have q1:=e1 (by omega);have q2:=e2 (by omega);exact⟨q2.1.trans q1.1,q2.2.1.trans q1.2.1,q2.2.2.trans q1.2.2⟩
theorem VR.keep{w w':World}{U U':Nat->Prop}{φ φ':Nat->Option (Nat×Nat)}{h h':qa}(k:KeepR w U φ h w' U' φ' h'){x:T}{v:Value}
 (hx:VR w U φ h x v):VR w' U' φ' h' x v:=by
 induction hx with
 |imm x v hv=>exact .imm x v (hv.keep k.u)
 |own i ver off len cap b v hb hver h1 hok =>
  obtain⟨b',hb',hle,he⟩:=k.blk i b hb;refine .own i ver off len cap b' v hb' (by omega) h1 (fun e=>?_);obtain⟨hs,hn,hφ⟩:=he (by omega);rcases hok (by omega) with⟨cb,sh,c,ad,e1,e2,es,e2',e3,e4,e5,e6,e7⟩|⟨q1,q2,q3⟩
  rotate_left
  ·exact .inr ⟨hφ.trans q1,hn.trans q2,q3⟩
  refine .inl ?_;exact⟨cb,sh,c,ad,hφ.trans e1,e2,es,by rw[hs];exact e2',e3,fun m hm=>⟨(e4 m hm).1,by have:=(e4 m hm).2;omega⟩,by omega,by rw[hs];exact k.rm _ _ e6,fun hc=>by have:=e7 hc;omega⟩
 |ptr i ver j o b v hb hver h1 hok =>
  obtain⟨b',hb',hle,he⟩:=k.blk i b hb;refine .ptr i ver j o b' v hb' (by omega) h1 (fun e=>?_);obtain⟨hs,hn,hφ⟩:=he (by omega);obtain⟨cb,sh,e1,e2⟩:=hok (by omega);exact⟨cb,sh,hφ.trans e1,by rw[hs];exact e2⟩
 |mp i ver b v hb hver h1 hok =>
  obtain⟨b',hb',hle,he⟩:=k.blk i b hb;refine .mp i ver b' v hb' (by omega) h1 (fun e=>?_);obtain⟨_,_,hφ⟩:=he (by omega);obtain⟨cb,e1,e2⟩:=hok (by omega);exact⟨cb,hφ.trans e1,e2⟩
 |fn f caps cs vs hl hc hv ih=>exact .fn f caps cs vs hl hc ih
 |agg l cs vs hl h1 hc hv ih=>exact .agg l cs vs hl h1 hc ih
 |tup l cs vs hl hc hv ih=>exact .tup l cs vs hl hc ih
 |iface t x v hv ih=>exact .iface t x v ih
section
variable {w:World} {U:Nat->Prop} {φ:Nat->Option (Nat×Nat)} {h:qa}
theorem VR.bool{b:Bool}{v:Value}(hx:VR w U φ h (.bool b) v):v = .bool b:=by cases hx with|imm _ _ hv=>cases hv;rfl
theorem VR.gone{v:Value}(hx:VR w U φ h .gone v):∀b,v≠.bool b:=by cases hx with|imm _ _ hv=>cases hv;assumption
theorem VR.int{k:IntKind}{n:Int}{v:Value}(hx:VR w U φ h (.int k n) v):v = .int k n:=by cases hx with|imm _ _ hv=>cases hv;rfl
theorem VR.str{s:List UInt8}{v:Value}(hx:VR w U φ h (.str s) v):∃b:ByteArray,v = .string b/\b.data.toList=s:=by
 cases hx with|imm _ _ hv=>cases hv with|str _ b hb=>exact⟨b,rfl,hb⟩
theorem VR.nils{v:Value}(hx:VR w U φ h .nils v):v = .slice none 0 0:=by cases hx with|imm _ _ hv=>cases hv;rfl
theorem VR.nilf{v:Value}(hx:VR w U φ h .nilf v):v = .nilFunc:=by cases hx with|imm _ _ hv=>cases hv;rfl
theorem VR.vp{cells:List T}{v:Value}(hx:VR w U φ h (.vp cells) v):VI w U (.vp cells) v:=by cases hx with|imm _ _ hv=>exact hv
theorem VR.view{sz n:Nat}{g:Nat->List T}{cap:Option Nat}{v:Value}(hx:VR w U φ h (.view sz n g cap) v):VI w U (.view sz n g cap) v:=by cases hx with|imm _ _ hv=>exact hv
theorem VR.not_reg{cells:List T}{v:Value}(hx:VR w U φ h (.reg cells) v):False:=by cases hx with|imm _ _ hv=>cases hv
theorem VR.not_fresh{fl:Bool}{a b:Nat}{g:Nat->List T}{n:Nat}{c:Option Nat}{v:Value}(hx:VR w U φ h (.fresh fl a b g n c) v):False:=by cases hx with|imm _ _ hv=>cases hv
theorem VR.own_inv{i ver off len:Nat}{cap:Option Nat}{v:Value}(hx:VR w U φ h (.own i ver off len cap) v) :
 ∃b,h[i]?=some b/\ver<=b.ver/\v.oneCell'=true/\(b.ver=ver->qfL w φ b i off len cap v):=by
 cases hx with
 |imm _ _ hv=>cases hv
 |own _ _ _ _ _ b _ hb hver h1 hok=>exact⟨b,hb,hver,h1,hok⟩
theorem VR.ptr_inv{i ver j o:Nat}{v:Value}(hx:VR w U φ h (.ptr i ver j o) v) :
 ∃b,h[i]?=some b/\ver<=b.ver/\v.oneCell'=true/\(b.ver=ver->qg9 φ b i j o v):=by
 cases hx with
 |imm _ _ hv=>cases hv
 |ptr _ _ _ _ b _ hb hver h1 hok=>exact⟨b,hb,hver,h1,hok⟩
theorem VR.mp_inv{i ver:Nat}{v:Value}(hx:VR w U φ h (.mp i ver) v) :
 ∃b,h[i]?=some b/\ver<=b.ver/\v.oneCell'=true/\(b.ver=ver->∃cb,φ i=some (cb,0)/\v = .map (some cb)):=by
 cases hx with
 |imm _ _ hv=>cases hv
 |mp _ _ b _ hb hver h1 hok=>exact⟨b,hb,hver,h1,hok⟩
theorem VR.agg_inv{l:List T}{v:Value}(hx:VR w U φ h (.agg l) v) :
 ∃cs:Array Value,v = .agg cs/\l.length=cs.size/\(∀(i:Nat) (u:Value),cs[i]?=some u->u.oneCell'=true)/\∀(i:Nat) (c:T),l[i]?=some c->∃u,cs[i]?=some u/\VR w U φ h c u:=by
 cases hx with
 |imm _ _ hv=>cases hv with|agg _ cs vs hl h1 hc hv=>exact⟨cs,rfl,hl,h1,fun i c hi=>⟨vs i,hc i c hi,.imm _ _ (hv i c hi)⟩⟩
 |agg _ cs vs hl h1 hc hv=>exact⟨cs,rfl,hl,h1,fun i c hi=>⟨vs i,hc i c hi,hv i c hi⟩⟩
theorem VR.tup_inv{l:List T}{v:Value}(hx:VR w U φ h (.tup l) v) :
 ∃cs:Array Value,v = .tuple cs/\l.length=cs.size/\∀(i:Nat) (c:T),l[i]?=some c->∃u,cs[i]?=some u/\VR w U φ h c u:=by
 cases hx with
 |imm _ _ hv=>cases hv with|tup _ cs vs hl hc hv=>exact⟨cs,rfl,hl,fun i c hi=>⟨vs i,hc i c hi,.imm _ _ (hv i c hi)⟩⟩
 |tup _ cs vs hl hc hv=>exact⟨cs,rfl,hl,fun i c hi=>⟨vs i,hc i c hi,hv i c hi⟩⟩
theorem VR.fn_inv{f:FuncId}{l:List T}{v:Value}(hx:VR w U φ h (.fn f l) v) :
 ∃cs:Array Value,v = .func (.func f) #[] cs/\l.length=cs.size/\∀(i:Nat) (c:T),l[i]?=some c->∃u,cs[i]?=some u/\VR w U φ h c u:=by
 cases hx with
 |imm _ _ hv=>cases hv with|fn _ _ cs vs hl hc hv=>exact⟨cs,rfl,hl,fun i c hi=>⟨vs i,hc i c hi,.imm _ _ (hv i c hi)⟩⟩
 |fn _ _ cs vs hl hc hv=>exact⟨cs,rfl,hl,fun i c hi=>⟨vs i,hc i c hi,hv i c hi⟩⟩
theorem QG{l:List T}{cs:Array Value}{R:T->Value->Prop}(hc:∀(i:Nat) (c:T),l[i]?=some c->∃u,cs[i]?=some u/\R c u) :
 (∀(i:Nat) (c:T),l[i]?=some c->cs[i]?=some (cs.getD i Go.undef))/\∀(i:Nat) (c:T),l[i]?=some c->R c (cs.getD i Go.undef):=by
 have key:∀(i:Nat) (c:T),l[i]?=some c->cs[i]?=some (cs.getD i Go.undef)/\R c (cs.getD i Go.undef):=by
  intro i c hi;obtain⟨u,hu,hr⟩:=hc i c hi;have:cs.getD i Go.undef=u:=by simp[Array.getD_eq_getD_getElem?,hu]
  rw[this];exact⟨hu,hr⟩
 exact⟨fun i c hi=>(key i c hi).1,fun i c hi=>(key i c hi).2⟩
theorem VR.mk_agg{l:List T}{cs:Array Value}(hl:l.length=cs.size)(h1:∀(i:Nat) (u:Value),cs[i]?=some u->u.oneCell'=true)
 (hc:∀(i:Nat) (c:T),l[i]?=some c->∃u,cs[i]?=some u/\VR w U φ h c u):VR w U φ h (.agg l) (.agg cs) :=
 .agg l cs (fun i=>cs.getD i Go.undef) hl h1 (QG hc).1 (QG hc).2
theorem VR.mk_tup{l:List T}{cs:Array Value}(hl:l.length=cs.size)
 (hc:∀(i:Nat) (c:T),l[i]?=some c->∃u,cs[i]?=some u/\VR w U φ h c u):VR w U φ h (.tup l) (.tuple cs) :=
 .tup l cs (fun i=>cs.getD i Go.undef) hl (QG hc).1 (QG hc).2
theorem VR.mk_fn{f:FuncId}{l:List T}{cs:Array Value}(hl:l.length=cs.size)
 (hc:∀(i:Nat) (c:T),l[i]?=some c->∃u,cs[i]?=some u/\VR w U φ h c u):VR w U φ h (.fn f l) (.func (.func f) #[] cs) :=
 .fn f l cs (fun i=>cs.getD i Go.undef) hl (QG hc).1 (QG hc).2
theorem VI.mk_agg{l:List T}{cs:Array Value}(hl:l.length=cs.size)(h1:∀(i:Nat) (u:Value),cs[i]?=some u->u.oneCell'=true)
 (hc:∀(i:Nat) (c:T),l[i]?=some c->∃u,cs[i]?=some u/\VI w U c u):VI w U (.agg l) (.agg cs) :=
 .agg l cs (fun i=>cs.getD i Go.undef) hl h1 (QG hc).1 (QG hc).2
theorem VI.mk_tup{l:List T}{cs:Array Value}(hl:l.length=cs.size)
 (hc:∀(i:Nat) (c:T),l[i]?=some c->∃u,cs[i]?=some u/\VI w U c u):VI w U (.tup l) (.tuple cs) :=
 .tup l cs (fun i=>cs.getD i Go.undef) hl (QG hc).1 (QG hc).2
theorem VI.mk_fn{f:FuncId}{l:List T}{cs:Array Value}(hl:l.length=cs.size)
 (hc:∀(i:Nat) (c:T),l[i]?=some c->∃u,cs[i]?=some u/\VI w U c u):VI w U (.fn f l) (.func (.func f) #[] cs) :=
 .fn f l cs (fun i=>cs.getD i Go.undef) hl (QG hc).1 (QG hc).2
theorem VR.cells_rel{x:T}{v:Value}(hx:VR w U φ h x v)(hk:zK x=true) :
 x.cells.length=v.cells.size/\(∀(i:Nat) (u:Value),v.cells[i]?=some u->u.oneCell'=true)/\∀(i:Nat) (c:T),x.cells[i]?=some c->∃u,v.cells[i]?=some u/\VR w U φ h c u:=by
 have single:∀(x:T) (v:Value),x.cells=[x]->v.cells = #[v]->v.oneCell'=true->VR w U φ h x v →
  x.cells.length=v.cells.size/\(∀(i:Nat) (u:Value),v.cells[i]?=some u->u.oneCell'=true)/\∀(i:Nat) (c:T),x.cells[i]?=some c->∃u,v.cells[i]?=some u/\VR w U φ h c u:=by
  intro x v e1 e2 h1 hx;rw[e1,e2];refine⟨rfl,fun i u hu=>?_,fun i c hc=>?_⟩
  ·cases i with
   |zero=>simp at hu;subst hu;exact h1
   |succ i=>simp at hu
  ·cases i with
   |zero=>simp at hc;subst hc;exact⟨v,rfl,hx⟩
   |succ i=>simp at hc
 cases hx with
 |imm _ _ hv =>
  cases hv with
  |undef v=>simp[zK] at hk
  |agg l cs vs hl h1 hc hv=>exact⟨hl,h1,fun i c hi=>⟨vs i,hc i c hi,.imm _ _ (hv i c hi)⟩⟩
  |tup l cs vs hl hc hv=>simp[zK] at hk
  |vp cells a vs hs hU hc hv=>exact single _ _ rfl rfl rfl (.imm _ _ (.vp cells a vs hs hU hc hv))
  |view sz n g cap a c vs hs hcap hn hU hl hc hv=>exact single _ _ rfl rfl rfl (.imm _ _ (.view sz n g cap a c vs hs hcap hn hU hl hc hv))
  |fn f caps cs vs hl hc hv=>exact single _ _ rfl rfl rfl (.imm _ _ (.fn f caps cs vs hl hc hv))
  |iface t x v h=>exact single _ _ rfl rfl rfl (.imm _ _ (.iface t x v h))
  |str s b hb=>exact single _ _ rfl rfl rfl (.imm _ _ (.str s b hb))
  |bool b=>exact single _ _ rfl rfl rfl (.imm _ _ (.bool b))
  |int k n=>exact single _ _ rfl rfl rfl (.imm _ _ (.int k n))
  |nilp=>exact single _ _ rfl rfl rfl (.imm _ _ .nilp)
  |vnil sz g cap hc=>exact single _ _ rfl rfl rfl (.imm _ _ (.vnil sz g cap hc))
  |nils=>exact single _ _ rfl rfl rfl (.imm _ _ .nils)
  |nilf=>exact single _ _ rfl rfl rfl (.imm _ _ .nilf)
  |nili=>exact single _ _ rfl rfl rfl (.imm _ _ .nili)
  |gone=>cases hk
  |nilm=>exact single _ _ rfl rfl rfl (.imm _ _ .nilm)
  |yld l=>exact single _ _ rfl rfl rfl (.imm _ _ (.yld l))
 |own i ver off len cap b v hb hver h1 hok=>exact single _ _ rfl (by cases v<;>first|rfl|simp[Value.oneCell'] at h1) h1 (.own i ver off len cap b v hb hver h1 hok)
 |ptr i ver j o b v hb hver h1 hok=>exact single _ _ rfl (by cases v<;>first|rfl|simp[Value.oneCell'] at h1) h1 (.ptr i ver j o b v hb hver h1 hok)
 |mp i ver b v hb hver h1 hok=>exact single _ _ rfl (by cases v<;>first|rfl|simp[Value.oneCell'] at h1) h1 (.mp i ver b v hb hver h1 hok)
 |fn f caps cs vs hl hc hv=>exact single _ _ rfl rfl rfl (.fn f caps cs vs hl hc hv)
 |agg l cs vs hl h1 hc hv=>exact⟨hl,h1,fun i c hi=>⟨vs i,hc i c hi,hv i c hi⟩⟩
 |tup l cs vs hl hc hv=>simp[zK] at hk
 |iface t x v hv=>exact single _ _ rfl rfl rfl (.iface t x v hv)
theorem Yj(v:Value):VI w U (Ya v) v:=by
 unfold Ya;split<;>first|exact .bool _|exact .int _ _|exact .str _ _ rfl|exact .nilp|exact .nils|exact .nilf|exact .nili|exact .nilm|exact .undef _
theorem qby(v:Value)(hf:JU v=true):VI w U (YF v) v:=by
 cases v with
 |agg cs =>
  refine VI.mk_agg (by simp) ?_ ?_
  ·intro i u hu;have hm:u∈cs.toList:=by simpa using Array.mem_of_getElem? hu
   have:=(List.all_eq_true.1 hf) u hm;revert this;cases u<;>simp[Value.oneCell']
  ·intro i c hi;simp only[List.getElem?_map,Option.map_eq_some_iff] at hi;obtain⟨u,hu,rfl⟩:=hi;exact⟨u,by simpa using hu,Yj u⟩
 |tuple cs =>
  refine VI.mk_tup (by simp) ?_;intro i c hi;simp only[List.getElem?_map,Option.map_eq_some_iff] at hi;obtain⟨u,hu,rfl⟩:=hi;exact⟨u,by simpa using hu,Yj u⟩
 |_=>simp only[YF];exact Yj _
end
open Go.ChangeMaps (setBlock modify_eq_set)
open Go.MapKept (Stamped stamped_push stamped_modify stamped_erase stamped_empty)
open Go.WideElems (findIdx_arr findIdx_born)
def je:Value->Int
 |.int _ n=>n
 |.bool b=>bif b then 1 else 0
 |_=>0
def qB:Value->List Int
 |.agg cs=>cs.toList.map je
 |v=>[je v]
structure KeyL(P:Program)(k:TypeId)(KV:Value->Prop):Prop where
 inj:∀{a b:Value},KV a->KV b->qB a=qB b->a=b
 check:∀(w:World) (em:Bool) {v:Value},KV v->(Instr.checkKey em 10000 k v).run P w = .ok () w
 find:∀(w:World) {x:Value},KV x->∀es:List MapEntry,(∀e∈es,KV e.key) →
  ((Instr.findKey k x es).run P w = .ok none w/\∀e∈es,e.key≠x)∨∃j e,(Instr.findKey k x es).run P w = .ok (some (j,e.val)) w/\es[j]?=some e/\e.key=x
 stays:∀(w:World) {v:Value},KV v->(Instr.keyThatStays v v).run P w = .ok v w
structure EsOk(KV:Value->Prop)(q:IntKind)(m:MapD)(es:Array MapEntry):Prop where
 stamped:Stamped es m.clock
 keys:∀x∈es.toList,KV x.key
 one:∀x∈es.toList,x.val = .int q (m.val (qB x.key))/\m.has (qB x.key)=true/\x.born=m.born (qB x.key)
 all:∀v,KV v->m.has (qB v)=true->∃x∈es.toList,x.key=v
 zero:∀l,m.has l=false->m.val l=0
 last:∀l st,m.last=some (l,st)->m.has l=true/\m.born l=st/\∃v,KV v/\qB v=l
def MapIs(w:World)(KV:Value->Prop)(q:IntKind)(b:Nat)(m:MapD):Prop:=∃es,w.heap[b]?=some (.map es m.clock)/\EsOk KV q m es
section
variable {P:Program} {k e t:TypeId} {q:IntKind} {w:World} {b:Nat} {m:MapD} {KV:Value->Prop}
theorem MapIs.of_heap{w':World}(h:MapIs w KV q b m)(e:w'.heap[b]?=w.heap[b]?):MapIs w' KV q b m:=by
 obtain⟨es,h1,h2⟩:=h;exact⟨es,e.trans h1,h2⟩
theorem EsOk.empty(ks:KS)(q':IntKind):EsOk KV q (MapD.made ks q') #[]:={ stamped:=stamped_empty 0,keys:=by simp,one:=by simp,all:=fun v _ h=>Bool.noConfusion h,zero:=fun _ _=>rfl,last:=fun _ _ h=>by cases h }
theorem EsOk.find{es:Array MapEntry}(h:EsOk KV q m es)(K:KeyL P k KV)(w:World){x:Value}(hx:KV x) :
 ((Instr.findKey k x es.toList).run P w = .ok none w/\m.has (qB x)=false/\∀e∈es.toList,e.key≠x) ∨
 ∃j e,(Instr.findKey k x es.toList).run P w = .ok (some (j,.int q (m.val (qB x)))) w/\es.toList[j]?=some e/\e.key=x/\m.has (qB x)=true/\e.born=m.born (qB x)/\e.val = .int q (m.val (qB x)):=by
 rcases K.find w hx es.toList h.keys with⟨h1,h2⟩|⟨j,e0,h1,h2,h3⟩
 ·refine .inl ⟨h1,?_,h2⟩;rw[Bool.eq_false_iff];intro hc;obtain⟨y,hy,hk⟩:=h.all x hx hc;exact h2 y hy hk
 ·have hm:=List.mem_of_getElem? h2;obtain⟨o1,o2,o3⟩:=h.one e0 hm;rw[h3] at o1 o2 o3;exact .inr ⟨j,e0,by rw[←o1];exact h1,h2,h3,o2,o3,o1⟩
theorem MapIs.look(h:MapIs w KV q b m)(K:KeyL P k KV)(ht:P.underlying t=some (.map k e))(hz:(zeroValue e).run P w = .ok (.int q 0) w){key:Value}(hkey:KV key)(c:Bool) :
 (Instr.lookup t (.map (some b)) key c).run P w = .ok (if c then .tuple #[.int q (m.val (qB key)),.bool (m.has (qB key))] else .int q (m.val (qB key))) w:=by
 obtain⟨es,hb,F⟩:=h;rcases F.find K w hkey with⟨h1,h2,_⟩|⟨j,e0,h1,h2,h3,h4,_⟩
 ·rw[F.zero _ h2,h2];simp[Instr.lookup,run_underlying ht,MapKept.run_getObj_map hb,K.check w _ hkey,h1,hz,Result.andThen]
 ·rw[h4];simp[Instr.lookup,run_underlying ht,MapKept.run_getObj_map hb,K.check w _ hkey,h1,Result.andThen]
theorem EsOk.push{es:Array MapEntry}(h:EsOk KV q m es)(K:KeyL P k KV){key:Value}(hkey:KV key)(h2:m.has (qB key)=false)(h3:∀e∈es.toList,e.key≠key)(z:Int) :
 EsOk KV q (m.put (qB key) z) (es.push ⟨key,.int q z,m.clock⟩)/\(m.put (qB key) z).clock=m.clock+1:=by
 have hcl:(m.put (qB key) z).clock=m.clock+1:=by simp[MapD.put,h2]
 have hne:∀x∈es.toList,keq (qB x.key) (qB key)=false:=fun x hx=>qdY fun q=>h3 x hx (K.inj (h.keys x hx) hkey q);refine⟨⟨?_,?_,?_,?_,?_,fun _ _ h=>by cases h⟩,hcl⟩
 ·rw[hcl];exact stamped_push h.stamped h3
 ·intro x hx;simp only[Array.toList_push,List.mem_append,List.mem_singleton] at hx;rcases hx with hx|rfl
  ·exact h.keys x hx
  ·exact hkey
 ·intro x hx;simp only[Array.toList_push,List.mem_append,List.mem_singleton] at hx;rcases hx with hx|rfl
  ·obtain⟨a1,a2,a3⟩:=h.one x hx;simp only[MapD.put,hne x hx,cond_false,Bool.false_or];exact⟨a1,a2,a3⟩
  ·simp[MapD.put,YN,MapD.stamp,h2]
 ·intro v hv hh;simp only[MapD.put,Bool.or_eq_true] at hh;rcases hh with hh|hh
  ·exact⟨⟨key,.int q z,m.clock⟩,by simp,(K.inj hv hkey (kE.1 hh)).symm⟩
  ·obtain⟨x,hx,e⟩:=h.all v hv hh;exact⟨x,by simp[Array.mem_toList_iff.1 hx],e⟩
 ·intro l hl;simp only[MapD.put,Bool.or_eq_false_iff] at hl;simp only[MapD.put,hl.1,cond_false];exact h.zero l hl.2
theorem EsOk.modify{es:Array MapEntry}(h:EsOk KV q m es)(K:KeyL P k KV){key:Value}(hkey:KV key){j:Nat}{e0:MapEntry}(h1:es.toList[j]?=some e0)(h2:e0.key=key)(h3:m.has (qB key)=true)(z:Int) :
 EsOk KV q (m.put (qB key) z) (es.modify j fun e=>{ e with key:=key,val:=.int q z })/\(m.put (qB key) z).clock=m.clock:=by
 have hcl:(m.put (qB key) z).clock=m.clock:=by simp[MapD.put,h3]
 have hj:es[j]?=some e0:=by simpa using h1
 have hl:(es.modify j fun e=>{ e with key:=key,val:=.int q z }).toList=es.toList.set j { e0 with key:=key,val:=.int q z }:=by
  rw[Array.toList_modify,modify_eq_set _ _ _ _ h1]
 have hnd:=h.stamped.2.2;have hjl:j<es.toList.length:=(List.getElem?_eq_some_iff.1 h1).1;have hmem:∀x∈(es.modify j fun e=>{ e with key:=key,val:=.int q z }).toList,x = { e0 with key:=key,val:=.int q z }∨(x∈es.toList/\x.key≠key):=by
  intro x hx;rw[hl] at hx;obtain⟨i,hi⟩:=List.mem_iff_getElem?.1 hx;by_cases hij:j=i
  ·subst hij;rw[List.getElem?_set_self hjl] at hi;exact .inl (Option.some.inj hi).symm
  ·rw[List.getElem?_set_ne hij] at hi;refine .inr ⟨List.mem_of_getElem? hi,fun hc=>hij ?_⟩;have hi':(es.toList.map (·.key))[i]?=some key:=by simp only[List.getElem?_map,hi,Option.map_some,hc]
   have hj':(es.toList.map (·.key))[j]?=some key:=by simp only[List.getElem?_map,h1,Option.map_some,h2]
   have hil:j<(es.toList.map (·.key)).length:=by simpa using hjl
   exact(List.getElem?_inj hil hnd).1 (hj'.trans hi'.symm)
 have hne:∀x∈es.toList,x.key≠key->keq (qB x.key) (qB key)=false:=fun x hx hk=>qdY fun q=>hk (K.inj (h.keys x hx) hkey q);have h0:=h.one e0 (List.mem_of_getElem? h1);rw[h2] at h0;refine⟨⟨?_,?_,?_,?_,?_,fun _ _ h=>by cases h⟩,hcl⟩
 ·rw[hcl];refine stamped_modify h.stamped j _ (fun _ _=>rfl) fun e _ he=>?_;rw[hj] at he;obtain rfl:=Option.some.inj he;exact h2.symm
 ·intro x hx;rcases hmem x hx with rfl|⟨hx,_⟩
  ·exact hkey
  ·exact h.keys x hx
 ·intro x hx;rcases hmem x hx with rfl|⟨hx,hk⟩
  ·simp only[MapD.put,YN,cond_true,Bool.true_or,MapD.stamp,h3,true_and];exact h0.2.2
  ·obtain⟨a1,a2,a3⟩:=h.one x hx;simp only[MapD.put,hne x hx hk,cond_false,Bool.false_or];exact⟨a1,a2,a3⟩
 ·intro v hv hh;have hv':m.has (qB v)=true:=by
   simp only[MapD.put,Bool.or_eq_true] at hh;rcases hh with hh|hh
   ·rw[kE.1 hh];exact h3
   ·exact hh
  obtain⟨x,hx,rfl⟩:=h.all v hv hv';obtain⟨i,hi⟩:=List.mem_iff_getElem?.1 hx;by_cases hij:j=i
  ·subst hij;rw[h1] at hi;obtain rfl:=Option.some.inj hi;exact⟨_,by rw[hl];exact List.mem_of_getElem? (List.getElem?_set_self hjl),h2.symm⟩
  ·exact⟨x,by rw[hl];exact List.mem_of_getElem? ((List.getElem?_set_ne hij).trans hi),rfl⟩
 ·intro l hl;simp only[MapD.put,Bool.or_eq_false_iff] at hl;simp only[MapD.put,hl.1,cond_false];exact h.zero l hl.2
theorem MapIs.update(h:MapIs w KV q b m)(K:KeyL P k KV)(ht:P.underlying t=some (.map k e)){key:Value}(hkey:KV key)(z:Int) :
 ∃es,(Instr.mapUpdate t (.map (some b)) key (.int q z)).run P w = .ok () (setBlock w b (.map es (m.put (qB key) z).clock))/\EsOk KV q (m.put (qB key) z) es:=by
 obtain⟨es,hb,F⟩:=h;rcases F.find K w hkey with⟨h1,h2,h3⟩|⟨j,e0,h1,h2,h3,h4,_⟩
 ·obtain⟨p1,p2⟩:=F.push K hkey h2 h3 z;refine⟨_,?_,p1⟩;rw[p2];simp[Instr.mapUpdate,run_underlying ht,MapKept.run_getObj_map hb,K.check w _ hkey,h1,MapKept.run_setObj_map _ hb,Result.andThen,setBlock]
 ·obtain⟨p1,p2⟩:=F.modify K hkey h2 h3 h4 z;refine⟨_,?_,p1⟩;have hj:es[j]?=some e0:=by simpa using h2
  rw[p2];simp[Instr.mapUpdate,run_underlying ht,MapKept.run_getObj_map hb,K.check w _ hkey,h1,hj,h3,K.stays w hkey,MapKept.run_setObj_map _ hb,Result.andThen,setBlock]
theorem EsOk.entry{es:Array MapEntry}{key:Value}(hkey:KV key)(F:EsOk KV q (m.put (qB key) (m.val (qB key))) es):EsOk KV q (m.entry (qB key)) es :=
 ⟨F.stamped,F.keys,F.one,F.all,F.zero,fun l st h=>by
  simp only[MapD.entry,Option.some.injEq,Prod.mk.injEq] at h;obtain⟨rfl,rfl⟩:=h;exact⟨by simp[MapD.entry,MapD.put,YN],by simp[MapD.entry,MapD.put,YN],key,hkey,rfl⟩⟩
theorem MapIs.entry(h:MapIs w KV q b m)(K:KeyL P k KV)(ht:P.underlying t=some (.map k e))(hz:(zeroValue e).run P w = .ok (.int q 0) w){key:Value}(hkey:KV key) :
 ∃es,(Instr.mapEntry t (.map (some b)) key).run P w = .ok (.tuple #[.int q (m.val (qB key)),goInt (m.stamp (qB key))]) (setBlock w b (.map es (m.entry (qB key)).clock))/\EsOk KV q (m.entry (qB key)) es:=by
 obtain⟨es,hb,F⟩:=h;rcases F.find K w hkey with⟨h1,h2,h3⟩|⟨j,e0,h1,h2,h3,h4,h5,h6⟩
 ·obtain⟨p1,p2⟩:=F.push K hkey h2 h3 (m.val (qB key));refine⟨_,?_,p1.entry hkey⟩;rw[show(m.entry (qB key)).clock=m.clock+1 from p2];rw[show m.stamp (qB key)=m.clock by simp[MapD.stamp,h2],F.zero _ h2];simp[Instr.mapEntry,run_underlying ht,MapKept.run_getObj_map hb,K.check w _ hkey,h1,hz,MapKept.run_setObj_map _ hb,Result.andThen,setBlock]
 ·obtain⟨p1,p2⟩:=F.modify K hkey h2 h3 h4 (m.val (qB key));have hj:es[j]?=some e0:=by simpa using h2
  have hsame:(es.modify j fun e=>{ e with key:=key })=es.modify j fun e=>{ e with key:=key,val:=.int q (m.val (qB key)) }:=by
   apply Array.ext';rw[Array.toList_modify,Array.toList_modify,modify_eq_set _ _ _ _ h2,modify_eq_set _ _ _ _ h2,←h6]
  refine⟨_,?_,p1.entry hkey⟩;rw[show(m.entry (qB key)).clock=m.clock from p2,←hsame,show m.stamp (qB key)=e0.born by simp[MapD.stamp,h4,h5]];simp[Instr.mapEntry,run_underlying ht,MapKept.run_getObj_map hb,K.check w _ hkey,h1,hj,h3,K.stays w hkey,MapKept.run_setObj_map _ hb,Result.andThen,setBlock]
theorem MapIs.store(h:MapIs w KV q b m)(K:KeyL P k KV){l:List Int}{st:Nat}(hl:m.last=some (l,st))(z:Int) :
 ∃es,(Instr.entryStore t (.map (some b)) (goInt st) (.int q z)).run P w = .ok () (setBlock w b (.map es (m.put l z).clock))/\EsOk KV q (m.put l z) es:=by
 obtain⟨es,hb,F⟩:=h;obtain⟨f1,f2,key,hkey,rfl⟩:=F.last l st hl;rcases F.find K w hkey with⟨_,h2,_⟩|⟨j,e0,h1,h2,h3,h4,h5,h6⟩
 ·rw[f1] at h2;cases h2
 ·obtain⟨p1,p2⟩:=F.modify K hkey h2 h3 h4 z;refine⟨_,?_,p1⟩;have hidx:es.findIdx? (fun e=>((e.born:Nat):Int)==((e0.born:Nat):Int))=some j:=by
   rw[findIdx_arr];exact findIdx_born F.stamped.2.1 h2
  have hmod:(es.modify j fun e=>{ e with val:=.int q z })=es.modify j fun e'=>{ e' with key:=key,val:=.int q z }:=by
   apply Array.ext';rw[Array.toList_modify,Array.toList_modify,modify_eq_set _ _ _ _ h2,modify_eq_set _ _ _ _ h2,←h3]
  rw[p2,←hmod,←f2,←h5];simp[Instr.entryStore,MapKept.run_getObj_map hb,asInt,asIntOf,goInt,hidx,MapKept.run_setObj_map _ hb,Result.andThen,setBlock]
theorem MapIs.drop(h:MapIs w KV q b m)(K:KeyL P k KV)(ht:P.underlying t=some (.map k e)){key:Value}(hkey:KV key)(ty:TypeId) :
 ∃es,(Builtin.delete_ #[t,k] ty #[.map (some b),key]).run P w = .ok (.tuple #[]) (setBlock w b (.map es (m.del (qB key)).clock))/\EsOk KV q (m.del (qB key)) es:=by
 obtain⟨es,hb,F⟩:=h;have hne:∀x∈es.toList,x.key≠key->keq (qB x.key) (qB key)=false:=fun x hx hk=>qdY fun q=>hk (K.inj (F.keys x hx) hkey q);rcases F.find K w hkey with⟨h1,h2,h3⟩|⟨j,e0,h1,h2,h3,h4,h5,h6⟩
 ·refine⟨es,?_,⟨F.stamped,F.keys,fun x hx=>?_,fun v hv hh=>?_,fun l hl=>?_,fun _ _ h=>by cases h⟩⟩
  ·simp[Builtin.delete_,run_underlying ht,MapKept.run_getObj_map hb,K.check w _ hkey,h1,MapKept.run_setObj_map _ hb,Result.andThen,setBlock,MapD.del]
  ·simp only[MapD.del,hne x hx (h3 x hx),cond_false,Bool.not_false,Bool.true_and];exact F.one x hx
  ·simp only[MapD.del,Bool.and_eq_true] at hh;exact F.all v hv hh.2
  ·simp only[MapD.del];cases hk:keq l (qB key) with
   |true=>rfl
   |false=>exact F.zero l (by simpa [MapD.del,hk] using hl)
 ·have hjl:j<es.toList.length:=(List.getElem?_eq_some_iff.1 h2).1;have hjs:j<es.size:=by simpa using hjl
  have hsub:(es.eraseIdxIfInBounds j).toList=es.toList.eraseIdx j:=by
   unfold Array.eraseIdxIfInBounds;rw[dif_pos hjs];simp
  have hother:∀x,x∈es.toList.eraseIdx j↔x∈es.toList/\x.key≠key:=by
   intro x;have hnd:=F.stamped.2.2;constructor
   ·intro hx;obtain⟨i,hij,hi⟩:=List.mem_eraseIdx_iff_getElem?.1 hx;refine⟨List.mem_of_getElem? hi,fun hc=>hij ?_⟩;have hi':(es.toList.map (·.key))[i]?=some key:=by simp only[List.getElem?_map,hi,Option.map_some,hc]
    have hj':(es.toList.map (·.key))[j]?=some key:=by simp only[List.getElem?_map,h2,Option.map_some,h3]
    have hil:j<(es.toList.map (·.key)).length:=by simpa using hjl
    exact((List.getElem?_inj hil hnd).1 (hj'.trans hi'.symm)).symm
   ·intro ⟨hx,hk⟩;obtain⟨i,hi⟩:=List.mem_iff_getElem?.1 hx;refine List.mem_eraseIdx_iff_getElem?.2 ⟨i,fun hij=>hk ?_,hi⟩;subst hij;rw[h2] at hi;rw[←Option.some.inj hi,h3]
  refine⟨es.eraseIdxIfInBounds j,?_,⟨stamped_erase F.stamped j,fun x hx=>?_,fun x hx=>?_,fun v hv hh=>?_,fun l hl=>?_,fun _ _ h=>by cases h⟩⟩
  ·simp[Builtin.delete_,run_underlying ht,MapKept.run_getObj_map hb,K.check w _ hkey,h1,MapKept.run_setObj_map _ hb,Result.andThen,setBlock,MapD.del]
  ·rw[hsub] at hx;exact F.keys x ((hother x).1 hx).1
  ·rw[hsub] at hx;obtain⟨hx,hk⟩:=(hother x).1 hx;simp only[MapD.del,hne x hx hk,cond_false,Bool.not_false,Bool.true_and];exact F.one x hx
  ·simp only[MapD.del,Bool.and_eq_true,Bool.not_eq_true'] at hh;obtain⟨x,hx,e⟩:=F.all v hv hh.2;refine⟨x,?_,e⟩;rw[hsub];refine(hother x).2 ⟨hx,fun hc=>?_⟩;rw[←e,hc,YN] at hh;exact Bool.noConfusion hh.1
  ·simp only[MapD.del];cases hk:keq l (qB key) with
   |true=>rfl
   |false=>exact F.zero l (by simpa [MapD.del,hk] using hl)
theorem MapIs.made(w:World)(ks:KS)(q':IntKind):MapIs (w.alloc (.map #[] 0)) KV q w.heap.size (MapD.made ks q'):=⟨#[],(MapKept.heap_alloc w _).1,EsOk.empty ks q'⟩
theorem MapIs.after{es:Array MapEntry}(hb:∃es c,w.heap[b]?=some (.map es c))(F:EsOk KV q m es):MapIs (setBlock w b (.map es m.clock)) KV q b m:=by
 obtain⟨es',c,hb⟩:=hb;exact⟨es,ChangeMaps.heap_setBlock_same hb _,F⟩
end
section
variable {P:Program} {k:TypeId} {q:IntKind}
def qeb(q:IntKind)(v:Value):Prop:=∃n,v = .int q n
theorem Jq(q:IntKind)(n:Int):∀(es:List MapEntry) (i:Nat),(∀e∈es,qeb q e.key) →
 (Instr.findNow (.int q) (.int q n) es i=some none/\∀e∈es,e.key≠.int q n)∨∃j e,Instr.findNow (.int q) (.int q n) es i=some (some (i+j,e.val))/\es[j]?=some e/\e.key = .int q n
 |[],_,_=>.inl ⟨rfl,by simp⟩
 |x::l,i,h=>by
  obtain⟨a,ha⟩:=h x (by simp);unfold Instr.findNow;rw[ha];simp only[Instr.sameNow,if_true];by_cases hn:n=a
  ·subst hn;simp only[beq_self_eq_true];exact .inr ⟨0,x,rfl,rfl,ha⟩
  ·rw[show(n==a)=false from beq_false_of_ne hn];dsimp only;rcases Jq q n l (i+1) (fun e he=>h e (by simp[he])) with⟨h1,h2⟩|⟨j,e,h1,h2,h3⟩
   ·refine .inl ⟨h1,fun e he=>?_⟩;rcases List.mem_cons.1 he with rfl|he
    ·rw[ha];intro q;cases q;exact hn rfl
    ·exact h2 e he
   ·exact .inr ⟨j+1,e,by rw[h1,show i+1+j=i+(j+1) by omega],by simpa using h2,h3⟩
theorem qfM(hk:P.underlying k=some (.int q)):KeyL P k (qeb q) where
 inj:=by
  rintro a b ⟨n,rfl⟩ ⟨m,rfl⟩ h;simp only[qB,je,List.cons.injEq,and_true] at h;rw[h]
 check:=by
  rintro w em v ⟨n,rfl⟩;unfold Instr.checkKey;simp[run_underlying hk]
 find:=by
  rintro w x ⟨n,rfl⟩ es h;rcases Jq q n es 0 h with⟨h1,h2⟩|⟨j,e,h1,h2,h3⟩
  ·exact .inl ⟨by simp[Instr.findKey,run_underlying hk,h1],h2⟩
  ·exact .inr ⟨j,e,by simp[Instr.findKey,run_underlying hk,h1],h2,h3⟩
 stays:=by
  rintro w v ⟨n,rfl⟩;simp[Instr.keyThatStays,Instr.sameBits]
end
structure Gh where
 U:Nat->Prop
 φ:Nat->Option (Nat×Nat)
 own:Nat->Option (Nat ⊕ Nat)
 base:Nat
 low:Nat
 dt:List Deferred:=[]
def Gh.bs(g:Gh):Nat×Nat×List Deferred:=(g.base,g.low,g.dt)
structure BlkOk(w:World)(g:Gh)(h:qa)(i:Nat)(b:Blk)(cb sh:Nat)(arr:Array Value)(e:TypeId):Prop where
 φ:g.φ i=some (cb,sh)
 own:g.own cb=some (.inl i)
 heap:w.heap[cb]?=some (.cells arr e (0,0))
 room:sh+b.n*b.sz<=arr.size
 len:∀j,j<b.n->(b.get j).length=b.sz
 cell:∀j o c,j<b.n->(b.get j)[o]?=some c->∃v,arr[sh+j*b.sz+o]?=some v/\v.oneCell'=true/\VR w g.U g.φ h c v
 flat:b.flat=true->∀j,j<b.n->∀c,c∈b.get j->qw c=true
def Z6:List (Option IntKind)->List Value->Prop
 |[],[]=>True
 |x::fs,v::l=>(match x with|some q=>∃n,v = .int q n|none=>∃b,v = .bool b)/\Z6 fs l
 |_,_=>False
def KVS:KS->Value->Prop
 |.int q,v=>qeb q v
 |.row l,v=>∃cs,v = .agg cs/\Z6 l cs.toList
def MapOk(w:World)(cb:Nat)(m:MapD):Prop:=MapIs w (KVS m.ks) m.q cb m
theorem MapOk.of_heap{w w':World}{cb:Nat}{m:MapD}(h:MapOk w cb m)(e:w'.heap[cb]?=w.heap[cb]?):MapOk w' cb m:=MapIs.of_heap h e
theorem MapOk.heap{w:World}{cb:Nat}{m:MapD}(h:MapOk w cb m):∃es c,w.heap[cb]?=some (.map es c):=by
 obtain⟨es,h2,_⟩:=h;exact⟨es,_,h2⟩
structure HR(g:Gh)(h:qa)(w:World):Prop where
 blk0:∀i b,h[i]?=some b->b.mp=none->(∃cb sh arr e,BlkOk w g h i b cb sh arr e)∨(g.φ i=none/\b.n=0)
 u:∀b,g.U b->b<w.heap.size/\g.own b=none
 own:∀b o,g.own b=some o->g.base<=b/\b<w.heap.size
 base:g.base<=w.heap.size
 cells:∀b o,g.own b=some o->(∃arr e,w.heap[b]?=some (.cells arr e (0,0)))∨∃i es c,o = .inl i/\w.heap[b]?=some (.map es c)
 lt:∀b i,g.own b=some (.inl i)->i<h.length
 mp:∀i b m,h[i]?=some b->b.mp=some m->∃cb,g.φ i=some (cb,0)/\g.own cb=some (.inl i)/\MapOk w cb m
theorem HR.blk{g:Gh}{h:qa}{w:World}(hr:HR g h w)(i:Nat)(b:Blk)(hb:h[i]?=some b)(hm:b.mp=none)(hn:0<b.n∨g.φ i≠none):∃cb sh arr e,BlkOk w g h i b cb sh arr e:=by
 rcases hr.blk0 i b hb hm with q|⟨q1,q2⟩
 ·exact q
 ·rcases hn with hn|hn
  ·omega
  ·exact absurd q1 hn
theorem HR.box{g:Gh}{h:qa}{w:World}(hr:HR g h w){b t:Nat}(ho:g.own b=some (.inr t)):∃arr e,w.heap[b]?=some (.cells arr e (0,0)):=by
 rcases hr.cells b _ ho with h|⟨i,es,c,h,_⟩
 ·exact h
 ·cases h
theorem HR.cells_of{g:Gh}{h:qa}{w w':World}(hr:HR g h w){b:Nat}{o:Nat ⊕ Nat}(ho:g.own b=some o)(e:w'.heap[b]?=w.heap[b]?) :
 (∃arr e,w'.heap[b]?=some (.cells arr e (0,0)))∨∃i es c,o = .inl i/\w'.heap[b]?=some (.map es c):=by
 rcases hr.cells b o ho with⟨a2,e2,h2⟩|⟨i2,es,c,h1,h2⟩
 ·exact .inl ⟨a2,e2,e.trans h2⟩
 ·exact .inr ⟨i2,es,c,h1,e.trans h2⟩
theorem HR.mp_of{g g':Gh}{h:qa}{w w':World}(hr:HR g h w){i:Nat}{b:Blk}{m:MapD}(hb:h[i]?=some b)(hm:b.mp=some m)(hφ:g'.φ i=g.φ i)
 (ho:∀c,g.own c=some (.inl i)->g'.own c=some (.inl i)) (he:∀c,c<w.heap.size->g.own c=some (.inl i)->w'.heap[c]?=w.heap[c]?) :
 ∃cb,g'.φ i=some (cb,0)/\g'.own cb=some (.inl i)/\MapOk w' cb m:=by
 obtain⟨cb,h1,h2,h3⟩:=hr.mp i b m hb hm;exact⟨cb,hφ.trans h1,ho cb h2,h3.of_heap (he cb (hr.own _ _ h2).2 h2)⟩
theorem HR.place{g:Gh}{h:qa}{w:World}(hr:HR g h w){i:Nat}{b:Blk}(hb:h[i]?=some b):(∃cb sh,g.φ i=some (cb,sh)/\g.own cb=some (.inl i))∨g.φ i=none:=by
 cases hm:b.mp with
 |none =>
  rcases hr.blk0 i b hb hm with⟨cb,sh,arr,e,hok⟩|⟨q,_⟩
  ·exact .inl ⟨cb,sh,hok.φ,hok.own⟩
  ·exact .inr q
 |some m =>
  obtain⟨cb,h1,h2,_⟩:=hr.mp i b m hb hm;exact .inl ⟨cb,0,h1,h2⟩
theorem HR.placed{g:Gh}{h:qa}{w:World}(hr:HR g h w){i cb sh:Nat}{b:Blk}(hb:h[i]?=some b)(hφ:g.φ i=some (cb,sh)):g.own cb=some (.inl i):=by
 rcases hr.place hb with⟨cb',sh',h1,h2⟩|h1
 ·rw[hφ] at h1;obtain⟨rfl,rfl⟩:=Prod.mk.inj (Option.some.inj h1);exact h2
 ·rw[hφ] at h1;cases h1
def OutOk(w' w:World):Prop:=w'.output=w.output/\w'.drawn<=w'.drawn
theorem OutOk.refl(w:World):OutOk w w:=⟨rfl,Nat.le_refl _⟩
theorem OutOk.trans{w2 w1 w:World}(h2:OutOk w2 w1)(h1:OutOk w1 w):OutOk w2 w:=⟨h2.1.trans h1.1,h2.2⟩
theorem OutOk.out{w' w:World}(h:OutOk w' w):w'.output=w.output:=h.1
structure FrO(g:Gh)(w:World)(g':Gh)(w':World):Prop where
 size:w.heap.size<=w'.heap.size
 own:∀b,b<w.heap.size->g'.own b=g.own b
 os:w'.os=w.os
 tape:w'.tape=w.tape
 output:OutOk w' w
 same:∀b,b<w.heap.size->(∀i,g.own b≠some (.inl i))->w'.heap[b]?=w.heap[b]?
 bs:g'.bs=g.bs
 u:∀b,g'.U b->g.U b∨w.heap.size<=b
 new:∀b,w.heap.size<=b->∀t,g'.own b≠some (.inr t)
theorem FrO.base{g g':Gh}{w w':World}(f:FrO g w g' w'):g'.base=g.base:=congrArg Prod.fst f.bs
theorem FrO.refl(g:Gh)(w:World)(hn:∀b o,g.own b=some o->b<w.heap.size):FrO g w g w :=
 ⟨Nat.le_refl _,fun _ _=>rfl,rfl,rfl,.refl _,fun _ _ _=>rfl,rfl,fun _ h=>.inl h,fun b hb t e=>by have:=hn b _ e;omega⟩
abbrev Gh.VR(g:Gh)(h:qa)(w:World)(x:T)(v:Value):Prop:=Ab.VR w g.U g.φ h x v
abbrev zx(g:Gh)(h:qa)(w:World)(g':Gh)(h':qa)(w':World):Prop:=KeepR w g.U g.φ h w' g'.U g'.φ h'
def Res(g:Gh)(h:qa)(w:World)(x:T)(h':qa)(v:Value)(w':World):Prop :=
 ∃g',HR g' h' w'/\g'.VR h' w' x v/\zx g h w g' h' w'/\FrO g w g' w'
theorem Res.pure{g:Gh}{h:qa}{w:World}{x:T}{v:Value}(hr:HR g h w)(hx:g.VR h w x v):Res g h w x h v w :=
 ⟨g,hr,hx,.refl _ _ _ _,.refl _ _ fun b o e=>(hr.own b o e).2⟩
def Ql(r:Option Nat):Fence:={ fn:=fun _=>True,depth:=none,alive:=false,round:=r }
theorem ZU{P:Program}{r:Option Nat}{a:Act}{o:Oper}{w w':World}{x:Next}(h:(execOp a.eval o).run P w = .ok x w')(hx:∀d,x≠.defer d):(o.semAt r a.eval).run P w = .ok x w':=by
 cases r with
 |none=>exact h
 |some l =>
  rw[Oper.semAt_eq]
  ·exact h
  ·intro c hc;unfold execOp at h;rw[hc] at h;simp only[Sem.run_bind] at h;cases hr:(Go.resolve a.eval c o.type).run P w with
   |ok d w1 =>
    rw[hr] at h;simp only[Result.andThen_ok,Sem.run_pure,Result.ok.injEq] at h;exact hx d h.1.symm
   |_=>rw[hr] at h;simp[Result.andThen] at h
def Yields(P:Program)(o:Oper)(a:Act)(w:World)(Φ:Value->World->Prop):Prop :=
 ∀(ro:Option Nat) (n:Nat) (next:Act->World->Prop) (Q:Exit->Act->World->Prop),(∀v w',Φ v w'->next (a.put o.dst v) w')->o.wpIn (Ql ro) n P a w next Q
theorem zy{P:Program}{o:Oper}{a:Act}{w w':World}{v:Value}{Φ:Value->World->Prop}(h:(execOp a.eval o).run P w = .ok (.value v) w')(hΦ:Φ v w'):Yields P o a w Φ:=by
 intro ro n next Q hn
 refine⟨fun _ _=>trivial,?_⟩;rw[ZU h (by simp)];exact hn v w' hΦ
theorem Y7{P:Program}{o:Oper}{a:Act}{w w':World}{Φ:Value->World->Prop}(h:(execOp a.eval o).run P w = .ok .skip w')(hΦ:Φ undef w'):Yields P o a w Φ:=by
 intro ro n next Q hn
 refine⟨fun _ _=>trivial,?_⟩;rw[ZU h (by simp)];exact hn undef w' hΦ
theorem Yields.mono{P:Program}{o:Oper}{a:Act}{w:World}{Φ Ψ:Value->World->Prop}(h:Yields P o a w Φ)(hm:∀v w',Φ v w'->Ψ v w'):Yields P o a w Ψ :=
 fun ro n next Q hn=>h ro n next Q fun v w' hv=>hn v w' (hm v w' hv)
section
variable {P:Program} {R:Type} {g:Gh} {h:qa} {w:World}
theorem Qs(b o n:Nat):(⟨b,o,none⟩:Addr).add n=⟨b,o+n,none⟩:=by
 unfold Addr.add;split
 ·rename_i hn;subst hn;rfl
 ·rfl
theorem qan{a:Addr}(hs:a.spot=none):a=⟨a.block,a.off,none⟩:=by cases a;simp_all
theorem qk{c:Bool}{x y:Option R}{r:R}(h:(bif c then x else y)=some r):(c=true/\x=some r)∨(c=false/\y=some r):=by
 cases c
 ·exact .inr ⟨rfl,h⟩
 ·exact .inl ⟨rfl,h⟩
theorem qc{c:Bool}{x:Option R}{r:R}(h:(bif c then x else none)=some r):c=true/\x=some r:=by
 cases c
 ·simp at h
 ·exact⟨rfl,h⟩
theorem qT{a b:Nat}(h:Nat.ble a b=true):a<=b:=Nat.le_of_ble_eq_true h
theorem qU{a b:Nat}(h:Nat.blt a b=true):a<b:=Nat.le_of_ble_eq_true h
theorem qe{t:TypeId}{d:TypeDesc}(h:P.underlying t=some d):(underlying t).run P w = .ok d w:=run_underlying h w
theorem Z7{t:TypeId}{d:TypeDesc}(h:P.underlying t=some d):∃i,P.info? t=some i:=by
 unfold Program.underlying at h;cases hi:P.info? t with
 |none=>simp[hi] at h
 |some i=>exact⟨i,rfl⟩
theorem Y8{t:TypeId}{i:TypeInfo}(h:P.info? t=some i):(sizeOf t).run P w = .ok (qz P t) w:=by
 simp[sizeOf,typeInfo,h,qz]
theorem yV{t:TypeId}{d:TypeDesc}(h:P.underlying t=some d):(isAgg t).run P w = .ok (zY P t) w:=by
 unfold isAgg zY;simp only[Sem.run_bind,qe h,Result.andThen_ok,h];cases d<;>rfl
def CellsAt(g:Gh)(h:qa)(w:World)(b off:Nat)(cells:List T):Prop:=∀o c,cells[o]?=some c->∃v,cellAt w b (off+o) v/\g.VR h w c v
theorem CellsAt.drop{b off:Nat}{cells:List T}(hc:CellsAt g h w b off cells)(n:Nat):CellsAt g h w b (off+n) (cells.drop n):=by
 intro o c ho;rw[List.getElem?_drop] at ho;obtain⟨v,hv,hr⟩:=hc _ _ ho;exact⟨v,by rw[Nat.add_assoc];exact hv,hr⟩
theorem Kv{b off:Nat}{cells:List T}(hc:CellsAt g h w b off cells):∀n,n<=cells.length →
 ∃vs:List Value,vs.length=n/\(∀(j:Nat) (v:Value),vs[j]?=some v->cellAt w b (off+j) v)/\∀(j:Nat) (c:T),j<n->cells[j]?=some c->∃v,vs[j]?=some v/\g.VR h w c v
 |0,_=>⟨[],rfl,fun j v hj=>by simp at hj,fun j c hj=>by omega⟩
 |n+1,hn=>by
  obtain⟨vs,hl,h1,h2⟩:=Kv hc n (by omega);obtain⟨v,hv,hr⟩:=hc n cells[n] (List.getElem?_eq_getElem (by omega));refine⟨vs++[v],by simp[hl],fun j u hj=>?_,fun j c hj hcj=>?_⟩
  ·rw[List.getElem?_append] at hj;split at hj
   ·exact h1 j u hj
   ·rename_i hge;have:j-vs.length=0:=by
     rcases Nat.eq_zero_or_pos (j-vs.length) with h0|h0
     ·exact h0
     ·rw[List.getElem?_eq_none (by simp;omega)] at hj;simp at hj
    have e:j=n:=by omega
    subst e;rw[this] at hj;simp only[List.getElem?_cons_zero,Option.some.injEq] at hj;subst hj;exact hv
  ·rcases Nat.lt_or_ge j n with hlt|hge
   ·obtain⟨u,hu,hr'⟩:=h2 j c hlt hcj;exact⟨u,by rw[List.getElem?_append_left (by omega)];exact hu,hr'⟩
   ·have e:j=n:=by omega
    subst e;rw[List.getElem?_eq_getElem (by omega)] at hcj;simp only[Option.some.injEq] at hcj;exact⟨v,by rw[List.getElem?_append_right (by omega)];simp[hl],by rw[←hcj];exact hr⟩
theorem jf{t:TypeId}{cells:List T}{k:T->Option R}{r:R}{b off:Nat}(hk:ld P t cells k=some r)(hc:CellsAt g h w b off cells) :
 ∃x,k x=some r/\∃v,(loadVar t ⟨b,off,none⟩).run P w = .ok v w/\g.VR h w x v:=by
 unfold ld at hk;cases hu:P.underlying t with
 |none=>simp[hu] at hk
 |some d =>
  rw[hu] at hk;dsimp only at hk;obtain⟨i,hi⟩:=Z7 hu;cases ha:zY P t with
  |true =>
   simp only[ha,cond_true] at hk;obtain⟨hle,hk⟩:=qc hk;have hle:=qT hle;refine⟨_,hk,?_⟩;obtain⟨vs,hl,h1,h2⟩:=Kv hc _ hle;refine⟨.agg vs.toArray,?_,?_⟩
   ·unfold loadVar;simp only[Sem.run_bind,yV hu,Result.andThen_ok,ha,if_true,Y8 hi];rw[←hl,run_loadCells_list w ⟨b,off,none⟩ vs (fun j v hj=>by rw[Qs];exact(h1 j v hj).1)];rfl
   ·refine VR.mk_agg (by simp;omega) (fun j u hu'=>(h1 j u (by simpa using hu')).2) (fun j c hj=>?_);rw[List.getElem?_take] at hj;split at hj
    ·rename_i hlt;obtain⟨v,hv,hr⟩:=h2 j c hlt hj;exact⟨v,by simpa using hv,hr⟩
    ·simp at hj
  |false =>
   simp only[ha,cond_false] at hk;cases cells with
   |nil=>simp at hk
   |cons c l =>
    refine⟨c,hk,?_⟩;obtain⟨v,hv,hr⟩:=hc 0 c rfl;refine⟨v,?_,hr⟩;unfold loadVar;simp only[Sem.run_bind,yV hu,Result.andThen_ok,ha,Bool.false_eq_true,if_false];have:=hv.1;simp only[Nat.add_zero] at this;simp[this]
theorem zm{i ver:Nat}{k:Blk->Option R}{r:R}(hk:qM h i ver k=some r):∃b,h[i]?=some b/\b.mp=none/\b.ver=ver/\k b=some r:=by
 unfold qM at hk;cases hb:h[i]? with
 |none=>simp[hb] at hk
 |some b =>
  rw[hb] at hk;obtain⟨hv,hk⟩:=qc hk;simp only[Bool.and_eq_true,beq_iff_eq,Option.isNone_iff_eq_none] at hv;exact⟨b,rfl,hv.2,hv.1,hk⟩
theorem BlkOk.cellsAt{i:Nat}{b:Blk}{cb sh:Nat}{arr:Array Value}{e:TypeId}(hb:BlkOk w g h i b cb sh arr e){j:Nat}(hj:j<b.n) :
 CellsAt g h w cb (sh+j*b.sz) (b.get j):=by
 intro o c ho;obtain⟨v,hv,h1,hr⟩:=hb.cell j o c hj ho;exact⟨v,⟨by simp[World.cell?,hb.heap,hv],h1⟩,hr⟩
theorem Kw{cells:List T}{v:Value}(hv:g.VR h w (.vp cells) v):∃b o,v = .pointer (some ⟨b,o,none⟩)/\CellsAt g h w b o cells:=by
 cases hv.vp with
 |vp _ a vs hs hU hc hv' =>
  exact⟨a.block,a.off,by rw[←qan hs],fun o c ho=>⟨vs o,hc o c ho,.imm _ _ (hv' o c ho)⟩⟩
theorem yE{t:TypeId}{x:T}{k:qO R}{r:R}{v:Value}(hk:Yb P t x h k=some r)(hr:HR g h w)(hx:g.VR h w x v) :
 ∃y,k y h false=some r/\∃u,(Instr.loadAt t v).run P w = .ok u w/\g.VR h w y u:=by
 cases x with
 |vp cells =>
  obtain⟨b,o,rfl,hc⟩:=Kw hx;obtain⟨y,hy,u,hu,hyu⟩:=jf (show ld P t cells (fun x=>k x h false)=some r from hk) hc;exact⟨y,hy,u,by simp[Instr.loadAt,Instr.sureAddr,hu],hyu⟩
 |ptr i ver j o =>
  obtain⟨b,hb,hmp,hver,hk⟩:=zm hk;obtain⟨hj,hk⟩:=qc hk;have hj:=qU hj;obtain⟨cb,sh,arr,e,hok⟩:=hr.blk i b hb hmp (.inl (by omega));obtain⟨b',hb',_,_,hp⟩:=hx.ptr_inv;rw[hb] at hb';obtain rfl:=Option.some.inj hb';obtain⟨cb',sh',e1,rfl⟩:=hp hver;rw[hok.φ] at e1;obtain⟨rfl,rfl⟩:=Prod.mk.inj (Option.some.inj e1);obtain⟨y,hy,u,hu,hyu⟩:=jf hk ((hok.cellsAt hj).drop o);exact⟨y,hy,u,by simp[Instr.loadAt,Instr.sureAddr,hu],hyu⟩
 |_=>simp[Yb] at hk
theorem qu{w:World}{b:Nat}{o:Obj}(hb:w.heap[b]?=some o):b<w.heap.size:=by
 rcases Nat.lt_or_ge b w.heap.size with h|h
 ·exact h
 ·simp[Array.getElem?_eq_none h] at hb
theorem HR.change(hr:HR g h w){i:Nat}{b:Blk}(hb:h[i]?=some b){w':World}{cb sh:Nat}{arr:Array Value}{e:TypeId}{b':Blk}
 (hsize:w.heap.size<=w'.heap.size) (hheap:∀k,k<w.heap.size->k≠cb->w'.heap[k]?=w.heap[k]?) (hcb:w'.heap[cb]?=some (.cells arr e (0,0)))
 (hplace:g.own cb=some (.inl i)∨w.heap.size<=cb) (hrm:∀n,room w cb n->n<=arr.size) (hver:b.ver<=b'.ver)
 (hsame:b'.ver=b.ver->b'.sz=b.sz/\b'.n=b.n/\g.φ i=some (cb,sh)) (hroom:sh+b'.n*b'.sz<=arr.size) (hlen:∀j,j<b'.n->(b'.get j).length=b'.sz)
 (hcell:∀j o c,j<b'.n->(b'.get j)[o]?=some c->∃v,arr[sh+j*b'.sz+o]?=some v/\v.oneCell'=true/\g.VR h w c v)
 (hflat:b'.flat=true->∀j,j<b'.n->∀c,c∈b'.get j->qw c=true)
 (hos:w'.os=w.os) (htape:w'.tape=w.tape) (hout:OutOk w' w) (hmp:b'.mp=none:=by first|rfl|assumption) :
 ∃g',g'.φ i=some (cb,sh)/\(∀k,k≠i->g'.φ k=g.φ k)/\g'.U=g.U/\HR g' (h.set i b') w'/\zx g h w g' (h.set i b') w'/\FrO g w g' w':=by
 have hil:i<h.length:=by
  rcases Nat.lt_or_ge i h.length with hh|hh
  ·exact hh
  ·simp[List.getElem?_eq_none hh] at hb
 have hcbl:cb<w'.heap.size:=qu hcb
 let g':Gh:={ g with φ:=fun k=>if k=i then some (cb,sh) else g.φ k,own:=fun k=>if k=cb then some (.inl i) else g.own k }
 have hU:KeepU w g.U w' g.U:=by
  intro k hk;obtain⟨h1,h2⟩:=hr.u k hk;refine⟨hk,hheap k h1 ?_⟩;rintro rfl;rcases hplace with hp|hp
  ·rw[h2] at hp;cases hp
  ·omega
 have hroom':∀k n,room w k n->room w' k n:=by
  intro k n hkn;by_cases hk:k=cb
  ·subst hk;exact⟨arr,e,hcb,hrm n hkn⟩
  ·obtain⟨a',e',h1,h2⟩:=hkn;exact⟨a',e',by rw[hheap k (qu h1) hk];exact h1,h2⟩
 have hkeep:zx g h w g' (h.set i b') w':=by
  refine⟨hU,fun k x hx=>?_,hroom'⟩;by_cases hk:k=i
  ·subst hk;rw[hb] at hx;obtain rfl:=Option.some.inj hx;refine⟨b',by simp[hil],hver,fun ev=>?_⟩;obtain⟨a1,a2,a3⟩:=hsame ev;exact⟨a1,a2,by simp[g',a3]⟩
  ·exact⟨x,by rw[List.getElem?_set_ne (fun e=>hk e.symm)];exact hx,Nat.le_refl _,fun _=>⟨rfl,rfl,by simp[g',hk]⟩⟩
 refine⟨g',by simp[g'],fun k hk=>by simp[g',hk],rfl,?_,hkeep,?_⟩
 ·refine⟨fun k x hx hmx=>?_,fun k hk=>?_,fun k o ho=>?_,Nat.le_trans hr.base hsize,fun k o ho=>?_,fun k j ho=>?_,fun k x m hx hmx=>?_⟩
  ·by_cases hk:k=i
   ·subst hk;simp only[List.getElem?_set_self hil,Option.some.injEq] at hx;subst hx;refine .inl ⟨cb,sh,arr,e,by simp[g'],by simp[g'],hcb,hroom,hlen,fun j o c hj hc=>?_,hflat⟩;obtain⟨v,h1,h2,h3⟩:=hcell j o c hj hc;exact⟨v,h1,h2,h3.keep hkeep⟩
   ·rw[List.getElem?_set_ne (fun e=>hk e.symm)] at hx;rcases hr.blk0 k x hx hmx with⟨cb2,sh2,arr2,e2,hok⟩|⟨q1,q2⟩
    rotate_left
    ·exact .inr ⟨by simp[g',hk,q1],q2⟩
    refine .inl ?_;have hne:cb2≠cb:=by
     rintro rfl;rcases hplace with hp|hp
     ·rw[hok.own] at hp;exact hk (by simpa using hp)
     ·have:=qu hok.heap;omega
    refine⟨cb2,sh2,arr2,e2,by simp[g',hk,hok.φ],by simp[g',hne,hok.own],by rw[hheap cb2 (qu hok.heap) hne];exact hok.heap,hok.room,hok.len,fun j o c hj hc=>?_,hok.flat⟩;obtain⟨v,h1,h2,h3⟩:=hok.cell j o c hj hc;exact⟨v,h1,h2,h3.keep hkeep⟩
  ·obtain⟨h1,h2⟩:=hr.u k hk;refine⟨by omega,?_⟩;have hne:k≠cb:=by
    rintro rfl;rcases hplace with hp|hp
    ·rw[h2] at hp;cases hp
    ·omega
   simp[g',hne,h2]
  ·by_cases hk:k=cb
   ·subst hk;refine⟨?_,hcbl⟩;rcases hplace with hp|hp
    ·exact(hr.own k _ hp).1
    ·exact Nat.le_trans hr.base hp
   ·simp only[g',hk,if_false] at ho;exact⟨(hr.own k o ho).1,by have:=(hr.own k o ho).2;omega⟩
  ·by_cases hk:k=cb
   ·subst hk;exact .inl ⟨arr,e,hcb⟩
   ·simp only[g',hk,if_false] at ho;rcases hr.cells k o ho with⟨a2,e2,h2⟩|⟨i2,es,c,h1,h2⟩
    ·exact .inl ⟨a2,e2,by rw[hheap k (qu h2) hk];exact h2⟩
    ·exact .inr ⟨i2,es,c,h1,by rw[hheap k (qu h2) hk];exact h2⟩
  ·rw[List.length_set];by_cases hk:k=cb
   ·subst hk;simp only[g',if_true,Option.some.injEq,Sum.inl.injEq] at ho;omega
   ·simp only[g',hk,if_false] at ho;exact hr.lt k j ho
  ·by_cases hk:k=i
   ·subst hk;simp only[List.getElem?_set_self hil,Option.some.injEq] at hx;subst hx;rw[hmp] at hmx;cases hmx
   ·rw[List.getElem?_set_ne (fun e=>hk e.symm)] at hx;obtain⟨cb2,o1,o2,o3⟩:=hr.mp k x m hx hmx;have hne:cb2≠cb:=by
     rintro rfl;rcases hplace with hp|hp
     ·rw[o2] at hp;exact hk (by simpa using hp)
     ·have:=(hr.own _ _ o2).2;omega
    exact⟨cb2,by simp[g',hk,o1],by simp[g',hne,o2],o3.of_heap (hheap cb2 (hr.own _ _ o2).2 hne)⟩
 ·refine⟨hsize,fun k hk=>?_,hos,htape,hout,fun k hk hni=>?_,rfl,fun _ hk=>.inl hk,fun k hk t=>?_⟩
  ·by_cases hkc:k=cb
   ·subst hkc;rcases hplace with hp|hp
    ·simp[g',hp]
    ·omega
   ·simp[g',hkc]
  ·refine hheap k hk ?_;rintro rfl;rcases hplace with hp|hp
   ·exact hni i hp
   ·omega
  ·by_cases hkc:k=cb
   ·simp[g',hkc]
   ·simp only[g',hkc,if_false];intro ho;have:=(hr.own k _ ho).2;omega
theorem HR.alloc(hr:HR g h w){w':World}{cb sh:Nat}{arr:Array Value}{e:TypeId}{b':Blk}
 (hsize:w.heap.size<=w'.heap.size) (hheap:∀k,k<w.heap.size->w'.heap[k]?=w.heap[k]?) (hcb:w'.heap[cb]?=some (.cells arr e (0,0)))
 (hplace:w.heap.size<=cb) (hroom:sh+b'.n*b'.sz<=arr.size) (hlen:∀j,j<b'.n->(b'.get j).length=b'.sz)
 (hcell:∀j o c,j<b'.n->(b'.get j)[o]?=some c->∃v,arr[sh+j*b'.sz+o]?=some v/\v.oneCell'=true/\g.VR h w c v)
 (hflat:b'.flat=true->∀j,j<b'.n->∀c,c∈b'.get j->qw c=true)
 (hos:w'.os=w.os) (htape:w'.tape=w.tape) (hout:OutOk w' w) (hmp:b'.mp=none:=by first|rfl|assumption) :
 ∃g',g'.φ h.length=some (cb,sh)/\g'.U=g.U/\HR g' (h++[b']) w'/\zx g h w g' (h++[b']) w'/\FrO g w g' w':=by
 have hcbl:cb<w'.heap.size:=qu hcb
 let g':Gh:={ g with φ:=fun k=>if k=h.length then some (cb,sh) else g.φ k,own:=fun k=>if k=cb then some (.inl h.length) else g.own k }
 have hU:KeepU w g.U w' g.U:=fun k hk=>⟨hk,hheap k (hr.u k hk).1⟩;have hkeep:zx g h w g' (h++[b']) w':=by
  refine⟨hU,fun k x hx=>?_,fun k n hkn=>?_⟩
  ·have hk:k<h.length:=by
    rcases Nat.lt_or_ge k h.length with hh|hh
    ·exact hh
    ·simp[List.getElem?_eq_none hh] at hx
   exact⟨x,by rw[List.getElem?_append_left hk];exact hx,Nat.le_refl _,fun _=>⟨rfl,rfl,by simp[g',Nat.ne_of_lt hk]⟩⟩
  ·obtain⟨a',e',h1,h2⟩:=hkn;exact⟨a',e',by rw[hheap k (qu h1)];exact h1,h2⟩
 refine⟨g',by simp[g'],rfl,?_,hkeep,?_⟩
 ·refine⟨fun k x hx hmx=>?_,fun k hk=>?_,fun k o ho=>?_,Nat.le_trans hr.base hsize,fun k o ho=>?_,fun k j ho=>?_,fun k x m hx hmx=>?_⟩
  ·rcases Nat.lt_or_ge k h.length with hk|hk
   ·rw[List.getElem?_append_left hk] at hx;rcases hr.blk0 k x hx hmx with⟨cb2,sh2,arr2,e2,hok⟩|⟨q1,q2⟩
    rotate_left
    ·exact .inr ⟨by simp[g',Nat.ne_of_lt hk,q1],q2⟩
    refine .inl ?_;have hne:cb2≠cb:=by have:=qu hok.heap;omega
    refine⟨cb2,sh2,arr2,e2,by simp[g',Nat.ne_of_lt hk,hok.φ],by simp[g',hne,hok.own],by rw[hheap cb2 (qu hok.heap)];exact hok.heap,hok.room,hok.len,fun j o c hj hc=>?_,hok.flat⟩;obtain⟨v,h1,h2,h3⟩:=hok.cell j o c hj hc;exact⟨v,h1,h2,h3.keep hkeep⟩
   ·have hk':k=h.length:=by
     rcases Nat.lt_or_ge h.length k with h'|h'
     ·rw[List.getElem?_eq_none (by simp;omega)] at hx;simp at hx
     ·omega
    subst hk';simp only[List.getElem?_append_right (Nat.le_refl _),Nat.sub_self,List.getElem?_cons_zero,Option.some.injEq] at hx;subst hx;refine .inl ⟨cb,sh,arr,e,by simp[g'],by simp[g'],hcb,hroom,hlen,fun j o c hj hc=>?_,hflat⟩;obtain⟨v,h1,h2,h3⟩:=hcell j o c hj hc;exact⟨v,h1,h2,h3.keep hkeep⟩
  ·obtain⟨h1,h2⟩:=hr.u k hk;have hne:k≠cb:=by omega
   exact⟨by omega,by simp[g',hne,h2]⟩
  ·by_cases hk:k=cb
   ·subst hk;exact⟨Nat.le_trans hr.base hplace,hcbl⟩
   ·simp only[g',hk,if_false] at ho;exact⟨(hr.own k o ho).1,by have:=(hr.own k o ho).2;omega⟩
  ·by_cases hk:k=cb
   ·subst hk;exact .inl ⟨arr,e,hcb⟩
   ·simp only[g',hk,if_false] at ho;rcases hr.cells k o ho with⟨a2,e2,h2⟩|⟨i2,es,c,h1,h2⟩
    ·exact .inl ⟨a2,e2,by rw[hheap k (qu h2)];exact h2⟩
    ·exact .inr ⟨i2,es,c,h1,by rw[hheap k (qu h2)];exact h2⟩
  ·rw[List.length_append,List.length_singleton];by_cases hk:k=cb
   ·subst hk;simp only[g',if_true,Option.some.injEq,Sum.inl.injEq] at ho;omega
   ·simp only[g',hk,if_false] at ho;have:=hr.lt k j ho;omega
  ·rcases Nat.lt_or_ge k h.length with hk|hk
   ·rw[List.getElem?_append_left hk] at hx;obtain⟨cb2,o1,o2,o3⟩:=hr.mp k x m hx hmx;have hne:cb2≠cb:=by have:=(hr.own _ _ o2).2;omega
    exact⟨cb2,by simp[g',Nat.ne_of_lt hk,o1],by simp[g',hne,o2],o3.of_heap (hheap cb2 (hr.own _ _ o2).2)⟩
   ·have hk':k=h.length:=by
     rcases Nat.lt_or_ge h.length k with h'|h'
     ·rw[List.getElem?_eq_none (by simp;omega)] at hx;simp at hx
     ·omega
    subst hk';simp only[List.getElem?_append_right (Nat.le_refl _),Nat.sub_self,List.getElem?_cons_zero,Option.some.injEq] at hx;subst hx;rw[hmp] at hmx;cases hmx
 ·refine⟨hsize,fun k hk=>?_,hos,htape,hout,fun k hk _=>hheap k hk,rfl,fun _ hk=>.inl hk,fun k hk t=>?_⟩
  ·have hne:k≠cb:=by omega
   simp[g',hne]
  ·by_cases hkc:k=cb
   ·simp[g',hkc]
   ·simp only[g',hkc,if_false];intro ho;have:=(hr.own k _ ho).2;omega
end
section
variable {P:Program} {R:Type} {g:Gh} {h:qa} {w:World}
theorem Yk{t:TypeId}(hk:QP P t=true):∃i,P.info? t=some i:=by
 unfold QP at hk;cases hi:P.info? t with
 |none=>simp[hi] at hk
 |some i=>exact⟨i,rfl⟩
theorem qR{t:TypeId}(hk:QP P t=true):(sizeOf t).run P w = .ok (qz P t) w:=by
 obtain⟨i,hi⟩:=Yk hk;exact Y8 hi
theorem qcq(v:Value):(Ya v).cells=[Ya v]:=by unfold Ya;split<;>rfl
theorem zH{t:TypeId}(hz:ZD P t=true):∃z:Value,(zeroValue t).run P w = .ok z w/\QP P t=true/\(qS P t).length=z.cells.size/\z.cells.size=qz P t ∧
 (∀(i:Nat) (u:Value),z.cells[i]?=some u->u.oneCell'=true)/\∀(i:Nat) (c:T),(qS P t)[i]?=some c->∃u,z.cells[i]?=some u/\g.VR h w c u:=by
 unfold ZD at hz;cases hi:P.info? t with
 |none=>simp[hi] at hz
 |some i =>
  rw[hi] at hz;dsimp only at hz;cases hzv:i.zero with
  |none=>simp[hzv] at hz
  |some z =>
   rw[hzv] at hz;simp only[Bool.and_eq_true,beq_iff_eq] at hz;obtain⟨⟨h1,h2⟩,h3⟩:=hz;have e:qS P t=(YF z).cells:=by simp[qS,hi,hzv]
   have hs:qz P t=i.size:=by simp[qz,hi]
   refine⟨z,by simp[zeroValue,typeInfo,hi,hzv],by simp[QP,hi],?_⟩;rw[e,hs];have hrel:g.VR h w (YF z) z:=.imm _ _ (qby z h2)
   have qfc:∀v:Value,YF v=Ya v->v.cells = #[v]->v.oneCell'=true->(YF v).cells.length=v.cells.size/\v.cells.size=v.cells.size/\(∀(i:Nat) (u:Value),v.cells[i]?=some u->u.oneCell'=true) ∧
    ∀(i:Nat) (c:T),(YF v).cells[i]?=some c->∃u,v.cells[i]?=some u/\g.VR h w c u:=by
    intro v e1 e2 h1;rw[e1,qcq,e2];refine⟨rfl,rfl,fun j u hu=>?_,fun j c hc=>?_⟩
    ·cases j with
     |zero=>simp at hu;subst hu;exact h1
     |succ j=>simp at hu
    ·cases j with
     |zero=>simp at hc;subst hc;exact⟨v,rfl,.imm _ _ (Yj v)⟩
     |succ j=>simp at hc
   rw[←h1];cases z with
   |agg cs =>
    obtain⟨a1,a2,a3⟩:=hrel.cells_rel rfl;exact⟨a1,rfl,a2,a3⟩
   |tuple cs=>simp at h3
   |_=>exact qfc _ rfl rfl rfl
theorem QJ(w:World)(o:Obj):(w.alloc o).heap[w.heap.size]?=some o:=by
 show(w.heap.push o)[w.heap.size]?=some o;simp
theorem Z8(h:qa)(b:Blk):(h++[b])[h.length]?=some b:=by simp
theorem Y9{cells:List T}{k:qO R}{r:R}{vs:Array Value}{e:TypeId}(hk:KW cells h k=some r)(hr:HR g h w)(hl:cells.length=vs.size)
 (h1:∀(i:Nat) (u:Value),vs[i]?=some u->u.oneCell'=true) (hc:∀(i:Nat) (c:T),cells[i]?=some c->∃u,vs[i]?=some u/\g.VR h w c u) :
 ∃y h',k y h' true=some r/\Res g h w y h' (.pointer (some ⟨w.heap.size,0,none⟩)) (w.alloc (.cells vs e)):=by
 refine⟨_,_,hk,?_⟩;obtain⟨g',e1,_,hr',hkeep,hfr⟩:=hr.alloc (w':=w.alloc (.cells vs e)) (cb:=w.heap.size) (sh:=0) (arr:=vs) (e:=e) (b':=⟨0,cells.length,1,fun _=>cells,cells.all qw,false,none⟩)
  (by simp) (fun k hk=>RowKit.Below.heap_alloc _ _ _ hk) (QJ w _) (Nat.le_refl _) (by simp[hl]) (fun _ _=>rfl)
  (fun j o c hj ho=>by
   obtain⟨u,hu,hur⟩:=hc o c ho;have:j=0:=by simpa using hj
   subst this;exact⟨u,by simpa using hu,h1 o u hu,hur⟩)
  (fun hf j _ c hcm=>by simpa using (List.all_eq_true.1 hf) c hcm) rfl rfl ⟨rfl,Nat.le_refl _⟩
 refine⟨g',hr',.ptr _ _ _ _ _ _ (Z8 h _) (Nat.le_refl _) rfl fun _=>⟨_,_,e1,?_⟩,hkeep,hfr⟩;simp
theorem qfi{a b:T}(h:qd0 a b=true):a=b:=by
 unfold qd0 at h;split at h
 ·simp at h;rw[h]
 ·simp at h;rw[h.1,h.2]
 ·rfl
 ·rfl
 ·rfl
 ·rfl
 ·cases h
theorem qbz:∀{l m:List T},jM l m=true->l=m
 |[],[],_=>rfl
 |a::l,b::m,h=>by
  simp only[jM,Bool.and_eq_true] at h;rw[qfi h.1,qbz h.2]
 |[],_::_,h=>by simp[jM] at h
 |_::_,[],h=>by simp[jM] at h
theorem qfN{z:List T}:∀{n j o:Nat},j<n->o<z.length->((List.replicate n z).flatten)[j*z.length+o]?=z[o]?:=by
 intro n
 induction n with
 |zero=>intro j o h;omega
 |succ n ih =>
  intro j o hj ho;rw[List.replicate_succ,List.flatten_cons];cases j with
  |zero=>rw[Nat.zero_mul,Nat.zero_add,List.getElem?_append_left ho]
  |succ j =>
   rw[Nat.succ_mul,List.getElem?_append_right (by omega),show j*z.length+z.length+o-z.length=j*z.length+o by omega];exact ih (by omega) ho
theorem qdh{P:Program}{ty:TypeId}{n sz:Nat}{z:List T}(h:qd1 P ty=some (n,sz,z)):z.length=sz/\qS P ty=(List.replicate n z).flatten:=by
 unfold qd1 at h;split at h
 ·rename_i n' e _;obtain⟨hc,h⟩:=qc h;simp only[Bool.and_eq_true,beq_iff_eq] at hc;simp only[Option.some.injEq,Prod.mk.injEq] at h;obtain⟨rfl,rfl,rfl⟩:=h;exact⟨hc.1.2,qbz hc.2⟩
 ·cases h
theorem JK{P:Program}{ty:TypeId}{k:qO R}{r:R}{vs:Array Value}{e:TypeId}(hk:ZS P ty h k=some r)(hr:HR g h w)(hl:(qS P ty).length=vs.size)
 (h1:∀(i:Nat) (u:Value),vs[i]?=some u->u.oneCell'=true) (hc:∀(i:Nat) (c:T),(qS P ty)[i]?=some c->∃u,vs[i]?=some u/\g.VR h w c u) :
 ∃y h',k y h' true=some r/\Res g h w y h' (.pointer (some ⟨w.heap.size,0,none⟩)) (w.alloc (.cells vs e)):=by
 unfold ZS at hk;split at hk
 ·rename_i n sz z ha;obtain⟨hz,hf⟩:=qdh ha;subst hz;refine⟨_,_,hk,?_⟩;have hsz:n*z.length=vs.size:=by rw[←hl,hf];simp
  obtain⟨g',e1,_,hr',hkeep,hfr⟩:=hr.alloc (w':=w.alloc (.cells vs e)) (cb:=w.heap.size) (sh:=0) (arr:=vs) (e:=e) (b':=⟨0,z.length,n,fun _=>z,z.all qw,false,none⟩)
   (by simp) (fun k hk=>RowKit.Below.heap_alloc _ _ _ hk) (QJ w _) (Nat.le_refl _) (by simp[hsz]) (fun _ _=>rfl)
   (fun j o c hj ho=>by
    have hlt:o<z.length:=by
     rcases Nat.lt_or_ge o z.length with q|q
     ·exact q
     ·simp[List.getElem?_eq_none q] at ho
    obtain⟨u,hu,hur⟩:=hc (j*z.length+o) c (by rw[hf,qfN hj hlt];exact ho);exact⟨u,by simpa using hu,h1 _ u hu,hur⟩)
   (fun hf j _ c hcm=>by simpa using (List.all_eq_true.1 hf) c hcm) rfl rfl ⟨rfl,Nat.le_refl _⟩
  refine⟨g',hr',.ptr _ _ _ _ _ _ (Z8 h _) (Nat.le_refl _) rfl fun _=>⟨_,_,e1,?_⟩,hkeep,hfr⟩;simp
 ·exact Y9 hk hr hl h1 hc
theorem Kx(cells new:List T)(o i:Nat)(ho:o+new.length<=cells.length) :
 (ZE cells o new)[i]?=if o<=i/\i<o+new.length then new[i-o]? else cells[i]?:=by
 unfold ZE;have hl:(cells.take o).length=o:=by simp;omega
 by_cases h1:i<o
 ·rw[List.append_assoc,List.getElem?_append_left (by omega),List.getElem?_take,if_pos h1,if_neg (by omega)]
 ·by_cases h2:i<o+new.length
  ·rw[List.append_assoc,List.getElem?_append_right (by omega),hl,List.getElem?_append_left (by omega),if_pos ⟨by omega,h2⟩]
  ·rw[List.getElem?_append_right (by simp;omega),if_neg (by omega),List.getElem?_drop];congr 1;simp only[List.length_append,hl];omega
theorem yF(cells new:List T)(o:Nat)(ho:o+new.length<=cells.length):(ZE cells o new).length=cells.length:=by
 unfold ZE;simp;omega
theorem ZV(w:World)(b:Nat)(cur arr:Array Value)(e:TypeId)(hb:w.heap[b]?=some (.cells cur e (0,0))):(w.setRow b arr).heap[b]?=some (.cells arr e (0,0)):=setRow_heap w b cur arr e _ hb
theorem JW(cur:Array Value)(vs:List Value)(p i:Nat)(hp:p+vs.length<=cur.size) :
 (cur.toList.take p++vs++cur.toList.drop (p+vs.length)).toArray[i]?=if p<=i/\i<p+vs.length then vs[i-p]? else cur[i]?:=by
 have hl:(cur.toList.take p).length=p:=by simp;omega
 simp only[List.getElem?_toArray];by_cases h1:i<p
 ·rw[List.append_assoc,List.getElem?_append_left (by omega),List.getElem?_take,if_pos h1,if_neg (by omega)];simp
 ·by_cases h2:i<p+vs.length
  ·rw[List.append_assoc,List.getElem?_append_right (by omega),hl,List.getElem?_append_left (by omega),if_pos ⟨by omega,h2⟩]
  ·rw[List.getElem?_append_right (by simp;omega),if_neg (by omega),List.getElem?_drop];simp only[List.length_append,hl,Array.getElem?_toList];congr 1;omega
theorem zz(cur:Array Value)(vs:List Value)(p:Nat)(hp:p+vs.length<=cur.size):(cur.toList.take p++vs++cur.toList.drop (p+vs.length)).toArray.size=cur.size:=by
 simp;omega
theorem jg{t:TypeId}{v:Value}{b off:Nat}{cur:Array Value}{e:TypeId}(hk:QP P t=true)(hs:v.cells.size=qz P t)(hb:w.heap[b]?=some (.cells cur e (0,0)))
 (hl:off+v.cells.size<=cur.size) (h1:∀(i:Nat) (u:Value),v.cells[i]?=some u->u.oneCell'=true) :
 (storeVar t ⟨b,off,none⟩ v).run P w = .ok () (w.setRow b (cur.toList.take off++v.cells.toList++cur.toList.drop (off+v.cells.toList.length)).toArray):=by
 unfold storeVar;have:=run_storeCells_at P b off e v.cells.toList 0 cur w hb (by simpa using hl) (fun u hu=>by
  obtain⟨i,hi⟩:=List.mem_iff_getElem?.1 hu;exact h1 i u (by simpa using hi))
 simp only[Nat.add_zero] at this;simp[qR hk,hs,this]
theorem qao{t:TypeId}{a v:T}{k:qO R}{r:R}{ca cv:Value}(hk:YO P t a v h k=some r)(hr:HR g h w)(ha:g.VR h w a ca)(hv:g.VR h w v cv) :
 ∃h',k .undef h' true=some r/\∃w',(Instr.storeAt t ca cv).run P w = .ok () w'/\Res g h w .undef h' undef w':=by
 cases a with
 |ptr i ver j o =>
  obtain⟨b,hb,hmp,hver,hk⟩:=zm hk;obtain⟨hc,hk⟩:=qc hk;simp only[Bool.and_eq_true,beq_iff_eq] at hc;obtain⟨⟨⟨⟨hkn,hj⟩,hsz⟩,hok⟩,hle⟩:=hc;have hj:=qU hj;have hle:=qT hle;obtain⟨cb,sh,arr,e,hbk⟩:=hr.blk i b hb hmp (.inl (by omega));rw[qhn (hbk.len j hj)] at hk;rw[←hbk.len j hj] at hle;refine⟨_,hk,?_⟩;obtain⟨b',hb',_,_,hp⟩:=ha.ptr_inv;rw[hb] at hb';obtain rfl:=Option.some.inj hb';obtain⟨cb',sh',e1,rfl⟩:=hp hver;rw[hbk.φ] at e1;obtain⟨rfl,rfl⟩:=Prod.mk.inj (Option.some.inj e1);obtain⟨c1,c2,c3⟩:=hv.cells_rel hok;have hlen:=hbk.len j hj;have hbound:(j+1)*b.sz<=b.n*b.sz:=Nat.mul_le_mul_right _ hj;rw[Nat.add_mul,Nat.one_mul] at hbound;have hroom:=hbk.room;have hfit:sh+j*b.sz+o+cv.cells.size<=arr.size:=by rw[←c1,hsz];omega
  have hrun:=jg (P:=P) (w:=w) (v:=cv) hkn (by rw[←c1,hsz]) hbk.heap hfit c2;refine⟨_,by simp[Instr.storeAt,Instr.sureAddr];exact hrun,?_⟩;have hfit':sh+j*b.sz+o+cv.cells.toList.length<=arr.size:=by simpa using hfit
  have hws:=zz arr cv.cells.toList (sh+j*b.sz+o) hfit';obtain⟨g',e1,e2,_,hr',hkeep,hfr⟩:=hr.change hb (w':=w.setRow cb _) (cb:=cb) (sh:=sh) (e:=e) (b':=b.upd j (ZE (b.get j) o v.cells)) (by simp[World.setRow]) (fun k _ hne=>setRow_other w cb k _ hne)
   (ZV w cb arr _ e hbk.heap) (.inl hbk.own) (fun n hn=>by
    obtain⟨a',e',q1,q2⟩:=hn;rw[hbk.heap] at q1;simp only[Option.some.injEq,Obj.cells.injEq] at q1;rw[hws,q1.1];exact q2) (Nat.le_refl _) (fun _=>⟨rfl,rfl,hbk.φ⟩) (by rw[hws];exact hroom)
   (fun j' hj'=>by
    simp only[Blk.upd,kF];by_cases hjj:j'=j
    ·subst hjj;simp only[beq_self_eq_true,cond_true];rw[yF _ _ _ (by rw[hsz];omega)];exact hlen
    ·simp only[hjj,beq_iff_eq,Bool.cond_eq_ite,if_false];exact hbk.len j' hj')
   (fun j' o' c hj' hc=>by
    simp only[Blk.upd,kF] at hc ⊢;rw[JW arr _ _ _ hfit'];by_cases hjj:j'=j
    ·subst hjj;simp only[beq_self_eq_true,cond_true] at hc;rw[Kx _ _ _ _ (by rw[hsz];omega)] at hc;by_cases hin:o<=o'/\o'<o+v.cells.length
     ·rw[if_pos hin] at hc;obtain⟨u,hu,hur⟩:=c3 _ c hc;refine⟨u,?_,c2 _ _ hu,hur⟩;rw[if_pos ⟨by omega,by simp only[Array.length_toList,←c1];omega⟩];rw[show sh+j'*b.sz+o'-(sh+j'*b.sz+o)=o'-o by omega];simpa using hu
     ·rw[if_neg hin] at hc;rw[if_neg (by simp only[Array.length_toList,←c1];omega)];exact hbk.cell j' o' c hj' hc
    ·simp only[hjj,beq_iff_eq,Bool.cond_eq_ite,if_false] at hc;have ho':o'<b.sz:=by
      have:=hbk.len j' hj';rcases Nat.lt_or_ge o' (b.get j').length with hq|hq
      ·omega
      ·simp[List.getElem?_eq_none hq] at hc
     rw[if_neg ?_]
     ·exact hbk.cell j' o' c hj' hc
     ·simp only[Array.length_toList,←c1,hsz];rintro⟨q1,q2⟩;rcases Nat.lt_or_gt_of_ne hjj with hlt|hgt
      ·have:(j'+1)*b.sz<=j*b.sz:=Nat.mul_le_mul_right _ hlt;rw[Nat.add_mul,Nat.one_mul] at this;omega
      ·have:(j+1)*b.sz<=j'*b.sz:=Nat.mul_le_mul_right _ hgt;rw[Nat.add_mul,Nat.one_mul] at this;omega)
   (fun hf j' hj' c hc=>by
    simp only[Blk.upd,kF,Bool.and_eq_true] at hf hc;by_cases hjj:j'=j
    ·subst hjj;simp only[beq_self_eq_true,cond_true] at hc;exact(List.all_eq_true.1 hf.2) c hc
    ·simp only[hjj,beq_iff_eq,Bool.cond_eq_ite,if_false] at hc;exact hbk.flat hf.1 j' hj' c hc) rfl rfl ⟨rfl,Nat.le_refl _⟩
  exact⟨g',hr',.imm _ _ (.undef _),hkeep,hfr⟩
 |_=>simp[YO] at hk
theorem qap(cs:Array Value)(off:Nat)(vs:Array Value)(hfit:off+vs.size<=cs.size) :
 (vs.zipIdx.foldl (fun cs (p:Value×Nat)=>cs.setIfInBounds (off+p.2) p.1) cs).size=cs.size ∧
 ∀i,(vs.zipIdx.foldl (fun cs (p:Value×Nat)=>cs.setIfInBounds (off+p.2) p.1) cs)[i]?=if off<=i/\i<off+vs.size then vs[i-off]? else cs[i]?:=by
 rw[←Array.foldl_toList,Array.toList_zipIdx]
 have key:∀(l:List Value) (s:Nat) (cs:Array Value),off+s+l.length<=cs.size →
  ((l.zipIdx s).foldl (fun cs (p:Value×Nat)=>cs.setIfInBounds (off+p.2) p.1) cs).size=cs.size ∧
  ∀i,((l.zipIdx s).foldl (fun cs (p:Value×Nat)=>cs.setIfInBounds (off+p.2) p.1) cs)[i]?=if off+s<=i/\i<off+s+l.length then l[i-(off+s)]? else cs[i]?:=by
  intro l
  induction l with
  |nil=>intro s cs _;exact⟨rfl,fun i=>by simp;intro h1 h2;omega⟩
  |cons v l ih =>
   intro s cs hl;simp only[List.length_cons] at hl;simp only[List.zipIdx_cons,List.foldl_cons];obtain⟨e1,e2⟩:=ih (s+1) (cs.setIfInBounds (off+s) v) (by simp;omega);refine⟨by rw[e1];simp,fun i=>?_⟩;rw[e2];simp only[List.length_cons];by_cases h1:i=off+s
   ·subst h1;rw[if_neg (by omega),if_pos (by omega),Array.getElem?_setIfInBounds,if_pos rfl,if_pos (by omega)];simp
   ·by_cases h2:off+(s+1)<=i/\i<off+(s+1)+l.length
    ·rw[if_pos h2,if_pos (by omega)];rw[show i-(off+s)=(i-(off+(s+1)))+1 by omega];simp
    ·rw[if_neg h2,if_neg (by omega)];simp[Ne.symm h1]
 have:=key vs.toList 0 cs (by simpa using hfit);simpa using this
theorem yG{pl:Nat->Option (Nat×Nat)}:∀(parts:List (Nat×T)) (cparts:List (Nat×Value)) (cells:List T) (cs:Array Value) (k:List T->Option R) (r:R),
 yn pl cells parts k=some r->parts.length=cparts.length->(∀(n:Nat) (p:Nat×T),parts[n]?=some p->∃q:Nat×Value,cparts[n]?=some q/\q.1=p.1/\g.VR h w p.2 q.2) →
 cells.length=cs.size->(∀(i:Nat) (u:Value),cs[i]?=some u->u.oneCell'=true)->(∀(i:Nat) (c:T),cells[i]?=some c->∃u,cs[i]?=some u/\g.VR h w c u) →
 ∃l cs',k l=some r/\Instr.fill pl cs cparts=some cs'/\l.length=cs'.size/\(∀(i:Nat) (u:Value),cs'[i]?=some u->u.oneCell'=true)/\∀(i:Nat) (c:T),l[i]?=some c->∃u,cs'[i]?=some u/\g.VR h w c u
 |[],cparts,cells,cs,k,r,hk,hl,_,h1,h2,h3=>by
  cases cparts with
  |nil=>exact⟨cells,cs,hk,rfl,h1,h2,h3⟩
  |cons q l=>simp at hl
 |(i,v)::parts,cparts,cells,cs,k,r,hk,hl,hp,h1,h2,h3=>by
  cases cparts with
  |nil=>simp at hl
  |cons q cparts =>
   obtain⟨q',hq',hqi,hqr⟩:=hp 0 (i,v) rfl;simp only[List.getElem?_cons_zero,Option.some.injEq] at hq';subst hq';obtain⟨qi,cv⟩:=q;dsimp only at hqi hqr;subst hqi;simp only[yn] at hk;cases hpl:pl qi with
   |none=>simp[hpl] at hk
   |some os =>
    obtain⟨off,size⟩:=os;rw[hpl] at hk;obtain⟨hc,hk⟩:=qc hk;simp only[Bool.and_eq_true,beq_iff_eq] at hc;obtain⟨⟨hsz,hok⟩,hle⟩:=hc;have hle:=qT hle;obtain⟨c1,c2,c3⟩:=hqr.cells_rel hok;obtain⟨f1,f2⟩:=qap cs off cv.cells (by rw[←c1,hsz,←h1];exact hle);obtain⟨l,cs',a1,a2,a3⟩:=yG parts cparts (ZE cells off v.cells) _ k r hk (by simpa using hl) (fun n p hn=>hp (n+1) p hn)
     (by rw[yF _ _ _ (by rw[hsz];exact hle),f1,h1])
     (fun n u hn=>by
      rw[f2] at hn;split at hn
      ·exact c2 _ u hn
      ·exact h2 _ u hn)
     (fun n c hn=>by
      rw[Kx _ _ _ _ (by rw[hsz];exact hle)] at hn;rw[f2];by_cases hin:off<=n/\n<off+v.cells.length
      ·rw[if_pos hin] at hn;rw[if_pos (by rw[←c1];exact hin)];exact c3 _ c hn
      ·rw[if_neg hin] at hn;rw[if_neg (by rw[←c1];exact hin)];exact h3 _ c hn)
    refine⟨l,cs',a1,?_,a3⟩;simp only[Instr.fill,hpl];rw[if_neg (by simp only[Bool.or_eq_true,decide_eq_true_eq,not_or];rw[←c1,hsz,←h1];exact⟨by simp,by omega⟩)];exact a2
end
section
variable {P:Program} {R:Type} {g:Gh} {h:qa} {w:World}
theorem Kg{α β:Type}(f:α->Sem β)(f':α->β):∀(l:List α),(∀x∈l,(f x).run P w = .ok (f' x) w)->(l.mapM f).run P w = .ok (l.map f') w
 |[],_=>by simp
 |x::l,hx=>by
  have ih:=Kg f f' l (fun y hy=>hx y (by simp[hy]));simp[List.mapM_cons,hx x (by simp),ih]
theorem qaq{α β:Type}(f:α->Sem β)(f':α->β)(l:Array α)(hx:∀x∈l.toList,(f x).run P w = .ok (f' x) w):(l.mapM f).run P w = .ok (l.map f') w:=by
 rw[Array.mapM_eq_mapM_toList];simp only[Sem.run_map,Kg f f' l.toList hx,Result.andThen_ok];congr 1;apply Array.ext';simp
theorem qar{t:TypeId}{parts:List (Nat×T)}{cparts:Array (Nat×Value)}{k:qO R}{r:R}(hk:YP P t parts h k=some r)
 (hl:parts.length=cparts.size) (hp:∀(n:Nat) (p:Nat×T),parts[n]?=some p->∃q:Nat×Value,cparts.toList[n]?=some q/\q.1=p.1/\g.VR h w p.2 q.2) :
 ∃y,k y h false=some r/\∃v,(Instr.build t cparts).run P w = .ok v w/\g.VR h w y v:=by
 unfold YP at hk;cases hu:P.underlying t with
 |none=>simp[hu] at hk
 |some d =>
  rw[hu] at hk;cases d with
  |struct fs =>
   dsimp only at hk;obtain⟨hc,hk⟩:=qc hk;simp only[Bool.and_eq_true] at hc;obtain⟨z,hz,hkn,hz1,hz2,hz3,hz4⟩:=zH (P:=P) (g:=g) (h:=h) (w:=w) hc.1;obtain⟨l,cs',a1,a2,a3,a4,a5⟩:=yG parts cparts.toList _ z.cells _ r hk (by simpa using hl) hp hz1 hz3 hz4;refine⟨_,a1,.agg cs',?_,VR.mk_agg a3 a4 a5⟩;unfold Instr.build;have hm:=qaq (P:=P) (w:=w) (fun f:Field=>do pure (f.offset,←sizeOf f.type)) (fun f:Field=>(f.offset,qz P f.type)) fs (fun f hf=>by
    have:=(List.all_eq_true.1 hc.2) f hf;simp[qR this])
   have he:(fun i=>(fs.map (fun f:Field=>(f.offset,qz P f.type)))[i]?)=qb5 P fs:=by
    funext i;rw[Array.getElem?_map];unfold qb5;cases fs[i]?<;>rfl
   simp only[Sem.run_bind,hz,Result.andThen_ok,qe hu];simp only[hm,Result.andThen_ok];rw[he,a2];rfl
  |array n e =>
   dsimp only at hk;obtain⟨hc,hk⟩:=qc hk;simp only[Bool.and_eq_true] at hc;obtain⟨z,hz,hkn,hz1,hz2,hz3,hz4⟩:=zH (P:=P) (g:=g) (h:=h) (w:=w) hc.1;obtain⟨l,cs',a1,a2,a3,a4,a5⟩:=yG parts cparts.toList _ z.cells _ r hk (by simpa using hl) hp hz1 hz3 hz4;refine⟨_,a1,.agg cs',?_,VR.mk_agg a3 a4 a5⟩;unfold Instr.build;simp only[Sem.run_bind,hz,Result.andThen_ok,qe hu];simp only[qR hc.2,Result.andThen_ok];rw[show(fun i=>some (i*qz P e,qz P e))=qc0 (qz P e) from rfl,a2];rfl
  |_=>simp at hk
theorem Z9{α:Type}(f:Nat->α):(Array.range 0).map f = #[]:=by apply Array.ext';simp
theorem zM{zt:List T}{z:Array Value}{sz:Nat}(hz1:zt.length=z.size)(hz2:z.size=sz)(len:Nat)(j o:Nat)(c:T)(hj:j<len)(ho:zt[o]?=some c) :
 ((Array.range (len*sz)).map (z[·%z.size]!))[j*sz+o]?=z[o]?:=by
 have hoz:o<sz:=by
  rcases Nat.lt_or_ge o zt.length with h|h
  ·omega
  ·simp[List.getElem?_eq_none h] at ho
 have hlt:j*sz+o<len*sz:=by
  have:(j+1)*sz<=len*sz:=Nat.mul_le_mul_right _ hj;rw[Nat.add_mul,Nat.one_mul] at this;omega
 have hmod:(j*sz+o)%sz=o:=by rw[Nat.add_comm,Nat.add_mul_mod_self_right];exact Nat.mod_eq_of_lt hoz
 rw[Array.getElem?_map];simp only[Array.getElem?_range,hlt,if_true,Option.map_some,hz2,hmod];rw[Array.getElem!_eq_getD,Array.getD_eq_getD_getElem?,Array.getElem?_eq_getElem (by omega)];rfl
theorem ya{sz:Nat}:∀(parts:List (Nat×T)) (cparts:List (Nat×Value)) (elems:List (List T)) (cs:Array Value) (k:List (List T)->Option R) (r:R),
 Z0 sz elems parts k=some r->parts.length=cparts.length->(∀(n:Nat) (p:Nat×T),parts[n]?=some p->∃q:Nat×Value,cparts[n]?=some q/\q.1=p.1/\g.VR h w p.2 q.2) →
 elems.length*sz<=cs.size->(∀l∈elems,l.length=sz)->(∀(i:Nat) (u:Value),cs[i]?=some u->u.oneCell'=true) →
 (∀(j o:Nat) (l:List T) (c:T),elems[j]?=some l->l[o]?=some c->∃u,cs[j*sz+o]?=some u/\g.VR h w c u) →
 ∃es cs',k es=some r/\Instr.fill (fun i=>some (i*sz,sz)) cs cparts=some cs'/\es.length=elems.length/\cs'.size=cs.size/\(∀l∈es,l.length=sz)/\(∀(i:Nat) (u:Value),cs'[i]?=some u->u.oneCell'=true) ∧
  ∀(j o:Nat) (l:List T) (c:T),es[j]?=some l->l[o]?=some c->∃u,cs'[j*sz+o]?=some u/\g.VR h w c u
 |[],cparts,elems,cs,k,r,hk,hl,_,h0,h1,h2,h3=>by
  cases cparts with
  |nil=>exact⟨elems,cs,hk,rfl,rfl,rfl,h1,h2,h3⟩
  |cons q l=>simp at hl
 |(i,v)::parts,cparts,elems,cs,k,r,hk,hl,hp,h0,h1,h2,h3=>by
  cases cparts with
  |nil=>simp at hl
  |cons q cparts =>
   obtain⟨q',hq',hqi,hqr⟩:=hp 0 (i,v) rfl;simp only[List.getElem?_cons_zero,Option.some.injEq] at hq';subst hq';obtain⟨qi,cv⟩:=q;dsimp only at hqi hqr;subst hqi;simp only[Z0] at hk;obtain⟨hc,hk⟩:=qc hk;simp only[Bool.and_eq_true,beq_iff_eq] at hc;obtain⟨⟨hsz,hok⟩,hlt⟩:=hc;have hlt:=qU hlt;obtain⟨c1,c2,c3⟩:=hqr.cells_rel hok;have hfit:(qi+1)*sz<=elems.length*sz:=Nat.mul_le_mul_right _ hlt;rw[Nat.add_mul,Nat.one_mul] at hfit;obtain⟨f1,f2⟩:=qap cs (qi*sz) cv.cells (by rw[←c1,hsz];omega);obtain⟨es,cs',a1,a2,a3,a4,a5,a6,a7⟩:=ya parts cparts (elems.set qi v.cells) _ k r hk (by simpa using hl) (fun n p hn=>hp (n+1) p hn)
    (by rw[f1];simpa using h0)
    (fun l hl'=>by
     rcases List.mem_or_eq_of_mem_set hl' with hq|hq
     ·exact h1 l hq
     ·rw[hq];exact hsz)
    (fun n u hn=>by
     rw[f2] at hn;split at hn
     ·exact c2 _ u hn
     ·exact h2 _ u hn)
    (fun j o l c hj ho=>by
     rw[f2];by_cases hjq:j=qi
     ·subst hjq;simp only[List.getElem?_set_self hlt,Option.some.injEq] at hj;subst hj;have holt:o<v.cells.length:=by
       rcases Nat.lt_or_ge o v.cells.length with hq|hq
       ·exact hq
       ·simp[List.getElem?_eq_none hq] at ho
      rw[if_pos ⟨by omega,by rw[←c1];omega⟩,show j*sz+o-j*sz=o by omega];exact c3 o c ho
     ·rw[List.getElem?_set_ne (fun e=>hjq e.symm)] at hj;have holt:o<sz:=by
       have:=h1 l (List.mem_of_getElem? hj);rcases Nat.lt_or_ge o l.length with hq|hq
       ·omega
       ·simp[List.getElem?_eq_none hq] at ho
      rw[if_neg ?_]
      ·exact h3 j o l c hj ho
      ·rw[←c1,hsz];rintro⟨q1,q2⟩;rcases Nat.lt_or_gt_of_ne hjq with hlt'|hgt
       ·have:(j+1)*sz<=qi*sz:=Nat.mul_le_mul_right _ hlt';rw[Nat.add_mul,Nat.one_mul] at this;omega
       ·have:(qi+1)*sz<=j*sz:=Nat.mul_le_mul_right _ hgt;rw[Nat.add_mul,Nat.one_mul] at this;omega)
   refine⟨es,cs',a1,?_,by simpa using a3,by rw[a4,f1],a5,a6,a7⟩;simp only[Instr.fill];rw[if_neg (by simp only[Bool.or_eq_true,decide_eq_true_eq,not_or];rw[←c1,hsz];exact⟨by simp,by omega⟩)];exact a2
theorem qfj{es:List (List T)}(hf:(es.all (·.all qw))=true){l:List T}(hl:l∈es){c:T}(hc:c∈l):qw c=true :=
 (List.all_eq_true.1 ((List.all_eq_true.1 hf) l hl)) c hc
theorem kY{t:TypeId}{len:Nat}{parts:List (Nat×T)}{cparts:Array (Nat×Value)}{k:qO R}{r:R}(hk:Q4 P t len parts h k=some r)(hr:HR g h w)
 (hl:parts.length=cparts.size) (hp:∀(n:Nat) (p:Nat×T),parts[n]?=some p->∃q:Nat×Value,cparts.toList[n]?=some q/\q.1=p.1/\g.VR h w p.2 q.2) :
 ∃y h',k y h' true=some r/\∃v w',(Instr.buildSlice t len cparts).run P w = .ok v w'/\Res g h w y h' v w':=by
 unfold Q4 qD at hk;cases hu:P.underlying t with
 |none=>simp[hu] at hk
 |some d =>
  rw[hu] at hk;cases d with
  |slice e =>
   dsimp only at hk;obtain⟨hc,hk⟩:=qc hk;simp only[Bool.and_eq_true] at hc;obtain⟨hz,hle⟩:=hc;have hle:=qT hle;obtain⟨z,hz,hkn,hz1,hz2,hz3,hz4⟩:=zH (P:=P) (g:=g) (h:=h) (w:=w) hz
   let cs:Array Value:=(Array.range (len*qz P e)).map (z.cells[·%z.cells.size]!)
   obtain⟨es,cs',a1,a2,a3,a4,a5,a6,a7⟩:=ya (sz:=qz P e) parts cparts.toList (List.replicate len (qS P e)) cs _ r hk (by simpa using hl) hp
    (by simp[cs]) (fun l hl'=>by rw[(List.mem_replicate.1 hl').2,hz1,hz2])
    (fun i u hu'=>by
     simp only[cs,Array.getElem?_map,Option.map_eq_some_iff] at hu';obtain⟨n,hn,rfl⟩:=hu';have hn':n=i/\i<len*qz P e:=by
      rcases Nat.lt_or_ge i (len*qz P e) with hq|hq
      ·simp[hq] at hn;exact⟨hn.symm,hq⟩
      ·simp[Nat.not_lt.2 hq] at hn
     have hpos:0<qz P e:=by
      rcases Nat.eq_zero_or_pos (qz P e) with h0|h0
      ·rw[h0] at hn';omega
      ·exact h0
     rw[Array.getElem!_eq_getD,Array.getD_eq_getD_getElem?];have hm:n%z.cells.size<z.cells.size:=Nat.mod_lt _ (by omega);rw[Array.getElem?_eq_getElem hm];exact hz3 _ _ (Array.getElem?_eq_getElem hm))
    (fun j o l c hj ho=>by
     have hjl:j<len:=by
      rcases Nat.lt_or_ge j len with hq|hq
      ·exact hq
      ·rw[List.getElem?_eq_none (by simpa using hq)] at hj;simp at hj
     have:l=qS P e:=(List.mem_replicate.1 (List.mem_of_getElem? hj)).2;subst this;rw[zM hz1 hz2 len j o c hjl ho];exact hz4 o c ho)
   refine⟨_,_,a1,.slice (some ⟨w.heap.size,0,none⟩) len len,w.alloc (.cells cs' e),?_,?_⟩
   ·unfold Instr.buildSlice;have hq:¬(len*qz P e > 2 ^ 24):=by simpa using hle
    by_cases h0:len*qz P e=0
    ·have e1:cs = #[]:=by simp only[cs,h0];exact Z9 _
     rw[e1] at a2;have e2:(Array.range (len*qz P e)).map ((#[]:Array Value)[·%(#[]:Array Value).size]!) = #[]:=by rw[h0];exact Z9 _
     simp only[Sem.run_bind,qe hu,Result.andThen_ok,qR hkn,h0,if_true];rw[if_neg (by decide)];rw[h0] at e2;simp only[Sem.run_bind,Sem.run_pure,Result.andThen_ok,e2,a2];rfl
    ·simp only[Sem.run_bind,qe hu,Result.andThen_ok,qR hkn,hq,if_false,Sem.run_pure,h0,hz];rw[show(Array.range (len*qz P e)).map (z.cells[·%z.cells.size]!)=cs from rfl,a2];rfl
   ·have hcsz:cs'.size=len*qz P e:=by rw[a4];simp[cs]
    obtain⟨g',e1,_,hr',hkeep,hfr⟩:=hr.alloc (w':=w.alloc (.cells cs' e)) (cb:=w.heap.size) (sh:=0) (arr:=cs') (e:=e) (b':=⟨0,qz P e,len,fun j=>es.getD j [],es.all (·.all qw),Nat.ble len 8,none⟩)
     (by simp) (fun k hk=>RowKit.Below.heap_alloc _ _ _ hk) (QJ w _) (Nat.le_refl _) (by simp[hcsz])
     (fun j hj=>by
      have hjl:j<es.length:=by simp at a3;simp at hj;omega
      have:es[j]?=some es[j]:=List.getElem?_eq_getElem hjl;simp only[List.getD,this,Option.getD_some];exact a5 _ (List.mem_of_getElem? this))
     (fun j o c hj ho=>by
      have hjl:j<es.length:=by simp at a3;simp at hj;omega
      have hj':es[j]?=some es[j]:=List.getElem?_eq_getElem hjl;simp only[List.getD,hj',Option.getD_some] at ho;obtain⟨u,hu',hur⟩:=a7 j o _ c hj' ho;exact⟨u,by simpa using hu',a6 _ _ hu',hur⟩)
     (fun hf j hj c hcm=>by
      have hjl:j<es.length:=by simp at a3;simp at hj;omega
      have hj':es[j]?=some es[j]:=List.getElem?_eq_getElem hjl;simp only[List.getD,hj',Option.getD_some] at hcm;exact qfj hf (List.mem_of_getElem? hj') hcm) rfl rfl ⟨rfl,Nat.le_refl _⟩
    refine⟨g',hr',.own _ _ _ _ _ _ _ (Z8 h _) (Nat.le_refl _) rfl fun _=>.inl ⟨_,_,len,_,e1,rfl,rfl,by simp,Nat.le_refl _,fun m hm=>?_,by simp,?_,fun hc=>by cases hc⟩,hkeep,hfr⟩
    ·simp only[Option.some.injEq] at hm;subst hm;exact⟨rfl,by simp⟩
    ·exact⟨cs',e,QJ w _,by simp[hcsz]⟩
  |_=>simp at hk
theorem HR.allocU(hr:HR g h w)(cs':Array Value)(e:TypeId) :
 HR { g with U:=fun b=>g.U b∨b=w.heap.size } h (w.alloc (.cells cs' e))/\zx g h w { g with U:=fun b=>g.U b∨b=w.heap.size } h (w.alloc (.cells cs' e))/\FrO g w { g with U:=fun b=>g.U b∨b=w.heap.size } (w.alloc (.cells cs' e)):=by
 have hheap:∀k,k<w.heap.size->(w.alloc (.cells cs' e)).heap[k]?=w.heap[k]?:=fun k hk=>RowKit.Below.heap_alloc _ _ _ hk;have hsize:(w.alloc (.cells cs' e)).heap.size=w.heap.size+1:=by simp
 have hkeep:zx g h w { g with U:=fun b=>g.U b∨b=w.heap.size } h (w.alloc (.cells cs' e)):=by
  refine⟨fun k hk=>⟨.inl hk,hheap k (hr.u k hk).1⟩,fun k x hx=>⟨x,hx,Nat.le_refl _,fun _=>⟨rfl,rfl,rfl⟩⟩,fun k n hkn=>?_⟩;obtain⟨a',e',h1,h2⟩:=hkn;exact⟨a',e',by rw[hheap k (qu h1)];exact h1,h2⟩
 have hno:g.own w.heap.size=none:=by
  cases ho:g.own w.heap.size with
  |none=>rfl
  |some o=>have:=(hr.own _ o ho).2;omega
 refine⟨⟨fun k x hx hmx=>?_,fun k hk=>?_,fun k o ho=>?_,by rw[hsize];exact Nat.le_succ_of_le hr.base,fun k o ho=>hr.cells_of ho (hheap k (hr.own k o ho).2),hr.lt,fun k x m hx hmx=>hr.mp_of hx hmx rfl (fun _ h=>h) fun c hc _=>hheap c hc⟩,hkeep,by rw[hsize];exact Nat.le_succ _,fun _ _=>rfl,rfl,rfl,⟨rfl,Nat.le_refl _⟩,fun k hk _=>hheap k hk,rfl,fun b hb=>?_,fun b hb t ht=>?_⟩
 ·rcases hr.blk0 k x hx hmx with⟨cb2,sh2,arr2,e2,hok⟩|q
  rotate_left
  ·exact .inr q
  refine .inl ⟨cb2,sh2,arr2,e2,hok.φ,hok.own,by rw[hheap cb2 (qu hok.heap)];exact hok.heap,hok.room,hok.len,fun j o c hj hc=>?_,hok.flat⟩;obtain⟨v,h1,h2,h3⟩:=hok.cell j o c hj hc;exact⟨v,h1,h2,h3.keep hkeep⟩
 ·rcases hk with hk|hk
  ·exact⟨by have:=(hr.u k hk).1;omega,(hr.u k hk).2⟩
  ·subst hk;exact⟨by omega,hno⟩
 ·exact⟨(hr.own k o ho).1,by have:=(hr.own k o ho).2;omega⟩
 ·rcases hb with hb|hb
  ·exact .inl hb
  ·exact .inr (by omega)
 ·have:=(hr.own b _ ht).2;omega
theorem kI{c:T}{v:Value}(hp:Zg c=true)(hv:g.VR h w c v):VI w g.U c v:=by
 cases hv with
 |imm _ _ hv=>exact hv
 |fn f caps cs vs hl hc hv =>
  have:caps=[]:=by simpa [Zg] using hp
  subst this;exact .fn f [] cs vs hl (fun i c hi=>by simp at hi) (fun i c hi=>by simp at hi)
 |_=>simp[Zg] at hp
theorem ka{c:T}{v:Value}(hp:imm c=true)(hv:g.VR h w c v):VI w g.U c v:=by
 cases hv with
 |imm _ _ hv=>exact hv
 |fn f caps cs vs hl hc hv =>
  have:=List.all_eq_true.1 (show caps.all Zg=true from hp);exact .fn f caps cs vs hl hc (fun i c hi=>kI (this c (List.mem_of_getElem? hi)) (hv i c hi))
 |agg l cs vs hl h1 hc hv =>
  have:=List.all_eq_true.1 (show l.all Zg=true from hp);exact .agg l cs vs hl h1 hc (fun i c hi=>kI (this c (List.mem_of_getElem? hi)) (hv i c hi))
 |tup l cs vs hl hc hv =>
  have:=List.all_eq_true.1 (show l.all Zg=true from hp);exact .tup l cs vs hl hc (fun i c hi=>kI (this c (List.mem_of_getElem? hi)) (hv i c hi))
 |iface t x v hv=>exact .iface t x v (kI (show Zg x=true from hp) hv)
 |_=>simp[imm,Zg] at hp
theorem jh{t:TypeId}{len:Nat}{parts:List (Nat×T)}{cparts:Array (Nat×Value)}{k:T->Option R}{r:R}(hk:Zw P t len parts k=some r)(hr:HR g h w)
 (hl:parts.length=cparts.size) (hp:∀(n:Nat) (p:Nat×T),parts[n]?=some p->∃q:Nat×Value,cparts.toList[n]?=some q/\q.1=p.1/\g.VR h w p.2 q.2) :
 ∃y,k y=some r/\∃v w',(Instr.buildSlice t len cparts).run P w = .ok v w'/\Res g h w y h v w':=by
 unfold Zw qD at hk;cases hu:P.underlying t with
 |none=>simp[hu] at hk
 |some d =>
  rw[hu] at hk;cases d with
  |slice e =>
   dsimp only at hk;obtain⟨hc,hk⟩:=qc hk;simp only[Bool.and_eq_true] at hc;obtain⟨hz,hle⟩:=hc;have hle:=qT hle;obtain⟨z,hz,hkn,hz1,hz2,hz3,hz4⟩:=zH (P:=P) (g:=g) (h:=h) (w:=w) hz
   let cs:Array Value:=(Array.range (len*qz P e)).map (z.cells[·%z.cells.size]!)
   obtain⟨es,cs',a1,a2,a3,a4,a5,a6,a7⟩:=ya (sz:=qz P e) parts cparts.toList (List.replicate len (qS P e)) cs _ r hk (by simpa using hl) hp
    (by simp[cs]) (fun l hl'=>by rw[(List.mem_replicate.1 hl').2,hz1,hz2])
    (fun i u hu'=>by
     simp only[cs,Array.getElem?_map,Option.map_eq_some_iff] at hu';obtain⟨n,hn,rfl⟩:=hu';have hn':n=i/\i<len*qz P e:=by
      rcases Nat.lt_or_ge i (len*qz P e) with hq|hq
      ·simp[hq] at hn;exact⟨hn.symm,hq⟩
      ·simp[Nat.not_lt.2 hq] at hn
     have hpos:0<qz P e:=by
      rcases Nat.eq_zero_or_pos (qz P e) with h0|h0
      ·rw[h0] at hn';omega
      ·exact h0
     rw[Array.getElem!_eq_getD,Array.getD_eq_getD_getElem?];have hm:n%z.cells.size<z.cells.size:=Nat.mod_lt _ (by omega);rw[Array.getElem?_eq_getElem hm];exact hz3 _ _ (Array.getElem?_eq_getElem hm))
    (fun j o l c hj ho=>by
     have hjl:j<len:=by
      rcases Nat.lt_or_ge j len with hq|hq
      ·exact hq
      ·rw[List.getElem?_eq_none (by simpa using hq)] at hj;simp at hj
     have:l=qS P e:=(List.mem_replicate.1 (List.mem_of_getElem? hj)).2;subst this;rw[zM hz1 hz2 len j o c hjl ho];exact hz4 o c ho)
   obtain⟨hpl,a1⟩:=qc a1;refine⟨_,a1,.slice (some ⟨w.heap.size,0,none⟩) len len,w.alloc (.cells cs' e),?_,?_⟩
   ·unfold Instr.buildSlice;have hq:¬(len*qz P e > 2 ^ 24):=by simpa using hle
    by_cases h0:len*qz P e=0
    ·have e1:cs = #[]:=by simp only[cs,h0];exact Z9 _
     rw[e1] at a2;have e2:(Array.range (len*qz P e)).map ((#[]:Array Value)[·%(#[]:Array Value).size]!) = #[]:=by rw[h0];exact Z9 _
     simp only[Sem.run_bind,qe hu,Result.andThen_ok,qR hkn,h0,if_true];rw[if_neg (by decide)];rw[h0] at e2;simp only[Sem.run_bind,Sem.run_pure,Result.andThen_ok,e2,a2];rfl
    ·simp only[Sem.run_bind,qe hu,Result.andThen_ok,qR hkn,hq,if_false,Sem.run_pure,h0,hz];rw[show(Array.range (len*qz P e)).map (z.cells[·%z.cells.size]!)=cs from rfl,a2];rfl
   ·have hcsz:cs'.size=len*qz P e:=by rw[a4];simp[cs]
    obtain⟨hr',hkeep,hfr⟩:=hr.allocU cs' e;have hel:es.length=len:=by simpa using a3
    refine⟨_,hr',.imm _ _ (.view _ _ _ _ ⟨w.heap.size,0,none⟩ len (fun j o=>cs'.getD (j*qz P e+o) undef) (fun _=>rfl) (fun m hm=>by simpa using hm) (Nat.le_refl _) (fun _ _=>.inr rfl) (fun j hj=>?_) (fun j o c hj ho=>?_) (fun j o c hj ho=>?_)),hkeep,hfr⟩
    ·have hj':es[j]?=some (es[j]'(by omega)):=List.getElem?_eq_getElem (by omega);simp only[List.getD,hj',Option.getD_some];exact a5 _ (List.mem_of_getElem? hj')
    ·have hj':es[j]?=some (es[j]'(by omega)):=List.getElem?_eq_getElem (by omega);simp only[List.getD,hj',Option.getD_some] at ho;obtain⟨u,hu',hur⟩:=a7 j o _ c hj' ho;rw[show cs'.getD (j*qz P e+o) undef=u by rw[Array.getD_eq_getD_getElem?,hu'];rfl];exact⟨by simp only[World.cell?,QJ];simpa using hu',a6 _ _ hu'⟩
    ·have hj':es[j]?=some (es[j]'(by omega)):=List.getElem?_eq_getElem (by omega);simp only[List.getD,hj',Option.getD_some] at ho;obtain⟨u,hu',hur⟩:=a7 j o _ c hj' ho;show VI _ _ c (cs'.getD (j*qz P e+o) undef);rw[show cs'.getD (j*qz P e+o) undef=u by rw[Array.getD_eq_getD_getElem?,hu'];rfl];exact(ka (List.all_eq_true.1 (List.all_eq_true.1 hpl _ (List.mem_of_getElem? hj')) _ (List.mem_of_getElem? ho)) hur).keep hkeep.1
  |_=>simp at hk
end
section
variable {P:Program} {R:Type} {g:Gh} {h:qa} {w:World}
theorem qH{t e:TypeId}(h:qD P t=some e):P.underlying t=some (.slice e):=by
 unfold qD at h;cases hu:P.underlying t with
 |none=>simp[hu] at h
 |some d =>
  rw[hu] at h;cases d<;>simp at h
  rw[h]
theorem Zn{t e:TypeId}{n:Nat}(h:Qu P t=some (n,e)):P.underlying t=some (.array n e):=by
 unfold Qu at h;cases hu:P.underlying t with
 |none=>simp[hu] at h
 |some d =>
  rw[hu] at h;cases d<;>simp at h
  rw[h.1,h.2]
theorem qdi{n:Int}(h1:-9223372036854775808<=n)(h2:n<=9223372036854775807):IntKind.i64.wrap n=n:=by
 exact IntWalk.i64_in n ⟨h1,h2⟩
theorem qbe{t:TypeId}{l c:T}{k:qO R}{r:R}{cl cc:Value}(hk:KX P t l c h k=some r)(hr:HR g h w)(hl:g.VR h w l cl)(hc:g.VR h w c cc) :
 ∃y h',k y h' true=some r/\∃v w',(Instr.makeSlice t cl cc).run P w = .ok v w'/\Res g h w y h' v w':=by
 unfold KX at hk;cases he:qD P t with
 |none=>simp[he] at hk
 |some e =>
  rw[he] at hk;cases l with
  |int kl l =>
   cases c with
   |int kc c =>
    dsimp only at hk;obtain⟨hz,hk⟩:=qc hk;obtain⟨hcond,hk⟩:=qc hk;simp only[Bool.and_eq_true,decide_eq_true_eq] at hcond;obtain⟨⟨⟨q1,q2⟩,q3⟩,q4⟩:=hcond;obtain rfl:=hl.int;obtain rfl:=hc.int;obtain⟨z,hz,hkn,hz1,hz2,hz3,hz4⟩:=zH (P:=P) (g:=g) (h:=h) (w:=w) hz;obtain⟨i,hi⟩:=Yk hkn;have hb:ym P e=i.bytes:=by simp[ym,hi]
    refine⟨_,_,hk,.slice (some ⟨w.heap.size,0,none⟩) l.toNat c.toNat,w.alloc (.cells ((Array.range (c.toNat*qz P e)).map (z.cells[·%z.cells.size]!)) e),?_,?_⟩
    ·unfold Instr.makeSlice;simp only[Sem.run_bind,qe (qH he),Result.andThen_ok];have e1:=qdi (n:=l) (by omega) (by omega);have e2:=qdi (n:=c) (by omega) (by omega);have hn:¬((decide (c<0) || decide ((i.bytes:Int)*c > 2 ^ 48) || decide (l<0) || decide (l > c))=true):=by
      rw[hb] at q3;have q5:(i.bytes:Int)*c<=140737488355328:=by rw[Int.mul_comm];exact q3
      have e3:((2:Int) ^ 48)=281474976710656:=by decide
      simp only[Bool.or_eq_true,decide_eq_true_eq,not_or,e3];omega
     have hti:(typeInfo e).run P w = .ok i w:=by simp[typeInfo,hi]
     simp only[asInt,asIntOf,Sem.run_bind,Sem.run_pure,Result.andThen_ok,hti,e1,e2,hn,if_false,run_askRoom,qR hkn,Bool.false_eq_true];by_cases h0:c.toNat*qz P e=0
     ·simp only[h0,if_true,Sem.run_bind,Sem.run_pure,Result.andThen_ok,Z9];rfl
     ·simp only[h0,if_false,Sem.run_bind,hz,Sem.run_pure,Result.andThen_ok];rfl
    ·obtain⟨g',e1,_,hr',hkeep,hfr⟩:=hr.alloc (w':=w.alloc (.cells ((Array.range (c.toNat*qz P e)).map (z.cells[·%z.cells.size]!)) e)) (cb:=w.heap.size) (sh:=0) (arr:=(Array.range (c.toNat*qz P e)).map (z.cells[·%z.cells.size]!)) (e:=e)
      (b':=⟨0,qz P e,c.toNat,fun _=>qS P e,(qS P e).all qw,false,none⟩)
      (by simp) (fun k hk=>RowKit.Below.heap_alloc _ _ _ hk) (QJ w _) (Nat.le_refl _) (by simp)
      (fun j _=>by rw[hz1,hz2])
      (fun j o x hj ho=>by
       have hq:=zM hz1 hz2 c.toNat j o x hj ho;obtain⟨u,hu,hur⟩:=hz4 o x ho;refine⟨u,?_,hz3 _ _ hu,hur⟩;rw[←hu,←hq];simp)
      (fun hf j _ x hx=>(List.all_eq_true.1 hf) x hx) rfl rfl ⟨rfl,Nat.le_refl _⟩
     refine⟨g',hr',.own _ _ _ _ _ _ _ (Z8 h _) (Nat.le_refl _) rfl fun _=>.inl ⟨_,_,c.toNat,_,e1,rfl,rfl,by simp,by omega,fun m hm=>?_,by simp;omega,?_,fun hc=>by cases hc⟩,hkeep,hfr⟩
     ·simp only[Option.some.injEq] at hm;subst hm;exact⟨rfl,by simp⟩
     ·exact⟨_,e,QJ w _,by simp⟩
   |_=>simp at hk
  |_=>simp at hk
theorem QX{x:Option T}{d:Int}{k:Int->Option R}{r:R}(hk:Yc x d k=some r):(x=none/\k d=some r)∨∃kk i,x=some (.int kk i)/\k i=some r:=by
 cases x with
 |none=>exact .inl ⟨rfl,hk⟩
 |some x =>
  cases x with
  |int kk i=>exact .inr ⟨kk,i,rfl,hk⟩
  |_=>simp[Yc] at hk
def qbf(g:Gh)(h:qa)(w:World)(x:Option T)(v:Option Value):Prop:=(x=none/\v=none)∨∃y u,x=some y/\v=some u/\g.VR h w y u
theorem zA{isS:Bool}{len lim ccap:Nat}{cap:Option Nat}{lo hi mx:Option T}{vlo vhi vmx:Option Value}{k:Nat->Nat->Option Nat->Option R}{r:R}
 (hk:Z1 len lim cap lo hi mx k=some r) (hlo:qbf g h w lo vlo) (hhi:qbf g h w hi vhi) (hmx:qbf g h w mx vmx) (hcap:∀m,cap=some m->ccap=m) (hlen:len<=ccap) (hll:len<=lim) (hlim:cap=none->lim<=ccap) :
 ∃l hh c m,k l hh c=some r/\(Instr.sliceBounds isS len ccap vlo vhi vmx).run P w = .ok (l,hh,m) w/\l<=hh/\hh<=m/\m<=ccap ∧
  (mx=none->m=ccap/\c=cap.map (·-l)/\(cap=none->hh<=lim))/\(mx≠none->c=some (m-l)/\(cap=none->m<=lim)):=by
 have optv:∀{x:Option T} {v:Option Value} {kk:IntKind} {i:Int},qbf g h w x v->x=some (.int kk i)->v=some (.int kk i):=by
  intro x v kk i hx e;rcases hx with⟨e1,e2⟩|⟨y,u,e1,e2,hr⟩
  ·rw[e1] at e;cases e
  ·rw[e1] at e;obtain rfl:=Option.some.inj e;rw[e2,hr.int]
 have optn:∀{x:Option T} {v:Option Value},qbf g h w x v->x=none->v=none:=by
  intro x v hx e;rcases hx with⟨e1,e2⟩|⟨y,u,e1,e2,hr⟩
  ·exact e2
  ·rw[e1] at e;cases e
 have sb:∀(kk:IntKind) (i:Int) (y:Nat) (code:BoundsCode),0<=i->i<=(y:Int)->(Instr.sliceBound (.int kk i) y code).run P w = .ok i.toNat w:=by
  intro kk i y code h1 h2;simp[Instr.sliceBound,asIntOf,h1,h2]
 have capv:(cap.getD lim:Int)<=(ccap:Int):=by
  cases cap with
  |none=>have:=hlim rfl;simp;omega
  |some c=>have:=hcap c rfl;simp;omega
 unfold Z1 at hk;cases mx with
 |none =>
  obtain rfl:=optn hmx rfl;rcases QX hk with⟨e1,hk⟩|⟨kl,l,e1,hk⟩<;>rcases QX hk with⟨e2,hk⟩|⟨kh,hh,e2,hk⟩ <;>
   (dsimp only at hk;obtain⟨hc,hk⟩:=qc hk;simp only[Bool.and_eq_true,decide_eq_true_eq] at hc;obtain⟨⟨c1,c2⟩,c3⟩:=hc)
  ·refine⟨_,_,_,ccap,hk,?_,by omega,by omega,Nat.le_refl _,fun _=>⟨rfl,?_,fun hn=>by subst hn;simp;omega⟩,fun hh=>absurd rfl hh⟩
   ·rw[optn hlo e1,optn hhi e2];simp[Instr.sliceBounds]
   ·rfl
  ·refine⟨_,_,_,ccap,hk,?_,by omega,by omega,Nat.le_refl _,fun _=>⟨rfl,?_,fun hn=>by subst hn;simp only[Option.getD_none] at c3;omega⟩,fun hh=>absurd rfl hh⟩
   ·rw[optn hlo e1,optv hhi e2];simp[Instr.sliceBounds,sb kh hh ccap _ (by omega) (by omega)]
   ·rfl
  ·refine⟨_,_,_,ccap,hk,?_,by omega,by omega,Nat.le_refl _,fun _=>⟨rfl,?_,fun hn=>by subst hn;simp;omega⟩,fun hh=>absurd rfl hh⟩
   ·rw[optv hlo e1,optn hhi e2];simp[Instr.sliceBounds,sb kl l len _ c1 c2]
   ·rfl
  ·refine⟨_,_,_,ccap,hk,?_,by omega,by omega,Nat.le_refl _,fun _=>⟨rfl,?_,fun hn=>by subst hn;simp only[Option.getD_none] at c3;omega⟩,fun hh=>absurd rfl hh⟩
   ·rw[optv hlo e1,optv hhi e2];simp[Instr.sliceBounds,sb kh hh ccap _ (by omega) (by omega),sb kl l hh.toNat _ c1 (by omega)]
   ·rfl
 |some mx =>
  cases mx with
  |int km m =>
   cases hi with
   |none =>
    rcases QX hk with⟨e1,hk⟩|⟨kl,l,e1,hk⟩<;>simp[Yc] at hk
   |some hi =>
    have em:=optv hmx rfl;rcases QX hk with⟨e1,hk⟩|⟨kl,l,e1,hk⟩<;>rcases QX hk with⟨e2,hk⟩|⟨kh,hh,e2,hk⟩ <;>
     (dsimp only at hk;obtain⟨hc,hk⟩:=qc hk;simp only[Bool.and_eq_true,decide_eq_true_eq] at hc;obtain⟨⟨⟨c1,c2⟩,c3⟩,c4⟩:=hc)
    ·cases e2
    ·refine⟨_,_,_,m.toNat,hk,?_,by omega,by omega,by omega,(fun hn=>by cases hn),fun _=>⟨rfl,fun hn=>by subst hn;simp only[Option.getD_none] at c4;omega⟩⟩;rw[optn hlo e1,optv hhi e2,em];simp[Instr.sliceBounds,sb km m ccap _ (by omega) (by omega),sb kh hh m.toNat _ (by omega) (by omega)]
    ·cases e2
    ·refine⟨_,_,_,m.toNat,hk,?_,by omega,by omega,by omega,(fun hn=>by cases hn),fun _=>⟨rfl,fun hn=>by subst hn;simp only[Option.getD_none] at c4;omega⟩⟩;rw[optv hlo e1,optv hhi e2,em];simp[Instr.sliceBounds,sb km m ccap _ (by omega) (by omega),sb kh hh m.toNat _ (by omega) (by omega),sb kl l hh.toNat _ c1 (by omega)]
  |_ =>
   rcases QX hk with⟨e1,hk⟩|⟨kl,l,e1,hk⟩<;>rcases QX hk with⟨e2,hk⟩|⟨kh,hh,e2,hk⟩<;>simp at hk
theorem ZW{s:List UInt8}{b:ByteArray}(hb:b.data.toList=s):b.size=s.length:=by
 show b.data.size=_;rw[←hb];exact Array.length_toList.symm
theorem Yl(b:ByteArray)(l r:Nat):(b.extract l r).data.toList=(b.data.toList.take r).drop l:=by
 rw[ByteArray.data_extract,Array.toList_extract];simp[List.extract,List.drop_take]
theorem kb{t:TypeId}(h:KU P t=true):P.underlying t=some .string:=by
 unfold KU at h;cases hu:P.underlying t with
 |none=>simp[hu] at h
 |some d =>
  rw[hu] at h;cases d<;>simp at h
  rfl
theorem qcr(a:Addr)(hs:a.spot=none)(n:Nat):a.add n=⟨a.block,a.off+n,none⟩:=by
 cases a with
 |mk b o s=>dsimp only at hs;subst hs;exact Qs b o n
theorem ke{t:TypeId}{x:T}{lo hi mx:Option T}{v:Value}{vlo vhi vmx:Option Value}{k:qO R}{r:R}(hk:QH P t x lo hi mx h k=some r)
 (hx:g.VR h w x v) (hlo:qbf g h w lo vlo) (hhi:qbf g h w hi vhi) (hmx:qbf g h w mx vmx) :
 ∃y,k y h false=some r/\∃u,(Instr.sliceAt t v vlo vhi vmx).run P w = .ok u w/\g.VR h w y u:=by
 cases x with
 |str s =>
  obtain⟨b,rfl,hb⟩:=hx.str;cases mx with
  |some mx=>simp[QH] at hk
  |none =>
   obtain rfl:vmx=none:=by
    rcases hmx with⟨_,e⟩|⟨y,u,e,_⟩
    ·exact e
    ·cases e
   obtain⟨hs,hk⟩:=qc hk;have hu:=kb hs;have hsz:=ZW hb;obtain⟨l,hh,c,m,hk,hrun,h1,h2,h3,h4,_⟩:=zA (P:=P) (isS:=false) (ccap:=b.size) hk hlo hhi (.inl ⟨rfl,rfl⟩) (fun m hm=>by simp only[Option.some.injEq] at hm;omega) (by omega) (Nat.le_refl _) (fun hc=>by cases hc);rw[←hsz] at hrun;refine⟨_,hk,.string (b.extract l hh),?_,.imm _ _ (.str _ _ (by rw[Yl,hb]))⟩;simp only[Instr.sliceAt,Instr.slice,Sem.run_bind,qe hu,Result.andThen_ok];simp only[Option.isSome_none,Bool.false_eq_true,if_false,Sem.run_bind,hrun,Result.andThen_ok];rfl
 |nils =>
  obtain rfl:=hx.nils;simp only[QH] at hk;cases he:qD P t with
  |none=>simp[he] at hk
  |some e =>
   rw[he] at hk;obtain⟨hkn,hk⟩:=qc hk;obtain⟨l,hh,c,m,hk,hrun,h1,h2,h3,_,_⟩:=zA (P:=P) (isS:=true) (ccap:=0) hk hlo hhi hmx (fun m hm=>by simp only[Option.some.injEq] at hm;omega) (by omega) (Nat.le_refl _) (fun hc=>by cases hc);refine⟨_,hk,.slice none 0 0,?_,.imm _ _ .nils⟩;simp only[Instr.sliceAt,Instr.slice,Sem.run_bind,qe (qH he),Result.andThen_ok];simp only[hrun,Result.andThen_ok,qR hkn];have e1:hh-l=0:=by omega
   have e2:m-l=0:=by omega
   simp[e1,e2]
 |view sz n g' cap =>
  simp only[QH] at hk;cases he:qD P t with
  |none=>simp[he] at hk
  |some e =>
   rw[he] at hk;obtain⟨hc,hk⟩:=qc hk;simp only[Bool.and_eq_true,beq_iff_eq] at hc;obtain⟨hkn,hsz⟩:=hc;cases hx.view with
   |vnil _ _ _ hcn =>
    obtain⟨l,hh,c,m,hk,hrun,h1,h2,h3,h4,h5⟩:=zA (P:=P) (isS:=true) (ccap:=0) hk hlo hhi hmx (fun m hm=>by rcases hcn with h|h<;>rw[h] at hm<;>cases hm;rfl) (Nat.le_refl _) (Nat.le_refl _) (fun _=>Nat.le_refl _);obtain⟨hle,hk⟩:=qc hk;have hc0:c=none∨c=some 0:=by
     cases mx with
     |none =>
      obtain⟨_,hc0,_⟩:=h4 rfl;rcases hcn with h|h
      ·rw[h] at hc0;exact .inl hc0
      ·rw[h] at hc0;right;rw[hc0];simp
     |some x =>
      obtain⟨hc0,_⟩:=h5 (by simp);right;rw[hc0,show m-l=0 by omega]
    have e1:hh-l=0:=by omega
    have e2:m-l=0:=by omega
    refine⟨_,hk,.slice none 0 0,?_,?_⟩
    ·simp only[Instr.sliceAt,Instr.slice,Sem.run_bind,qe (qH he),Result.andThen_ok];simp only[hrun,Result.andThen_ok,qR hkn];simp[e1,e2]
    ·rw[e1];exact .imm _ _ (.vnil _ _ _ hc0)
   |view _ _ _ _ a cc vs hs hcap hn hU hl hc hv =>
    obtain⟨l,hh,c,m,hk,hrun,h1,h2,h3,h4,h5⟩:=zA (P:=P) (isS:=true) (ccap:=cc) hk hlo hhi hmx hcap hn (Nat.le_refl _) (fun _=>hn);obtain⟨hle,hk⟩:=qc hk;have hle:=qT hle;refine⟨_,hk,.slice (if m=l then some a else(some a).map (·.add (l*qz P e))) (hh-l) (m-l),?_,?_⟩
    ·simp only[Instr.sliceAt,Instr.slice,Sem.run_bind,qe (qH he),Result.andThen_ok];simp only[hrun,Result.andThen_ok,qR hkn];rfl
    ·have hcap':∀m',c=some m'->m-l=m':=by
      intro m' hm';cases hmx':mx with
      |none =>
       obtain⟨e1,e2,_⟩:=h4 hmx';rw[e2] at hm';cases cap with
       |none=>cases hm'
       |some c0=>have:=hcap c0 rfl;simp at hm';omega
      |some y =>
       obtain⟨e1,_⟩:=h5 (by rw[hmx'];simp);rw[e1] at hm';exact Option.some.inj hm'
     by_cases hml:m=l
     ·rw[if_pos hml];exact .imm _ _ (.view sz (hh-l) _ c a _ (fun j o=>vs (l+j) o) (fun h0=>by omega) hcap' (by omega) (fun hp _=>by omega) (fun j hj=>by omega) (fun j o c hj=>by omega) (fun j o c hj=>by omega))
     ·rw[if_neg hml];simp only[Option.map_some];rw[qcr a (hs (by omega))];exact .imm _ _ (.view sz (hh-l) _ c _ _ (fun j o=>vs (l+j) o) (fun _=>rfl) hcap' (by omega) (fun hp=>hU (by omega)) (fun j hj=>hl (l+j) (by omega))
       (fun j o c hj ho=>by
        have:=hc (l+j) o c (by omega) ho;rw[←hsz];have e:a.off+l*sz+j*sz+o=a.off+(l+j)*sz+o:=by rw[Nat.add_mul];omega
        dsimp only;rw[e];exact this)
       (fun j o c hj ho=>hv (l+j) o c (by omega) ho))
 |own i ver off len cap =>
  simp only[QH] at hk;cases he:qD P t with
  |none=>simp[he] at hk
  |some e =>
   rw[he] at hk;obtain⟨b,hb,hmp,hver,hk⟩:=zm hk;obtain⟨hc,hk⟩:=qc hk;simp only[Bool.and_eq_true,beq_iff_eq] at hc;obtain⟨hkn,hsz⟩:=hc;obtain⟨b',hb',_,_,hp⟩:=hx.own_inv;rw[hb] at hb';obtain rfl:=Option.some.inj hb';rcases hp hver with⟨cb,sh,cc,ad,e1,rfl,es,e2,e3,e4,e5,e6,e7⟩|⟨q1,q2,rfl,rfl,q5,rfl⟩
   rotate_left
   ·obtain⟨l,hh,c,m,hk,hrun,h1,h2,h3,h4,h5⟩:=zA (P:=P) (isS:=true) (ccap:=0) hk hlo hhi hmx (fun m hm=>(q5 m hm).symm) (Nat.le_refl _) (Nat.zero_le _) (fun _=>by omega);have hc0:∀m',c=some m'->m'=0:=by
     intro m' hm';cases mx with
     |none =>
      obtain⟨_,hc0,_⟩:=h4 rfl;rw[hc0] at hm';cases cap with
      |none=>cases hm'
      |some c0=>have:=q5 c0 rfl;simp at hm';omega
     |some x =>
      obtain⟨hc0,_⟩:=h5 (by simp);rw[hc0] at hm';have:=Option.some.inj hm';omega
    have e1:hh-l=0:=by omega
    have e2:m-l=0:=by omega
    have e3:l=0:=by omega
    refine⟨_,hk,.slice none 0 0,?_,?_⟩
    ·simp only[Instr.sliceAt,Instr.slice,Sem.run_bind,qe (qH he),Result.andThen_ok];simp only[hrun,Result.andThen_ok,qR hkn];simp[e1,e2]
    ·rw[e1,e3];exact .own _ _ _ _ _ b _ hb (Nat.le_of_eq hver.symm) rfl fun _=>.inr ⟨q1,q2,rfl,rfl,hc0,rfl⟩
   obtain⟨l,hh,c,m,hk,hrun,h1,h2,h3,h4,h5⟩:=zA (P:=P) (isS:=true) (ccap:=cc) hk hlo hhi hmx (fun m hm=>(e4 m hm).1) e3 (by omega) (fun hc=>by have:=e7 hc;omega);refine⟨_,hk,.slice (if m=l then some ad else(some ad).map (·.add (l*qz P e))) (hh-l) (m-l),?_,?_⟩
   ·simp only[Instr.sliceAt,Instr.slice,Sem.run_bind,qe (qH he),Result.andThen_ok];simp only[hrun,Result.andThen_ok,qR hkn];rfl
   ·have hcc:∀m',c=some m'->m-l=m'/\off+l+m'<=b.n:=by
     intro m' hm';cases hmx':mx with
     |none =>
      obtain⟨q1,q2,_⟩:=h4 hmx';rw[q2] at hm';cases cap with
      |none=>cases hm'
      |some c0=>have:=e4 c0 rfl;simp at hm';omega
     |some y =>
      obtain⟨q1,q2⟩:=h5 (by rw[hmx'];simp);rw[q1] at hm';have:=Option.some.inj hm';cases cap with
      |none=>have:=q2 rfl;omega
      |some c0=>have:=e4 c0 rfl;omega
    have hlen:off+l+(hh-l)<=b.n:=by
     cases hmx':mx with
     |none =>
      obtain⟨q1,q2,q3⟩:=h4 hmx';cases cap with
      |none=>have:=q3 rfl;omega
      |some c0=>have:=e4 c0 rfl;omega
     |some y =>
      obtain⟨q1,q2⟩:=h5 (by rw[hmx'];simp);cases cap with
      |none=>have:=q2 rfl;omega
      |some c0=>have:=e4 c0 rfl;omega
    have hcn:c=none->b.n<=off+l+(m-l):=by
     intro hc;cases hmx':mx with
     |none =>
      obtain⟨q1,q2,q3⟩:=h4 hmx';rw[q2] at hc;cases cap with
      |none=>have:=e7 rfl;omega
      |some c0=>cases hc
     |some y =>
      obtain⟨q1,q2⟩:=h5 (by rw[hmx'];simp);rw[q1] at hc;cases hc
    have hrm:room w cb (sh+(off+l+(m-l))*b.sz):=by
     obtain⟨arr,e',r1,r2⟩:=e6;refine⟨arr,e',r1,Nat.le_trans ?_ r2⟩;exact Nat.add_le_add_left (Nat.mul_le_mul_right _ (by omega)) _
    by_cases hml:m=l
    ·rw[if_pos hml];exact .own _ _ _ _ _ b _ hb (Nat.le_of_eq hver.symm) rfl fun _=>.inl ⟨cb,sh,m-l,ad,e1,rfl,es,fun hp=>by omega,by omega,hcc,hlen,hrm,hcn⟩
    ·rw[if_neg hml];have had:=e2 (by omega);subst had;simp only[Option.map_some,Qs];exact .own _ _ _ _ _ b _ hb (Nat.le_of_eq hver.symm) rfl fun _=>.inl ⟨cb,sh,m-l,_,e1,rfl,rfl,fun _=>by rw[hsz,Nat.add_mul,Nat.add_assoc],by omega,hcc,hlen,hrm,hcn⟩
 |_=>simp[QH] at hk
end
section
variable {P:Program} {R:Type} {g:Gh} {h:qa} {w:World}
theorem Ky{t:TypeId}{f off:Nat}{ty:TypeId}(hf:zs P t f=some (off,ty)) :
 ∃fs x,P.underlying t=some (.struct fs)/\fs[f]?=some x/\x.offset=off/\x.type=ty/\QP P ty=true/\qz P ty≠0:=by
 unfold zs at hf;cases hu:P.underlying t with
 |none=>simp[hu] at hf
 |some d =>
  rw[hu] at hf;cases d with
  |struct fs =>
   dsimp only at hf;cases hx:fs[f]? with
   |none=>simp[hx] at hf
   |some x =>
    rw[hx] at hf;obtain⟨hc,hf⟩:=qc hf;simp only[Bool.and_eq_true,Bool.not_eq_true',beq_eq_false_iff_ne] at hc;simp only[Option.some.injEq,Prod.mk.injEq] at hf;obtain⟨rfl,rfl⟩:=hf;exact⟨fs,x,rfl,hx,rfl,rfl,hc.1,hc.2⟩
  |_=>simp at hf
theorem kJ{t:TypeId}{l:List T}{cs:Array Value}{off:Nat}{k:T->Option R}{r:R}(hk:ld P t (l.drop off) k=some r)(hl:l.length=cs.size)
 (h1:∀(i:Nat) (u:Value),cs[i]?=some u->u.oneCell'=true) (hc:∀(i:Nat) (c:T),l[i]?=some c->∃u,cs[i]?=some u/\g.VR h w c u) :
 ∃x,k x=some r/\∃v,(part t cs off).run P w = .ok v w/\g.VR h w x v:=by
 unfold ld at hk;cases hu:P.underlying t with
 |none=>simp[hu] at hk
 |some d =>
  rw[hu] at hk;dsimp only at hk;obtain⟨i,hi⟩:=Z7 hu;cases ha:zY P t with
  |true =>
   simp only[ha,cond_true] at hk;obtain⟨hle,hk⟩:=qc hk;have hle:=qT hle;refine⟨_,hk,.agg (cs.extract off (off+qz P t)),?_,?_⟩
   ·unfold part;simp only[Sem.run_bind,yV hu,Result.andThen_ok,ha,if_true,Y8 hi];rfl
   ·simp only[List.length_drop] at hle;refine VR.mk_agg (by simp;omega) ?_ ?_
    ·intro j u hj;rw[Array.getElem?_extract] at hj;split at hj
     ·exact h1 _ u hj
     ·simp at hj
    ·intro j c hj;rw[List.getElem?_take] at hj;split at hj
     ·rename_i hlt;rw[List.getElem?_drop] at hj;obtain⟨u,hu',hr⟩:=hc _ c hj;refine⟨u,?_,hr⟩;rw[Array.getElem?_extract,if_pos (by
       have:off+j<cs.size:=by
        rcases Nat.lt_or_ge (off+j) cs.size with hq|hq
        ·exact hq
        ·rw[Array.getElem?_eq_none hq] at hu';cases hu'
       omega)]
      exact hu'
     ·simp at hj
  |false =>
   simp only[ha,cond_false] at hk;cases hd:l.drop off with
   |nil=>rw[hd] at hk;simp at hk
   |cons c l' =>
    rw[hd] at hk;refine⟨c,hk,?_⟩;have hc0:l[off]?=some c:=by
     have:=congrArg (·[0]?) hd;simpa [List.getElem?_drop] using this
    obtain⟨u,hu',hr⟩:=hc _ c hc0;refine⟨u,?_,hr⟩;unfold part;simp only[Sem.run_bind,yV hu,Result.andThen_ok,ha,Bool.false_eq_true,if_false,hu'];rfl
theorem qas{t:TypeId}{x:T}{f:Nat}{v:Value}{k:qO R}{r:R}(hk:YQ P t x f h k=some r)(hx:g.VR h w x v) :
 ∃y,k y h false=some r/\∃u,(Instr.field t v f).run P w = .ok u w/\g.VR h w y u:=by
 unfold YQ at hk;cases x with
 |agg l =>
  cases hf:zs P t f with
  |none=>simp[hf] at hk
  |some p =>
   obtain⟨off,ty⟩:=p;rw[hf] at hk;obtain⟨fs,x,hu,hx',rfl,rfl,hkn,hnz⟩:=Ky hf;obtain⟨cs,rfl,hl,h1,hc⟩:=hx.agg_inv;obtain⟨y,hy,u,hrun,hr⟩:=kJ (g:=g) (h:=h) (w:=w) (P:=P) hk hl h1 hc;refine⟨y,hy,u,?_,hr⟩;simp[Instr.field,qe hu,hx',asAgg,hrun]
 |_=>simp at hk
theorem yb{t:TypeId}{x:T}{f:Nat}{v:Value}{k:qO R}{r:R}(hk:zu P t x f h k=some r)(hx:g.VR h w x v) :
 ∃y,k y h false=some r/\∃u,(Instr.fieldAt t v f).run P w = .ok u w/\g.VR h w y u:=by
 unfold zu at hk;cases hf:zs P t f with
 |none=>cases x<;>simp[hf] at hk
 |some p =>
  obtain⟨off,ty⟩:=p;obtain⟨fs,x',hu,hx',rfl,rfl,hkn,hnz⟩:=Ky hf;have hrun:∀a:Addr,(fieldPlace a x').run P w = .ok (a.add x'.offset) w:=by
   intro a;simp[fieldPlace,qR hkn,hnz]
  rw[hf] at hk;cases x with
  |ptr i ver j o =>
   obtain⟨b,hb,hmp,hver,hk⟩:=zm hk;obtain⟨b',hb',_,_,hp⟩:=hx.ptr_inv;rw[hb] at hb';obtain rfl:=Option.some.inj hb';obtain⟨cb,sh,e1,rfl⟩:=hp hver;refine⟨_,hk,.pointer (some ((⟨cb,sh+j*b.sz+o,none⟩:Addr).add x'.offset)),?_,?_⟩
   ·simp[Instr.fieldAt,Instr.sureAddr,qe hu,hx',hrun]
   ·rw[Qs];exact .ptr _ _ _ _ b _ hb (Nat.le_of_eq hver.symm) rfl fun _=>⟨cb,sh,e1,by rw[Nat.add_assoc]⟩
  |vp cells =>
   obtain⟨b,o,rfl,hc⟩:=Kw hx;refine⟨_,hk,.pointer (some ((⟨b,o,none⟩:Addr).add x'.offset)),?_,?_⟩
   ·simp[Instr.fieldAt,Instr.sureAddr,qe hu,hx',hrun]
   ·rw[Qs];cases hx.vp with
    |vp _ a vs hs hU hc hv =>
     refine .imm _ _ (.vp _ _ (fun n=>vs (x'.offset+n)) rfl (fun hp=>hU (by simp at hp;omega)) (fun n c hn=>?_) (fun n c hn=>?_))
     ·rw[List.getElem?_drop] at hn;have:=hc _ c hn;dsimp only at this ⊢;rw[Nat.add_assoc];exact this
     ·rw[List.getElem?_drop] at hn;exact hv _ c hn
  |_=>simp at hk
theorem yc{t:TypeId}{x i:T}{v vi:Value}{k:qO R}{r:R}(hk:QI P t x i h k=some r)(hx:g.VR h w x v)(hi:g.VR h w i vi) :
 ∃y,k y h false=some r/\∃u,(Instr.indexAt t v vi).run P w = .ok u w/\g.VR h w y u:=by
 unfold QI at hk;cases i with
 |int kk i =>
  obtain rfl:=hi.int;cases x with
  |own b ver off len cap =>
   dsimp only at hk;cases he:qD P t with
   |none=>simp[he] at hk
   |some e =>
    rw[he] at hk;obtain⟨blk,hb,hmp,hver,hk⟩:=zm hk;obtain⟨hc,hk⟩:=qc hk;simp only[Bool.and_eq_true,beq_iff_eq] at hc;obtain⟨hkn,hsz⟩:=hc;obtain⟨hc,hk⟩:=qc hk;simp only[Bool.and_eq_true,decide_eq_true_eq] at hc;obtain⟨b',hb',_,_,hp⟩:=hx.own_inv;rw[hb] at hb';obtain rfl:=Option.some.inj hb';rcases hp hver with⟨cb,sh,cc,ad,e1,rfl,es,e2,e3,e4,e5,e6⟩|⟨_,_,_,q4,_⟩
    rotate_left
    ·omega
    have had:=e2 (by omega);subst had;have hk:k (.ptr b ver (off+i.toNat) 0) h false=some r:=by
     rcases qk hk with⟨_,hk⟩|⟨_,hk⟩
     ·exact qbr (by omega) hk
     ·exact hk
    refine⟨_,hk,.pointer (some ((⟨cb,sh+off*blk.sz,none⟩:Addr).add (i.toNat*qz P e))),?_,?_⟩
    ·simp[Instr.indexAt,asIntOf,qe (qH he),hc.1,hc.2,qR hkn]
    ·rw[Qs];exact .ptr _ _ _ _ blk _ hb (Nat.le_of_eq hver.symm) rfl fun _=>⟨cb,sh,e1,by rw[←hsz,Nat.add_mul];simp[Nat.add_assoc]⟩
  |view sz n g' cap =>
   dsimp only at hk;cases he:qD P t with
   |none=>simp[he] at hk
   |some e =>
    rw[he] at hk;obtain⟨hc,hk⟩:=qc hk;simp only[Bool.and_eq_true,beq_iff_eq] at hc;obtain⟨hkn,hsz⟩:=hc;obtain⟨hc,hk⟩:=qc hk;simp only[Bool.and_eq_true,decide_eq_true_eq] at hc;cases hx.view with
    |vnil _ _ _ _=>exact absurd hc.2 (by have:=hc.1;simp at *;omega)
    |view _ _ _ _ a cc vs hs hcap hn hU hl hcl hv =>
     refine⟨_,hk,.pointer (some (a.add (i.toNat*qz P e))),?_,?_⟩
     ·simp[Instr.indexAt,asIntOf,qe (qH he),hc.1,hc.2,qR hkn]
     ·rw[qcr a (hs (by omega))];have hlt:i.toNat<n:=by omega
      refine .imm _ _ (.vp _ _ (vs i.toNat) rfl (fun hp=>hU (by omega) (by rw[←hl i.toNat hlt];exact hp)) (fun o c ho=>?_) (fun o c ho=>hv _ o c hlt ho));rw[←hsz];exact hcl _ o c hlt ho
  |ptr b ver j o =>
   dsimp only at hk;cases ha:Qu P t with
   |none=>simp[ha] at hk
   |some p =>
    obtain⟨n,e⟩:=p;rw[ha] at hk;obtain⟨hc,hk⟩:=qc hk;simp only[Bool.and_eq_true,decide_eq_true_eq] at hc;obtain⟨⟨hkn,h0⟩,hlt⟩:=hc;obtain⟨blk,hb,hmp,hver,hk⟩:=zm hk;obtain⟨b',hb',_,_,hp⟩:=hx.ptr_inv;rw[hb] at hb';obtain rfl:=Option.some.inj hb';obtain⟨cb,sh,e1,rfl⟩:=hp hver;rcases qk hk with⟨hc2,hk⟩|⟨_,hk⟩
    ·simp only[Bool.and_eq_true,beq_iff_eq] at hc2;refine⟨_,hk,.pointer (some ((⟨cb,sh+j*blk.sz+o,none⟩:Addr).add (i.toNat*qz P e))),?_,?_⟩
     ·simp[Instr.indexAt,Instr.sureAddr,asIntOf,qe (Zn ha),h0,hlt,qR hkn]
     ·rw[Qs];exact .ptr _ _ _ _ blk _ hb (Nat.le_of_eq hver.symm) rfl fun _=>⟨cb,sh,e1,by rw[←hc2.1,Nat.add_mul];simp only[Value.pointer.injEq,Option.some.injEq,Addr.mk.injEq,and_true,true_and];omega⟩
    have hk:=zj (by omega) hk;refine⟨_,hk,.pointer (some ((⟨cb,sh+j*blk.sz+o,none⟩:Addr).add (i.toNat*qz P e))),?_,?_⟩
    ·simp[Instr.indexAt,Instr.sureAddr,asIntOf,qe (Zn ha),h0,hlt,qR hkn]
    ·rw[Qs];exact .ptr _ _ _ _ blk _ hb (Nat.le_of_eq hver.symm) rfl fun _=>⟨cb,sh,e1,by rw[Nat.add_assoc]⟩
  |vp cells =>
   dsimp only at hk;cases ha:Qu P t with
   |none=>simp[ha] at hk
   |some p =>
    obtain⟨n,e⟩:=p;rw[ha] at hk;obtain⟨hc,hk⟩:=qc hk;simp only[Bool.and_eq_true,decide_eq_true_eq] at hc;obtain⟨⟨hkn,h0⟩,hlt⟩:=hc;have hk:=zj (by omega) hk;cases hx.vp with
    |vp _ a vs hs hU hcl hv =>
     refine⟨_,hk,.pointer (some (a.add (i.toNat*qz P e))),?_,?_⟩
     ·simp[Instr.indexAt,Instr.sureAddr,asIntOf,qe (Zn ha),h0,hlt,qR hkn]
     ·rw[qcr a hs];refine .imm _ _ (.vp _ _ (fun m=>vs (i.toNat*qz P e+m)) rfl (fun hp=>hU (by simp at hp;omega)) (fun m c hm=>?_) (fun m c hm=>?_))
      ·rw[List.getElem?_drop] at hm;have:=hcl _ c hm;dsimp only;rw[Nat.add_assoc];exact this
      ·rw[List.getElem?_drop] at hm;exact hv _ c hm
  |_=>simp at hk
 |_=>simp at hk
theorem qat{t:TypeId}{x i:T}{v vi:Value}{k:qO R}{r:R}(hk:YR P t x i h k=some r)(hx:g.VR h w x v)(hi:g.VR h w i vi) :
 ∃y,k y h false=some r/\∃u,(Instr.index t v vi).run P w = .ok u w/\g.VR h w y u:=by
 unfold YR at hk;cases x with
 |str s =>
  cases i with
  |int kk i =>
   dsimp only at hk;obtain⟨hs,hk⟩:=qc hk;obtain⟨hc,hk⟩:=qc hk;simp only[Bool.and_eq_true,decide_eq_true_eq] at hc;obtain rfl:=hi.int;obtain⟨b,rfl,hb⟩:=hx.str;refine⟨_,hk,.int .u8 ((s.getD i.toNat 0).toNat:Int),?_,.imm _ _ (.int _ _)⟩;have hsz:=ZW hb;have hlt:i.toNat<b.size:=by omega
   have e:b[i.toNat]?=some (s.getD i.toNat 0):=by
    have h1:b[i.toNat]?=some b[i.toNat]:=getElem?_pos b i.toNat hlt;rw[h1];congr 1;have h2:b[i.toNat]=b.data[i.toNat]:=rfl;rw[h2];subst hb;rw[List.getD_eq_getElem?_getD,Array.getElem?_toList,Array.getElem?_eq_getElem hlt];rfl
   simp[Instr.index,asIntOf,qe (kb hs),hc.1,e]
  |_=>simp at hk
 |agg l =>
  cases i with
  |int kk i =>
   dsimp only at hk;cases ha:Qu P t with
   |none=>simp[ha] at hk
   |some p =>
    obtain⟨n,e⟩:=p;rw[ha] at hk;obtain⟨hc,hk⟩:=qc hk;simp only[Bool.and_eq_true,decide_eq_true_eq] at hc;obtain⟨⟨hkn,h0⟩,hlt⟩:=hc;have hk:=zj (by omega) hk;obtain rfl:=hi.int;obtain⟨cs,rfl,hl,h1,hc⟩:=hx.agg_inv;obtain⟨y,hy,u,hrun,hr⟩:=kJ (g:=g) (h:=h) (w:=w) (P:=P) hk hl h1 hc;refine⟨y,hy,u,?_,hr⟩;simp[Instr.index,asIntOf,qe (Zn ha),h0,hlt,qR hkn,hrun]
  |_=>simp at hk
 |_=>cases i<;>simp at hk
theorem jT{x:T}{ix:Nat}{v:Value}{k:qO R}{r:R}(hk:Zh x ix h k=some r)(hx:g.VR h w x v) :
 ∃y,k y h false=some r/\∃u,(Instr.extract v ix).run P w = .ok u w/\g.VR h w y u:=by
 cases x with
 |tup l =>
  simp only[Zh] at hk;cases hl:l[ix]? with
  |none=>simp[hl] at hk
  |some y =>
   rw[hl] at hk;obtain⟨cs,rfl,hlen,hc⟩:=hx.tup_inv;obtain⟨u,hu,hr⟩:=hc ix y hl;exact⟨y,hk,u,by simp[Instr.extract,hu],hr⟩
 |_=>simp[Zh] at hk
end
section
variable {P:Program} {R:Type} {g:Gh} {h:qa} {w:World}
theorem QK(b:ByteArray):b.toList=b.data.toList:=ByteArray.toList_eq b
theorem qfk{t:TypeId}(h:qd2 P t=true):P.underlying t=some .bool:=by
 unfold qd2 at h;cases hu:P.underlying t with
 |none=>simp[hu] at h
 |some d=>rw[hu] at h;cases d<;>simp at h;rfl
theorem qfO{t:TypeId}(h:qfJ P t=true):∃k,P.underlying t=some (.int k):=by
 unfold qfJ at h;cases hu:P.underlying t with
 |none=>simp[hu] at h
 |some d=>rw[hu] at h;cases d<;>simp at h;exact⟨_,rfl⟩
theorem jU{t:TypeId}(h:qb7 P t=true):∃a b c,P.underlying t=some (.func a b c):=by
 unfold qb7 at h;cases hu:P.underlying t with
 |none=>simp[hu] at h
 |some d=>rw[hu] at h;cases d<;>simp at h;exact⟨_,_,_,rfl⟩
theorem qdj{t:TypeId}{fs:List Field}(h:YS P t=some fs):∃a,P.underlying t=some (.struct a)/\a.toList=fs:=by
 unfold YS at h;cases hu:P.underlying t with
 |none=>simp[hu] at h
 |some d=>rw[hu] at h;cases d<;>simp at h;exact⟨_,rfl,h⟩
theorem qau(a b:Bool):(bif a then b else !b)=(a==b):=by cases a<;>cases b<;>rfl
theorem ye{d:Nat}{eq:TypeId->T->T->(Bool->Option R)->Option R}
 (heq:∀{t x y k r u v},eq t x y k=some r->g.VR h w x u->g.VR h w y v->∃b,k b=some r/\(Op.equalIn d t u v).run P w = .ok b w)
 {l m:List T} {xs ys:Array Value} (hl:l.length=xs.size) (hl1:∀(i:Nat) (u:Value),xs[i]?=some u->u.oneCell'=true) (hlc:∀(i:Nat) (c:T),l[i]?=some c->∃u,xs[i]?=some u/\g.VR h w c u)
 (hm:m.length=ys.size) (hm1:∀(i:Nat) (u:Value),ys[i]?=some u->u.oneCell'=true) (hmc:∀(i:Nat) (c:T),m[i]?=some c->∃u,ys[i]?=some u/\g.VR h w c u) :
 ∀(fs:List Field) (k:Bool->Option R) (r:R),eqFields P eq l m fs k=some r->∃b,k b=some r/\(Op.eqFields d xs ys fs).run P w = .ok b w
 |[],k,r,hk=>⟨true,hk,by simp[Op.eqFields]⟩
 |f::fs,k,r,hk=>by
  simp only[eqFields] at hk;rcases qk hk with⟨hn,hk⟩|⟨hn,hk⟩
  ·obtain⟨b,h1,h2⟩:=ye heq hl hl1 hlc hm hm1 hmc fs k r hk;refine⟨b,h1,?_⟩;simp only[Op.eqFields];rw[if_neg (by simpa using hn)];exact h2
  ·obtain⟨x,hk,u,hu,hxu⟩:=kJ hk hl hl1 hlc;obtain⟨y,hk,v,hv,hyv⟩:=kJ hk hm hm1 hmc;obtain⟨b,hk,hrun⟩:=heq hk hxu hyv;simp only[Op.eqFields];rw[if_pos (by simpa using hn)];rcases qk hk with⟨rfl,hk⟩|⟨rfl,hk⟩
   ·obtain⟨b,h1,h2⟩:=ye heq hl hl1 hlc hm hm1 hmc fs k r hk;exact⟨b,h1,by simp[hu,hv,hrun,h2]⟩
   ·exact⟨false,hk,by simp[hu,hv,hrun]⟩
theorem Kh{d:Nat}{eq:TypeId->T->T->(Bool->Option R)->Option R}
 (heq:∀{t x y k r u v},eq t x y k=some r->g.VR h w x u->g.VR h w y v->∃b,k b=some r/\(Op.equalIn d t u v).run P w = .ok b w)
 {l m:List T} {xs ys:Array Value} (hl:l.length=xs.size) (hl1:∀(i:Nat) (u:Value),xs[i]?=some u->u.oneCell'=true) (hlc:∀(i:Nat) (c:T),l[i]?=some c->∃u,xs[i]?=some u/\g.VR h w c u)
 (hm:m.length=ys.size) (hm1:∀(i:Nat) (u:Value),ys[i]?=some u->u.oneCell'=true) (hmc:∀(i:Nat) (c:T),m[i]?=some c->∃u,ys[i]?=some u/\g.VR h w c u) (e:TypeId) :
 ∀(is:List Nat) (k:Bool->Option R) (r:R),eqItems P eq l m e is k=some r->∃b,k b=some r/\(Op.eqItems d e (P.cellsOf e) xs ys is).run P w = .ok b w
 |[],k,r,hk=>⟨true,hk,by simp[Op.eqItems]⟩
 |i::is,k,r,hk=>by
  simp only[eqItems] at hk;obtain⟨x,hk,u,hu,hxu⟩:=kJ hk hl hl1 hlc;obtain⟨y,hk,v,hv,hyv⟩:=kJ hk hm hm1 hmc;obtain⟨b,hk,hrun⟩:=heq hk hxu hyv;simp only[Op.eqItems];rcases qk hk with⟨rfl,hk⟩|⟨rfl,hk⟩
  ·obtain⟨b,h1,h2⟩:=Kh heq hl hl1 hlc hm hm1 hmc e is k r hk;exact⟨b,h1,by simp[hu,hv,hrun,h2]⟩
  ·exact⟨false,hk,by simp[hu,hv,hrun]⟩
theorem qfP{t:TypeId}{n:Nat}{e:TypeId}(h:qc1 P t=some (n,e)):P.underlying t=some (.array n e)/\∃i,P.info? e=some i:=by
 unfold qc1 at h;split at h
 ·next n' e' hu =>
  split at h
  ·next i hi =>
   cases h;exact⟨hu,i,hi⟩
  ·cases h
 ·cases h
theorem Ym:∀(d n:Nat) {t:TypeId} {x y:T} {k:Bool->Option R} {r:R} {u v:Value},YL P d t x y k=some r->g.VR h w x u->g.VR h w y v →
 ∃b,k b=some r/\(Op.equalIn (d+n) t u v).run P w = .ok b w
 |0,_,_,_,_,_,_,_,_,hk,_,_=>by simp[YL] at hk
 |d+1,n,t,x,y,k,r,u,v,hk,hx,hy=>by
  rw[show d+1+n=(d+n)+1 by omega];cases x with
  |int kx a =>
   cases y with
   |int ky b =>
    simp only[YL] at hk;obtain⟨hc,hk'⟩:=qc hk;clear hk;have hk:=hk';clear hk';simp only[Bool.and_eq_true,decide_eq_true_eq] at hc;obtain⟨ht,hkk⟩:=hc;subst hkk;obtain⟨k',ht⟩:=qfO ht;obtain rfl:=hx.int;obtain rfl:=hy.int;exact⟨_,hk,by rw[run_equalIn_int w (d+n) t kx k' a b ht];rfl⟩
   |_=>simp[YL] at hk
  |bool a =>
   cases y with
   |bool b =>
    simp only[YL] at hk;obtain⟨ht,hk⟩:=qc hk;obtain rfl:=hx.bool;obtain rfl:=hy.bool;exact⟨_,hk,by rw[run_equalIn_bool' w (d+n) t a b (qfk ht),qau]⟩
   |_=>simp[YL] at hk
  |str a =>
   cases y with
   |str b =>
    simp only[YL] at hk;obtain⟨ht,hk⟩:=qc hk;obtain⟨ba,rfl,ha⟩:=hx.str;obtain⟨bb,rfl,hb⟩:=hy.str;refine⟨_,hk,?_⟩;rw[run_equalIn_string w (d+n) t ba bb (kb ht),QK,QK,ha,hb];congr 1;rw[Bool.eq_iff_iff];simp
   |_=>simp[YL] at hk
  |agg l =>
   cases y with
   |agg m =>
    simp only[YL] at hk;cases hs:YS P t with
    |none =>
     rw[hs] at hk;dsimp only at hk;cases ha:qc1 P t with
     |none=>rw[ha] at hk;cases hk
     |some ne =>
      rw[ha] at hk;obtain⟨hu,i,hi⟩:=qfP (n:=ne.1) (e:=ne.2) ha;obtain⟨cs,rfl,hl,h1,hc⟩:=hx.agg_inv;obtain⟨cs',rfl,hl',h1',hc'⟩:=hy.agg_inv;obtain⟨b,h2,h3⟩:=Kh (d:=d+n) (fun {t x y k r u v} hk hx hy=>Ym d n hk hx hy) hl h1 hc hl' h1' hc' ne.2 (List.range ne.1) k r hk;exact⟨b,h2,by rw[run_equalIn_array w (d+n) cs cs' hu hi];exact h3⟩
    |some fs =>
     rw[hs] at hk;rcases qk hk with⟨_,hk⟩|⟨hst,hk⟩
     ·cases hk
     obtain⟨a,hu,hfs⟩:=qdj hs;obtain⟨cs,rfl,hl,h1,hc⟩:=hx.agg_inv;obtain⟨cs',rfl,hl',h1',hc'⟩:=hy.agg_inv;have hf:P.fieldsOf t=a:=by simp[Program.fieldsOf,hu]
     obtain⟨b,h2,h3⟩:=ye (d:=d+n) (fun {t x y k r u v} hk hx hy=>Ym d n hk hx hy) hl h1 hc hl' h1' hc' fs k r hk;exact⟨b,h2,by rw[run_equalIn_struct w (d+n) t cs cs' (by rw[hf];exact hu) hst,hf,hfs];exact h3⟩
   |_=>simp[YL] at hk
  |_=>simp[YL] at hk
theorem Q6{i ver off len:Nat}{cap:Option Nat}{b:Blk}{v:Value}(hb:h[i]?=some b)(hver:b.ver=ver)(hx:g.VR h w (.own i ver off len cap) v) :
 qfL w g.φ b i off len cap v:=by
 obtain⟨b',hb',_,_,hp⟩:=hx.own_inv;rw[hb] at hb';obtain rfl:=Option.some.inj hb';exact hp hver
theorem qeQ{i ver off len:Nat}{cap:Option Nat}{b:Blk}{v:Value}(hb:h[i]?=some b)(hver:b.ver=ver)(hx:g.VR h w (.own i ver off len cap) v)(hn:0<b.n) :
 qg8 w g.φ b i off len cap v:=by
 rcases Q6 hb hver hx with q|⟨_,q,_⟩
 ·exact q
 ·omega
theorem Zo(w:World)(d:Nat){t e:TypeId}(ht:P.underlying t=some (.slice e))(a:Option Addr)(l c:Nat):(Op.equalIn (d+1) t (.slice none 0 0) (.slice a l c)).run P w = .ok a.isNone w:=by
 simp[Op.equalIn,qe ht]
theorem yw(w:World)(d:Nat){t e:TypeId}(ht:P.underlying t=some (.slice e))(a:Addr)(l c:Nat):(Op.equalIn (d+1) t (.slice (some a) l c) (.slice none 0 0)).run P w = .ok false w:=by
 simp[Op.equalIn,qe ht]
theorem jV(w:World)(d:Nat){t:TypeId}{a b:Array TypeId}{c:Bool}(ht:P.underlying t=some (.func a b c)):(Op.equalIn (d+1) t .nilFunc .nilFunc).run P w = .ok true w:=by
 simp[Op.equalIn,qe ht]
theorem ji(w:World)(d:Nat){t:TypeId}{a b:Array TypeId}{c:Bool}(ht:P.underlying t=some (.func a b c))(f:FuncId)(cs:Array Value):(Op.equalIn (d+1) t .nilFunc (.func (.func f) #[] cs)).run P w = .ok false w:=by
 simp[Op.equalIn,qe ht]
theorem jk(w:World)(d:Nat){t:TypeId}{a b:Array TypeId}{c:Bool}(ht:P.underlying t=some (.func a b c))(f:FuncId)(cs:Array Value):(Op.equalIn (d+1) t (.func (.func f) #[] cs) .nilFunc).run P w = .ok false w:=by
 simp[Op.equalIn,qe ht]
theorem Jr{op:BinOp}{t:TypeId}{x y:T}{ox oy:Operand}{u v:Value}{k:Bool->Option R}{r:R}(hop:op = .eql∨op = .neq)(hk:J5 P t x y h k=some r)(hx:g.VR h w x u)(hy:g.VR h w y v) :
 ∃b,k b=some r/\(do eqGuard op t ox oy u v;binOp op t u v:Sem Value).run P w = .ok (.bool (if op = .eql then b else !b)) w:=by
 have fin:∀(u v:Value) (b:Bool),(eqGuard op t ox oy u v).run P w = .ok () w->(binOp .eql t u v).run P w = .ok (.bool b) w->(binOp .neq t u v).run P w = .ok (.bool (!b)) w →
  (do eqGuard op t ox oy u v;binOp op t u v:Sem Value).run P w = .ok (.bool (if op = .eql then b else !b)) w:=by
  intro u v b h1 h2 h3;rcases hop with rfl|rfl
  ·simp[h1,h2]
  ·simp[h1,h3]
 have eqv:∀(u v:Value) (b:Bool),(Op.equalIn 10000 t u v).run P w = .ok b w->(do pure (.bool (←Op.equal t u v)):Sem Value).run P w = .ok (.bool b) w/\(do pure (.bool (!(←Op.equal t u v))):Sem Value).run P w = .ok (.bool (!b)) w:=by
  intro u v b hb;constructor<;>simp[Op.equal,Op.maxDepth,hb]
 unfold J5 at hk;cases x with
 |int kx a =>
  cases y with
  |int ky b =>
   obtain⟨hc,hk'⟩:=qc hk;clear hk;have hkk:=of_decide_eq_true hc;subst hkk;obtain rfl:=hx.int;obtain rfl:=hy.int;refine⟨_,hk',fin _ _ _ ?_ ?_ ?_⟩
   ·rcases hop with rfl|rfl<;>simp[eqGuard]
   ·simp[binOp,Op.intCmp];rfl
   ·simp[binOp,Op.intCmp,bne];rfl
  |_=>simp at hk
 |str a =>
  cases y with
  |str b =>
   dsimp only at hk;obtain⟨ba,rfl,ha⟩:=hx.str;obtain⟨bb,rfl,hb⟩:=hy.str;have e:(ba.toList==bb.toList)=decide (a=b):=by rw[QK,QK,ha,hb,Bool.eq_iff_iff];simp
   refine⟨_,hk,fin _ _ _ ?_ ?_ ?_⟩
   ·rcases hop with rfl|rfl<;>simp[eqGuard]
   ·rw[binOp_string_eql,e];rfl
   ·rw[binOp_string_neq,e];rfl
  |_=>simp at hk
 |bool a =>
  cases y with
  |bool b =>
   dsimp only at hk;obtain⟨c,hc,hrun⟩:=Ym 1 9999 hk hx hy;obtain rfl:=hx.bool;obtain rfl:=hy.bool;obtain⟨e1,e2⟩:=eqv _ _ _ hrun;refine⟨_,hc,fin _ _ _ ?_ e1 e2⟩;rcases hop with rfl|rfl<;>simp[eqGuard]
  |_=>simp at hk
 |agg a =>
  cases y with
  |agg b =>
   dsimp only at hk;rcases qk hk with⟨_,hk⟩|⟨hg,hk⟩
   ·cases hk
   obtain⟨c,hc,hrun⟩:=Ym 10 9990 hk hx hy;obtain⟨cs,rfl,_⟩:=hx.agg_inv;obtain⟨cs',rfl,_⟩:=hy.agg_inv;obtain⟨e1,e2⟩:=eqv _ _ _ hrun;exact⟨_,hc,fin _ _ _ (run_eqGuard_agg w op t ox oy cs cs' hg) e1 e2⟩
  |_=>simp at hk
 |nils =>
  obtain rfl:=hx.nils;cases y with
  |nils =>
   obtain⟨ht,hk⟩:=qc hk;obtain⟨e,he⟩:=Option.isSome_iff_exists.1 ht;obtain rfl:=hy.nils;obtain⟨e1,e2⟩:=eqv (.slice none 0 0) (.slice none 0 0) true (Zo w 9999 (qH he) _ _ _);exact⟨_,hk,fin _ _ _ (by rcases hop with rfl|rfl<;>simp[eqGuard]) e1 e2⟩
  |view sz n g' cap =>
   obtain⟨ht,hk⟩:=qc hk;simp only[Bool.and_eq_true] at ht;obtain⟨ht,hne⟩:=ht;obtain⟨e,he⟩:=Option.isSome_iff_exists.1 ht;cases hy.view with
   |vnil _ _ _ hcn=>rcases hcn with h|h<;>simp[h] at hne
   |view _ _ _ _ a cc vs _ _ _ _ _ _ _ =>
    obtain⟨e1,e2⟩:=eqv (.slice none 0 0) (.slice (some a) n cc) false (Zo w 9999 (qH he) _ _ _);exact⟨_,hk,fin _ _ _ (by rcases hop with rfl|rfl<;>simp[eqGuard]) e1 e2⟩
  |own i ver off len cap =>
   obtain⟨ht,hk⟩:=qc hk;obtain⟨e,he⟩:=Option.isSome_iff_exists.1 ht;obtain⟨b,hb,hmp,hver,hk⟩:=zm hk;obtain⟨hpos,hk⟩:=qc hk;obtain⟨cb,sh,cc,ad,q1,rfl,_⟩:=qeQ hb hver hy (qU hpos);obtain⟨e1,e2⟩:=eqv (.slice none 0 0) (.slice (some ad) len cc) false (Zo w 9999 (qH he) _ _ _);exact⟨_,hk,fin _ _ _ (by rcases hop with rfl|rfl<;>simp[eqGuard]) e1 e2⟩
  |_=>simp at hk
 |view sz n g' cap =>
  cases y with
  |nils =>
   obtain⟨ht,hk⟩:=qc hk;simp only[Bool.and_eq_true] at ht;obtain⟨ht,hne⟩:=ht;obtain⟨e,he⟩:=Option.isSome_iff_exists.1 ht;obtain rfl:=hy.nils;cases hx.view with
   |vnil _ _ _ hcn=>rcases hcn with h|h<;>simp[h] at hne
   |view _ _ _ _ a cc vs _ _ _ _ _ _ _ =>
    obtain⟨e1,e2⟩:=eqv (.slice (some a) n cc) (.slice none 0 0) false (yw w 9999 (qH he) _ _ _);exact⟨_,hk,fin _ _ _ (by rcases hop with rfl|rfl<;>simp[eqGuard]) e1 e2⟩
  |_=>simp at hk
 |own i ver off len cap =>
  cases y with
  |nils =>
   obtain⟨ht,hk⟩:=qc hk;obtain⟨e,he⟩:=Option.isSome_iff_exists.1 ht;obtain rfl:=hy.nils;obtain⟨b,hb,hmp,hver,hk⟩:=zm hk;obtain⟨hpos,hk⟩:=qc hk;obtain⟨cb,sh,cc,ad,q1,rfl,_⟩:=qeQ hb hver hx (qU hpos);obtain⟨e1,e2⟩:=eqv (.slice (some ad) len cc) (.slice none 0 0) false (yw w 9999 (qH he) _ _ _);exact⟨_,hk,fin _ _ _ (by rcases hop with rfl|rfl<;>simp[eqGuard]) e1 e2⟩
  |_=>simp at hk
 |nilf =>
  obtain rfl:=hx.nilf;cases y with
  |nilf =>
   obtain⟨ht,hk⟩:=qc hk;obtain⟨a,b,c,he⟩:=jU ht;obtain rfl:=hy.nilf;obtain⟨e1,e2⟩:=eqv .nilFunc .nilFunc true (jV w 9999 he);exact⟨_,hk,fin _ _ _ (by rcases hop with rfl|rfl<;>simp[eqGuard]) e1 e2⟩
  |fn f caps =>
   obtain⟨ht,hk⟩:=qc hk;obtain⟨a,b,c,he⟩:=jU ht;obtain⟨cs,rfl,_⟩:=hy.fn_inv;obtain⟨e1,e2⟩:=eqv .nilFunc (.func (.func f) #[] cs) false (ji w 9999 he f cs);exact⟨_,hk,fin _ _ _ (by rcases hop with rfl|rfl<;>simp[eqGuard]) e1 e2⟩
  |_=>simp at hk
 |fn f caps =>
  cases y with
  |nilf =>
   obtain⟨ht,hk⟩:=qc hk;obtain⟨a,b,c,he⟩:=jU ht;obtain rfl:=hy.nilf;obtain⟨cs,rfl,_⟩:=hx.fn_inv;obtain⟨e1,e2⟩:=eqv (.func (.func f) #[] cs) .nilFunc false (jk w 9999 he f cs);exact⟨_,hk,fin _ _ _ (by rcases hop with rfl|rfl<;>simp[eqGuard]) e1 e2⟩
  |_=>simp at hk
 |_=>cases y<;>simp at hk
end
end Go.Ab

