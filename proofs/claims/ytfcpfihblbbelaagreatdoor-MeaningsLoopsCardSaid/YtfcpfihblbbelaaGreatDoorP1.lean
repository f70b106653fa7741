/- A part of the proof: nothing is assumed. -/
import Derived.KernelRfl
import GoSem.Step
import Derived.WalkKit
import Derived.Maps.OwnIn
import Derived.WideKeyEntry
import Derived.IntWalk
import Derived.ChangeKeysEq
import Derived.Laws.Cover1
set_option linter.all false
namespace Go.Ab
def Uf{p:Prop}(h:p:=by grind):p:=h
def wa:=@Option.some.inj
def wc:=@Nat.le_refl
def we:=@if_neg
def wg:=@Bool.and_eq_true
def wh:=@List.getD_eq_getElem?_getD
def wi:=@Option.some.injEq
def wj:=@List.getElem?_eq_getElem
def wl:=@if_pos
def wm:=@cond_true
def wn:=@Nat.zero_add
def wo:=@List.mem_of_getElem?
def wp:=@cond_false
def wq:=@decide_eq_true
def wt:=@Nat.lt_or_ge
def wu:=@Int.ofNat_eq_natCast
def wx:=@List.getElem?_append_left
def wy:=@Prod.mk.injEq
def wz:=@List.getElem?_eq_none
def wA:=@List.all_eq_true
def wC:=@decide_eq_true_eq
def wD:=@List.length_append
def wE:=@List.getElem?_map
def wF:=@beq_self_eq_true
def wG:=@Array.getD_eq_getD_getElem?
def wH:=@List.getElem?_append_right
def wI:=@Option.map_eq_some_iff
def wJ:=@Nat.mul_le_mul_right
def wK:=@List.mem_cons
def wL:=@Array.getElem?_eq_getElem
def wM:=@List.mem_singleton
def wN:=@Nat.le_trans
def wO:=@List.getElem?_cons_zero
def wP:=@List.getElem?_set_self
def wQ:=@List.length_map
def wR:=@Nat.zero_le
def wS:=@List.mem_append
def wT:=@List.mem_cons_of_mem
def wV:=@List.getElem?_set_ne
def wW:=@Nat.sub_self
def wX:=@List.append_assoc
def wY:=@Bool.or_eq_false_iff
def wZ:=@Nat.add_mul
def va:=@List.map_congr_left
def vb:=@List.mem_map
def vc:=@List.length_cons
def vd:=@Nat.lt_of_lt_of_le
def ve:=@if_false
def vf:=@beq_iff_eq
def vg:=@Bool.cond_eq_ite
def vh:=@Option.isSome_iff_exists
def vm:=@Nat.not_lt_zero
def vn:=@Bool.not_eq_true'
def vo:=@List.length_drop
def vq:=@Nat.ne_of_lt
def vt:=@Array.getElem?_toList
def vu:=@List.append_nil
def vv:=@List.getElem?_take_of_lt
def vy:=@List.Perm.append_right
def vA:=@List.getElem?_drop
def vB:=@List.length_take
def vD:=@congrArg
def vE:=@List.length_nil
def vF:=@List.map_append
def vG:=@Nat.add_assoc
def vH:=@if_true
def vI:=@List.forall_mem_cons
def vJ:=@Option.isNone_none
def vK:=@List.mem_cons_self
def vL:=@Nat.lt_one_iff
def vM:=@Array.mem_of_getElem?
def vN:=@List.eq_nil_of_length_eq_zero
def vO:=@List.length_reverse
def vQ:=@List.mem_range
def vS:=@Nat.eq_zero_or_pos
def vU:=@Prod.mk.inj
def vV:=@Nat.ble_eq_true_of_le
def vW:=@List.getElem?_range
def vX:=@Option.map_some
def vY:=@Bool.or_eq_true
def vZ:=@List.getElem?_cons_succ
def xa:=@List.not_mem_nil
def xb:=@Array.getElem?_eq_none
def xc:=@List.mem_iff_getElem?
def xf:=@List.Perm.append_left
def xg:=@List.pairwise_cons
def xh:=@Int.tmod_eq_emod_of_nonneg
def xj:=@List.range_succ
def xk:=@decide_eq_false
def xl:=@Bool.not_eq_true
def xm:=@List.take_length
def xn:=@List.nil_sublist
def xo:=@List.getElem?_eq_some_iff
def xp:=@List.getElem?_zip_eq_some
def xq:=@Array.length_toList
def xr:=@Nat.one_mul
def xt:=@List.length_range
def xu:=@Nat.le_of_ble_eq_true
def xv:=@List.getElem?_toArray
def xw:=@List.take_append_drop
def xx:=@Bool.true_and
def xy:=@Bool.false_eq_true
def xz:=@Option.getD_some
def xA:=@List.map_cons
def xB:=@List.nodup_append
def xC:=@Nat.add_le_add_left
def xD:=@List.length_singleton
def xE:=@Nat.eq_of_beq_eq_true
def xF:=@List.getElem?_reverse
def xG:=@List.mem_flatMap
def xH:=@Nat.le_add_right
def xI:=@Array.all_eq_true'
def xJ:=@List.all_cons
def xK:=@List.mem_append_left
def xL:=@List.foldl_append
def xM:=@List.length_set
def xN:=@List.flatten_append
def xO:=@Bool.and_self
def xP:=@List.map_id
def xQ:=@List.isEmpty_iff
def xR:=@List.getElem?_take
def xS:=@Array.getElem?_append_left
def xT:=@Bool.false_and
def xU:=@List.perm_append_comm
def xV:=@Nat.add_zero
def xX:=@List.mem_of_mem_take
def xY:=@List.length_dropLast
def xZ:=@List.mem_of_mem_drop
def ua:=@List.mem_iff_getElem
def ub:=@Bool.false_or
def uc:=@Array.toList_modify
def ud:=@beq_eq_false_iff_ne
def ue:=@List.length_pos_iff
def uf:=@Array.toList_map
def ug:=@List.map_reverse
def qh{α:Sort _}{a b:α}(h:a=b:=by kernel_rfl):a=b:=h
def ae{p:Prop}(h:p:=by omega):p:=h
def bH{p:Prop}(h:p:=by simp only[wu];omega):p:=h
def au{p:Prop}(h:p:=by simp):p:=h
def n5:List Int->List Int->Bool
 |[],[]=>true
 |a::l,b::m=>decide (a=b)&&n5 l m
 |_,_=>false
def jD:∀{l m:List Int},n5 l m=true↔l=m
 |[],[]=>by simp[n5]
 |a::l,b::m=>by simp[n5,jD (l:=l) (m:=m)]
 |[],_::_=>by simp[n5]
 |_::_,[]=>by simp[n5]
def KP(l:List Int):n5 l l=true:=jD.2 rfl
def MB{l m:List Int}(h:l≠m):n5 l m=false:=by
 rw[Bool.eq_false_iff];exact λq=>h (jD.1 q)
inductive KS where
 |int (q:IntKind)
 |row (l:List (Option IntKind))
deriving DecidableEq
structure bp where
 ks:KS
 q:IntKind
 has:List Int->Bool
 val:List Int->Int
 born:List Int->Nat
 clock:Nat
 last:Option (List Int×Nat)
def bp.lc(m:bp)(k:List Int):Nat:=bif m.has k then m.born k else m.clock
def bp.put(m:bp)(k:List Int)(z:Int):bp :=
 { ks:=m.ks,q:=m.q,has:=λl=>n5 l k || m.has l,val:=λl=>bif n5 l k then z else m.val l,born:=λl=>bif n5 l k then m.lc k else m.born l,clock:=bif m.has k then m.clock else m.clock+1,last:=none }
def bp.entry(m:bp)(k:List Int):bp:={ m.put k (m.val k) with last:=some (k,m.lc k) }
def bp.del(m:bp)(k:List Int):bp :=
 { ks:=m.ks,q:=m.q,has:=λl=>!(n5 l k)&&m.has l,val:=λl=>bif n5 l k then 0 else m.val l,born:=m.born,clock:=m.clock,last:=none }
def bp.made(ks:KS)(q:IntKind):bp:=⟨ks,q,λ_=>false,λ_=>0,λ_=>0,0,none⟩
def cV{A:Type}(f:∀R:Type,(A->Option R)->Option R):Prop:=(∀R k,f R k=none)∨∃a,∀R k,f R k=k a
def qH{A:Type}{f:∀R:Type,(A->Option R)->Option R}(i:cV f){R:Type}{k:A->Option R}{r:R}(d:f R k=some r):∃a,k a=some r/\∀(g:Type) (e:A->Option g),f g e=e a:=by
 rcases i with h|⟨a,h⟩
 .rw[h] at d;cases d
 .exact⟨a,(h R k).symm.trans d,h⟩
inductive T where
 |undef
 |gone
 |bool (b:Bool)
 |int (k:IntKind) (n:Int)
 |str (s:List UInt8)
 |lB
 |vp (cells:List T)
 |ptr (i aj j o:Nat)
 |ag
 |view (sz n:Nat) (g:Nat->List T) (cap:Option Nat)
 |own (i aj off len:Nat) (cap:Option Nat)
 |fresh (flat:Bool) (sz n:Nat) (g:Nat->List T) (len:Nat) (cap:Option Nat)
 |eu
 |fn (f:FuncId) (aE:List T)
 |agg (l:List T)
 |aK (l:List T)
 |mz
 |iface (t:TypeId) (v:T)
 |lC
 |ah (cells:List T)
 |rW (l:Nat)
 |new (x:T)
 |mp (i aj:Nat)
 |iG (m:bp)
abbrev JO:=List T
abbrev Wa:=List Nat
abbrev V9:=Nat->Option JO
instance:Inhabited T:=⟨.undef⟩
structure aq where
 aj:Nat
 sz:Nat
 n:Nat
 get:Nat->List T
 flat:Bool
 oD:Bool
 mp:Option bp
def ke(aj:Nat)(m:bp):aq:=⟨aj,0,0,λ_=>[],false,false,some m⟩
abbrev qa:=List aq
inductive Tr where
 |nil
 |leaf (v:T)
 |node (l r:Tr)
def Tr.get:Nat->Tr->Nat->T
 |0,.leaf v,_=>v
 |d+1,.node l r,i=>bif i%2==0 then Tr.get d l (i/2) else Tr.get d r (i/2)
 |_,_,_=>.undef
def Tr.set:Nat->Tr->Nat->T->Tr
 |0,_,_,v=>.leaf v
 |d+1,.node l r,i,v=>bif i%2==0 then .node (Tr.set d l (i/2) v) r else .node l (Tr.set d r (i/2) v)
 |d+1,_,i,v=>bif i%2==0 then .node (Tr.set d .nil (i/2) v) .nil else .node .nil (Tr.set d .nil (i/2) v)
def QQ:Nat:=10
structure St where
 env:Tr
 loc:Nat->Option (Nat×Nat)
 used:Nat->Bool
 h:qa
def St.at(s:St)(t:Nat):T:=bif Nat.blt t 1024 then s.env.get QQ t else .undef
structure du where
 slot:Option (Nat×T)
 place:Option (Nat×Option (Nat×Nat))
 heap:Option qa
def H6(env:Tr):Option (Nat×T)->Tr
 |some (d,v)=>env.set QQ d v
 |none=>env
def Yp(loc:Nat->Option (Nat×Nat)):Option (Nat×Option (Nat×Nat))->Nat->Option (Nat×Nat)
 |some (d,p)=>λe=>bif e==d then p else loc e
 |none=>loc
def yE(used:Nat->Bool):Option (Nat×Option (Nat×Nat))->Nat->Bool
 |some (_,some (t,_))=>λx=>bif x==t then true else used x
 |_=>used
def du.dN(f:du)(s:St):St:={ env:=H6 s.env f.slot,loc:=Yp s.loc f.place,used:=yE s.used f.place,h:=f.heap.getD s.h }
def kY:Value->T
 |.bool b=>.bool b
 |.int k n=>.int k n
 |.string s=>.str s.data.toList
 |.pointer none=>.lB
 |.slice none 0 0=>.ag
 |.nilFunc=>.eu
 |.nilIface=>.mz
 |.map none=>.lC
 |_=>.undef
def KH:Value->T
 |.agg a=>.agg (a.toList.map kY)
 |.tuple a=>.aK (a.toList.map kY)
 |v=>kY v
def H7:Value->Bool
 |.agg a=>a.toList.all λ|.agg _|.tuple _=>false|_=>true
 |_=>true
def T.cells:T->List T
 |.agg l=>l
 |v=>[v]
def ZH:T->Bool
 |.undef|.gone|.aK _|.ah _|.fresh ..|.new _|.iG _=>false
 |_=>true
def zK:T->Bool
 |.undef|.gone|.bool _|.int _ _|.str _|.lB|.vp _|.ag|.view ..|.eu|.mz|.lC|.rW _=>true
 |.fn _ a=>a.isEmpty
 |_=>false
def aH:T->Bool
 |.agg l=>l.all zK
 |.aK l=>l.all zK
 |.fn _ a=>a.all zK
 |.iface _ v=>zK v
 |v=>zK v
def qG:T->Bool
 |.undef|.bool _|.int _ _|.str _=>true
 |_=>false
section
variable (P:Program)
def yf(t:TypeId):Bool:=match P.underlying t with
 |some (.struct _)|some (.array _ _)=>true
 |_=>false
def qN(t:TypeId):Nat:=match P.info? t with|some i=>i.size|none=>0
def zv(t:TypeId):Bool:=match P.info? t with|some _=>true|none=>false
def YT(t:TypeId):Nat:=match P.info? t with|some i=>i.bytes|none=>0
def Qi(t:TypeId):List T:=match P.info? t with
 |some i=>match i.zero with|some v=>(KH v).cells|none=>[]
 |none=>[]
def y5(t:TypeId):Bool:=match P.info? t with
 |some i=>match i.zero with|some v=>(v.cells.size==i.size)&&H7 v&&(match v with|.tuple _=>false|_=>true)|none=>false
 |none=>false
def qT(t:TypeId):Option TypeId:=match P.underlying t with
 |some (.slice e)=>some e
 |_=>none
def JT(t:TypeId):Bool:=match P.underlying t with
 |some .string=>true
 |_=>false
def Zi(t:TypeId)(f:Nat):Option (Nat×TypeId):=match P.underlying t with
 |some (.struct fs)=>match fs[f]? with|some x=>bif zv P x.type&&!(qN P x.type==0) then some (x.offset,x.type) else none|none=>none
 |_=>none
def QR(t:TypeId):Option (Nat×TypeId):=match P.underlying t with
 |some (.array n e)=>some (n,e)
 |_=>none
variable {R:Type}
abbrev Qd(R:Type):=T->qa->Bool->Option R
def ld(t:TypeId)(cells:List T)(k:T->Option R):Option R :=
 match P.underlying t with
 |none=>none
 |some _=>bif yf P t then(bif Nat.ble (qN P t) cells.length then k (.agg (cells.take (qN P t))) else none)
  else match cells with
   |c::_=>k c
   |[]=>none
def y6(cells:List T)(o:Nat)(new:List T):List T :=
 cells.take o++new++cells.drop (o+new.length)
def MC(sz:Nat)(cells:List T)(o:Nat)(new:List T):List T:=bif (o==0)&&(new.length==sz) then new else y6 cells o new
def qpn{sz:Nat}{cells:List T}{o:Nat}{new:List T}(h:cells.length=sz):MC sz cells o new=y6 cells o new:=by
 unfold MC;cases a:(o==0)&&(new.length==sz) with
 |false=>rfl
 |true =>
  simp only[wg,vf] at a;obtain⟨rfl,rfl⟩:=a;unfold y6;simp[←h]
def Qc(h:qa)(i aj:Nat)(k:aq->Option R):Option R :=
 match h[i]? with
 |some b=>bif (b.aj==aj)&&b.mp.isNone then k b else none
 |none=>none
def Yb(h:qa)(i aj:Nat)(k:aq->bp->Option R):Option R :=
 match h[i]? with
 |some b=>bif b.aj==aj then(match b.mp with|some m=>k b m|none=>none) else none
 |none=>none
def kZ(t:TypeId)(v:T)(h:qa)(k:Qd R):Option R :=
 match v with
 |.vp cells=>ld P t cells λx=>k x h false
 |.ptr i aj j o=>Qc h i aj λb=>bif Nat.blt j b.n then ld P t ((b.get j).drop o) λx=>k x h false else none
 |_=>none
def MD(c:Bool)(x y:T):T:=match x,y with
 |.int k a,.int d b=>bif decide (k=d) then .int k (bif c then a else b) else(bif c then .int k a else .int d b)
 |.bool a,.bool b=>.bool (bif c then a else b)
 |x,y=>bif c then x else y
def k8(c:Bool):List T->List T->List T
 |x::l,y::m=>MD c x y::k8 c l m
 |[],[]=>[]
 |l,m=>bif c then l else m
def qkL(c:Bool)(x y:T):MD c x y=bif c then x else y:=by
 unfold MD;split
 .rename_i k a d b;cases e:decide (k=d) with
  |false=>rfl
  |true =>
   obtain rfl:k=d:=by simpa using e
   cases c<;>rfl
 .cases c<;>rfl
 .rfl
def kB(c:Bool):∀(l m:List T),k8 c l m=bif c then l else m
 |x::l,y::m=>by
  simp only[k8,qkL,kB c l m];cases c<;>rfl
 |[],[]=>by cases c<;>rfl
 |[],_::_=>rfl
 |_::_,[]=>rfl
def aq.tP(b:aq)(j:Nat)(cells:List T):aq :=
 { b with get:=λe=>k8 (e==j) cells (b.get e),flat:=b.flat&&cells.all qG }
def KQ(t:TypeId)(a v:T)(h:qa)(k:Qd R):Option R :=
 match a with
 |.ptr i aj j o=>Qc h i aj λb =>
  bif zv P t&&Nat.blt j b.n&&(v.cells.length==qN P t)&&ZH v&&Nat.ble (o+qN P t) b.sz then
   k .undef (h.set i (b.tP j (MC b.sz (b.get j) o v.cells))) true
  else none
 |_=>none
def JU(cells:List T)(h:qa)(k:Qd R):Option R :=
 k (.ptr h.length 0 0 0) (h++[⟨0,cells.length,1,λ_=>cells,cells.all qG,false,none⟩]) true
def ME:T->T->Bool
 |.bool a,.bool b=>a==b
 |.int k a,.int d b=>decide (k=d)&&decide (a=b)
 |.ag,.ag=>true
 |.lB,.lB=>true
 |.lC,.lC=>true
 |.str [],.str []=>true
 |_,_=>false
def D0:List T->List T->Bool
 |[],[]=>true
 |a::l,b::m=>ME a b&&D0 l m
 |_,_=>false
def MF(ty:TypeId):Option (Nat×Nat×List T):=match QR P ty with
 |some (n,e)=>bif Nat.ble 9 n&&((Qi P e).length==qN P e)&&D0 (Qi P ty) (List.replicate n (Qi P e)).flatten then some (n,qN P e,Qi P e) else none
 |none=>none
def Yi(ty:TypeId)(h:qa)(k:Qd R):Option R :=
 match MF P ty with
 |some (n,sz,z)=>k (.ptr h.length 0 0 0) (h++[⟨0,sz,n,λ_=>z,z.all qG,false,none⟩]) true
 |none=>JU (Qi P ty) h k
def YU(place:Nat->Option (Nat×Nat))(cells:List T):List (Nat×T)->(List T->Option R)->Option R
 |[],k=>k cells
 |(i,v)::a,k =>
  match place i with
  |none=>none
  |some (d,size) =>
   bif (v.cells.length==size)&&ZH v&&Nat.ble (d+size) cells.length then YU place (y6 cells d v.cells) a k else none
def MG(fs:Array Field)(i:Nat):Option (Nat×Nat):=match fs[i]? with
 |some f=>some (f.offset,qN P f.type)
 |none=>none
def RT(sz:Nat)(i:Nat):Option (Nat×Nat):=some (i*sz,sz)
def KR(t:TypeId)(a:List (Nat×T))(h:qa)(k:Qd R):Option R :=
 match P.underlying t with
 |some (.struct fs)=>bif y5 P t&&fs.toList.all (λf=>zv P f.type) then YU (MG P fs) (Qi P t) a λl=>k (.agg l) h false else none
 |some (.array _ e)=>bif y5 P t&&zv P e then YU (RT (qN P e)) (Qi P t) a λl=>k (.agg l) h false else none
 |_=>none
def Yq(sz:Nat)(d:List (List T)):List (Nat×T)->(List (List T)->Option R)->Option R
 |[],k=>k d
 |(i,v)::a,k=>bif (v.cells.length==sz)&&ZH v&&Nat.blt i d.length then Yq sz (d.set i v.cells) a k else none
def zO(t:TypeId)(len:Nat)(a:List (Nat×T))(h:qa)(k:Qd R):Option R :=
 match qT P t with
 |some e=>bif y5 P e&&Nat.ble (len*qN P e) 16777216 then
  Yq (qN P e) (List.replicate len (Qi P e)) a λd =>
   k (.own h.length 0 0 len (some len)) (h++[⟨0,qN P e,len,λj=>d.getD j [],d.all (·.all qG),Nat.ble len 8,none⟩]) true
  else none
 |none=>none
def yT(t:TypeId)(len:Nat)(a:List (Nat×T))(k:T->Option R):Option R :=
 match qT P t with
 |some e=>bif y5 P e&&Nat.ble (len*qN P e) 16777216 then
  Yq (qN P e) (List.replicate len (Qi P e)) a λd =>
   bif d.all (·.all aH) then k (.view (qN P e) len (λj=>d.getD j []) (some len)) else none
  else none
 |none=>none
def JV(t:TypeId)(l c:T)(h:qa)(k:Qd R):Option R :=
 match qT P t,l,c with
 |some e,.int _ l,.int _ c =>
  bif y5 P e then
   bif decide (0<=l)&&decide (l<=c)&&decide (c*(YT P e:Int)<=140737488355328)&&decide (c<=9223372036854775807) then
    k (.own h.length 0 0 l.toNat (some c.toNat)) (h++[⟨0,qN P e,c.toNat,λ_=>Qi P e,(Qi P e).all qG,false,none⟩]) true
   else none
  else none
 |_,_,_=>none
def k9(x:Option T)(d:Int)(k:Int->Option R):Option R :=
 match x with
 |none=>k d
 |some (.int _ i)=>k i
 |some _=>none
def Yr(len gn:Nat)(cap:Option Nat)(e a d:Option T)(k:Nat->Nat->Option Nat->Option R):Option R :=
 k9 e 0 λl=>k9 a (len:Int) λh =>
  match d with
  |none=>bif decide (0<=l)&&decide (l<=h)&&decide (h<=(cap.getD gn:Int)) then
   k l.toNat h.toNat (cap.map λc=>c-l.toNat) else none
  |some (.int _ m)=>match a with
   |none=>none
   |some _=>bif decide (0<=l)&&decide (l<=h)&&decide (h<=m)&&decide (m<=(cap.getD gn:Int)) then
    k l.toNat h.toNat (some (m.toNat-l.toNat)) else none
  |some _=>none
def zh(t:TypeId)(x:T)(f o d:Option T)(h:qa)(k:Qd R):Option R :=
 match x with
 |.str s=>match d with
  |none=>bif JT P t then Yr s.length s.length (some s.length) f o none λl r _=>k (.str ((s.take r).drop l)) h false else none
  |_=>none
 |.ag=>match qT P t with
  |some e=>bif zv P e then Yr 0 0 (some 0) f o d λ_ _ _=>k .ag h false else none
  |none=>none
 |.view sz n g cap=>match qT P t with
  |some e=>bif zv P e&&(sz==qN P e) then Yr n n cap f o d λl r c=>bif Nat.ble r n then k (.view sz (r-l) (λj=>g (l+j)) c) h false else none
   else none
  |none=>none
 |.own i aj a len cap=>match qT P t with
  |some e=>Qc h i aj λb=>bif zv P e&&(b.sz==qN P e) then
   Yr len (b.n-a) cap f o d λl r c=>k (.own i aj (a+l) (r-l) c) h false
   else none
  |none=>none
 |_=>none
def KT(t:TypeId)(x:T)(f:Nat)(h:qa)(k:Qd R):Option R :=
 match x,Zi P t f with
 |.agg l,some (a,d)=>ld P d (l.drop a) λv=>k v h false
 |_,_=>none
def Zj(t:TypeId)(x:T)(f:Nat)(h:qa)(k:Qd R):Option R :=
 match x,Zi P t f with
 |.ptr i aj j o,some (a,_)=>Qc h i aj λ_=>k (.ptr i aj j (o+a)) h false
 |.vp cells,some (a,_)=>k (.vp (cells.drop a)) h false
 |_,_=>none
def AX:Nat->Nat->(Nat->Option R)->Option R
 |0,_,_=>none
 |1,_,k=>k 0
 |n+2,i,k=>bif i==n+1 then k (n+1) else AX (n+1) i k
def Yt(n i:Nat)(k:Nat->Option R):Option R:=bif Nat.ble n 8 then AX n i k else k i
def RU{n i:Nat}{k:Nat->Option R}{r:R}(e:i<n)(h:AX n i k=some r):k i=some r:=by
 induction n with
 |zero=>omega
 |succ n d =>
  cases n with
  |zero=>obtain rfl:i=0:=ae
         exact h
  |succ n =>
   simp only[AX] at h;cases a:i==n+1 with
   |true =>
    rw[a] at h;have:i=n+1:=by simpa using a
    rw[this];exact h
   |false =>
    rw[a] at h;have:i≠n+1:=by simpa using a
    exact d ae h
def z9{n i:Nat}{k:Nat->Option R}{r:R}(d:i<n)(h:Yt n i k=some r):k i=some r:=by
 unfold Yt at h;cases a:Nat.ble n 8 with
 |true=>rw[a] at h;exact RU d h
 |false=>rw[a] at h;exact h
def zi(t:TypeId)(x i:T)(h:qa)(k:Qd R):Option R :=
 match i with
 |.int _ i=>match x with
  |.own b aj a len _=>match qT P t with
   |some e=>Qc h b aj λey=>bif zv P e&&(ey.sz==qN P e) then(bif decide (0<=i)&&decide (i<(len:Int)) then(bif ey.oD then AX ey.n (a+i.toNat) λj=>k (.ptr b aj j 0) h false else k (.ptr b aj (a+i.toNat) 0) h false) else none) else none
   |none=>none
  |.view sz n g _=>match qT P t with
   |some e=>bif zv P e&&(sz==qN P e) then(bif decide (0<=i)&&decide (i<(n:Int)) then k (.vp (g i.toNat)) h false else none) else none
   |none=>none
  |.ptr b aj j o=>match QR P t with
   |some (n,e)=>bif zv P e&&decide (0<=i)&&decide (i<(n:Int)) then Qc h b aj λey=>bif (ey.sz==qN P e)&&Nat.blt 1 ey.n then k (.ptr b aj (j+i.toNat) o) h false else Yt n i.toNat λi=>k (.ptr b aj j (o+i*qN P e)) h false else none
   |none=>none
  |.vp cells=>match QR P t with
   |some (n,e)=>bif zv P e&&decide (0<=i)&&decide (i<(n:Int)) then Yt n i.toNat λi=>k (.vp (cells.drop (i*qN P e))) h false else none
   |none=>none
  |_=>none
 |_=>none
def KU(t:TypeId)(x i:T)(h:qa)(k:Qd R):Option R :=
 match x,i with
 |.str s,.int _ i=>bif JT P t then(bif decide (0<=i)&&decide (i<(s.length:Int)) then k (.int .u8 ((s.getD i.toNat 0).toNat:Int)) h false else none) else none
 |.agg l,.int _ i=>match QR P t with
  |some (n,e)=>bif zv P e&&decide (0<=i)&&decide (i<(n:Int)) then Yt n i.toNat λi=>ld P e (l.drop (i*qN P e)) λv=>k v h false else none
  |none=>none
 |_,_=>none
def ym(x:T)(a:Nat)(h:qa)(k:Qd R):Option R :=
 match x with
 |.aK l=>match l[a]? with|some v=>k v h false|none=>none
 |_=>none
def MH(t:TypeId):Bool:=match P.underlying t with|some .bool=>true|_=>false
def MI(t:TypeId):Bool:=match P.underlying t with|some (.int _)=>true|_=>false
def H8(t:TypeId):Bool:=match P.underlying t with|some (.func _ _ _)=>true|_=>false
def KW(t:TypeId):Option (List Field):=match P.underlying t with|some (.struct fs)=>some fs.toList|_=>none
def eqFields(d:TypeId->T->T->(Bool->Option R)->Option R)(l m:List T):List Field->(Bool->Option R)->Option R
 |[],k=>k true
 |f::fs,k=>bif f.name=="_" then eqFields d l m fs k else
  ld P f.type (l.drop f.offset) λa=>ld P f.type (m.drop f.offset) λb=>d f.type a b λr=>bif r then eqFields d l m fs k else k false
def eqItems(d:TypeId->T->T->(Bool->Option R)->Option R)(l m:List T)(e:TypeId):List Nat->(Bool->Option R)->Option R
 |[],k=>k true
 |i::f,k=>ld P e (l.drop (i*P.cellsOf e)) λa=>ld P e (m.drop (i*P.cellsOf e)) λb=>d e a b λr=>bif r then eqItems d l m e f k else k false
def Fb(t:TypeId):Option (Nat×TypeId):=match P.underlying t with|some (.array n e)=>(match P.info? e with|some _=>some (n,e)|none=>none)|_=>none
def KN:Nat->TypeId->T->T->(Bool->Option R)->Option R
 |0,_,_,_,_=>none
 |d+1,t,x,y,k =>
  match x,y with
  |.int f a,.int e b=>bif MI P t&&decide (f=e) then k (decide (a=b)) else none
  |.bool a,.bool b=>bif MH P t then k (bif a then b else !b) else none
  |.str a,.str b=>bif JT P t then k (decide (a=b)) else none
  |.agg l,.agg m=>match KW P t with
   |some fs=>bif P.stoodInHeld t then none else eqFields P (KN d) l m fs k
   |none=>match Fb P t with
    |some ne=>eqItems P (KN d) l m ne.2 (List.range ne.1) k
    |none=>none
  |_,_=>none
def CW(t:TypeId)(x y:T)(h:qa)(k:Bool->Option R):Option R :=
 match x,y with
 |.int e a,.int d b=>bif decide (e=d) then k (decide (a=b)) else none
 |.str a,.str b=>k (decide (a=b))
 |.bool _,.bool _=>KN P 1 t x y k
 |.agg _,.agg _=>bif P.eqGuardType P.depth t then none else KN P 10 t x y k
 |.ag,.ag=>bif (qT P t).isSome then k true else none
 |.ag,.view _ n _ c|.view _ n _ c,.ag=>bif (qT P t).isSome&&(Nat.blt 0 (c.getD 0) || Nat.blt 0 n) then k false else none
 |.ag,.own i aj _ _ _|.own i aj _ _ _,.ag=>bif (qT P t).isSome then Qc h i aj λb=>bif Nat.blt 0 b.n then k false else none else none
 |.eu,.eu=>bif H8 P t then k true else none
 |.eu,.fn ..|.fn ..,.eu=>bif H8 P t then k false else none
 |_,_=>none
def Fc(a:BinOp)(k:IntKind)(x y:Int):Int :=
 match a with
 |.and=>k.wrap (BitVec.ofInt k.bits x &&& BitVec.ofInt k.bits y).toNat
 |.or=>k.wrap (BitVec.ofInt k.bits x ||| BitVec.ofInt k.bits y).toNat
 |.xor=>k.wrap (BitVec.ofInt k.bits x ^^^ BitVec.ofInt k.bits y).toNat
 |_=>k.wrap (BitVec.ofInt k.bits x &&& ~~~(BitVec.ofInt k.bits y)).toNat
def H9(e:BinOp)(d:IntKind)(a b:Int)(h:qa)(k:Qd R):Option R :=
 match e with
 |.add=>k (.int d (d.wrap (a+b))) h false
 |.sub=>k (.int d (d.wrap (a-b))) h false
 |.mul=>k (.int d (d.wrap (a*b))) h false
 |.quo=>bif decide (b=0) then none else k (.int d (d.wrap (a.tdiv b))) h false
 |.rem=>bif decide (b=0) then none else k (.int d (a.tmod b)) h false
 |.and|.or|.xor|.andNot=>k (.int d (Fc e d a b)) h false
 |.lss=>k (.bool (decide (a<b))) h false
 |.leq=>k (.bool (decide (a<=b))) h false
 |.gtr=>k (.bool (decide (b<a))) h false
 |.geq=>k (.bool (decide (b<=a))) h false
 |_=>none
def Ia(d:BinOp)(a b:List UInt8)(h:qa)(k:Qd R):Option R :=
 match d with
 |.add=>bif Nat.ble (a.length+b.length) 9223372036854775807 then k (.str (a++b)) h false else none
 |.lss=>k (.bool (Op.bytesLess a b)) h false
 |.geq=>k (.bool (!(Op.bytesLess a b))) h false
 |.leq=>k (.bool (Op.bytesLess a b || decide (a=b))) h false
 |.gtr=>k (.bool (!(Op.bytesLess a b || decide (a=b)))) h false
 |_=>none
def JW(e:BinOp)(d:IntKind)(a b:Int)(h:qa)(k:Qd R):Option R :=
 bif decide (0<=b) then match e with
  |.shl=>k (.int d (d.wrap (a*2 ^ min b.toNat d.bits))) h false
  |.shr=>k (.int d (a.fdiv (2 ^ min b.toNat d.bits))) h false
  |_=>none
 else none
def kC(d:BinOp)(x y:T)(h:qa)(k:Qd R):Option R :=
 match x,y with
 |.int e a,.int _ b=>JW d e a b h k
 |_,_=>none
def KX(d:BinOp)(x y:T)(h:qa)(k:Qd R):Option R :=
 match x,y with
 |.int e a,.int f b=>bif decide (e=f) then H9 d e a b h k else none
 |.str a,.str b=>Ia d a b h k
 |_,_=>none
def Ib(a:BinOp)(t:TypeId)(x y:T)(h:qa)(k:Qd R):Option R :=
 match a with
 |.eql=>CW P t x y h λb=>k (.bool b) h false
 |.neq=>CW P t x y h λb=>k (.bool (!b)) h false
 |.shl|.shr=>kC a x y h k
 |_=>KX a x y h k
def Fe(e:UnOp)(x:T)(h:qa)(k:Qd R):Option R :=
 match e,x with
 |.not,.bool b=>k (.bool (!b)) h false
 |.neg,.int d a=>k (.int d (d.wrap (0-a))) h false
 |_,_=>none
def KY:List T->Option Int
 |[.int .u8 n]=>some n
 |_=>none
def ZX:List (List T)->(List UInt8->Option R)->Option R
 |[],k=>k []
 |e::l,k=>match KY e with
  |some n=>ZX l λm=>k (UInt8.ofNat n.toNat::m)
  |none=>none
def yF(g:Nat->List T)(n:Nat):List (List T):=(List.range n).map g
def qpo(g:Nat->List T)(n:Nat):Bool:=(yF g n).all λe=>(KY e).isSome
def qsV(g:Nat->List T)(n:Nat):List UInt8:=(yF g n).map λe=>UInt8.ofNat ((KY e).getD 0).toNat
def Jp(g:Nat->List T)(n:Nat)(k:List UInt8->Option R):Option R:=bif qpo g n then k (qsV g n) else none
def Yu(d a:TypeId)(x:T)(h:qa)(k:Qd R):Option R :=
 match x with
 |.int _ n=>match P.underlying a with
  |some (.int o)=>k (.int o (o.wrap n)) h false
  |_=>none
 |.str s=>match P.underlying a with
  |some .string=>k (.str s) h false
  |_=>none
 |.ag=>match P.underlying d,P.underlying a with
  |some (.slice e),some .string=>match P.underlying e with
   |some (.int .u8)=>k (.str []) h false
   |_=>none
  |_,_=>none
 |.view sz n g _=>match P.underlying d,P.underlying a with
  |some (.slice e),some .string=>match P.underlying e with
   |some (.int .u8)=>bif sz==1 then Jp g n λl=>k (.str l) h false else none
   |_=>none
  |_,_=>none
 |.own i aj f len _=>match P.underlying d,P.underlying a with
  |some (.slice e),some .string=>match P.underlying e with
   |some (.int .u8)=>Qc h i aj λb=>bif b.sz==1&&Nat.ble (f+len) b.n then Jp (λj=>b.get (f+j)) len λl=>k (.str l) h false else none
   |_=>none
  |_,_=>none
 |_=>none
def resolve:Nat->List Nat->qa->T->T
 |0,_,_,x=>bif zK x then x else .undef
 |d+1,ex,h,x=>match x with
  |.own i aj a len cap=>bif ex.contains i then .undef else match h[i]? with
   |some b=>bif b.mp.isNone&&(b.aj==aj&&Nat.ble (a+len) b.n) then
    .view b.sz len (bif b.flat then λj=>b.get (a+j) else λj=>(b.get (a+j)).map (resolve d ex h)) cap
    else .undef
   |none=>.undef
  |.ptr i aj j o=>bif ex.contains i then .undef else match h[i]? with
   |some b=>bif b.mp.isNone&&(b.aj==aj&&Nat.blt j b.n) then
    .vp (bif b.flat then(b.get j).drop o else((b.get j).drop o).map (resolve d ex h))
    else .undef
   |none=>.undef
  |.agg l=>.agg (l.map (resolve d ex h))
  |.aK l=>.aK (l.map (resolve d ex h))
  |.fn f e=>.fn f (e.map (resolve d ex h))
  |.iface t v=>.iface t (resolve d ex h v)
  |x=>bif zK x then x else .undef
def zo(h:qa)(x:T):T:=bif aH x then x else resolve 4 [] h x
def kD:T->List Nat
 |.own i _ _ _ _=>[i]
 |.mp i _=>[i]
 |_=>[]
def zU:List Nat->Bool
 |[]=>true
 |a::l=>!(l.contains a)&&zU l
def JX(ok:Bool)(all:List Nat)(h:qa)(x:T):T :=
 match x with
 |.own i aj a len cap=>bif ok then match h[i]? with
  |some b=>bif b.mp.isNone&&(b.aj==aj&&Nat.ble (a+len) b.n) then
   .fresh b.flat b.sz (b.n-a) (bif b.flat then λj=>b.get (a+j) else λj=>(b.get (a+j)).map (resolve 3 all h)) len cap
   else .undef
  |none=>.undef
  else .undef
 |.mp i aj=>bif ok then match h[i]? with
  |some b=>bif b.aj==aj then(match b.mp with|some m=>.iG m|none=>.undef) else .undef
  |none=>.undef
  else .undef
 |x=>bif aH x then x else resolve 4 all h x
def D1(ok:Bool)(all:List Nat)(h:qa)(x:T):T :=
 match x with
 |.agg m=>.agg (m.map (JX ok all h))
 |y=>JX ok all h y
def BM:T->List Nat
 |.agg m=>m.flatMap kD
 |x=>kD x
def ZK:T->List Nat
 |.aK l=>l.flatMap BM
 |x=>BM x
def ye(h:qa)(x:T):T :=
 match x with
 |.aK l=>.aK (l.map (D1 (zU (ZK x)) (ZK x) h))
 |y=>D1 (zU (ZK x)) (ZK x) h y
def D2(x:T):T :=
 match x with
 |.bool _|.int _ _|.str _|.lB|.ag|.eu|.mz|.lC=>x
 |_=>.undef
def Ic(x:T):T :=
 match x with
 |.view _ n _ _=>.view 0 n (λ_=>[]) none
 |x=>D2 x
def yg(safe:Bool)(h:qa)(x:T):T×qa :=
 match x with
 |.fresh flat sz n g len cap=>bif safe || flat then(.own h.length 0 0 len cap,h++[⟨0,sz,n,g,flat,false,none⟩]) else(.own h.length 0 0 len cap,h++[⟨0,sz,n,λj=>(g j).map Ic,false,false,none⟩])
 |.iG m=>(.mp h.length 0,h++[ke 0 m])
 |.new x=>(x,h)
 |x=>(bif safe then x else D2 x,h)
def Yv(safe:Bool)(h:qa):List T->List T×qa
 |[]=>([],h)
 |x::l=>let (y,h1):=yg safe h x;let (m,a):=Yv safe h1 l;(y::m,a)
def yU(safe:Bool)(h:qa)(x:T):T×qa :=
 match x with
 |.agg l=>let (m,h1):=Yv safe h l;(.agg m,h1)
 |x=>yg safe h x
def ZL(safe:Bool)(h:qa):List T->List T×qa
 |[]=>([],h)
 |x::l=>let (y,h1):=yU safe h x;let (m,a):=ZL safe h1 l;(y::m,a)
def ZD(safe:Bool)(h:qa)(x:T):T×qa :=
 match x with
 |.aK l=>let (m,h1):=ZL safe h l;(.aK m,h1)
 |x=>yU safe h x
def ZY:T->Bool
 |.fresh ..|.iG _=>false
 |_=>true
def ZZ:T->Bool
 |.agg l=>l.all ZY
 |x=>ZY x
def Ka:T->Bool
 |.aK l=>l.all ZZ
 |x=>ZZ x
structure bA where
 cN:FuncId->Bool
 val:FuncId->List T->∀R:Type,(T->Option R)->Option R
 ref:FuncId->List T->qa->∀R:Type,(T->qa->Option R)->Option R
 dv:∀f args,cV (val f args)
 dw:∀f args h,cV (A:=T×qa) λR k=>ref f args h R λv h=>k (v,h)
 ro:FuncId->Bool:=λ_=>false
variable (K:bA)
def Kb(f:T)(a:List T)(h:qa)(k:Qd R):Option R :=
 match f with
 |.fn f d =>
  bif K.cN f then(bif K.ro f then K.ref f (a++d) h R λv _=>k v h false else K.ref f (a++d) h R λv h'=>k v h' true)
  else K.val f ((a++d).map (zo h)) R λr=>k (ZD ((a++d).all aH) h r).1 (ZD ((a++d).all aH) h r).2 (!(Ka r))
 |_=>none
def KZ(sz:Nat)(x:T)(h:qa)(k:Nat->(Nat->List T)->Bool->Option R):Option R :=
 match x with
 |.ag=>k 0 (λ_=>[]) true
 |.view d n g _=>bif d==sz then k n g false else none
 |.own i aj a len _=>Qc h i aj λb=>bif (b.sz==sz)&&Nat.ble (a+len) b.n then k len (λj=>b.get (a+j)) b.flat else none
 |.str s=>bif sz==1 then k s.length (λj=>[.int .u8 ((s.getD j 0).toNat:Int)]) true else none
 |_=>none
def Qj(c:T):T:=bif qG c then c else .undef
def YV(pl:Bool)(sz:Nat)(x:T)(h:qa)(k:Nat->(Nat->List T)->Bool->Option R):Option R :=
 KZ sz x h λm a d=>bif d then k m a true else bif pl then k m (λj=>(a j).map Qj) true else k m a false
def qZ(m:Nat)(g:Nat->List T)(flat:Bool):Bool :=
 flat || (Nat.ble m 8&&(List.range m).all λj=>(g j).all qG)
def Qz(aj sz len m:Nat)(g gx:Nat->List T)(flat:Bool):aq :=
 ⟨aj,sz,len+m,λj=>bif Nat.blt j len then g j else gx (j-len),flat,false,none⟩
def Kc(e:TypeId)(n:Nat):Bool:=Nat.ble (n*(YT P e+1)) 70368744177664
def Ie(pl:Bool)(sz len m:Nat)(g gx:Nat->List T)(a:Bool):aq:=bif pl then Qz 0 sz len m (λj=>(g j).map Qj) gx a else Qz 0 sz len m g gx (qZ len g false&&a)
def yn(t:TypeId)(s x:T)(h:qa)(k:Qd R):Option R :=
 match qT P t with
 |none=>none
 |some e=>bif y5 P e then YV ((Qi P e).all qG) (qN P e) x h λm d f =>
  match s with
  |.ag=>bif m==0 then k .ag h false
   else bif Kc P e m then k (.own h.length 0 0 m none) (h++[⟨0,qN P e,m,d,qZ m d f,false,none⟩]) true else none
  |.view sz n g cap=>bif sz==qN P e then bif m==0 then k s h false else match cap with
   |some c=>bif Nat.blt c (n+m)&&Kc P e (n+m) then
    k (.own h.length 0 0 (n+m) none) (h++[Ie ((Qi P e).all qG) sz n m g d (qZ m d f)]) true else none
   |none=>none
   else none
  |.own i aj a len cap=>Qc h i aj λb=>bif (b.sz==qN P e)&&Nat.ble (a+len) b.n then
   bif m==0 then k s h false else
   bif Kc P e (len+m) then
    match cap with
    |some c=>bif Nat.ble (len+m) c then
     bif Nat.ble (a+len+m) b.n then
      k (.own i aj a (len+m) cap) (h.set i { b with get:=λj=>bif Nat.ble (a+len) j&&Nat.blt j (a+len+m) then d (j-(a+len)) else b.get j,flat:=b.flat&&qZ m d f }) true
     else none
     else k (.own h.length 0 0 (len+m) none) (h++[Qz 0 b.sz len m (λj=>b.get (a+j)) d (b.flat&&qZ m d f)]) true
    |none=>bif Nat.ble (a+len+m) b.n then
     k (.own i aj a (len+m) none) (h.set i { b with get:=λj=>bif Nat.ble (a+len) j&&Nat.blt j (a+len+m) then d (j-(a+len)) else b.get j,flat:=b.flat&&qZ m d f }) true
     else k (.own i (aj+1) 0 (len+m) none) (h.set i (Qz (aj+1) b.sz len m (λj=>b.get (a+j)) d (b.flat&&qZ m d f))) true
   else none
   else none
  |_=>none
  else none
def JY(t:TypeId)(d x:T)(h:qa)(k:Qd R):Option R :=
 match qT P t with
 |none=>none
 |some e=>bif zv P e then YV ((Qi P e).all qG) (qN P e) x h λm f g =>
  match d with
  |.ag=>k (.int .i64 0) h false
  |.own i aj a len _=>Qc h i aj λb=>bif (b.sz==qN P e)&&Nat.ble (a+len) b.n then
   k (.int .i64 ((Nat.min m len:Nat):Int)) (h.set i { b with get:=λj=>bif Nat.ble a j&&Nat.blt j (a+Nat.min m len) then f (j-a) else b.get j,flat:=b.flat&&qZ m f g }) true
   else none
  |_=>none
  else none
def K1(t:TypeId)(d:T)(h:qa)(k:Qd R):Option R :=
 match qT P t with
 |none=>none
 |some e=>bif y5 P e then
  match d with
  |.ag=>k (.aK []) h false
  |.own i aj a len _=>Qc h i aj λb=>bif (b.sz==qN P e)&&Nat.ble (a+len) b.n then
   k (.aK []) (h.set i { b with get:=λj=>bif Nat.ble a j&&Nat.blt j (a+len) then Qi P e else b.get j,flat:=b.flat&&(Qi P e).all qG }) true
   else none
  |_=>none
  else none
def Jq(t:TypeId)(x:T)(h:qa)(k:Qd R):Option R :=
 match x with
 |.str s=>bif JT P t then k (.int .i64 (s.length:Int)) h false else none
 |.ag=>bif (qT P t).isSome then k (.int .i64 0) h false else none
 |.view _ n _ _=>bif (qT P t).isSome then k (.int .i64 (n:Int)) h false else none
 |.own i aj _ len _=>bif (qT P t).isSome then Qc h i aj λ_=>k (.int .i64 (len:Int)) h false else none
 |.agg _=>match QR P t with
  |some (n,_)=>k (.int .i64 (n:Int)) h false
  |none=>none
 |_=>none
def If(t:TypeId)(x:T)(h:qa)(k:Qd R):Option R :=
 bif (qT P t).isSome then match x with
  |.ag=>k (.int .i64 0) h false
  |.view _ _ _ (some c)=>k (.int .i64 (c:Int)) h false
  |.own i aj _ _ (some c)=>Qc h i aj λ_=>k (.int .i64 (c:Int)) h false
  |_=>none
 else none
def zw:List (Option IntKind)->List T->(List Int->Option R)->Option R
 |[],[],k=>k []
 |some a::fs,.int q n::l,k=>bif decide (q=a) then zw fs l λm=>k (n::m) else none
 |none::fs,.bool b::l,k=>zw fs l λm=>k ((bif b then 1 else 0)::m)
 |_,_,_=>none
def Ff:Nat->List Field->Option (List (Option IntKind))
 |_,[]=>some []
 |i,f::fs=>bif (f.offset==i)&&!(f.name=="_")&&zv P f.type then match P.underlying f.type,Ff (i+1) fs with
  |some (.int q),some l=>some (some q::l)
  |some .bool,some l=>some (none::l)
  |_,_=>none
  else none
def Ig(k:TypeId):Option KS:=match P.underlying k with
 |some (.int q)=>some (.int q)
 |some (.struct fs)=>bif !(P.stoodInHeld k) then(match Ff P 0 fs.toList with|some l=>some (.row l)|none=>none) else none
 |_=>none
def jE(ks:KS)(x:T)(k:List Int->Option R):Option R :=
 match ks,x with
 |.int q,.int a n=>bif decide (a=q) then k [n] else none
 |.row fs,.agg l=>zw fs l k
 |_,_=>none
def RW(e:TypeId)(q:IntKind):Bool:=match P.info? e with
 |some i=>match i.zero with|some (.int a z)=>decide (a=q)&&decide (z=0)|_=>false
 |none=>false
def JZ(t:TypeId):Option (TypeId×KS×IntKind):=match P.underlying t with
 |some (.map k e)=>match P.underlying e,Ig P k with
  |some (.int q),some ks=>bif RW P e q then some (k,ks,q) else none
  |_,_=>none
 |_=>none
def yq(t:TypeId)(h:qa)(k:Qd R):Option R :=
 match JZ P t with
 |some (_,ks,q)=>k (.mp h.length 0) (h++[ke 0 (.made ks q)]) true
 |none=>none
def YW(t:TypeId)(x:T)(h:qa)(k:Nat->aq->bp->Option R):Option R :=
 match x with
 |.mp i aj=>Yb h i aj λb m=>match JZ P t with
  |some (_,ks,q)=>bif decide (m.ks=ks)&&decide (m.q=q) then k i b m else none
  |none=>none
 |_=>none
def yh(t:TypeId)(x key:T)(h:qa)(k:Nat->aq->bp->List Int->Option R):Option R :=
 YW P t x h λi b m=>jE m.ks key λl=>k i b m l
def QV(t:TypeId)(x key:T)(c:Bool)(h:qa)(k:Qd R):Option R :=
 yh P t x key h λ_ _ m l=>k (bif c then .aK [.int m.q (m.val l),.bool (m.has l)] else .int m.q (m.val l)) h false
def Yj(t:TypeId)(x key v:T)(h:qa)(k:Qd R):Option R :=
 match v with
 |.int a z=>yh P t x key h λi b m l=>bif decide (a=m.q) then k .undef (h.set i ({ b with mp:=some (m.put l z) })) true else none
 |_=>none
def yV(t:TypeId)(x key:T)(h:qa)(k:Qd R):Option R :=
 yh P t x key h λi b m l=>k (.aK [.int m.q (m.val l),.int .i64 (m.lc l)]) (h.set i ({ b with mp:=some (m.entry l) })) true
def zP(t:TypeId)(x st v:T)(h:qa)(k:Qd R):Option R :=
 match st,v with
 |.int ks n,.int a z=>YW P t x h λi b m=>match m.last with
  |some (l,s)=>bif decide (a=m.q)&&decide (ks = .i64)&&decide (n=(s:Int)) then k .undef (h.set i ({ b with mp:=some (m.put l z) })) true else none
  |none=>none
 |_,_=>none
def kE(t a:TypeId)(x key:T)(h:qa)(k:Qd R):Option R :=
 match JZ P t with
 |some (d,_)=>bif d==a then yh P t x key h λi b m l=>k (.aK []) (h.set i ({ b with mp:=some (m.del l) })) true else none
 |none=>none
def jF(e:Bool)(x y:T)(h:qa)(k:Qd R):Option R :=
 match x,y with
 |.int d a,.int f b=>bif decide (d=f) then k (.int d (bif e then(bif decide (a<b) then b else a) else(bif decide (b<a) then b else a))) h false else none
 |_,_=>none
def Za(b:Builtin)(a:List TypeId)(e:List T)(h:qa)(k:Qd R):Option R :=
 match b,a,e with
 |.len,t::_,[x]=>Jq P t x h k
 |.cap,t::_,[x]=>If P t x h k
 |.append,t::f::_,[s,x]=>bif (qT P f).isSome || JT P f then yn P t s x h k else none
 |.copy,t::_,[d,x]=>JY P t d x h k
 |.clear,t::_,[d]=>K1 P t d h k
 |.min,_,[x,y]=>jF false x y h k
 |.max,_,[x,y]=>jF true x y h k
 |.delete,[t,g],[x,y]=>kE P t g x y h k
 |_,_,_=>none
structure FP where
 rs:List Nat
 ws:List Nat
 rd:Bool
 wr:Bool
 rb:Option Nat×Bool
 wb:Option Nat×Bool
variable (G:Nat->Option (List T)) (aa:List Nat) (nt:Nat)
def ev(s:St):Operand->T
 |.tmp t=>bif aa.contains t then .undef else s.at t
 |.const v=>bif H7 v then KH v else .undef
 |.func f=>.fn f []
 |.global g=>match G g with|some cells=>.vp cells|none=>.undef
def QY:Operand->List Nat
 |.tmp t=>[t]
 |_=>[]
def base(s:St):Operand->Option (Nat×Nat)
 |.tmp x=>bif aa.contains x then some (x,0) else s.loc x
 |_=>none
def Fg(x:T)(h:qa)(k:Qd R):Option R :=
 match x with
 |.vp _|.fn ..=>k x h false
 |.ptr i aj _ _=>Qc h i aj λ_=>k x h false
 |_=>none
def Qe(d:Op)(e:Operand->T)(h:qa)(k:Qd R):Option R :=
 match d with
 |.move x|.assign x=>k (e x) h false
 |.pick c a b=>match e c with|.bool t=>bif t then k (e a) h false else k (e b) h false|_=>none
 |.alloc g=>bif y5 P g then Yi P g h k else none
 |.box _ x=>bif ZH (e x) then JU (e x).cells h k else none
 |.build t parts=>KR P t (parts.toList.map λp=>(p.1,e p.2)) h k
 |.buildSlice t len parts=>zO P t len (parts.toList.map λp=>(p.1,e p.2)) h k
 |.load t a=>kZ P t (e a) h k
 |.store t a v=>KQ P t (e a) (e v) h k
 |.nilCheck x=>Fg (e x) h k
 |.binOp d t x y _=>Ib P d t (e x) (e y) h k
 |.unOp d _ x=>Fe d (e x) h k
 |.convert a b x=>bif (P.underlying a).isSome then Yu P a b (e x) h k else none
 |.makeFunc (.func f) first captured=>bif first.size==0 then k (.fn f (captured.toList.map e)) h false else none
 |.makeSlice t l c=>JV P t (e l) (e c) h k
 |.slice t x o r j=>zh P t (e x) (o.map e) (r.map e) (j.map e) h k
 |.fieldAddr t x f=>Zj P t (e x) f h k
 |.field t x f=>KT P t (e x) f h k
 |.indexAddr t x i=>zi P t (e x) (e i) h k
 |.index t x i=>KU P t (e x) (e i) h k
 |.extract x i=>ym (e x) i h k
 |.makeMap t none=>yq P t h k
 |.lookup t x i c=>QV P t (e x) (e i) c h k
 |.mapUpdate t x i v=>Yj P t (e x) (e i) (e v) h k
 |.mapEntry t x i=>yV P t (e x) (e i) h k
 |.entryStore t x s v=>zP P t (e x) (e s) (e v) h k
 |.call { callee:=.value f,args,.. }=>Kb K (e f) (args.toList.map e) h k
 |.call { callee:=.builtin b,args,argTypes }=>Za P b argTypes.toList (args.toList.map e) h k
 |_=>none
def MK:Op->Bool
 |.move _|.assign _|.pick ..|.build ..|.makeFunc ..|.field ..|.index ..|.extract ..|.unOp ..=>true
 |_=>false
def CX:Op->Bool
 |.load ..|.nilCheck _|.binOp ..|.convert ..|.slice ..|.fieldAddr ..|.indexAddr ..=>true
 |.call { callee:=.builtin .len,.. }|.call { callee:=.builtin .cap,.. }|.call { callee:=.builtin .min,.. }|.call { callee:=.builtin .max,.. }=>true
 |_=>false
def Jr(op:Op)(e:Operand->T):Bool:=MK op || (CX op&&op.operands.toList.all λx=>aH (e x))
def QM(a:Op)(e:Operand->T):Bool :=
 match a with
 |.call { callee:=.value f,args,.. }=>match e f with
  |.fn f d=>K.cN f || !((args.toList.map e++d).all aH)
  |_=>true
 |_=>true
def Qw(op:Op):List Nat:=op.operands.toList.flatMap QY
def K2:T->Option Nat
 |.ptr i _ _ _=>some i
 |_=>none
def D3:T->Option Nat
 |.own i _ _ _ _=>some i
 |_=>none
def j8:T->Option Nat
 |.mp i _=>some i
 |_=>none
def zL(d:Op)(e:Operand->T):Option Nat :=
 match d with
 |.load _ a=>K2 (e a)
 |.fieldAddr _ a _=>K2 (e a)
 |.nilCheck a=>K2 (e a)
 |.indexAddr _ x _=>match e x with|.own i _ _ _ _=>some i|.ptr i _ _ _=>some i|_=>none
 |.slice _ x _ _ _=>D3 (e x)
 |.lookup _ x _ _=>j8 (e x)
 |_=>none
def kF(d:Op)(e:Operand->T)(h:qa)(v:T):Option Nat :=
 match d with
 |.store _ a _=>K2 (e a)
 |.buildSlice ..=>some h.length
 |.alloc _=>some h.length
 |.box ..=>some h.length
 |.makeMap ..=>some h.length
 |.mapUpdate _ x _ _=>j8 (e x)
 |.mapEntry _ x _=>j8 (e x)
 |.entryStore _ x _ _=>j8 (e x)
 |.call { callee:=.builtin .append,.. }=>D3 v
 |_=>none
def zV(op:Op)(e:Operand->T)(h:qa)(v:T)(wr:Bool):Option Nat :=
 match op with
 |.call { callee:=.value f,.. }=>match e f with
  |.fn g _=>bif K.cN g || !wr then none else match v with
   |.own i _ _ _ _=>bif i==h.length then some i else none
   |_=>none
  |_=>none
 |op=>kF op e h v
def j9(a:Op):Bool:=match a with|.lookup _ _ _ c=>!c|_=>false
def BN(a:Op):Bool:=match a with|.mapEntry ..=>true|_=>false
def D4{A:Type}(v:T)(k:T->Option A):Option A :=
 match v with
 |.bool b=>bif b then k (.bool true) else k (.bool false)
 |v=>k v
def done(o:Oper)(s:St)(v:T)(hp:Option qa)(rs:List Nat)(rd wr:Bool)(k:du->FP->Option R):Option R :=
 match o.dst with
 |none=>k ⟨none,none,hp⟩ ⟨rs,[],rd,wr,(none,false),(none,false)⟩
 |some d=>bif Nat.blt d nt&&!(s.used d) then D4 v λv=>k ⟨some (d,v),some (d,none),hp⟩ ⟨rs,[d],rd,wr,(none,false),(none,false)⟩ else none
def zZ(o:Oper)(t off:Nat)(rs:List Nat)(k:du->FP->Option R):Option R :=
 match o.dst with
 |none=>none
 |some d=>bif Nat.blt d nt&&!(aa.contains d) then k ⟨some (d,.undef),some (d,some (t,off)),none⟩ ⟨t::rs,[d],false,false,(none,false),(none,false)⟩ else none
def Qf(o:Oper)(s:St)(k:du->FP->Option R):Option R :=
 bif Jr o.op (ev G aa s) then Qe P K o.op (ev G aa s) [] λv _ wr=>bif wr then none else done nt o s v none (Qw o.op) false false k
 else Qe P K o.op (ev G aa s) s.h λv h wr=>done nt o s v (bif wr then some h else none) (Qw o.op) (QM K o.op (ev G aa s)) wr λf a=>k f { a with rb:=(zL o.op (ev G aa s),j9 o.op),wb:=(zV K o.op (ev G aa s) s.h v wr,BN o.op) }
def zW(o:Oper)(s:St)(k:du->FP->Option R):Option R :=
 match o.op with
 |.box _ x=>match o.dst with
  |some d=>bif aa.contains d then(bif ZH (ev G aa s x) then done nt o s (.ah (ev G aa s x).cells) none (QY x) false false k else none) else Qf P K G aa nt o s k
  |none=>none
 |.alloc j=>match o.dst with
  |some d=>bif aa.contains d then(bif y5 P j then done nt o s (.ah (Qi P j)) none [] false false k else none) else Qf P K G aa nt o s k
  |none=>none
 |.load j a=>match base aa s a with
  |some (t,g)=>match s.at t with
   |.ah cells=>ld P j (cells.drop g) λv=>done nt o s v none (t::QY a) false false k
   |_=>none
  |none=>Qf P K G aa nt o s k
 |.store j a x=>match base aa s a with
  |some (t,g)=>match s.at t,o.dst with
   |.ah cells,none=>bif zv P j&&((ev G aa s x).cells.length==qN P j)&&ZH (ev G aa s x)&&Nat.ble (g+qN P j) cells.length then
    k ⟨some (t,.ah (y6 cells g (ev G aa s x).cells)),none,none⟩ ⟨t::(QY a++QY x),[t],false,false,(none,false),(none,false)⟩ else none
   |_,_=>none
  |none=>Qf P K G aa nt o s k
 |.fieldAddr j a f=>match base aa s a with
  |some (t,g)=>match s.at t with
   |.ah _=>match Zi P j f with
    |some (u,_)=>zZ aa nt o t (g+u) (QY a) k
    |none=>none
   |_=>none
  |none=>Qf P K G aa nt o s k
 |.indexAddr j a i=>match base aa s a with
  |some (t,g)=>match s.at t with
   |.ah _=>match ev G aa s i with
    |.int _ r=>match QR P j with
     |some (n,e)=>bif zv P e&&decide (0<=r)&&decide (r<(n:Int)) then Yt n r.toNat λr=>zZ aa nt o t (g+r*qN P e) (QY a++QY i) k else none
     |none=>none
    |_=>none
   |_=>none
  |none=>Qf P K G aa nt o s k
 |.nilCheck a=>match base aa s a with
  |some (t,g)=>match s.at t with
   |.ah _=>zZ aa nt o t g (QY a) k
   |_=>none
  |none=>Qf P K G aa nt o s k
 |_=>Qf P K G aa nt o s k
def ZR(ops:List Oper)(j:Nat):Option Nat:=match ops[j]? with
 |some o=>o.dst
 |none=>none
def qlB(o:Oper):Bool:=match o.op with
 |.call { callee:=.builtin .append,.. }=>true
 |_=>false
def qnz(cN:FuncId->Bool)(ops:List Oper):Operand->Bool
 |.tmp c=>ops.any λq=>(match q.dst with|some d=>d==c|none=>false)&&(match q.op with|.call { callee:=.value (.func f),.. }=>!(cN f)&&!(cN 1000000)|_=>false)
 |_=>false
def RX(cN:FuncId->Bool)(ops:List Oper)(o:Oper):Bool:=match o.op,o.dst with
 |.buildSlice ..,some d=>cN 1000002 || (Nat.ble 2 (ops.filter qlB).length&&ops.any λq=>match q.op with
  |.call { callee:=.builtin .append,args,.. }=>(match args.toList with|[_,.tmp x]=>x==d|_=>false)
  |_=>false) || (ops.any λq=>match q.op with
  |.call { callee:=.builtin .append,args,.. }=>(match args.toList with|[a,.tmp x]=>x==d&&(qnz cN ops a || cN 1000001)|_=>false)
  |_=>false) || ops.any λq=>match q.op with
  |.call { callee:=.value (.func f),args,.. }=>!(cN f)&&args.toList.any λa=>(match a with|.tmp x=>x==d|_=>false)
  |.buildSlice _ _ parts=>parts.toList.any λp=>(match p.2 with|.tmp x=>x==d|_=>false)
  |_=>false
 |_,_=>false
def Zk(o:Oper)(s:St)(k:du->FP->Option R):Option R :=
 match o.op with
 |.buildSlice t len parts=>yT P t len (parts.toList.map λp=>(p.1,ev G aa s p.2)) λv=>done nt o s v none (Qw o.op) false false k
 |_=>none
def K3(s:St)(o:Oper):Bool:=match o.op with
 |.buildSlice _ _ parts=>parts.toList.all λp=>(ev G aa s p.2).cells.all aH
 |_=>false
def zu(ops:List Oper)(o:Oper)(s:St)(k:du->FP->Option R):Option R :=
 match o.guard with
 |none=>bif RX K.cN ops o&&K3 G aa s o then Zk P G aa nt o s k else zW P K G aa nt o s k
 |some (j,want)=>match ZR ops j with
  |none=>none
  |some g=>match s.at g with
   |.bool b=>bif aa.contains g then none else bif (bif b then want else !want) then
    zW P K G aa nt o s λf a=>k f { a with rs:=g::a.rs }
    else done nt o s .gone none [g] false false k
   |.gone=>bif aa.contains g then none else done nt o s .gone none [g] false false k
   |_=>none
def yt(ops:List Oper):List Oper->St->(St->List FP->Option R)->Option R
 |[],s,k=>k s []
 |o::l,s,k=>zu P K G aa nt ops o s λf a=>yt ops l (f.dN s) λe d=>k e (a::d)
def Ja(a b:List Nat):Bool:=a.any λx=>b.contains x
def Ih(w r:Option Nat×Bool):Bool:=(match w.1,r.1 with
 |some i,some j=>!(i==j)
 |_,_=>false) || (w.2&&r.2)
def J0(a b:FP):Bool :=
 Ja a.ws b.rs || Ja a.ws b.ws || Ja b.ws a.rs || (a.wr&&(b.wr || (b.rd&&!(Ih a.wb b.rb)))) || (b.wr&&(a.rd&&!(Ih b.wb a.rb)))
def Ii(before:List Nat):List (Nat×FP)->Bool
 |[]=>true
 |(i,a)::l=>(l.all λp=>(before.getD p.1 0).testBit i || !(J0 a p.2))&&Ii before l
def Fh:Nat->List Oper->Bool
 |_,[]=>true
 |j,o::l=>(o.after.toList.all λe=>!(Region.binds .any e) || Nat.blt e.on j)&&Fh (j+1) l
def ML(ops:Array Oper)(fE:List FP):Bool :=
 Fh 0 ops.toList&&Ii (Region.before ops).toList ((List.range ops.size).zip fE)
inductive Ex where
 |normal
 |exit (id:Nat)
 |ret
def z7(s:St)(l:List Nat):List T:=l.map s.at
def yu:List Nat->List T->Tr->Tr
 |i::l,v::a,e=>yu l a (bif Nat.blt i 1024 then e.set QQ i v else e)
 |_,_,e=>e
def qB(l:List Nat)(vs:List T)(h:qa):St:={ env:=yu l vs .nil,loc:=λ_=>none,used:=λ_=>false,h:=h }
abbrev Rec:=∀R:Type,Code->List T->qa->(Ex->List T->qa->Option R)->Option R
def qz:Code->Nat
 |.region id _ _=>id
 |.seq a b=>bif qz a==1000000 then qz b else qz a
 |.block _ a=>qz a
 |.scope a=>qz a
 |.loop _=>1000000
 |.rangeFunc _ _ a b=>Nat.min (qz a) (qz b)
 |_=>1000000
def Fi:Code->Bool
 |.rangeFunc ..=>true
 |_=>false
def qt:Code->Bool
 |.seq a b=>qt a || qt b
 |.cond _ a b=>qt a || qt b
 |.block _ a=>qt a
 |.loop a=>qt a
 |.scope a=>qt a
 |.rangeFunc ..=>true
 |_=>false
def Z0(c:Code):Code:=bif Fi c then c else .loop c
variable (live:Nat->Bool->List Nat)
def qA:Code->List Code
 |.seq a b=>qA a++qA b
 |.cond _ a b=>qA a++qA b
 |.block _ a=>qA a
 |.scope a=>qA a
 |.loop a=>a::qA a
 |.rangeFunc f ps a b=>.rangeFunc f ps a b::(qA a++qA b)
 |_=>[]
def qqV(ts fs:List Nat)(s:St):Bool :=
 (ts.all λt=>match s.at t with|.bool b=>b|_=>true)&&(fs.all λt=>match s.at t with|.bool b=>!b|_=>true)
def ib(rec:Rec):Code->St->(Ex->St->Option R)->Option R
 |.skip,s,k=>k .normal s
 |.label _,s,k=>k .normal s
 |.region id ops g,s,k=>yt P K G aa nt ops.toList ops.toList { s with loc:=λ_=>none,used:=λ_=>false } λd o =>
  bif qqV (live (id+2000000) true) (live (id+2000000) false) d then
   (bif g then(bif ML ops o then k .normal d else none) else k .normal d) else none
 |.seq a b,s,k=>ib rec a s λe d=>match e with
  |.normal=>ib rec b d k
  |e=>k e d
 |.cond c a b,s,k=>match ev G aa s c with
  |.bool t=>bif t then ib rec a s k else ib rec b s k
  |_=>none
 |.block id b,s,k=>ib rec b s λe d=>match e with
  |.exit i=>bif i==id then k .normal d else k (.exit i) d
  |e=>k e d
 |.scope b,s,k=>ib rec b s k
 |.loop b,s,k=>bif Fi b then none else rec R b (z7 s (live (qz b) false)) s.h λe j h=>k e (qB (live (qz b) true) j h)
 |.rangeFunc f ps a b,s,k=>rec R (.rangeFunc f ps a b) (z7 s (live (qz (.rangeFunc f ps a b)) false)) s.h λe j h=>k e (qB (live (qz (.rangeFunc f ps a b)) true) j h)
 |.exit id,s,k=>k (.exit id) s
 |.ret,s,k=>k .ret s
 |_,_,_=>none
def kG:Nat->Rec
 |0,_,_,_,_,_=>none
 |n+1,R,b,d,h,k=>bif Fi b then none else ib (R:=R) P K G aa nt live (kG n) b (qB (live (qz b) false) d h) λe a=>match e with
  |.normal=>kG n R b (z7 a (live (qz b) false)) a.h k
  |e=>k e (z7 a (live (qz b) true)) a.h
def Fj(s:St):ResultVar->(T->Option R)->Option R
 |.tmp t,k=>k (ev G aa s (.tmp t))
 |.cell a e,k=>match base aa s (.tmp a) with
  |some (t,d)=>match s.at t with
   |.ah cells=>ld P e (cells.drop d) k
   |_=>none
  |none=>kZ P e (s.at a) s.h λv _ _=>k v
def K4(s:St):List ResultVar->(List T->Option R)->Option R
 |[],k=>k []
 |r::l,k=>Fj P G aa s r λv=>K4 s l λa=>k (v::a)
def ZE(fn:Func)(s:St)(k:T->Option R):Option R :=
 K4 P G aa s fn.results.toList fun
  |[v]=>k v
  |a=>k (.aK a)
def Ij(fn:Func)(e:Ex)(s:St)(k:T->qa->Option R):Option R :=
 match e with
 |.exit _=>none
 |_=>ZE P G aa fn s λv=>k v s.h
def K5:Nat->List T->Tr->Tr
 |_,[],e=>e
 |i,x::l,e=>K5 (i+1) l (e.set QQ i x)
def enter(a:List T)(h:qa):St :=
 { env:=K5 0 a .nil,loc:=λ_=>none,used:=λ_=>false,h:=h }
end
structure cq where
 aa:List Nat
 live:Nat->Bool->List Nat
 cN:Bool
section
variable (P:Program) (G:Nat->Option (List T)) (A:FuncId->cq)
def Fk{R:Type}(K:bA)(rec:Rec)(f:FuncId)(fn:Func)(c:Code)(args:List T)(h:qa)(k:T->qa->Option R):Option R :=
 bif Nat.ble fn.ntmps 1024&&Nat.ble args.length fn.ntmps then
  ib P K G (A f).aa fn.ntmps (A f).live rec c (enter args h) λe s=>Ij P G (A f).aa fn e s k
 else none
def j0{R:Type}(K:bA)(rec:Func->Rec)(f:FuncId)(a:List T)(h:qa)(k:T->qa->Option R):Option R :=
 match P.funcs[f]? with
 |some fn=>match fn.body with
  |some c=>Fk P G A K (rec fn) f fn c a h k
  |none=>none
 |none=>none
def uy(K:bA)(m:Nat)(f:FuncId)(fn:Func):Rec:=kG P K G (A f).aa fn.ntmps (A f).live m
def Yw(K:bA)(m:Nat)(f:FuncId)(a:List T):Option T:=j0 P G A K (uy P G A K m f) f a [] λv h'=>some (ye h' v)
end
abbrev iI(n:Int):T:=.int .i64 n
abbrev uI(n:Int):T:=.int .u8 n
abbrev gD{R:Type}(c:Bool)(x:Option R):Option R:=bif c then x else none
abbrev zN(v:List T)(h:qa):Option (Ex×List T×qa):=some (.normal,v,h)
abbrev zR(v:List T)(h:qa):Option (Ex×List T×qa):=some (.ret,v,h)
abbrev zX(n:Nat)(v:List T)(h:qa):Option (Ex×List T×qa):=some (.exit n,v,h)
abbrev zY(f:∀R:Type,Qd R->Option R):Prop:=cV (A:=T×qa×Bool) λR k=>f R λy h w=>k (y,h,w)
section
variable {A B:Type}
def qj:cV (A:=A) λ_ _=>none:=.inl λ_ _=>rfl
def qn(a:A):cV (A:=A) λ_ k=>k a:=.inr ⟨a,λ_ _=>rfl⟩
def qK{x y:∀R:Type,(A->Option R)->Option R}(c:Bool)(hx:cV x)(a:cV y):cV λR k=>bif c then x R k else y R k:=by
 cases c
 .exact a
 .exact hx
def qw{x:∀R:Type,(A->Option R)->Option R}(c:Bool)(hx:cV x):cV λR k=>bif c then x R k else none:=qK c hx qj
def MM{f:Nat->∀R:Type,(A->Option R)->Option R}(a:∀j,cV (f j))(i:Nat):∀n,cV λR k=>AX n i λj=>f j R k
 |0=>qj
 |1=>a 0
 |n+2=>by
  simp only[AX];exact qK _ (a _) (MM a i (n+1))
def Kd{f:Nat->∀R:Type,(A->Option R)->Option R}(a:∀j,cV (f j))(n i:Nat):cV λR k=>Yt n i λj=>f j R k:=by
 unfold Yt;exact qK _ (MM a i n) (a i)
def qD{f:∀R:Type,(A->Option R)->Option R}{g:A->∀R:Type,(B->Option R)->Option R}(i:cV f)(e:∀a,cV (g a)):cV λR k=>f R λa=>g a R k:=by
 rcases i with h|⟨a,h⟩
 .exact .inl λR k=>h R _
 .rcases e a with d|⟨b,d⟩
  .exact .inl λR k=>(h R _).trans (d R k)
  .exact .inr ⟨b,λR k=>(h R _).trans (d R k)⟩
def Js{D:Type}{f:∀R:Type,(A->B->Option R)->Option R}{g:A->B->∀R:Type,(D->Option R)->Option R}(i:cV (A:=A×B) λR k=>f R λa b=>k (a,b))
 (e:∀a b,cV (g a b)):cV λR k=>f R λa b=>g a b R k:=by
 rcases i with h|⟨p,h⟩
 .exact .inl λR k=>h R λq=>g q.1 q.2 R k
 .rcases e p.1 p.2 with d|⟨b,d⟩
  .exact .inl λR k=>(h R λq=>g q.1 q.2 R k).trans (d R k)
  .exact .inr ⟨b,λR k=>(h R λq=>g q.1 q.2 R k).trans (d R k)⟩
def QN{C D:Type}{f:∀R:Type,(A->B->C->Option R)->Option R}{g:A->B->C->∀R:Type,(D->Option R)->Option R}(i:cV (A:=A×B×C) λR k=>f R λa b c=>k (a,b,c))
 (e:∀a b c,cV (g a b c)):cV λR k=>f R λa b c=>g a b c R k:=by
 rcases i with h|⟨p,h⟩
 .exact .inl λR k=>h R λq=>g q.1 q.2.1 q.2.2 R k
 .rcases e p.1 p.2.1 p.2.2 with d|⟨b,d⟩
  .exact .inl λR k=>(h R λq=>g q.1 q.2.1 q.2.2 R k).trans (d R k)
  .exact .inr ⟨b,λR k=>(h R λq=>g q.1 q.2.1 q.2.2 R k).trans (d R k)⟩
end
section
variable (P:Program) (h:qa)
def Z1(t:TypeId)(cells:JO):cV λR k=>ld (R:=R) P t cells k:=by
 unfold ld;cases P.underlying t with
 |none=>exact qj
 |some d =>
  refine qK _ (qw _ (qn _)) ?_;cases cells with
  |nil=>exact qj
  |cons c l=>exact qn c
attribute [local irreducible] ld
def Ql(i aj:Nat):cV λR k=>Qc (R:=R) h i aj k:=by
 unfold Qc;cases h[i]? with
 |none=>exact qj
 |some b=>exact qw _ (qn b)
attribute [local irreducible] Qc
def RZ(t:TypeId)(v:T):zY λR k=>kZ (R:=R) P t v h k:=by
 cases v with
 |vp cells=>exact qD (Z1 P t cells) λx=>qn (x,h,false)
 |ptr i aj j o=>exact qD (Ql h i aj) λb=>qw _ (qD (Z1 P t _) λx=>qn (x,h,false))
 |_=>exact qj
def qfG(t:TypeId)(a v:T):zY λR k=>KQ (R:=R) P t a v h k:=by
 cases a with
 |ptr i aj j o=>exact qD (Ql h i aj) λb=>qw _ (qn (_,_,_))
 |_=>exact qj
def qfH(cells:JO):zY λR k=>JU (R:=R) cells h k:=qn (_,_,_)
def K6(pl:Nat->Option (Nat×Nat)):∀(a:List (Nat×T)) (cells:JO),cV λR k=>YU (R:=R) pl cells a k
 |[],cells=>qn cells
 |(i,v)::d,cells=>by
  simp only[YU];cases pl i with
  |none=>exact qj
  |some p=>exact qw _ (K6 pl d _)
attribute [local irreducible] YU
def qfI(t:TypeId)(a:List (Nat×T)):zY λR k=>KR (R:=R) P t a h k:=by
 unfold KR;cases P.underlying t with
 |none=>exact qj
 |some d =>
  cases d with
  |struct fs=>exact qw _ (qD (K6 _ _ _) λl=>qn (_,_,_))
  |array n e=>exact qw _ (qD (K6 _ _ _) λl=>qn (_,_,_))
  |_=>exact qj
def Yc(sz:Nat):∀(a:List (Nat×T)) (e:List JO),cV λR k=>Yq (R:=R) sz e a k
 |[],e=>qn e
 |_::d,_=>qw _ (Yc sz d _)
attribute [local irreducible] Yq
def qac(t:TypeId)(len:Nat)(a:List (Nat×T)):zY λR k=>zO (R:=R) P t len a h k:=by
 unfold zO;cases qT P t with
 |none=>exact qj
 |some e=>exact qw _ (qD (Yc _ _ _) λl=>qn (_,_,_))
def ZI(t:TypeId)(len:Nat)(a:List (Nat×T)):cV λR k=>yT (R:=R) P t len a k:=by
 unfold yT;cases qT P t with
 |none=>exact qj
 |some e=>exact qw _ (qD (Yc _ _ _) λl=>qw _ (qn _))
def qg8(t:TypeId)(l c:T):zY λR k=>JV (R:=R) P t l c h k:=by
 unfold JV;cases qT P t with
 |none=>exact qj
 |some e =>
  cases l with
  |int a l =>
   cases c with
   |int d c=>exact qw _ (qw _ (qn (_,_,_)))
   |_=>exact qj
  |_=>exact qj
def R0(x:Option T)(d:Int):cV λR k=>k9 (R:=R) x d k:=by
 cases x with
 |none=>exact qn d
 |some x =>
  cases x with
  |int a i=>exact qn i
  |_=>exact qj
attribute [local irreducible] k9
def Yx(len gn:Nat)(cap:Option Nat)(f d e:Option T):cV (A:=Nat×Nat×Option Nat) λR k=>Yr (R:=R) len gn cap f d e λa b c=>k (a,b,c):=by
 unfold Yr;refine qD (R0 f 0) λl=>qD (R0 d _) λi=>?_;cases e with
 |none=>exact qw _ (qn (_,_,_))
 |some m =>
  cases m with
  |int g m =>
   cases d with
   |none=>exact qj
   |some _=>exact qw _ (qn (_,_,_))
  |_=>exact qj
attribute [local irreducible] Yr
def qfJ(t:TypeId)(x:T)(f j a:Option T):zY λR k=>zh (R:=R) P t x f j a h k:=by
 cases x with
 |str s =>
  cases a with
  |some _=>exact qj
  |none=>exact qw _ (QN (Yx _ _ _ _ _ _) λ_ _ _=>qn (_,_,_))
 |ag =>
  simp only[zh];cases qT P t with
  |none=>exact qj
  |some e=>exact qw _ (QN (Yx _ _ _ _ _ _) λ_ _ _=>qn (_,_,_))
 |view sz n g cap =>
  simp only[zh];cases qT P t with
  |none=>exact qj
  |some e=>exact qw _ (QN (Yx _ _ _ _ _ _) λ_ _ _=>qw _ (qn (_,_,_)))
 |own i aj d len cap =>
  simp only[zh];cases qT P t with
  |none=>exact qj
  |some e=>exact qD (Ql h i aj) λb=>qw _ (QN (Yx _ _ _ _ _ _) λ_ _ _=>qn (_,_,_))
 |_=>exact qj
def qfK(t:TypeId)(x:T)(f:Nat):zY λR k=>KT (R:=R) P t x f h k:=by
 unfold KT;cases x with
 |agg l =>
  cases Zi P t f with
  |none=>exact qj
  |some p=>exact qD (Z1 P _ _) λv=>qn (v,h,false)
 |_=>exact qj
def qbc(t:TypeId)(x:T)(f:Nat):zY λR k=>Zj (R:=R) P t x f h k:=by
 unfold Zj;cases x with
 |ptr i aj j o =>
  cases Zi P t f with
  |none=>exact qj
  |some p=>exact qD (Ql h i aj) λ_=>qn (_,_,_)
 |vp cells =>
  cases Zi P t f with
  |none=>exact qj
  |some p=>exact qn (_,_,_)
 |_=>exact qj
def qej(ty:TypeId):zY λR k=>Yi (R:=R) P ty h k:=by
 unfold Yi;split
 .exact qn (_,_,_)
 .exact qn (_,_,_)
def qbe(t:TypeId)(x i:T):zY λR k=>zi (R:=R) P t x i h k:=by
 unfold zi;cases i with
 |int d i =>
  cases x with
  |own b aj a len cap =>
   dsimp only;cases qT P t with
   |none=>exact qj
   |some e=>exact qD (Ql h b aj) λey=>qw _ (qw _ (qK _ (MM (λj=>qn (T.ptr b aj j 0,h,false)) _ _) (qn (_,_,_))))
  |view sz n g cap =>
   dsimp only;cases qT P t with
   |none=>exact qj
   |some e=>exact qw _ (qw _ (qn (_,_,_)))
  |ptr b aj j o =>
   dsimp only;cases QR P t with
   |none=>exact qj
   |some p=>exact qw _ (qD (Ql h b aj) λ_=>qK _ (qn (_,_,_)) (Kd (λi=>qn (T.ptr b aj j (o+i*qN P p.2),h,false)) _ _))
  |vp cells =>
   dsimp only;cases QR P t with
   |none=>exact qj
   |some p=>exact qw _ (Kd (λi=>qn (T.vp (cells.drop (i*qN P p.2)),h,false)) _ _)
  |_=>exact qj
 |_=>exact qj
def qfL(t:TypeId)(x i:T):zY λR k=>KU (R:=R) P t x i h k:=by
 unfold KU;cases x with
 |str s =>
  cases i with
  |int a i=>exact qw _ (qw _ (qn (_,_,_)))
  |_=>exact qj
 |agg l =>
  cases i with
  |int a i =>
   dsimp only;cases QR P t with
   |none=>exact qj
   |some p=>exact qw _ (Kd (λi=>qD (Z1 P _ _) λv=>qn (v,h,false)) _ _)
  |_=>exact qj
 |_=>cases i<;>exact qj
def qcX(x:T)(i:Nat):zY λR k=>ym (R:=R) x i h k:=by
 cases x with
 |aK l =>
  simp only[ym];cases l[i]? with
  |none=>exact qj
  |some v=>exact qn (_,_,_)
 |_=>exact qj
def R1{g:∀R:Type,TypeId->T->T->(Bool->Option R)->Option R}(d:∀t x y,cV λR k=>g R t x y k)(l m:JO):∀fs,cV λR k=>eqFields (R:=R) P (g R) l m fs k
 |[]=>qn true
 |f::fs=>by
  have e:=R1 d l m fs;simp only[eqFields];exact qK _ e (qD (Z1 P _ _) λa=>qD (Z1 P _ _) λb=>qD (d _ a b) λr=>qK r e (qn false))
def R2{g:∀R:Type,TypeId->T->T->(Bool->Option R)->Option R}(f:∀t x y,cV λR k=>g R t x y k)(l m:JO)(e:TypeId):∀d,cV λR k=>eqItems (R:=R) P (g R) l m e d k
 |[]=>qn true
 |i::d=>by
  have j:=R2 f l m e d;simp only[eqItems];exact qD (Z1 P _ _) λa=>qD (Z1 P _ _) λb=>qD (f _ a b) λr=>qK r j (qn false)
def Ik:∀(d:Nat) (t:TypeId) (x y:T),cV λR k=>KN (R:=R) P d t x y k
 |0,_,_,_=>qj
 |d+1,t,x,y=>by
  cases x with
  |int f a=>cases y with|int e b=>exact qw _ (qn _)|_=>exact qj
  |bool a=>cases y with|bool b=>exact qw _ (qn _)|_=>exact qj
  |str a=>cases y with|str b=>exact qw _ (qn _)|_=>exact qj
  |agg l =>
   cases y with
   |agg m =>
    simp only[KN];cases KW P t with
    |none =>
     cases Fb P t with
     |none=>exact qj
     |some ne=>exact R2 P (λt x y=>Ik d t x y) l m ne.2 (List.range ne.1)
    |some fs=>exact qK _ qj (R1 P (λt x y=>Ik d t x y) l m fs)
   |_=>exact qj
  |_=>exact qj
attribute [local irreducible] KN
def R3(t:TypeId)(x y:T):cV λR k=>CW (R:=R) P t x y h k:=by
 unfold CW;cases x with
 |int e a=>cases y with|int d b=>exact qw _ (qn _)|_=>exact qj
 |str a=>cases y with|str b=>exact qn _|_=>exact qj
 |bool a=>cases y with|bool b=>exact Ik P 1 t _ _|_=>exact qj
 |agg a=>cases y with|agg b=>exact qK _ qj (Ik P 10 t _ _)|_=>exact qj
 |ag=>cases y with
  |ag=>exact qw _ (qn _)
  |view _ _ _ _=>exact qw _ (qn _)
  |own i aj _ _ _=>exact qw _ (qD (Ql h i aj) λ_=>qw _ (qn _))
  |_=>exact qj
 |view _ _ _ _=>cases y with|ag=>exact qw _ (qn _)|_=>exact qj
 |own i aj _ _ _=>cases y with|ag=>exact qw _ (qD (Ql h i aj) λ_=>qw _ (qn _))|_=>exact qj
 |eu=>cases y with|eu=>exact qw _ (qn _)|fn _ _=>exact qw _ (qn _)|_=>exact qj
 |fn _ _=>cases y with|eu=>exact qw _ (qn _)|_=>exact qj
 |_=>cases y<;>exact qj
attribute [local irreducible] CW
def qiL(d:BinOp)(e:IntKind)(a b:Int):zY λR k=>H9 (R:=R) d e a b h k:=by
 cases d<;>first|exact qn (_,_,_)|exact qK _ qj (qn (_,_,_))|exact qj
def qiM(d:BinOp)(a b:List UInt8):zY λR k=>Ia (R:=R) d a b h k:=by
 cases d<;>first|exact qn (_,_,_)|exact qw _ (qn (_,_,_))|exact qj
def qfM(d:BinOp)(e:IntKind)(a b:Int):zY λR k=>JW (R:=R) d e a b h k:=by
 unfold JW;cases d<;>first|exact qw _ (qn (_,_,_))|exact qw _ qj
def qfN(d:BinOp)(x y:T):zY λR k=>KX (R:=R) d x y h k:=by
 unfold KX;cases x with
 |int e a=>cases y with|int f b=>exact qw _ (qiL h d e a b)|_=>exact qj
 |str a=>cases y with|str b=>exact qiM h d a b|_=>exact qj
 |_=>cases y<;>exact qj
def Jb(d:BinOp)(x y:T):zY λR k=>kC (R:=R) d x y h k:=by
 unfold kC;cases x with
 |int e a=>cases y with|int f b=>exact qfM h d e a b|_=>exact qj
 |_=>cases y<;>exact qj
def qiN(a:BinOp)(t:TypeId)(x y:T):zY λR k=>Ib (R:=R) P a t x y h k:=by
 cases a
 case eql=>exact qD (R3 P h t x y) λb=>qn (_,_,_)
 case neq=>exact qD (R3 P h t x y) λb=>qn (_,_,_)
 case shl=>exact Jb h _ x y
 case shr=>exact Jb h _ x y
 all_goals exact qfN h _ x y
def qkN(a:UnOp)(x:T):zY λR k=>Fe (R:=R) a x h k:=by
 unfold Fe;cases a<;>cases x<;>first|exact qn (_,_,_)|exact qj
def R4(g:Nat->JO)(n:Nat):cV λR k=>Jp (R:=R) g n k:=by
 unfold Jp;exact qw _ (qn _)
attribute [local irreducible] Jp
def qcZ(a b:TypeId)(x:T):zY λR k=>Yu (R:=R) P a b x h k:=by
 unfold Yu;cases x with
 |int z n =>
  dsimp only;cases P.underlying b with
  |none=>exact qj
  |some d=>cases d<;>first|exact qn (_,_,_)|exact qj
 |str s =>
  dsimp only;cases P.underlying b with
  |none=>exact qj
  |some d=>cases d<;>first|exact qn (_,_,_)|exact qj
 |ag =>
  dsimp only;cases P.underlying a with
  |none=>exact qj
  |some f =>
   cases P.underlying b with
   |none=>cases f<;>exact qj
   |some r =>
    cases f with
    |slice e =>
     cases r with
     |string =>
      dsimp only;cases P.underlying e with
      |none=>exact qj
      |some o =>
       cases o with
       |int j=>cases j<;>first|exact qn (_,_,_)|exact qj
       |_=>exact qj
     |_=>exact qj
    |_=>exact qj
 |view sz n g cap =>
  dsimp only;cases P.underlying a with
  |none=>exact qj
  |some f =>
   cases P.underlying b with
   |none=>cases f<;>exact qj
   |some r =>
    cases f with
    |slice e =>
     cases r with
     |string =>
      dsimp only;cases P.underlying e with
      |none=>exact qj
      |some o =>
       cases o with
       |int j=>cases j<;>first|exact qw _ (qD (R4 _ _) λl=>qn (_,_,_))|exact qj
       |_=>exact qj
     |_=>exact qj
    |_=>exact qj
 |own i aj u len cap =>
  dsimp only;cases P.underlying a with
  |none=>exact qj
  |some f =>
   cases P.underlying b with
   |none=>cases f<;>exact qj
   |some r =>
    cases f with
    |slice e =>
     cases r with
     |string =>
      dsimp only;cases P.underlying e with
      |none=>exact qj
      |some o =>
       cases o with
       |int j=>cases j<;>first|exact qD (Ql h i aj) λ_=>qw _ (qD (R4 _ _) λl=>qn (_,_,_))|exact qj
       |_=>exact qj
     |_=>exact qj
    |_=>exact qj
 |_=>exact qj
def qg9(K:bA)(f:T)(a:JO):zY λR k=>Kb (R:=R) K f a h k:=by
 cases f with
 |fn f d =>
  refine qK _ ?_ ?_
  .exact qK _ (Js (K.dw f (a++d) h) λv _=>qn (v,h,false)) (Js (K.dw f (a++d) h) λv h'=>qn (v,h',true))
  .exact qD (K.dv f _) λr=>qn (_,_,_)
 |_=>exact qj
def qiO(sz:Nat)(x:T):cV (A:=Nat×(Nat->JO)×Bool) λR k=>KZ (R:=R) sz x h λa b c=>k (a,b,c):=by
 unfold KZ;cases x with
 |ag=>exact qn (_,_,_)
 |view e n g cap=>exact qw _ (qn (_,_,_))
 |own i aj d len cap=>exact qD (Ql h i aj) λb=>qw _ (qn (_,_,_))
 |str s=>exact qw _ (qn (_,_,_))
 |_=>exact qj
attribute [local irreducible] KZ
def K7(pl:Bool)(sz:Nat)(x:T):cV (A:=Nat×(Nat->JO)×Bool) λR k=>YV (R:=R) pl sz x h λa b c=>k (a,b,c):=by
 unfold YV;exact QN (qiO h sz x) λm d e=>qK _ (qn (_,_,_)) (qK _ (qn (_,_,_)) (qn (_,_,_)))
attribute [local irreducible] YV
def Jc(t:TypeId)(s x:T):zY λR k=>yn (R:=R) P t s x h k:=by
 unfold yn;cases qT P t with
 |none=>exact qj
 |some e =>
  refine qw _ (QN (K7 h _ _ x) λm d f=>?_);cases s with
  |ag=>exact qK _ (qn (_,_,_)) (qw _ (qn (_,_,_)))
  |view sz n g cap =>
   refine qw _ (qK _ (qn (_,_,_)) ?_);cases cap with
   |none=>exact qj
   |some c=>exact qw _ (qn (_,_,_))
  |own i aj a len cap =>
   refine qD (Ql h i aj) λb=>qw _ (qK _ (qn (_,_,_)) (qw _ ?_));cases cap with
   |none=>exact qK _ (qn (_,_,_)) (qn (_,_,_))
   |some c=>exact qK _ (qw _ (qn (_,_,_))) (qn (_,_,_))
  |_=>exact qj
def R5(t:TypeId)(d x:T):zY λR k=>JY (R:=R) P t d x h k:=by
 unfold JY;cases qT P t with
 |none=>exact qj
 |some e =>
  refine qw _ (QN (K7 h _ _ x) λm f g=>?_);cases d with
  |ag=>exact qn (_,_,_)
  |own i aj a len cap=>exact qD (Ql h i aj) λb=>qw _ (qn (_,_,_))
  |_=>exact qj
def qfO(t:TypeId)(d:T):zY λR k=>K1 (R:=R) P t d h k:=by
 unfold K1;cases qT P t with
 |none=>exact qj
 |some e =>
  refine qw _ ?_;cases d with
  |ag=>exact qn (_,_,_)
  |own i aj a len cap=>exact qD (Ql h i aj) λb=>qw _ (qn (_,_,_))
  |_=>exact qj
def R6(t:TypeId)(x:T):zY λR k=>Jq (R:=R) P t x h k:=by
 unfold Jq;cases x with
 |str s=>exact qw _ (qn (_,_,_))
 |ag=>exact qw _ (qn (_,_,_))
 |view _ _ _ _=>exact qw _ (qn (_,_,_))
 |own i aj _ _ _=>exact qw _ (qD (Ql h i aj) λ_=>qn (_,_,_))
 |agg l =>
  dsimp only;cases QR P t with
  |none=>exact qj
  |some p=>exact qn (_,_,_)
 |_=>exact qj
def R8(t:TypeId)(x:T):zY λR k=>If (R:=R) P t x h k:=by
 refine qw _ ?_;cases x with
 |ag=>exact qn (_,_,_)
 |view _ _ _ cap=>cases cap with|none=>exact qj|some c=>exact qn (_,_,_)
 |own i aj _ _ cap=>cases cap with|none=>exact qj|some c=>exact qD (Ql h i aj) λ_=>qn (_,_,_)
 |_=>exact qj
def YX(d:Bool)(x y:T):zY λR k=>jF (R:=R) d x y h k:=by
 unfold jF;cases x with
 |int f a=>cases y with|int e b=>exact qw _ (qn (_,_,_))|_=>exact qj
 |_=>cases y<;>exact qj
def qiP(x:T):zY λR k=>Fg (R:=R) x h k:=by
 cases x with
 |vp _=>exact qn (_,_,_)
 |fn _ _=>exact qn (_,_,_)
 |ptr i aj _ _=>exact qD (Ql h i aj) λ_=>qn (_,_,_)
 |_=>exact qj
def qha(i aj:Nat):cV (A:=aq×bp) λR k=>Yb (R:=R) h i aj λb m=>k (b,m):=by
 unfold Yb;cases h[i]? with
 |none=>exact qj
 |some b =>
  dsimp only;cases b.mp with
  |none=>exact qw _ qj
  |some m=>exact qw _ (qn (b,m))
attribute [local irreducible] Yb
def qfP:∀(fs:List (Option IntKind)) (l:JO),cV λR k=>zw (R:=R) fs l k:=by
 intro fs
 induction fs with
 |nil =>
  intro l;cases l with
  |nil=>exact qn ([]:List Int)
  |cons x l=>exact qj
 |cons f fs a =>
  intro l;cases l with
  |nil=>cases f<;>exact qj
  |cons x l =>
   cases f with
   |some d =>
    cases x with
    |int q n=>exact qw _ (qD (a l) λm=>qn (n::m))
    |_=>exact qj
   |none =>
    cases x with
    |bool b=>exact qD (f:=λR k=>zw (R:=R) fs l k) (g:=λm R k=>k ((bif b then 1 else 0)::m)) (a l) λm=>qn _
    |_=>exact qj
attribute [local irreducible] zw
def YY(ks:KS)(x:T):cV λR k=>jE (R:=R) ks x k:=by
 unfold jE;split
 .exact qw _ (qn _)
 .exact qfP _ _
 .exact qj
attribute [local irreducible] jE
def qc2(t:TypeId):zY λR k=>yq (R:=R) P t h k:=by
 unfold yq;split
 .exact qn (_,_,_)
 .exact qj
def R9(t:TypeId)(x:T):cV (A:=Nat×aq×bp) λR k=>YW (R:=R) P t x h λa b c=>k (a,b,c):=by
 unfold YW;split
 .rename_i i aj;refine Js (qha h i aj) λb m=>?_;split
  .exact qw _ (qn (i,b,m))
  .exact qj
 .exact qj
attribute [local irreducible] YW
def kH(t:TypeId)(x key:T):cV (A:=Nat×aq×bp×List Int) λR k=>yh (R:=R) P t x key h λa b c d=>k (a,b,c,d):=by
 unfold yh;exact QN (R9 P h t x) λi aj m=>qD (YY m.ks key) λl=>qn (i,aj,m,l)
attribute [local irreducible] yh
def kI{A B C E D:Type}{f:∀R:Type,(A->B->C->E->Option R)->Option R}{g:A->B->C->E->∀R:Type,(D->Option R)->Option R}(i:cV (A:=A×B×C×E) λR k=>f R λa b c d=>k (a,b,c,d))
 (e:∀a b c d,cV (g a b c d)):cV λR k=>f R λa b c d=>g a b c d R k:=qD (f:=λR k=>f R λa b c d=>k (a,b,c,d)) (g:=λp=>g p.1 p.2.1 p.2.2.1 p.2.2.2) i λp=>e _ _ _ _
def qek(t:TypeId)(x key:T)(c:Bool):zY λR k=>QV (R:=R) P t x key c h k:=by
 unfold QV;exact kI (kH P h t x key) λi aj m l=>qn (_,_,_)
def qel(t:TypeId)(x key v:T):zY λR k=>Yj (R:=R) P t x key v h k:=by
 unfold Yj;split
 .exact kI (kH P h t x key) λi aj m l=>qw _ (qn (_,_,_))
 .exact qj
def qfQ(t:TypeId)(x key:T):zY λR k=>yV (R:=R) P t x key h k:=by
 unfold yV;exact kI (kH P h t x key) λi aj m l=>qn (_,_,_)
def qaf(t:TypeId)(x st v:T):zY λR k=>zP (R:=R) P t x st v h k:=by
 unfold zP;split
 .refine QN (R9 P h t x) λi aj m=>?_;split
  .exact qw _ (qn (_,_,_))
  .exact qj
 .exact qj
def qem(t a:TypeId)(x key:T):zY λR k=>kE (R:=R) P t a x key h k:=by
 unfold kE;split
 .exact qw _ (kI (kH P h t x key) λi aj m l=>qn (_,_,_))
 .exact qj
def qc4(b:Builtin)(ts:List TypeId)(a:JO):zY λR k=>Za (R:=R) P b ts a h k:=by
 match b,ts,a with
 |.len,t::_,[x]=>exact R6 P h t x
 |.cap,t::_,[x]=>exact R8 P h t x
 |.append,t::e::_,[s,x]=>exact qw _ (Jc P h t s x)
 |.copy,t::_,[d,x]=>exact R5 P h t d x
 |.min,_,[x,y]=>exact YX h false x y
 |.max,_,[x,y]=>exact YX h true x y
 |b,ts,a =>
  unfold Za;split
  .exact R6 P h _ _
  .exact R8 P h _ _
  .exact qw _ (Jc P h _ _ _)
  .exact R5 P h _ _ _
  .exact qfO P h _ _
  .exact YX h false _ _
  .exact YX h true _ _
  .exact qem P h _ _ _ _
  .exact qj
end
section
variable (P:Program) (K:bA) (Gl:V9) (aa:Wa) (nt:Nat)
def Zl(a:Op)(e:Operand->T)(h:qa):zY λR k=>Qe (R:=R) P K a e h k:=by
 unfold Qe;split
 .exact qn (_,_,_)
 .exact qn (_,_,_)
 .split
  .exact qK _ (qn (_,_,_)) (qn (_,_,_))
  .exact qj
 .exact qw _ (qej P h _)
 .exact qw _ (qfH h _)
 .exact qfI P h _ _
 .exact qac P h _ _ _
 .exact RZ P h _ _
 .exact qfG P h _ _ _
 .exact qiP h _
 .exact qiN P h _ _ _ _
 .exact qkN h _ _
 .exact qw _ (qcZ P h _ _ _)
 .exact qw _ (qn (_,_,_))
 .exact qg8 P h _ _ _
 .exact qfJ P h _ _ _ _ _
 .exact qbc P h _ _ _
 .exact qfK P h _ _ _
 .exact qbe P h _ _ _
 .exact qfL P h _ _ _
 .exact qcX h _ _
 .exact qc2 P h _
 .exact qek P h _ _ _ _
 .exact qel P h _ _ _ _
 .exact qfQ P h _ _ _
 .exact qaf P h _ _ _ _
 .exact qg9 h K _ _
 .exact qc4 P h _ _ _
 .exact qj
def qiQ(v:T):cV λR k=>D4 (A:=R) v k:=by
 cases v with
 |bool b=>exact qK b (qn _) (qn _)
 |_=>exact qn _
abbrev D5(f:∀R:Type,(du->FP->Option R)->Option R):Prop:=cV (A:=du×FP) λR k=>f R λs a=>k (s,a)
def Z2(o:Oper)(s:St)(v:T)(hp:Option qa)(rs:Wa)(rd wr:Bool):D5 λR k=>done (R:=R) nt o s v hp rs rd wr k:=by
 unfold done;cases o.dst with
 |none=>exact qn (_,_)
 |some d=>exact qw _ (qD (qiQ v) λv=>qn (_,_))
def K8(o:Oper)(t off:Nat)(rs:Wa):D5 λR k=>zZ (R:=R) aa nt o t off rs k:=by
 unfold zZ;cases o.dst with
 |none=>exact qj
 |some d=>exact qw _ (qn (_,_))
attribute [local irreducible] Qe D4 done zZ ld
def qkP{A B C:Type}{F:∀R:Type,(A->B->Option R)->Option R}(h:cV (A:=A×B) λR k=>F R λa b=>k (a,b))(g:A->B->C):cV (A:=A×C) λR k=>F R λa b=>k (a,g a b):=by
 rcases h with h|⟨⟨a,b⟩,h⟩
 .exact .inl λR k=>h R λp=>k (p.1,g p.1 p.2)
 .exact .inr ⟨(a,g a b),λR k=>h R λp=>k (p.1,g p.1 p.2)⟩
def QT(o:Oper)(s:St):D5 λR k=>Qf (R:=R) P K Gl aa nt o s k:=by
 unfold Qf;exact qK _ (QN (Zl P K _ _ _) λ_ _ wr=>qK wr qj (Z2 nt _ _ _ _ _ _ _)) (QN (Zl P K _ _ _) λ_ _ _=>qkP (Z2 nt _ _ _ _ _ _ _) _)
attribute [local irreducible] Qf
def yw(o:Oper)(s:St):D5 λR k=>zW (R:=R) P K Gl aa nt o s k:=by
 unfold zW;split
 .cases o.dst with
  |none=>exact qj
  |some d=>exact qK _ (qw _ (Z2 nt _ _ _ _ _ _ _)) (QT P K Gl aa nt o s)
 .cases o.dst with
  |none=>exact qj
  |some d=>exact qK _ (qw _ (Z2 nt _ _ _ _ _ _ _)) (QT P K Gl aa nt o s)
 .split
  .split
   .exact qD (Z1 P _ _) λv=>Z2 nt _ _ _ _ _ _ _
   .exact qj
  .exact QT P K Gl aa nt o s
 .split
  .split
   .exact qw _ (qn (_,_))
   .exact qj
  .exact QT P K Gl aa nt o s
 .split
  .split
   .split
    .exact K8 aa nt _ _ _ _
    .exact qj
   .exact qj
  .exact QT P K Gl aa nt o s
 .split
  .split
   .split
    .split
     .exact qw _ (Kd (λj=>K8 aa nt _ _ _ _) _ _)
     .exact qj
    .exact qj
   .exact qj
  .exact QT P K Gl aa nt o s
 .split
  .split
   .exact K8 aa nt _ _ _ _
   .exact qj
  .exact QT P K Gl aa nt o s
 .exact QT P K Gl aa nt o s
attribute [local irreducible] zW
def zx{A B D:Type}{f:∀R:Type,(A->B->Option R)->Option R}{g:A->B->∀R:Type,(D->Option R)->Option R}(i:cV (A:=A×B) λR k=>f R λa b=>k (a,b))
 (e:∀a b,cV (g a b)):cV λR k=>f R λa b=>g a b R k:=by
 rcases i with h|⟨p,h⟩
 .exact .inl λR k=>h R λq=>g q.1 q.2 R k
 .rcases e p.1 p.2 with d|⟨b,d⟩
  .exact .inl λR k=>(h R λq=>g q.1 q.2 R k).trans (d R k)
  .exact .inr ⟨b,λR k=>(h R λq=>g q.1 q.2 R k).trans (d R k)⟩
def qhb(o:Oper)(s:St):D5 λR k=>Zk (R:=R) P Gl aa nt o s k:=by
 unfold Zk;split
 .exact qD (ZI P _ _ _) λv=>Z2 nt _ _ _ _ _ _ _
 .exact qj
def K9(ops:List Oper)(o:Oper)(s:St):D5 λR k=>zu (R:=R) P K Gl aa nt ops o s k:=by
 unfold zu;split
 .exact qK _ (qhb (P:=P) (Gl:=Gl) (aa:=aa) (nt:=nt) (o:=o) (s:=s)) (yw P K Gl aa nt o s)
 .split
  .exact qj
  .split
   .exact qK _ qj (qK _ (zx (yw P K Gl aa nt o s) λa d=>qn (_,_)) (Z2 nt _ _ _ _ _ _ _))
   .exact qK _ qj (Z2 nt _ _ _ _ _ _ _)
   .exact qj
attribute [local irreducible] zu
abbrev qsW(f:∀R:Type,(St->List FP->Option R)->Option R):Prop:=cV (A:=St×List FP) λR k=>f R λs a=>k (s,a)
def Sa(ops:List Oper):∀(l:List Oper) (s:St),qsW λR k=>yt (R:=R) P K Gl aa nt ops l s k
 |[],s=>qn (s,[])
 |o::l,s=>by
  simp only[yt];exact zx (K9 P K Gl aa nt ops o s) λf a=>zx (Sa ops l (f.dN s)) λe d=>qn (_,_)
attribute [local irreducible] yt
variable (live:Nat->Bool->Wa)
def Z3(rec:Rec):Prop:=∀b a h,cV (A:=Ex×JO×qa) λR k=>rec R b a h λe a h=>k (e,a,h)
abbrev qsX(f:∀R:Type,(Ex->St->Option R)->Option R):Prop:=cV (A:=Ex×St) λR k=>f R λe s=>k (e,s)
def Z5{rec:Rec}(d:Z3 rec):∀(c:Code) (s:St),qsX λR k=>ib (R:=R) P K Gl aa nt live rec c s k
 |.skip,s=>qn (_,_)
 |.label _,s=>qn (_,_)
 |.region id ops j,s=>by
  simp only[ib];exact zx (Sa P K Gl aa nt ops.toList ops.toList _) λg r=>qw _ (qK _ (qw _ (qn (_,_))) (qn (_,_)))
 |.seq a b,s=>by
  simp only[ib];refine zx (Z5 d a s) λe g=>?_;cases e with
  |normal=>exact Z5 d b g
  |_=>exact qn (_,_)
 |.cond c a b,s=>by
  simp only[ib];split
  .exact qK _ (Z5 d a s) (Z5 d b s)
  .exact qj
 |.block id b,s=>by
  simp only[ib];refine zx (Z5 d b s) λe g=>?_;cases e with
  |exit i=>exact qK _ (qn (_,_)) (qn (_,_))
  |_=>exact qn (_,_)
 |.loop b,s=>by
  simp only[ib];exact qK _ qj (QN (d b _ s.h) λe o h=>qn (_,_))
 |.exit id,s=>qn (_,_)
 |.ret,s=>qn (_,_)
 |.scope b,s=>by
  simp only[ib];exact Z5 d b s
 |.goto _,_=>qj
 |.refuse _,_=>qj
 |.rangeFunc f ps a b,s=>by
  simp only[ib];exact QN (d _ _ s.h) λe o h=>qn (_,_)
def ZS:∀n,Z3 (kG P K Gl aa nt live n)
 |0=>λb a h=>qj
 |n+1=>λb a h=>by
  simp only[kG];refine qK _ qj ?_;refine zx (Z5 P K Gl aa nt live (ZS n) b _) λe d=>?_;cases e with
  |normal=>exact ZS n b _ _
  |_=>exact qn (_,_,_)
def qfR(t:TypeId)(v:T)(h:qa):cV λR k=>kZ (R:=R) P t v h λv _ _=>k v :=
 QN (RZ P h t v) λv _ _=>qn v
def Sb(s:St)(r:ResultVar):cV λR k=>Fj (R:=R) P Gl aa s r k:=by
 cases r with
 |tmp t=>exact qn _
 |cell a d =>
  simp only[Fj];split
  .split
   .exact Z1 P _ _
   .exact qj
  .exact qfR P _ _ _
def Sc(s:St):∀l:List ResultVar,cV λR k=>K4 (R:=R) P Gl aa s l k
 |[]=>qn []
 |r::l=>by
  simp only[K4];exact qD (Sb P Gl aa s r) λv=>qD (Sc s l) λa=>qn _
end
section
variable (P:Program) (K:bA) (Gl:V9) (aa:Wa) (nt:Nat)
def Sd{e e':Operand->T}(ps:Array (Nat×Operand))(h:∀x∈(ps.toList.map (·.2)),e' x=e x):(ps.toList.map λp=>(p.1,e' p.2))=(ps.toList.map λp=>(p.1,e p.2)):=by
 apply va;intro p a;rw[h p.2 (vb.2 ⟨p,a,rfl⟩)]
def Il{e e':Operand->T}(xs:Array Operand)(h:∀x∈xs.toList,e' x=e x):xs.toList.map e'=xs.toList.map e:=va λx hx=>h x hx
def Se{R:Type}(op:Op){e e':Operand->T}(i:qa)(k:Qd R)(h:∀x∈op.operands.toList,e' x=e x):Qe P K op e' i k=Qe P K op e i k:=by
 cases op with
 |call c =>
  obtain⟨a,d,argTypes⟩:=c;cases a with
  |value f =>
   have h1:=h f (by simp[Op.operands,Call.operands]);have g:=Il (e:=e) (e':=e') d λx hx=>h x (by simp[Op.operands,Call.operands];right;simpa using hx);simp only[Qe,h1,g]
  |builtin b =>
   have g:=Il (e:=e) (e':=e') d λx hx=>h x (by simpa [Op.operands,Call.operands] using hx);simp only[Qe,g]
  |invoke r m=>rfl
 |build t ps =>
  simp only[Qe];rw[Sd (e:=e) (e':=e') ps λx hx=>h x (by simpa [Op.operands] using hx)]
 |buildSlice t n ps =>
  simp only[Qe];rw[Sd (e:=e) (e':=e') ps λx hx=>h x (by simpa [Op.operands] using hx)]
 |makeFunc fn first captured =>
  have g:=Il (e:=e) (e':=e') captured λx hx=>h x (by simp only[Op.operands,Array.toList_append,wS];exact .inr hx);cases fn<;>simp only[Qe,g]
 |slice t x o u j=>cases o<;>cases u<;>cases j<;>simp_all [Op.operands,Qe]
 |makeMap t r=>cases r<;>rfl
 |_=>first|rfl|(simp[Op.operands] at h;simp[Qe,h];done)
def Sf(op:Op){e e':Operand->T}(h:∀x∈op.operands.toList,e' x=e x):Jr op e'=Jr op e:=by
 unfold Jr;congr 1;congr 1;have:∀l:List Operand,(∀x∈l,e' x=e x)->(l.all λx=>aH (e' x))=(l.all λx=>aH (e x)):=by
  intro l
  induction l with
  |nil=>exact λ_=>rfl
  |cons x l d=>intro a;simp only[xJ,a x au,d λy g=>a y (by simp[g])]
 exact this _ h
def qcp(op:Op){e e':Operand->T}(h:∀x∈op.operands.toList,e' x=e x):QM K op e'=QM K op e:=by
 cases op with
 |call c =>
  obtain⟨a,d,argTypes⟩:=c;cases a with
  |value f =>
   have h1:=h f (by simp[Op.operands,Call.operands]);have g:=Il (e:=e) (e':=e') d λx hx=>h x (by simp[Op.operands,Call.operands];right;simpa using hx);simp only[QM,h1,g]
  |_=>rfl
 |_=>rfl
def qhc(op:Op){e e':Operand->T}(h:∀x∈op.operands.toList,e' x=e x):zL op e'=zL op e:=by
 cases op with
 |load t a=>simp only[zL,h a (by simp[Op.operands])]
 |fieldAddr t a f=>simp only[zL,h a (by simp[Op.operands])]
 |nilCheck a=>simp only[zL,h a (by simp[Op.operands])]
 |indexAddr t x i=>simp only[zL,h x (by simp[Op.operands])]
 |slice t x g j d=>simp only[zL,h x (by simp[Op.operands])]
 |lookup t x i c=>simp only[zL,h x (by simp[Op.operands])]
 |_=>rfl
def ja(op:Op){e e':Operand->T}(h:∀x∈op.operands.toList,e' x=e x)(hp:qa)(v:T):kF op e' hp v=kF op e hp v:=by
 cases op with
 |store t a v=>simp only[kF,h a (by simp[Op.operands])]
 |mapUpdate t x i v=>simp only[kF,h x (by simp[Op.operands])]
 |mapEntry t x i=>simp only[kF,h x (by simp[Op.operands])]
 |entryStore t x i v=>simp only[kF,h x (by simp[Op.operands])]
 |call c =>
  obtain⟨d,_,_⟩:=c;cases d with
  |builtin b=>cases b<;>rfl
  |_=>rfl
 |_=>rfl
def qfS(op:Op){e e':Operand->T}(h:∀x∈op.operands.toList,e' x=e x)(hp:qa)(v:T)(wr:Bool):zV K op e' hp v wr=zV K op e hp v wr:=by
 cases op with
 |call c =>
  obtain⟨a,d,argTypes⟩:=c;cases a with
  |value f =>
   have h1:=h f (by simp[Op.operands,Call.operands]);simp only[zV,h1]
  |builtin b=>exact ja (.call ⟨.builtin b,d,argTypes⟩) h hp v
  |invoke r m=>exact ja (.call ⟨.invoke r m,d,argTypes⟩) h hp v
 |_=>exact ja _ h hp v
def qhd{a:Op}{e:Operand->T}{j:Nat}(h:zL a e=some j)(hp:qa)(v:T)(wr:Bool):zV K a e hp v wr=none:=by
 cases a with
 |load=>rfl
 |fieldAddr=>rfl
 |nilCheck=>rfl
 |indexAddr=>rfl
 |slice=>rfl
 |lookup=>rfl
 |_=>cases h
def qen{K:bA}{a:Op}{e:Operand->T}(h:QM K a e=false)(hp:qa)(v:T):zV K a e hp v false=none:=by
 unfold QM at h;split at h
 .simp only[zV];split
  .simp
  .rfl
 .cases h
def MN(h:qa){x:T}(hx:ZY x=true):yg true h x=((yg true [] x).1,h):=by
 cases x with
 |fresh=>cases hx
 |iG=>cases hx
 |_=>rfl
def Sg(h:qa):∀{l:JO},l.all ZY=true->Yv true h l=((Yv true [] l).1,h)
 |[],_=>rfl
 |x::l,a=>by
  simp only[xJ,wg] at a;simp only[Yv];rw[MN h a.1,MN [] a.1];dsimp only;rw[Sg h a.2]
def MO(h:qa){x:T}(hx:ZZ x=true):yU true h x=((yU true [] x).1,h):=by
 cases x with
 |agg l=>simp only[yU];rw[Sg h (show l.all ZY=true from hx)]
 |_=>(simp only[ZZ] at hx;simp only[yU];exact MN h hx)
def Sh(h:qa):∀{l:JO},l.all ZZ=true->ZL true h l=((ZL true [] l).1,h)
 |[],_=>rfl
 |x::l,a=>by
  simp only[xJ,wg] at a;simp only[ZL];rw[MO h a.1,MO [] a.1];dsimp only;rw[Sh h a.2]
def Si(h:qa){x:T}(hx:Ka x=true):ZD true h x=((ZD true [] x).1,h):=by
 cases x with
 |aK l=>simp only[ZD];rw[Sh h (show l.all ZZ=true from hx)]
 |_=>(simp only[Ka] at hx;simp only[ZD];exact MO h hx)
def YZ(h:qa):∀{l:JO},l.all aH=true->l.map (zo h)=l
 |[],_=>rfl
 |x::l,a=>by
  simp only[xJ,wg] at a;simp only[xA,YZ h a.2,zo,a.1,wm]
def qkQ{R:Type}{j:Op}{e:Operand->T}{h h1:qa}{k:Qd R}{r:R}(g:QM K j e=false)(d:Qe P K j e h k=some r) :
 ∃y h' w,k y h' w=some r/\(w=false->Qe P K j e h1 k=k y h1 false):=by
 cases j with
 |call c =>
  obtain⟨a,args,argTypes⟩:=c;cases a with
  |value f =>
   simp only[QM] at g;simp only[Qe] at d ⊢;cases x:e f with
   |fn f D =>
    rw[x] at g d;dsimp only at g;simp only[wY,Bool.not_eq_false'] at g;obtain⟨A,u⟩:=g;simp only[Kb,A,wp,YZ _ u,u] at d ⊢;obtain⟨i,d,C⟩:=qH (K.dv f (args.toList.map e++D)) d;refine⟨_,_,_,d,λhw=>?_⟩;have o:Ka i=true:=by simpa using hw
    rw[C];have z:=Si h1 o;have B:=Si h o;rw[show(ZD true h1 i).1=(ZD true h i).1 by rw[z,B],show(ZD true h1 i).2=h1 by rw[z],hw]
   |_=>rw[x] at d;cases d
  |_=>cases g
 |_=>cases g
def Ax(h:qa)(j:Nat):Option (Nat×Option (KS×IntKind×(List Int->Int))):=h[j]?.map λb=>(b.aj,b.mp.map λm=>(m.ks,m.q,m.val))
structure io(s s1:St)(fp:FP):Prop where
 at':∀e∈fp.rs,s1.at e=s.at e
 loc:∀e∈fp.rs,s1.loc e=s.loc e
 used:∀d∈fp.ws,s1.used d=s.used d
 heap:fp.wr=true->s1.h=s.h
 uS:fp.rd=true->s1.h=s.h∨(∃j:Nat,fp.rb.1=some j/\s1.h[j]?=s.h[j]?)∨(fp.rb.2=true/\∀j,Ax s1.h j=Ax s.h j)
variable {P K Gl aa nt}
variable {s s1:St} {f:du} {fp:FP}
abbrev two(f:du)(fp:FP):Option (du×FP):=some (f,fp)
def kJ{x:Operand}(h:∀t∈QY x,s1.at t=s.at t):ev Gl aa s1 x=ev Gl aa s x:=by
 cases x with
 |tmp t=>simp only[ev,h t (by simp[QY])]
 |_=>rfl
def zp{x:Operand}(h:∀t∈QY x,s1.loc t=s.loc t):base aa s1 x=base aa s x:=by
 cases x with
 |tmp t=>simp only[base,h t (by simp[QY])]
 |_=>rfl
def zC{A:Type}{v:T}{k:T->Option A}:D4 v k=k v:=by
 cases v with
 |bool b=>cases b<;>rfl
 |_=>rfl
def Zb{o:Oper}{v:T}{hp:Option qa}{rs:Wa}{rd wr:Bool}(a:done nt o s v hp rs rd wr two=some (f,fp)) :
 fp.rs=rs/\fp.rd=rd/\fp.wr=wr/\((∀d∈fp.ws,s1.used d=s.used d)->done nt o s1 v hp rs rd wr two=some (f,fp)):=by
 unfold done at a ⊢;cases g:o.dst with
 |none =>
  rw[g] at a;simp only[wi,wy] at a;obtain⟨rfl,rfl⟩:=a;exact⟨rfl,rfl,rfl,λ_=>rfl⟩
 |some d =>
  rw[g] at a;dsimp only at a;cases e:(Nat.blt d nt&&!s.used d) with
  |false=>rw[e] at a;cases a
  |true =>
   rw[e] at a;simp only[wm,zC,wi,wy] at a;obtain⟨rfl,rfl⟩:=a;refine⟨rfl,rfl,rfl,λh=>?_⟩;have:=h d au;rw[←this] at e;simp only[e,wm,zC]
def qhg{o:Oper}{v:T}{hp:Option qa}{rs:Wa}{rd wr:Bool}{rb wb:Option Nat×Bool}(a:done nt o s v hp rs rd wr (λf fp=>two f { fp with rb:=rb,wb:=wb })=some (f,fp)) :
 fp.rs=rs/\fp.rd=rd/\fp.wr=wr/\fp.rb=rb/\fp.wb=wb/\((∀d∈fp.ws,s1.used d=s.used d)->done nt o s1 v hp rs rd wr (λf fp=>two f { fp with rb:=rb,wb:=wb })=some (f,fp)):=by
 unfold done at a ⊢;cases g:o.dst with
 |none =>
  rw[g] at a;simp only[wi,wy] at a;obtain⟨rfl,rfl⟩:=a;exact⟨rfl,rfl,rfl,rfl,rfl,λ_=>rfl⟩
 |some d =>
  rw[g] at a;dsimp only at a;cases e:(Nat.blt d nt&&!s.used d) with
  |false=>rw[e] at a;cases a
  |true =>
   rw[e] at a;simp only[wm,zC,wi,wy] at a;obtain⟨rfl,rfl⟩:=a;refine⟨rfl,rfl,rfl,rfl,rfl,λh=>?_⟩;have:=h d au;rw[←this] at e;simp only[e,wm,zC]
def qX{R:Type}{c:Bool}{x:Option R}{r:R}(h:(bif c then x else none)=some r):c=true/\x=some r:=by
 cases c
 .simp at h
 .exact⟨rfl,h⟩
def Y3{R:Type}{h:qa}{i aj:Nat}{k:aq->Option R}{r:R}(a:Qc h i aj k=some r):∃b,h[i]?=some b/\b.mp=none/\b.aj=aj/\k b=some r:=by
 unfold Qc at a;cases e:h[i]? with
 |none=>rw[e] at a;cases a
 |some b =>
  rw[e] at a;obtain⟨d,a⟩:=qX a;simp only[wg,vf,Option.isNone_iff_eq_none] at d;exact⟨b,rfl,d.2,d.1,a⟩
def MP{A:Type}:∀(n i:Nat) (g:Nat->A),cV λR (k:A->Option R)=>AX n i λj=>k (g j)
 |0,_,_=>qj
 |1,_,g=>qn (g 0)
 |n+2,i,g=>qK _ (qn (g (n+1))) (MP (n+1) i g)
def qhh{A:Type}(n i:Nat)(g:Nat->A):cV λR (k:A->Option R)=>Yt n i λj=>k (g j):=by
 unfold Yt;exact qK _ (MP n i g) (qn (g i))
def qkR{R:Type}{U:Op}{e:Operand->T}{h h1:qa}{j:Nat}{k:Qd R}{r:R}(g:zL U e=some j)(N:h1[j]?=h[j]?)(d:Qe P K U e h k=some r) :
 ∃y,k y h false=some r/\∀(z:Type) (u:Qd z),Qe P K U e h1 u=u y h1 false:=by
 cases U with
 |load t a =>
  simp only[zL] at g;cases hx:e a with
  |ptr i aj H o =>
   rw[hx] at g;obtain rfl:i=j:=by simpa [K2] using g
   simp only[Qe,kZ,hx] at d ⊢;obtain⟨b,C,D,E,d⟩:=Y3 d;obtain⟨hj,d⟩:=qX d;obtain⟨y,J,I⟩:=qH (Z1 P t ((b.get H).drop o)) d;refine⟨y,J,λz u=>?_⟩;simp only[Qc,N,C,E,wF,D,vJ,xO,wm,hj,I]
  |_=>rw[hx] at g;cases g
 |fieldAddr t a f =>
  simp only[zL] at g;cases hx:e a with
  |ptr i aj H o =>
   rw[hx] at g;obtain rfl:i=j:=by simpa [K2] using g
   simp only[Qe,Zj,hx] at d ⊢;cases Y:Zi P t f with
   |none=>rw[Y] at d;cases d
   |some q =>
    obtain⟨B,ty⟩:=q;rw[Y] at d;dsimp only at d ⊢;obtain⟨b,C,D,E,d⟩:=Y3 d;refine⟨_,d,λz u=>?_⟩;simp only[Qc,N,C,E,wF,D,vJ,xO,wm]
  |_=>rw[hx] at g;cases g
 |nilCheck a =>
  simp only[zL] at g;cases hx:e a with
  |ptr i aj H o =>
   rw[hx] at g;obtain rfl:i=j:=by simpa [K2] using g
   simp only[Qe,Fg,hx] at d ⊢;obtain⟨b,C,D,E,d⟩:=Y3 d;refine⟨_,d,λz u=>?_⟩;simp only[Qc,N,C,E,wF,D,vJ,xO,wm]
  |_=>rw[hx] at g;cases g
 |lookup t x i c =>
  simp only[zL] at g;cases hx:e x with
  |mp ii aj =>
   rw[hx] at g;obtain rfl:ii=j:=by simpa [j8] using g
   have same:∀(z:Type) (u:Qd z),QV P t (.mp ii aj) (e i) c h1 u=QV P t (.mp ii aj) (e i) c h (λy _ _=>u y h1 false):=by
    intro z u;simp only[QV,yh,YW,Yb,N]
   simp only[Qe,hx] at d ⊢;simp only[same];have hd:cV λ(R:Type) (k:T->Option R)=>QV P t (.mp ii aj) (e i) c h (λy _ _=>k y):=by
    unfold QV;exact kI (kH P h t _ _) λi b m l=>qn _
   have gQ:QV P t (.mp ii aj) (e i) c h (λy _ _=>k y h false)=some r:=d;obtain⟨y,J,I⟩:=qH hd (k:=λy=>k y h false) gQ;exact⟨y,J,λz u=>I z λy=>u y h1 false⟩
  |_=>rw[hx] at g;cases g
 |slice t x lo V mx =>
  simp only[zL] at g;cases hx:e x with
  |own i aj B len cap =>
   rw[hx] at g;obtain rfl:i=j:=by simpa [D3] using g
   simp only[Qe,zh,hx] at d ⊢;cases he:qT P t with
   |none=>rw[he] at d;cases d
   |some S =>
    rw[he] at d;dsimp only at d ⊢;obtain⟨Q,C,D,E,d⟩:=Y3 d;obtain⟨O,d⟩:=qX d;obtain⟨⟨l,r2,c⟩,J,I⟩:=qH (k:=λp=>k (.own i aj (B+p.1) (p.2.1-p.1) p.2.2) h false) (Yx len (Q.n-B) cap _ _ _) d;refine⟨_,J,λz u=>?_⟩;simp only[Qc,N,C,E,wF,D,vJ,xO,wm,O];exact I z λp=>u (.own i aj (B+p.1) (p.2.1-p.1) p.2.2) h1 false
  |_=>rw[hx] at g;cases g
 |indexAddr t x i =>
  simp only[zL] at g;cases V:e i with
  |int ki n =>
   cases hx:e x with
   |own b aj B len cap =>
    rw[hx] at g;obtain rfl:b=j:=by simpa using g
    simp only[Qe,zi,hx,V] at d ⊢;cases he:qT P t with
    |none=>rw[he] at d;cases d
    |some S =>
     rw[he] at d;dsimp only at d ⊢;obtain⟨Q,C,D,E,d⟩:=Y3 d;obtain⟨O,d⟩:=qX d;obtain⟨X,d⟩:=qX d;cases M:Q.oD with
     |true =>
      rw[M] at d;simp only[wm] at d;have W:cV (A:=T) λR k=>AX (R:=R) Q.n (B+n.toNat) λH=>k (.ptr b aj H 0):=MP _ _ λH=>T.ptr b aj H 0;obtain⟨y,J,I⟩:=qH (k:=λy=>k y h false) W d;refine⟨y,J,λz u=>?_⟩;simp only[Qc,N,C,E,wF,D,vJ,xO,wm,O,X,M];exact I z λy=>u y h1 false
     |false =>
      rw[M] at d;simp only[wp] at d;refine⟨_,d,λz u=>?_⟩;simp only[Qc,N,C,E,wF,D,vJ,xO,wm,O,X,M,wp]
   |ptr b aj H o =>
    rw[hx] at g;obtain rfl:b=j:=by simpa using g
    simp only[Qe,zi,hx,V] at d ⊢;cases Z:QR P t with
    |none=>rw[Z] at d;cases d
    |some q =>
     obtain⟨nn,S⟩:=q;rw[Z] at d;dsimp only at d ⊢;obtain⟨O,d⟩:=qX d;obtain⟨Q,C,D,E,d⟩:=Y3 d;cases M:((Q.sz==qN P S)&&Nat.blt 1 Q.n) with
     |true =>
      rw[M] at d;simp only[wm] at d;refine⟨_,d,λz u=>?_⟩;simp only[Qc,N,C,E,wF,D,vJ,xO,wm,O,M]
     |false =>
     rw[M] at d;simp only[wp] at d;have W:cV (A:=T) λR k=>Yt (R:=R) nn n.toNat λi=>k (.ptr b aj H (o+i*qN P S)):=qhh _ _ λi=>T.ptr b aj H (o+i*qN P S);obtain⟨y,J,I⟩:=qH (k:=λy=>k y h false) W d;refine⟨y,J,λz u=>?_⟩;simp only[Qc,N,C,E,wF,D,vJ,xO,wm,O,M,wp];exact I z λy=>u y h1 false
   |_=>rw[hx] at g;cases g
  |_=>(simp only[Qe,zi,V] at d;cases d)
 |_=>cases g
def qda{a:Op}{e:Operand->T}(d:j9 a=true)(hp:qa)(v:T)(wr:Bool):zV K a e hp v wr=none:=by
 cases a with
 |lookup=>rfl
 |_=>cases d
def qiR{R:Type}{o:Op}{e:Operand->T}{h h1:qa}{k:Qd R}{r:R}(D:j9 o=true)(Q:∀j,Ax h1 j=Ax h j)(a:Qe P K o e h k=some r) :
 ∃y,k y h false=some r/\∀(A:Type) (u:Qd A),Qe P K o e h1 u=u y h1 false:=by
 cases o with
 |lookup t x i c =>
  have U:c=false:=by simpa [j9] using D
  subst U;cases hx:e x with
  |mp ii aj =>
   simp only[Qe,hx,QV,yh,YW,Yb,wp] at a ⊢;have d:=Q ii;unfold Ax at d;cases H:h[ii]? with
   |none=>rw[H] at a;cases a
   |some b =>
    rw[H] at a d;cases I:h1[ii]? with
    |none=>rw[I] at d;cases d
    |some W =>
     rw[I] at d;simp only[vX,wi,wy] at d;obtain⟨O,g⟩:=d;dsimp only at a ⊢;rw[O];cases E:b.mp with
     |none=>rw[E] at a;cases z:(b.aj==aj)<;>rw[z] at a<;>cases a
     |some m =>
      rw[E] at a g;cases B:W.mp with
      |none=>rw[B] at g;cases g
      |some m1 =>
       rw[B] at g;simp only[vX,wi,wy] at g;obtain⟨N,M,J⟩:=g;dsimp only at a ⊢;rw[N,M,J];obtain⟨z,a⟩:=qX a;cases C:JZ P t with
       |none=>rw[C] at a;cases a
       |some p =>
        obtain⟨X,ks,q⟩:=p;rw[C] at a;dsimp only at a ⊢;obtain⟨S,a⟩:=qX a;obtain⟨l,a,V⟩:=qH (YY m.ks (e i)) (k:=λl=>k (.int m.q (m.val l)) h false) a;refine⟨_,a,λA u=>?_⟩;rw[z,S];exact V A λl=>u (.int m.q (m.val l)) h1 false
  |_=>(simp only[Qe,hx,QV,yh,YW] at a;cases a)
 |_=>cases D
def Qr{o:Oper}(i:Qf P K Gl aa nt o s two=some (f,fp)) :
 (∀t∈Qw o.op,t∈fp.rs)/\(io s s1 fp->Qf P K Gl aa nt o s1 two=some (f,fp)):=by
 have R:io s s1 fp->(∀t∈Qw o.op,t∈fp.rs)->∀x∈o.op.operands.toList,ev Gl aa s1 x=ev Gl aa s x:=by
  intro a g x hx;exact kJ λt C=>a.at' t (g t (xG.2 ⟨x,hx,C⟩))
 unfold Qf at i ⊢;cases D:Jr o.op (ev Gl aa s) with
 |true =>
  rw[D] at i;simp only[wm] at i;obtain⟨⟨y,h',wr⟩,e,A⟩:=qH (Zl P K o.op (ev Gl aa s) []) (k:=λp=>bif p.2.2 then none else done nt o s p.1 none (Qw o.op) false false two) i;dsimp only at e;cases wr with
  |true=>cases e
  |false =>
   simp only[wp] at e;obtain⟨h1,N,M,d⟩:=Zb (s1:=s1) e;have g:∀t∈Qw o.op,t∈fp.rs:=λt C=>h1▸C;refine⟨g,λa=>?_⟩;have he:=R a g;rw[Sf o.op he,D];simp only[wm];rw[Se P K o.op [] _ he];have:=A _ λp=>bif p.2.2 then none else done nt o s1 p.1 none (Qw o.op) false false two;simp only[wp] at this;rw[this];exact d a.used
 |false =>
  rw[D] at i;simp only[wp] at i;obtain⟨⟨y,h',wr⟩,e,A⟩:=qH (Zl P K o.op (ev Gl aa s) s.h) (k:=λp=>done nt o s p.1 (bif p.2.2 then some p.2.1 else none) (Qw o.op) (QM K o.op (ev Gl aa s)) p.2.2 λf fp=>two f { fp with rb:=(zL o.op (ev Gl aa s),j9 o.op),wb:=(zV K o.op (ev Gl aa s) s.h p.1 p.2.2,BN o.op) }) i;dsimp only at e;obtain⟨h1,N,M,Q,X,d⟩:=qhg (s1:=s1) e;have g:∀t∈Qw o.op,t∈fp.rs:=λt C=>h1▸C;refine⟨g,λa=>?_⟩;have he:=R a g;have J:zL o.op (ev Gl aa s1)=zL o.op (ev Gl aa s):=qhc o.op he;have I:∀v wr,zV K o.op (ev Gl aa s1) s1.h v wr=zV K o.op (ev Gl aa s) s1.h v wr:=qfS K o.op he s1.h;rw[Sf o.op he,D];simp only[wp];simp only[Se P K o.op s1.h _ he,qcp K o.op he,J,I];have U:s1.h=s.h->Qe P K o.op (ev Gl aa s) s1.h (λv h wr=>done nt o s1 v (bif wr then some h else none) (Qw o.op) (QM K o.op (ev Gl aa s)) wr λf fp=>two f { fp with rb:=(zL o.op (ev Gl aa s),j9 o.op),wb:=(zV K o.op (ev Gl aa s) s1.h v wr,BN o.op) })=some (f,fp):=λz=>by
   rw[z];have:=A _ λp=>done nt o s1 p.1 (bif p.2.2 then some p.2.1 else none) (Qw o.op) (QM K o.op (ev Gl aa s)) p.2.2 λf fp=>two f { fp with rb:=(zL o.op (ev Gl aa s),j9 o.op),wb:=(zV K o.op (ev Gl aa s) s.h p.1 p.2.2,BN o.op) };dsimp only at this;rw[this];exact d a.used
  by_cases hw:fp.wr=true
  .exact U (a.heap hw)
  .by_cases hr:fp.rd=true
   .rcases a.uS hr with z|⟨j,u,z⟩|⟨u,z⟩
    .exact U z
    .rw[Q] at u;obtain⟨V,B,E⟩:=qkR (P:=P) (K:=K) (h1:=s1.h) u z (k:=λy h w=>some (y,h,w)) (r:=(y,h',wr)) (A _ some);simp only[wi,wy] at B;obtain⟨rfl,rfl,rfl⟩:=B;rw[E];rw[qhd K u] at d ⊢;exact d a.used
    .rw[Q] at u;obtain⟨V,B,E⟩:=qiR (P:=P) (K:=K) (h1:=s1.h) u z (k:=λy h w=>some (y,h,w)) (r:=(y,h',wr)) (A _ some);simp only[wi,wy] at B;obtain⟨rfl,rfl,rfl⟩:=B;rw[E];rw[qda u] at d ⊢;exact d a.used
   .simp only[xl] at hr hw;rw[N] at hr;rw[M] at hw;subst hw;obtain⟨Z,D7,w3,S,Y⟩:=qkQ P K (h1:=s1.h) (k:=λy h w=>some (y,h,w)) (r:=(y,h',false)) hr (A _ some);simp only[wi,wy] at S;obtain⟨rfl,rfl,rfl⟩:=S;have W:=Y rfl;obtain⟨q,O,H⟩:=qH (Zl P K o.op (ev Gl aa s) s1.h) (k:=some) W;simp only[wi] at O;subst O;have:=H _ λp=>done nt o s1 p.1 (bif p.2.2 then some p.2.1 else none) (Qw o.op) (QM K o.op (ev Gl aa s)) p.2.2 λf fp=>two f { fp with rb:=(zL o.op (ev Gl aa s),j9 o.op),wb:=(zV K o.op (ev Gl aa s) s1.h p.1 p.2.2,BN o.op) };dsimp only at this;rw[this];rw[qen (K:=K) hr] at d ⊢;exact d a.used
def Jt{o:Oper}{t off:Nat}{rs:Wa}(a:zZ aa nt o t off rs two=some (f,fp)):fp.rs=t::rs:=by
 unfold zZ at a;cases e:o.dst with
 |none=>rw[e] at a;cases a
 |some d =>
  rw[e] at a;dsimp only at a;cases g:(Nat.blt d nt&&!aa.contains d) with
  |false=>rw[g] at a;cases a
  |true =>
   rw[g] at a;simp only[wm,wi,wy] at a;obtain⟨rfl,rfl⟩:=a;rfl
def Sm{o:Oper}(a:zW P K Gl aa nt o s two=some (f,fp))(r:io s s1 fp):zW P K Gl aa nt o s1 two=some (f,fp):=by
 have C:∀{x:Operand} {rs:Wa},(∀t∈QY x,t∈rs)->fp.rs=rs->(∀t∈QY x,s1.at t=s.at t)/\(∀t∈QY x,s1.loc t=s.loc t):=by
  intro x rs h1 U;exact⟨λt j=>r.at' t (U▸h1 t j),λt j=>r.loc t (U▸h1 t j)⟩
 have I:∀{x:Operand},x∈o.op.operands.toList->Qf P K Gl aa nt o s two=some (f,fp)->(∀t∈QY x,s1.at t=s.at t)/\(∀t∈QY x,s1.loc t=s.loc t):=by
  intro x hx E;have:=(Qr (s1:=s1) E).1;exact⟨λt j=>r.at' t (this t (xG.2 ⟨x,hx,j⟩)),λt j=>r.loc t (this t (xG.2 ⟨x,hx,j⟩))⟩
 unfold zW at a ⊢;split at a
 .rename_i z x A;cases D:o.dst with
  |none=>rw[D] at a;cases a
  |some d =>
   rw[D] at a;dsimp only at a ⊢;cases E:aa.contains d with
   |false=>rw[E] at a;simp only[wp] at a ⊢;exact(Qr a).2 r
   |true =>
    rw[E] at a;simp only[wm] at a ⊢;cases k:ZH (ev Gl aa s x) with
    |false=>rw[k] at a;cases a
    |true =>
     rw[k] at a;simp only[wm] at a;obtain⟨h1,_,_,J⟩:=Zb (s1:=s1) a;have he:=kJ (Gl:=Gl) (aa:=aa) (C (x:=x) (λt j=>j) h1).1;rw[he,k];exact J r.used
 .rename_i z A;cases D:o.dst with
  |none=>rw[D] at a;cases a
  |some d =>
   rw[D] at a;dsimp only at a ⊢;cases E:aa.contains d with
   |false=>rw[E] at a;simp only[wp] at a ⊢;exact(Qr a).2 r
   |true =>
    rw[E] at a;simp only[wm] at a ⊢;cases S:y5 P z with
    |false=>rw[S] at a;cases a
    |true =>
     rw[S] at a;simp only[wm] at a ⊢;obtain⟨h1,_,_,J⟩:=Zb (s1:=s1) a;exact J r.used
 .rename_i z x A;cases g:base aa s x with
  |none =>
   rw[g] at a;dsimp only at a;rw[zp (I (x:=x) (by rw[A];simp[Op.operands]) a).2,g];exact(Qr a).2 r
  |some p =>
   obtain⟨t,u⟩:=p;rw[g] at a;dsimp only at a;cases k:s.at t with
   |ah cells =>
    rw[k] at a;dsimp only at a;obtain⟨v,W,Y⟩:=qH (Z1 P z (cells.drop u)) a;obtain⟨h1,_,_,J⟩:=Zb (s1:=s1) W;have B:=C (x:=x) (rs:=t::QY x) (λt j=>wT _ j) h1;rw[zp B.2,g];dsimp only;rw[r.at' t (h1▸vK),k];dsimp only;rw[Y];exact J r.used
   |_=>rw[k] at a;cases a
 .rename_i z x v A;cases g:base aa s x with
  |none =>
   rw[g] at a;dsimp only at a;rw[zp (I (x:=x) (by rw[A];simp[Op.operands]) a).2,g];exact(Qr a).2 r
  |some p =>
   obtain⟨t,u⟩:=p;rw[g] at a;dsimp only at a;cases k:s.at t with
   |ah cells =>
    rw[k] at a;cases D:o.dst with
    |some d=>rw[D] at a;cases a
    |none =>
     rw[D] at a;dsimp only at a;generalize M:(zv P z&&((ev Gl aa s v).cells.length==qN P z)&&ZH (ev Gl aa s v)&&Nat.ble (u+qN P z) cells.length)=c at a;cases c with
     |false=>cases a
     |true =>
      simp only[wm,wi,wy] at a;obtain⟨H,V⟩:=a;have h1:fp.rs=t::(QY x++QY v):=by rw[←V]
      have B:=C (x:=x) (λN j=>wT _ (xK _ j)) h1;have Q:=C (x:=v) (λN j=>wT _ (List.mem_append_right _ j)) h1;rw[zp B.2,g];dsimp only;rw[r.at' t (h1▸vK),k];dsimp only;rw[kJ Q.1,M];simp only[wm,H,V]
   |_=>rw[k] at a;cases a
 .rename_i z x X A;cases g:base aa s x with
  |none =>
   rw[g] at a;dsimp only at a;rw[zp (I (x:=x) (by rw[A];simp[Op.operands]) a).2,g];exact(Qr a).2 r
  |some p =>
   obtain⟨t,u⟩:=p;rw[g] at a;dsimp only at a;cases k:s.at t with
   |ah cells =>
    rw[k] at a;dsimp only at a;cases H:Zi P z X with
    |none=>rw[H] at a;cases a
    |some q =>
     rw[H] at a;dsimp only at a;have h1:=Jt a;have B:=C (x:=x) (rs:=t::QY x) (λt j=>wT _ j) h1;rw[zp B.2,g];dsimp only;rw[r.at' t (h1▸vK),k];exact a
   |_=>rw[k] at a;cases a
 .rename_i z x i A;cases g:base aa s x with
  |none =>
   rw[g] at a;dsimp only at a;rw[zp (I (x:=x) (by rw[A];simp[Op.operands]) a).2,g];exact(Qr a).2 r
  |some p =>
   obtain⟨t,u⟩:=p;rw[g] at a;dsimp only at a;cases k:s.at t with
   |ah cells =>
    rw[k] at a;dsimp only at a;cases O:ev Gl aa s i with
    |int ki R =>
     rw[O] at a;dsimp only at a;cases H:QR P z with
     |none=>rw[H] at a;cases a
     |some q =>
      obtain⟨n,e⟩:=q;rw[H] at a;dsimp only at a;generalize M:(zv P e&&decide (0<=R)&&decide (R<(n:Int)))=c at a;cases c with
      |false=>cases a
      |true =>
       simp only[wm] at a;have Z:=M;simp only[wg,wC] at Z;have h1:=Jt (z9 ae a);have B:=C (x:=x) (λN j=>wT _ (xK _ j)) h1;have Q:=C (x:=i) (λN j=>wT _ (List.mem_append_right _ j)) h1;rw[zp B.2,g];dsimp only;rw[r.at' t (h1▸vK),k];dsimp only;rw[kJ Q.1,O];dsimp only;rw[M];simpa only[wm] using a
    |_=>rw[O] at a;cases a
   |_=>rw[k] at a;cases a
 .rename_i x A;cases g:base aa s x with
  |none =>
   rw[g] at a;dsimp only at a;rw[zp (I (x:=x) (by rw[A];simp[Op.operands]) a).2,g];exact(Qr a).2 r
  |some p =>
   obtain⟨t,u⟩:=p;rw[g] at a;dsimp only at a;cases k:s.at t with
   |ah cells =>
    rw[k] at a;dsimp only at a;have h1:=Jt a;have B:=C (x:=x) (rs:=t::QY x) (λt j=>wT _ j) h1;rw[zp B.2,g];dsimp only;rw[r.at' t (h1▸vK),k];exact a
   |_=>rw[k] at a;cases a
 .exact(Qr a).2 r
end
def cellAt(w:World)(b n:Nat)(v:Value):Prop:=w.cell? ⟨b,n,none⟩ = some v/\v.oneCell'=true
inductive VI(w:World)(U:Nat->Prop):T->Value->Prop
 |undef (v:Value):VI w U .undef v
 |gone (v:Value) (h:∀b,v≠.bool b):VI w U .gone v
 |bool (b:Bool):VI w U (.bool b) (.bool b)
 |int (k:IntKind) (n:Int):VI w U (.int k n) (.int k n)
 |str (s:List UInt8) (b:ByteArray) (h:b.data.toList=s):VI w U (.str s) (.string b)
 |lB:VI w U .lB (.pointer none)
 |vp (cells:JO) (a:Addr) (vs:Nat->Value) (hs:a.spot=none) (hU:0<cells.length->U a.block)
  (hc:∀o c,cells[o]?=some c->cellAt w a.block (a.off+o) (vs o)) (hv:∀o c,cells[o]?=some c->VI w U c (vs o)):VI w U (.vp cells) (.pointer (some a))
 |ag:VI w U .ag (.slice none 0 0)
 |view (sz n:Nat) (g:Nat->JO) (cap:Option Nat) (a:Addr) (c:Nat) (vs:Nat->Nat->Value) (hs:0<c->a.spot=none) (fk:∀m,cap=some m->c=m) (hn:n<=c)
  (hU:0<n->0<sz->U a.block) (hl:∀j,j<n->(g j).length=sz)
  (hc:∀j o c,j<n->(g j)[o]?=some c->cellAt w a.block (a.off+j*sz+o) (vs j o)) (hv:∀j o c,j<n->(g j)[o]?=some c->VI w U c (vs j o)) :
  VI w U (.view sz n g cap) (.slice (some a) n c)
 |eS (sz:Nat) (g:Nat->JO) (cap:Option Nat) (hc:cap=none∨cap=some 0):VI w U (.view sz 0 g cap) (.slice none 0 0)
 |eu:VI w U .eu .nilFunc
 |fn (f:FuncId) (aE:JO) (cs:Array Value) (vs:Nat->Value) (hl:aE.length=cs.size)
  (hc:∀(i:Nat) (c:T),aE[i]?=some c->cs[i]?=some (vs i)) (hv:∀(i:Nat) (c:T),aE[i]?=some c->VI w U c (vs i)):VI w U (.fn f aE) (.func (.func f) #[] cs)
 |agg (l:JO) (cs:Array Value) (vs:Nat->Value) (hl:l.length=cs.size) (h1:∀(i:Nat) (v:Value),cs[i]?=some v->v.oneCell'=true)
  (hc:∀(i:Nat) (c:T),l[i]?=some c->cs[i]?=some (vs i)) (hv:∀(i:Nat) (c:T),l[i]?=some c->VI w U c (vs i)):VI w U (.agg l) (.agg cs)
 |aK (l:JO) (cs:Array Value) (vs:Nat->Value) (hl:l.length=cs.size)
  (hc:∀(i:Nat) (c:T),l[i]?=some c->cs[i]?=some (vs i)) (hv:∀(i:Nat) (c:T),l[i]?=some c->VI w U c (vs i)):VI w U (.aK l) (.tuple cs)
 |mz:VI w U .mz .nilIface
 |iface (t:TypeId) (x:T) (v:Value) (h:VI w U x v):VI w U (.iface t x) (.iface t v)
 |lC:VI w U .lC (.map none)
 |rW (l:Nat):VI w U (.rW l) (.func (.yield l) #[] #[])
def room(w:World)(b n:Nat):Prop:=∃arr e,w.heap[b]?=some (.cells arr e (0,0))/\n<=arr.size
def So(w:World)(φ:Nat->Option (Nat×Nat))(b:aq)(i off len:Nat)(cap:Option Nat)(v:Value):Prop :=
 ∃cb a c ad,φ i=some (cb,a)/\v = .slice (some ad) len c/\ad.spot=none/\(0<c->ad=⟨cb,a+off*b.sz,none⟩)/\len<=c/\(∀m,cap=some m->c=m/\off+m<=b.n)/\off+len<=b.n/\room w cb (a+(off+c)*b.sz)/\(cap=none->b.n<=off+c)
def qpp(φ:Nat->Option (Nat×Nat))(b:aq)(i off len:Nat)(cap:Option Nat)(v:Value):Prop:=φ i=none/\b.n=0/\off=0/\len=0/\(∀m,cap=some m->m=0)/\v = .slice none 0 0
def MR(w:World)(φ:Nat->Option (Nat×Nat))(b:aq)(i off len:Nat)(cap:Option Nat)(v:Value):Prop:=So w φ b i off len cap v∨qpp φ b i off len cap v
def Sp(φ:Nat->Option (Nat×Nat))(b:aq)(i j o:Nat)(v:Value):Prop :=
 ∃cb a,φ i=some (cb,a)/\v = .pointer (some ⟨cb,a+j*b.sz+o,none⟩)
inductive VR(w:World)(U:Nat->Prop)(φ:Nat->Option (Nat×Nat))(h:qa):T->Value->Prop
 |aH (x:T) (v:Value) (hv:VI w U x v):VR w U φ h x v
 |own (i aj off len:Nat) (cap:Option Nat) (b:aq) (v:Value) (hb:h[i]?=some b) (aD:aj<=b.aj) (h1:v.oneCell'=true) (ap:b.aj=aj->MR w φ b i off len cap v):VR w U φ h (.own i aj off len cap) v
 |ptr (i aj j o:Nat) (b:aq) (v:Value) (hb:h[i]?=some b) (aD:aj<=b.aj) (h1:v.oneCell'=true) (ap:b.aj=aj->Sp φ b i j o v):VR w U φ h (.ptr i aj j o) v
 |mp (i aj:Nat) (b:aq) (v:Value) (hb:h[i]?=some b) (aD:aj<=b.aj) (h1:v.oneCell'=true) (ap:b.aj=aj->∃cb,φ i=some (cb,0)/\v = .map (some cb)):VR w U φ h (.mp i aj) v
 |fn (f:FuncId) (aE:JO) (cs:Array Value) (vs:Nat->Value) (hl:aE.length=cs.size)
  (hc:∀(i:Nat) (c:T),aE[i]?=some c->cs[i]?=some (vs i)) (hv:∀(i:Nat) (c:T),aE[i]?=some c->VR w U φ h c (vs i)):VR w U φ h (.fn f aE) (.func (.func f) #[] cs)
 |agg (l:JO) (cs:Array Value) (vs:Nat->Value) (hl:l.length=cs.size) (h1:∀(i:Nat) (v:Value),cs[i]?=some v->v.oneCell'=true)
  (hc:∀(i:Nat) (c:T),l[i]?=some c->cs[i]?=some (vs i)) (hv:∀(i:Nat) (c:T),l[i]?=some c->VR w U φ h c (vs i)):VR w U φ h (.agg l) (.agg cs)
 |aK (l:JO) (cs:Array Value) (vs:Nat->Value) (hl:l.length=cs.size)
  (hc:∀(i:Nat) (c:T),l[i]?=some c->cs[i]?=some (vs i)) (hv:∀(i:Nat) (c:T),l[i]?=some c->VR w U φ h c (vs i)):VR w U φ h (.aK l) (.tuple cs)
 |iface (t:TypeId) (x:T) (v:Value) (hv:VR w U φ h x v):VR w U φ h (.iface t x) (.iface t v)
def eE(w:World)(U:Nat->Prop)(w':World)(a:Nat->Prop):Prop:=∀b,U b->a b/\w'.heap[b]?=w.heap[b]?
def cellAt.rp{w w':World}{b n:Nat}{v:Value}(h:cellAt w b n v)(e:w'.heap[b]?=w.heap[b]?):cellAt w' b n v :=
 ⟨by rw[←h.1];exact World.cell?_of_block e,h.2⟩
def VI.ar{w w':World}{U H:Nat->Prop}(k:eE w U w' H){x:T}{v:Value}(h:VI w U x v):VI w' H x v:=by
 induction h with
 |undef v=>exact .undef v
 |gone v h=>exact .gone v h
 |bool b=>exact .bool b
 |int k n=>exact .int k n
 |str s b h=>exact .str s b h
 |lB=>exact .lB
 |vp cells a i C z e B d =>
  refine .vp cells a i C (λh=>(k _ (z h)).1) (λo c u=>?_) d;have I:0<cells.length:=by
   rcases wt o cells.length with h|h
   .omega
   .simp[wz h] at u
  exact(e o c u).rp (k _ (z I)).2
 |ag=>exact .ag
 |view sz n g cap a c i C M J z r e B d =>
  exact .view sz n g cap a c i C M J (λh E=>(k _ (z h E)).1) r (λj o x D u=>(e j o x D u).rp (k _ (z ae (by have h1:=r j D;have E:=(xo.1 u).1;omega))).2) d
 |eS sz g cap e=>exact .eS sz g cap e
 |eu=>exact .eu
 |fn f N A i r e B d=>exact .fn f N A i r e d
 |agg l A i r h1 e B d=>exact .agg l A i r h1 e d
 |aK l A i r e B d=>exact .aK l A i r e d
 |mz=>exact .mz
 |iface t x v h d=>exact .iface t x v d
 |lC=>exact .lC
 |rW l=>exact .rW l
structure fO(w:World)(U:Nat->Prop)(φ:Nat->Option (Nat×Nat))(h:qa)(w':World)(U':Nat->Prop)(φ':Nat->Option (Nat×Nat))(h':qa):Prop where
 u:eE w U w' U'
 ey:∀i b,h[i]?=some b->∃b',h'[i]?=some b'/\b.aj<=b'.aj/\(b'.aj=b.aj->b'.sz=b.sz/\b'.n=b.n/\φ' i=φ i)
 rm:∀b n,room w b n->room w' b n
def eE.refl(w:World)(U:Nat->Prop):eE w U w U:=λ_ h=>⟨h,rfl⟩
def eE.trans{w e d:World}{U g f:Nat->Prop}(a:eE w U e g)(b:eE e g d f):eE w U d f :=
 λx h=>⟨(b x (a x h).1).1,(b x (a x h).1).2.trans (a x h).2⟩
def fO.refl(w:World)(U:Nat->Prop)(φ:Nat->Option (Nat×Nat))(h:qa):fO w U φ h w U φ h :=
 ⟨.refl w U,λ_ b a=>⟨b,a,wc _,λ_=>⟨rfl,rfl,rfl⟩⟩,λ_ _ h=>h⟩
def fO.trans{w s r:World}{U B A:Nat->Prop}{φ o j:Nat->Option (Nat×Nat)}{h h1 h2:qa}
 (a:fO w U φ h s B o h1) (b:fO s B o h1 r A j h2):fO w U φ h r A j h2:=by
 refine⟨a.u.trans b.u,λi x hx=>?_,λk n hr=>b.rm k n (a.rm k n hr)⟩;obtain⟨y,D,I,H⟩:=a.ey i x hx;obtain⟨z,C,g,E⟩:=b.ey i y D;refine⟨z,C,wN I g,λe=>?_⟩;have f:=H ae;have d:=E ae;exact⟨d.1.trans f.1,d.2.1.trans f.2.1,d.2.2.trans f.2.2⟩
def VR.ar{w w':World}{U W:Nat->Prop}{φ O:Nat->Option (Nat×Nat)}{h h':qa}(k:fO w U φ h w' W O h'){x:T}{v:Value}
 (hx:VR w U φ h x v):VR w' W O h' x v:=by
 induction hx with
 |aH x v s=>exact .aH x v (s.ar k.u)
 |own i aj N len cap b v A V h1 I =>
  obtain⟨H,D,S,he⟩:=k.ey i b A;refine .own i aj N len cap H v D ae h1 (λe=>?_);obtain⟨J,P,g⟩:=he ae;rcases I ae with⟨cb,M,c,ad,C,B,es,X,e3,R,e5,e6,e7⟩|⟨q1,Z,Y⟩
  rotate_left
  .exact .inr ⟨g.trans q1,P.trans Z,Y⟩
  refine .inl ?_;exact⟨cb,M,c,ad,g.trans C,B,es,by rw[J];exact X,e3,λm Q=>⟨(R m Q).1,by have:=(R m Q).2;omega⟩,ae,by rw[J];exact k.rm _ _ e6,λd=>by have:=e7 d;omega⟩
 |ptr i aj j o b v A V h1 I =>
  obtain⟨H,D,S,he⟩:=k.ey i b A;refine .ptr i aj j o H v D ae h1 (λe=>?_);obtain⟨J,P,g⟩:=he ae;obtain⟨cb,M,C,B⟩:=I ae;exact⟨cb,M,g.trans C,by rw[J];exact B⟩
 |mp i aj b v A V h1 I =>
  obtain⟨H,D,S,he⟩:=k.ey i b A;refine .mp i aj H v D ae h1 (λe=>?_);obtain⟨_,_,g⟩:=he ae;obtain⟨cb,C,B⟩:=I ae;exact⟨cb,g.trans C,B⟩
 |fn f aE E r z d s a=>exact .fn f aE E r z d a
 |agg l E r z h1 d s a=>exact .agg l E r z h1 d a
 |aK l E r z d s a=>exact .aK l E r z d a
 |iface t x v s a=>exact .iface t x v a
section
variable {w:World} {U:Nat->Prop} {φ:Nat->Option (Nat×Nat)} {h:qa}
def VR.bool{b:Bool}{v:Value}(hx:VR w U φ h (.bool b) v):v = .bool b:=by cases hx with|aH _ _ a=>cases a;rfl
def VR.gone{v:Value}(hx:VR w U φ h .gone v):∀b,v≠.bool b:=by cases hx with|aH _ _ a=>cases a;assumption
def VR.int{k:IntKind}{n:Int}{v:Value}(hx:VR w U φ h (.int k n) v):v = .int k n:=by cases hx with|aH _ _ a=>cases a;rfl
def VR.str{s:List UInt8}{v:Value}(hx:VR w U φ h (.str s) v):∃b:ByteArray,v = .string b/\b.data.toList=s:=by
 cases hx with|aH _ _ a=>cases a with|str _ b d=>exact⟨b,rfl,d⟩
def VR.ag{v:Value}(hx:VR w U φ h .ag v):v = .slice none 0 0:=by cases hx with|aH _ _ a=>cases a;rfl
def VR.eu{v:Value}(hx:VR w U φ h .eu v):v = .nilFunc:=by cases hx with|aH _ _ a=>cases a;rfl
def VR.vp{cells:JO}{v:Value}(hx:VR w U φ h (.vp cells) v):VI w U (.vp cells) v:=by cases hx with|aH _ _ a=>exact a
def VR.view{sz n:Nat}{g:Nat->JO}{cap:Option Nat}{v:Value}(hx:VR w U φ h (.view sz n g cap) v):VI w U (.view sz n g cap) v:=by cases hx with|aH _ _ a=>exact a
def VR.dP{cells:JO}{v:Value}(hx:VR w U φ h (.ah cells) v):False:=by cases hx with|aH _ _ a=>cases a
def VR.tQ{fl:Bool}{a b:Nat}{g:Nat->JO}{n:Nat}{c:Option Nat}{v:Value}(hx:VR w U φ h (.fresh fl a b g n c) v):False:=by cases hx with|aH _ _ d=>cases d
def VR.cW{i aj off len:Nat}{cap:Option Nat}{v:Value}(hx:VR w U φ h (.own i aj off len cap) v) :
 ∃b,h[i]?=some b/\aj<=b.aj/\v.oneCell'=true/\(b.aj=aj->MR w φ b i off len cap v):=by
 cases hx with
 |aH _ _ a=>cases a
 |own _ _ _ _ _ b _ d f h1 e=>exact⟨b,d,f,h1,e⟩
def VR.cX{i aj j o:Nat}{v:Value}(hx:VR w U φ h (.ptr i aj j o) v) :
 ∃b,h[i]?=some b/\aj<=b.aj/\v.oneCell'=true/\(b.aj=aj->Sp φ b i j o v):=by
 cases hx with
 |aH _ _ a=>cases a
 |ptr _ _ _ _ b _ d f h1 e=>exact⟨b,d,f,h1,e⟩
def VR.iH{i aj:Nat}{v:Value}(hx:VR w U φ h (.mp i aj) v) :
 ∃b,h[i]?=some b/\aj<=b.aj/\v.oneCell'=true/\(b.aj=aj->∃cb,φ i=some (cb,0)/\v = .map (some cb)):=by
 cases hx with
 |aH _ _ a=>cases a
 |mp _ _ b _ d f h1 e=>exact⟨b,d,f,h1,e⟩
def VR.bM{l:JO}{v:Value}(hx:VR w U φ h (.agg l) v) :
 ∃cs:Array Value,v = .agg cs/\l.length=cs.size/\(∀(i:Nat) (u:Value),cs[i]?=some u->u.oneCell'=true)/\∀(i:Nat) (c:T),l[i]?=some c->∃u,cs[i]?=some u/\VR w U φ h c u:=by
 cases hx with
 |aH _ _ a=>cases a with|agg _ cs e f h1 g a=>exact⟨cs,rfl,f,h1,λi c d=>⟨e i,g i c d,.aH _ _ (a i c d)⟩⟩
 |agg _ cs e f h1 g a=>exact⟨cs,rfl,f,h1,λi c d=>⟨e i,g i c d,a i c d⟩⟩
def VR.nk{l:JO}{v:Value}(hx:VR w U φ h (.aK l) v) :
 ∃cs:Array Value,v = .tuple cs/\l.length=cs.size/\∀(i:Nat) (c:T),l[i]?=some c->∃u,cs[i]?=some u/\VR w U φ h c u:=by
 cases hx with
 |aH _ _ a=>cases a with|aK _ cs e f g a=>exact⟨cs,rfl,f,λi c d=>⟨e i,g i c d,.aH _ _ (a i c d)⟩⟩
 |aK _ cs e f g a=>exact⟨cs,rfl,f,λi c d=>⟨e i,g i c d,a i c d⟩⟩
def VR.gG{f:FuncId}{l:JO}{v:Value}(hx:VR w U φ h (.fn f l) v) :
 ∃cs:Array Value,v = .func (.func f) #[] cs/\l.length=cs.size/\∀(i:Nat) (c:T),l[i]?=some c->∃u,cs[i]?=some u/\VR w U φ h c u:=by
 cases hx with
 |aH _ _ a=>cases a with|fn _ _ cs e g j a=>exact⟨cs,rfl,g,λi c d=>⟨e i,j i c d,.aH _ _ (a i c d)⟩⟩
 |fn _ _ cs e g j a=>exact⟨cs,rfl,g,λi c d=>⟨e i,j i c d,a i c d⟩⟩
def zf{l:JO}{cs:Array Value}{R:T->Value->Prop}(e:∀(i:Nat) (c:T),l[i]?=some c->∃u,cs[i]?=some u/\R c u) :
 (∀(i:Nat) (c:T),l[i]?=some c->cs[i]?=some (cs.getD i Go.undef))/\∀(i:Nat) (c:T),l[i]?=some c->R c (cs.getD i Go.undef):=by
 have key:∀(i:Nat) (c:T),l[i]?=some c->cs[i]?=some (cs.getD i Go.undef)/\R c (cs.getD i Go.undef):=by
  intro i c a;obtain⟨u,d,hr⟩:=e i c a;have:cs.getD i Go.undef=u:=by simp[wG,d]
  rw[this];exact⟨d,hr⟩
 exact⟨λi c a=>(key i c a).1,λi c a=>(key i c a).2⟩
def VR.dc{l:JO}{cs:Array Value}(d:l.length=cs.size)(h1:∀(i:Nat) (u:Value),cs[i]?=some u->u.oneCell'=true)
 (a:∀(i:Nat) (c:T),l[i]?=some c->∃u,cs[i]?=some u/\VR w U φ h c u):VR w U φ h (.agg l) (.agg cs) :=
 .agg l cs (λi=>cs.getD i Go.undef) d h1 (zf a).1 (zf a).2
def VR.iJ{l:JO}{cs:Array Value}(d:l.length=cs.size)
 (a:∀(i:Nat) (c:T),l[i]?=some c->∃u,cs[i]?=some u/\VR w U φ h c u):VR w U φ h (.aK l) (.tuple cs) :=
 .aK l cs (λi=>cs.getD i Go.undef) d (zf a).1 (zf a).2
def VR.oF{f:FuncId}{l:JO}{cs:Array Value}(d:l.length=cs.size)
 (a:∀(i:Nat) (c:T),l[i]?=some c->∃u,cs[i]?=some u/\VR w U φ h c u):VR w U φ h (.fn f l) (.func (.func f) #[] cs) :=
 .fn f l cs (λi=>cs.getD i Go.undef) d (zf a).1 (zf a).2
def VI.dc{l:JO}{cs:Array Value}(d:l.length=cs.size)(h1:∀(i:Nat) (u:Value),cs[i]?=some u->u.oneCell'=true)
 (a:∀(i:Nat) (c:T),l[i]?=some c->∃u,cs[i]?=some u/\VI w U c u):VI w U (.agg l) (.agg cs) :=
 .agg l cs (λi=>cs.getD i Go.undef) d h1 (zf a).1 (zf a).2
def VI.iJ{l:JO}{cs:Array Value}(d:l.length=cs.size)
 (a:∀(i:Nat) (c:T),l[i]?=some c->∃u,cs[i]?=some u/\VI w U c u):VI w U (.aK l) (.tuple cs) :=
 .aK l cs (λi=>cs.getD i Go.undef) d (zf a).1 (zf a).2
def VI.oF{f:FuncId}{l:JO}{cs:Array Value}(d:l.length=cs.size)
 (a:∀(i:Nat) (c:T),l[i]?=some c->∃u,cs[i]?=some u/\VI w U c u):VI w U (.fn f l) (.func (.func f) #[] cs) :=
 .fn f l cs (λi=>cs.getD i Go.undef) d (zf a).1 (zf a).2
def VR.eJ{x:T}{v:Value}(hx:VR w U φ h x v)(H:ZH x=true) :
 x.cells.length=v.cells.size/\(∀(i:Nat) (u:Value),v.cells[i]?=some u->u.oneCell'=true)/\∀(i:Nat) (c:T),x.cells[i]?=some c->∃u,v.cells[i]?=some u/\VR w U φ h c u:=by
 have single:∀(x:T) (v:Value),x.cells=[x]->v.cells = #[v]->v.oneCell'=true->VR w U φ h x v →
  x.cells.length=v.cells.size/\(∀(i:Nat) (u:Value),v.cells[i]?=some u->u.oneCell'=true)/\∀(i:Nat) (c:T),x.cells[i]?=some c->∃u,v.cells[i]?=some u/\VR w U φ h c u:=by
  intro x v S R h1 hx;rw[S,R];refine⟨rfl,λi u J=>?_,λi c d=>?_⟩
  .cases i with
   |zero=>simp at J;subst J;exact h1
   |succ i=>simp at J
  .cases i with
   |zero=>simp at d;subst d;exact⟨v,rfl,hx⟩
   |succ i=>simp at d
 cases hx with
 |aH _ _ e =>
  cases e with
  |undef v=>simp[ZH] at H
  |agg l B r z h1 d e=>exact⟨z,h1,λi c C=>⟨r i,d i c C,.aH _ _ (e i c C)⟩⟩
  |aK l B r z d e=>simp[ZH] at H
  |vp cells a r M N d e=>exact single _ _ rfl rfl rfl (.aH _ _ (.vp cells a r M N d e))
  |view sz n g cap a c r M Q P N z d e=>exact single _ _ rfl rfl rfl (.aH _ _ (.view sz n g cap a c r M Q P N z d e))
  |fn f O B r z d e=>exact single _ _ rfl rfl rfl (.aH _ _ (.fn f O B r z d e))
  |iface t x v h=>exact single _ _ rfl rfl rfl (.aH _ _ (.iface t x v h))
  |str s b A=>exact single _ _ rfl rfl rfl (.aH _ _ (.str s b A))
  |bool b=>exact single _ _ rfl rfl rfl (.aH _ _ (.bool b))
  |int k n=>exact single _ _ rfl rfl rfl (.aH _ _ (.int k n))
  |lB=>exact single _ _ rfl rfl rfl (.aH _ _ .lB)
  |eS sz g cap d=>exact single _ _ rfl rfl rfl (.aH _ _ (.eS sz g cap d))
  |ag=>exact single _ _ rfl rfl rfl (.aH _ _ .ag)
  |eu=>exact single _ _ rfl rfl rfl (.aH _ _ .eu)
  |mz=>exact single _ _ rfl rfl rfl (.aH _ _ .mz)
  |gone=>cases H
  |lC=>exact single _ _ rfl rfl rfl (.aH _ _ .lC)
  |rW l=>exact single _ _ rfl rfl rfl (.aH _ _ (.rW l))
 |own i aj I len cap b v A E h1 D=>exact single _ _ rfl (by cases v<;>first|rfl|simp[Value.oneCell'] at h1) h1 (.own i aj I len cap b v A E h1 D)
 |ptr i aj j o b v A E h1 D=>exact single _ _ rfl (by cases v<;>first|rfl|simp[Value.oneCell'] at h1) h1 (.ptr i aj j o b v A E h1 D)
 |mp i aj b v A E h1 D=>exact single _ _ rfl (by cases v<;>first|rfl|simp[Value.oneCell'] at h1) h1 (.mp i aj b v A E h1 D)
 |fn f O B r z d e=>exact single _ _ rfl rfl rfl (.fn f O B r z d e)
 |agg l B r z h1 d e=>exact⟨z,h1,λi c C=>⟨r i,d i c C,e i c C⟩⟩
 |aK l B r z d e=>simp[ZH] at H
 |iface t x v e=>exact single _ _ rfl rfl rfl (.iface t x v e)
def Ke(v:Value):VI w U (kY v) v:=by
 unfold kY;split<;>first|exact .bool _|exact .int _ _|exact .str _ _ rfl|exact .lB|exact .ag|exact .eu|exact .mz|exact .lC|exact .undef _
def Sq(v:Value)(g:H7 v=true):VI w U (KH v) v:=by
 cases v with
 |agg e =>
  refine VI.dc au ?_ ?_
  .intro i u a;have f:u∈e.toList:=by simpa using vM a
   have:=(wA.1 g) u f;revert this;cases u<;>simp[Value.oneCell']
  .intro i c d;simp only[wE,wI] at d;obtain⟨u,a,rfl⟩:=d;exact⟨u,by simpa using a,Ke u⟩
 |tuple e =>
  refine VI.iJ au ?_;intro i c d;simp only[wE,wI] at d;obtain⟨u,a,rfl⟩:=d;exact⟨u,by simpa using a,Ke u⟩
 |_=>simp only[KH];exact Ke _
end
open Go.ChangeMaps (setBlock modify_eq_set)
open Go.MapKept (Stamped stamped_push stamped_modify stamped_erase stamped_empty)
open Go.WideElems (findIdx_arr findIdx_born)
def AY:Value->Int
 |.int _ n=>n
 |.bool b=>bif b then 1 else 0
 |_=>0
def qQ:Value->List Int
 |.agg a=>a.toList.map AY
 |v=>[AY v]
structure nF(P:Program)(k:TypeId)(KV:Value->Prop):Prop where
 inj:∀{a b:Value},KV a->KV b->qQ a=qQ b->a=b
 check:∀(w:World) (em:Bool) {v:Value},KV v->(Instr.checkKey em 10000 k v).run P w = .ok () w
 find:∀(w:World) {x:Value},KV x->∀es:List MapEntry,(∀e∈es,KV e.key) →
  ((Instr.findKey k x es).run P w = .ok none w/\∀e∈es,e.key≠x)∨∃j e,(Instr.findKey k x es).run P w = .ok (some (j,e.val)) w/\es[j]?=some e/\e.key=x
 stays:∀(w:World) {v:Value},KV v->(Instr.keyThatStays v v).run P w = .ok v w
structure gH(KV:Value->Prop)(q:IntKind)(m:bp)(es:Array MapEntry):Prop where
 stamped:Stamped es m.clock
 keys:∀x∈es.toList,KV x.key
 one:∀x∈es.toList,x.val = .int q (m.val (qQ x.key))/\m.has (qQ x.key)=true/\x.born=m.born (qQ x.key)
 all:∀v,KV v->m.has (qQ v)=true->∃x∈es.toList,x.key=v
 zero:∀l,m.has l=false->m.val l=0
 last:∀l st,m.last=some (l,st)->m.has l=true/\m.born l=st/\∃v,KV v/\qQ v=l
def cO(w:World)(KV:Value->Prop)(q:IntKind)(b:Nat)(m:bp):Prop:=∃es,w.heap[b]?=some (.map es m.clock)/\gH KV q m es
section
variable {P:Program} {k e t:TypeId} {q:IntKind} {w:World} {b:Nat} {m:bp} {KV:Value->Prop}
def cO.of_heap{w':World}(h:cO w KV q b m)(e:w'.heap[b]?=w.heap[b]?):cO w' KV q b m:=by
 obtain⟨es,h1,a⟩:=h;exact⟨es,e.trans h1,a⟩
def gH.empty(ks:KS)(a:IntKind):gH KV q (bp.made ks a) #[]:={ stamped:=stamped_empty 0,keys:=by simp,one:=by simp,all:=λv _ h=>Bool.noConfusion h,zero:=λ_ _=>rfl,last:=λ_ _ h=>by cases h }
def gH.find{es:Array MapEntry}(h:gH KV q m es)(K:nF P k KV)(w:World){x:Value}(hx:KV x) :
 ((Instr.findKey k x es.toList).run P w = .ok none w/\m.has (qQ x)=false/\∀e∈es.toList,e.key≠x) ∨
 ∃j e,(Instr.findKey k x es.toList).run P w = .ok (some (j,.int q (m.val (qQ x)))) w/\es.toList[j]?=some e/\e.key=x/\m.has (qQ x)=true/\e.born=m.born (qQ x)/\e.val = .int q (m.val (qQ x)):=by
 rcases K.find w hx es.toList h.keys with⟨h1,a⟩|⟨j,o,h1,a,i⟩
 .refine .inl ⟨h1,?_,a⟩;rw[Bool.eq_false_iff];intro z;obtain⟨y,r,u⟩:=h.all x hx z;exact a y r u
 .have s:=wo a;obtain⟨d,g,f⟩:=h.one o s;rw[i] at d g f;exact .inr ⟨j,o,by rw[←d];exact h1,a,i,g,f,d⟩
def cO.look(h:cO w KV q b m)(K:nF P k KV)(f:P.underlying t=some (.map k e))(i:(zeroValue e).run P w = .ok (.int q 0) w){key:Value}(d:KV key)(c:Bool) :
 (Instr.lookup t (.map (some b)) key c).run P w = .ok (if c then .tuple #[.int q (m.val (qQ key)),.bool (m.has (qQ key))] else .int q (m.val (qQ key))) w:=by
 obtain⟨es,g,F⟩:=h;rcases F.find K w d with⟨h1,a,_⟩|⟨j,s,h1,a,r,o,_⟩
 .rw[F.zero _ a,a];simp[Instr.lookup,run_underlying f,MapKept.run_getObj_map g,K.check w _ d,h1,i,Result.andThen]
 .rw[o];simp[Instr.lookup,run_underlying f,MapKept.run_getObj_map g,K.check w _ d,h1,Result.andThen]
def gH.push{es:Array MapEntry}(h:gH KV q m es)(K:nF P k KV){key:Value}(f:KV key)(h2:m.has (qQ key)=false)(j:∀e∈es.toList,e.key≠key)(z:Int) :
 gH KV q (m.put (qQ key) z) (es.push ⟨key,.int q z,m.clock⟩)/\(m.put (qQ key) z).clock=m.clock+1:=by
 have g:(m.put (qQ key) z).clock=m.clock+1:=by simp[bp.put,h2]
 have o:∀x∈es.toList,n5 (qQ x.key) (qQ key)=false:=λx hx=>MB λq=>j x hx (K.inj (h.keys x hx) f q);refine⟨⟨?_,?_,?_,?_,?_,λ_ _ h=>by cases h⟩,g⟩
 .rw[g];exact stamped_push h.stamped j
 .intro x hx;simp only[Array.toList_push,wS,wM] at hx;rcases hx with hx|rfl
  .exact h.keys x hx
  .exact f
 .intro x hx;simp only[Array.toList_push,wS,wM] at hx;rcases hx with hx|rfl
  .obtain⟨u,s,r⟩:=h.one x hx;simp only[bp.put,o x hx,wp,ub];exact⟨u,s,r⟩
  .simp[bp.put,KP,bp.lc,h2]
 .intro v i a;simp only[bp.put,vY] at a;rcases a with a|a
  .exact⟨⟨key,.int q z,m.clock⟩,au,(K.inj i f (jD.1 a)).symm⟩
  .obtain⟨x,hx,e⟩:=h.all v i a;exact⟨x,by simp[Array.mem_toList_iff.1 hx],e⟩
 .intro l d;simp only[bp.put,wY] at d;simp only[bp.put,d.1,wp];exact h.zero l d.2
def gH.modify{es:Array MapEntry}(h:gH KV q m es)(K:nF P k KV){key:Value}(D:KV key){j:Nat}{o:MapEntry}(h1:es.toList[j]?=some o)(h2:o.key=key)(u:m.has (qQ key)=true)(z:Int) :
 gH KV q (m.put (qQ key) z) (es.modify j λe=>{ e with key:=key,val:=.int q z })/\(m.put (qQ key) z).clock=m.clock:=by
 have B:(m.put (qQ key) z).clock=m.clock:=by simp[bp.put,u]
 have M:es[j]?=some o:=by simpa using h1
 have d:(es.modify j λe=>{ e with key:=key,val:=.int q z }).toList=es.toList.set j { o with key:=key,val:=.int q z }:=by
  rw[uc,modify_eq_set _ _ _ _ h1]
 have H:=h.stamped.2.2;have r:j<es.toList.length:=(xo.1 h1).1;have A:∀x∈(es.modify j λe=>{ e with key:=key,val:=.int q z }).toList,x = { o with key:=key,val:=.int q z }∨(x∈es.toList/\x.key≠key):=by
  intro x hx;rw[d] at hx;obtain⟨i,a⟩:=xc.1 hx;by_cases f:j=i
  .subst f;rw[wP r] at a;exact .inl (wa a).symm
  .rw[wV f] at a;refine .inr ⟨wo a,λN=>f ?_⟩;have V:(es.toList.map (·.key))[i]?=some key:=by simp only[wE,a,vX,N]
   have I:(es.toList.map (·.key))[j]?=some key:=by simp only[wE,h1,vX,h2]
   have E:j<(es.toList.map (·.key)).length:=by simpa using r
   exact(List.getElem?_inj E H).1 (I.trans V.symm)
 have O:∀x∈es.toList,x.key≠key->n5 (qQ x.key) (qQ key)=false:=λx hx s=>MB λq=>s (K.inj (h.keys x hx) D q);have C:=h.one o (wo h1);rw[h2] at C;refine⟨⟨?_,?_,?_,?_,?_,λ_ _ h=>by cases h⟩,B⟩
 .rw[B];refine stamped_modify h.stamped j _ (λ_ _=>rfl) λe _ he=>?_;rw[M] at he;obtain rfl:=wa he;exact h2.symm
 .intro x hx;rcases A x hx with rfl|⟨hx,_⟩
  .exact D
  .exact h.keys x hx
 .intro x hx;rcases A x hx with rfl|⟨hx,s⟩
  .simp only[bp.put,KP,wm,Bool.true_or,bp.lc,u,true_and];exact C.2.2
  .obtain⟨S,R,Q⟩:=h.one x hx;simp only[bp.put,O x hx s,wp,ub];exact⟨S,R,Q⟩
 ·intro v J g;have U:m.has (qQ v)=true:=by
   simp only[bp.put,vY] at g;rcases g with g|g
   ·rw[jD.1 g];exact u
   ·exact g
  obtain⟨x,hx,rfl⟩:=h.all v J U;obtain⟨i,a⟩:=xc.1 hx;by_cases f:j=i
  .subst f;rw[h1] at a;obtain rfl:=wa a;exact⟨_,by rw[d];exact wo (wP r),h2.symm⟩
  .exact⟨x,by rw[d];exact wo ((wV f).trans a),rfl⟩
 .intro l d;simp only[bp.put,wY] at d;simp only[bp.put,d.1,wp];exact h.zero l d.2
def cO.update(h:cO w KV q b m)(K:nF P k KV)(r:P.underlying t=some (.map k e)){key:Value}(a:KV key)(z:Int) :
 ∃es,(Instr.mapUpdate t (.map (some b)) key (.int q z)).run P w = .ok () (setBlock w b (.map es (m.put (qQ key) z).clock))/\gH KV q (m.put (qQ key) z) es:=by
 obtain⟨es,d,F⟩:=h;rcases F.find K w a with⟨h1,g,f⟩|⟨j,x,h1,g,f,u,_⟩
 .obtain⟨o,i⟩:=F.push K a g f z;refine⟨_,?_,o⟩;rw[i];simp[Instr.mapUpdate,run_underlying r,MapKept.run_getObj_map d,K.check w _ a,h1,MapKept.run_setObj_map _ d,Result.andThen,setBlock]
 .obtain⟨o,i⟩:=F.modify K a g f u z;refine⟨_,?_,o⟩;have s:es[j]?=some x:=by simpa using g
  rw[i];simp[Instr.mapUpdate,run_underlying r,MapKept.run_getObj_map d,K.check w _ a,h1,s,f,K.stays w a,MapKept.run_setObj_map _ d,Result.andThen,setBlock]
def gH.entry{es:Array MapEntry}{key:Value}(a:KV key)(F:gH KV q (m.put (qQ key) (m.val (qQ key))) es):gH KV q (m.entry (qQ key)) es :=
 ⟨F.stamped,F.keys,F.one,F.all,F.zero,λl st h=>by
  simp only[bp.entry,wi,wy] at h;obtain⟨rfl,rfl⟩:=h;exact⟨by simp[bp.entry,bp.put,KP],by simp[bp.entry,bp.put,KP],key,a,rfl⟩⟩
def cO.entry(h:cO w KV q b m)(K:nF P k KV)(r:P.underlying t=some (.map k e))(x:(zeroValue e).run P w = .ok (.int q 0) w){key:Value}(d:KV key) :
 ∃es,(Instr.mapEntry t (.map (some b)) key).run P w = .ok (.tuple #[.int q (m.val (qQ key)),goInt (m.lc (qQ key))]) (setBlock w b (.map es (m.entry (qQ key)).clock))/\gH KV q (m.entry (qQ key)) es:=by
 obtain⟨es,f,F⟩:=h;rcases F.find K w d with⟨h1,a,g⟩|⟨j,u,h1,a,g,s,B,A⟩
 .obtain⟨o,i⟩:=F.push K d a g (m.val (qQ key));refine⟨_,?_,o.entry d⟩;rw[show(m.entry (qQ key)).clock=m.clock+1 from i];rw[show m.lc (qQ key)=m.clock by simp[bp.lc,a],F.zero _ a];simp[Instr.mapEntry,run_underlying r,MapKept.run_getObj_map f,K.check w _ d,h1,x,MapKept.run_setObj_map _ f,Result.andThen,setBlock]
 .obtain⟨o,i⟩:=F.modify K d a g s (m.val (qQ key));have z:es[j]?=some u:=by simpa using a
  have C:(es.modify j λe=>{ e with key:=key })=es.modify j λe=>{ e with key:=key,val:=.int q (m.val (qQ key)) }:=by
   apply Array.ext';rw[uc,uc,modify_eq_set _ _ _ _ a,modify_eq_set _ _ _ _ a,←A]
  refine⟨_,?_,o.entry d⟩;rw[show(m.entry (qQ key)).clock=m.clock from i,←C,show m.lc (qQ key)=u.born by simp[bp.lc,s,B]];simp[Instr.mapEntry,run_underlying r,MapKept.run_getObj_map f,K.check w _ d,h1,z,g,K.stays w d,MapKept.run_setObj_map _ f,Result.andThen,setBlock]
def cO.store(h:cO w KV q b m)(K:nF P k KV){l:List Int}{st:Nat}(r:m.last=some (l,st))(z:Int) :
 ∃es,(Instr.entryStore t (.map (some b)) (goInt st) (.int q z)).run P w = .ok () (setBlock w b (.map es (m.put l z).clock))/\gH KV q (m.put l z) es:=by
 obtain⟨es,d,F⟩:=h;obtain⟨A,x,key,g,rfl⟩:=F.last l st r;rcases F.find K w g with⟨_,a,_⟩|⟨j,B,h1,a,f,u,s,H⟩
 .rw[A] at a;cases a
 ·obtain⟨o,i⟩:=F.modify K g a f u z;refine⟨_,?_,o⟩;have D:es.findIdx? (λe=>((e.born:Nat):Int)==((B.born:Nat):Int))=some j:=by
   rw[findIdx_arr];exact findIdx_born F.stamped.2.1 a
  have E:(es.modify j λe=>{ e with val:=.int q z })=es.modify j λC=>{ C with key:=key,val:=.int q z }:=by
   apply Array.ext';rw[uc,uc,modify_eq_set _ _ _ _ a,modify_eq_set _ _ _ _ a,←f]
  rw[i,←E,←x,←s];simp[Instr.entryStore,MapKept.run_getObj_map d,asInt,asIntOf,goInt,D,MapKept.run_setObj_map _ d,Result.andThen,setBlock]
def cO.drop(h:cO w KV q b m)(K:nF P k KV)(I:P.underlying t=some (.map k e)){key:Value}(s:KV key)(ty:TypeId) :
 ∃es,(Builtin.delete_ #[t,k] ty #[.map (some b),key]).run P w = .ok (.tuple #[]) (setBlock w b (.map es (m.del (qQ key)).clock))/\gH KV q (m.del (qQ key)) es:=by
 obtain⟨es,g,F⟩:=h;have J:∀x∈es.toList,x.key≠key->n5 (qQ x.key) (qQ key)=false:=λx hx a=>MB λq=>a (K.inj (F.keys x hx) s q);rcases F.find K w s with⟨h1,r,o⟩|⟨j,V,h1,r,o,U,S,R⟩
 .refine⟨es,?_,⟨F.stamped,F.keys,λx hx=>?_,λv A d=>?_,λl B=>?_,λ_ _ h=>by cases h⟩⟩
  .simp[Builtin.delete_,run_underlying I,MapKept.run_getObj_map g,K.check w _ s,h1,MapKept.run_setObj_map _ g,Result.andThen,setBlock,bp.del]
  .simp only[bp.del,J x hx (o x hx),wp,Bool.not_false,xx];exact F.one x hx
  .simp only[bp.del,wg] at d;exact F.all v A d.2
  .simp only[bp.del];cases a:n5 l (qQ key) with
   |true=>rfl
   |false=>exact F.zero l (by simpa [bp.del,a] using B)
 .have H:j<es.toList.length:=(xo.1 r).1;have C:j<es.size:=by simpa using H
  have z:(es.eraseIdxIfInBounds j).toList=es.toList.eraseIdx j:=by
   unfold Array.eraseIdxIfInBounds;rw[dif_pos C];simp
  have E:∀x,x∈es.toList.eraseIdx j↔x∈es.toList/\x.key≠key:=by
   intro x;have N:=F.stamped.2.2;constructor
   .intro hx;obtain⟨i,u,f⟩:=List.mem_eraseIdx_iff_getElem?.1 hx;refine⟨wo f,λD=>u ?_⟩;have Q:(es.toList.map (·.key))[i]?=some key:=by simp only[wE,f,vX,D]
    have O:(es.toList.map (·.key))[j]?=some key:=by simp only[wE,r,vX,o]
    have M:j<(es.toList.map (·.key)).length:=by simpa using H
    exact((List.getElem?_inj M N).1 (O.trans Q.symm)).symm
   .intro ⟨hx,a⟩;obtain⟨i,f⟩:=xc.1 hx;refine List.mem_eraseIdx_iff_getElem?.2 ⟨i,λu=>a ?_,f⟩;subst u;rw[r] at f;rw[←wa f,o]
  refine⟨es.eraseIdxIfInBounds j,?_,⟨stamped_erase F.stamped j,λx hx=>?_,λx hx=>?_,λv A d=>?_,λl B=>?_,λ_ _ h=>by cases h⟩⟩
  .simp[Builtin.delete_,run_underlying I,MapKept.run_getObj_map g,K.check w _ s,h1,MapKept.run_setObj_map _ g,Result.andThen,setBlock,bp.del]
  .rw[z] at hx;exact F.keys x ((E x).1 hx).1
  .rw[z] at hx;obtain⟨hx,a⟩:=(E x).1 hx;simp only[bp.del,J x hx a,wp,Bool.not_false,xx];exact F.one x hx
  .simp only[bp.del,wg,vn] at d;obtain⟨x,hx,e⟩:=F.all v A d.2;refine⟨x,?_,e⟩;rw[z];refine(E x).2 ⟨hx,λD=>?_⟩;rw[←e,D,KP] at d;exact Bool.noConfusion d.1
  .simp only[bp.del];cases a:n5 l (qQ key) with
   |true=>rfl
   |false=>exact F.zero l (by simpa [bp.del,a] using B)
def cO.made(w:World)(ks:KS)(a:IntKind):cO (w.alloc (.map #[] 0)) KV q w.heap.size (bp.made ks a):=⟨#[],(MapKept.heap_alloc w _).1,gH.empty ks a⟩
def cO.after{es:Array MapEntry}(a:∃es c,w.heap[b]?=some (.map es c))(F:gH KV q m es):cO (setBlock w b (.map es m.clock)) KV q b m:=by
 obtain⟨d,c,a⟩:=a;exact⟨es,ChangeMaps.heap_setBlock_same a _,F⟩
end
section
variable {P:Program} {k:TypeId} {q:IntKind}
def MU(q:IntKind)(v:Value):Prop:=∃n,v = .int q n
def Sr(q:IntKind)(n:Int):∀(es:List MapEntry) (i:Nat),(∀e∈es,MU q e.key) →
 (Instr.findNow (.int q) (.int q n) es i=some none/\∀e∈es,e.key≠.int q n)∨∃j e,Instr.findNow (.int q) (.int q n) es i=some (some (i+j,e.val))/\es[j]?=some e/\e.key = .int q n
 |[],_,_=>.inl ⟨rfl,au⟩
 |x::l,i,h=>by
  obtain⟨a,f⟩:=h x au;unfold Instr.findNow;rw[f];simp only[Instr.sameNow,vH];by_cases d:n=a
  .subst d;simp only[wF];exact .inr ⟨0,x,rfl,rfl,f⟩
  .rw[show(n==a)=false from beq_false_of_ne d];dsimp only;rcases Sr q n l (i+1) (λe he=>h e (by simp[he])) with⟨h1,g⟩|⟨j,e,h1,g,o⟩
   .refine .inl ⟨h1,λe he=>?_⟩;rcases wK.1 he with rfl|he
    .rw[f];intro q;cases q;exact d rfl
    .exact g e he
   .exact .inr ⟨j+1,e,by rw[h1,show i+1+j=i+(j+1) by omega],by simpa using g,o⟩
def qlD(d:P.underlying k=some (.int q)):nF P k (MU q) where
 inj:=by
  rintro a b ⟨n,rfl⟩ ⟨m,rfl⟩ h;simp only[qQ,AY,List.cons.injEq,and_true] at h;rw[h]
 check:=by
  rintro w i v ⟨n,rfl⟩;unfold Instr.checkKey;simp[run_underlying d]
 find:=by
  rintro w x ⟨n,rfl⟩ es h;rcases Sr q n es 0 h with⟨h1,f⟩|⟨j,e,h1,f,g⟩
  .exact .inl ⟨by simp[Instr.findKey,run_underlying d,h1],f⟩
  .exact .inr ⟨j,e,by simp[Instr.findKey,run_underlying d,h1],f,g⟩
 stays:=by
  rintro w v ⟨n,rfl⟩;simp[Instr.keyThatStays,Instr.sameBits]
end
structure Gh where
 U:Nat->Prop
 φ:Nat->Option (Nat×Nat)
 own:Nat->Option (Nat ⊕ Nat)
 base:Nat
 low:Nat
 dt:List Deferred:=[]
def Gh.bs(g:Gh):Nat×Nat×List Deferred:=(g.base,g.low,g.dt)
structure mO(w:World)(g:Gh)(h:qa)(i:Nat)(b:aq)(cb sh:Nat)(arr:Array Value)(e:TypeId):Prop where
 φ:g.φ i=some (cb,sh)
 own:g.own cb=some (.inl i)
 heap:w.heap[cb]?=some (.cells arr e (0,0))
 room:sh+b.n*b.sz<=arr.size
 len:∀j,j<b.n->(b.get j).length=b.sz
 cell:∀j o c,j<b.n->(b.get j)[o]?=some c->∃v,arr[sh+j*b.sz+o]?=some v/\v.oneCell'=true/\VR w g.U g.φ h c v
 flat:b.flat=true->∀j,j<b.n->∀c,c∈b.get j->qG c=true
def Yy:List (Option IntKind)->List Value->Prop
 |[],[]=>True
 |x::fs,v::l=>(match x with|some q=>∃n,v = .int q n|none=>∃b,v = .bool b)/\Yy fs l
 |_,_=>False
def D9:KS->Value->Prop
 |.int q,v=>MU q v
 |.row l,v=>∃a,v = .agg a/\Yy l a.toList
def gU(w:World)(cb:Nat)(m:bp):Prop:=cO w (D9 m.ks) m.q cb m
def gU.of_heap{w w':World}{cb:Nat}{m:bp}(h:gU w cb m)(e:w'.heap[cb]?=w.heap[cb]?):gU w' cb m:=cO.of_heap h e
def gU.heap{w:World}{cb:Nat}{m:bp}(h:gU w cb m):∃es c,w.heap[cb]?=some (.map es c):=by
 obtain⟨es,a,_⟩:=h;exact⟨es,_,a⟩
structure HR(g:Gh)(h:qa)(w:World):Prop where
 dh:∀i b,h[i]?=some b->b.mp=none->(∃cb sh arr e,mO w g h i b cb sh arr e)∨(g.φ i=none/\b.n=0)
 u:∀b,g.U b->b<w.heap.size/\g.own b=none
 own:∀b o,g.own b=some o->g.base<=b/\b<w.heap.size
 base:g.base<=w.heap.size
 cells:∀b o,g.own b=some o->(∃arr e,w.heap[b]?=some (.cells arr e (0,0)))∨∃i es c,o = .inl i/\w.heap[b]?=some (.map es c)
 lt:∀b i,g.own b=some (.inl i)->i<h.length
 mp:∀i b m,h[i]?=some b->b.mp=some m->∃cb,g.φ i=some (cb,0)/\g.own cb=some (.inl i)/\gU w cb m
def HR.ey{g:Gh}{h:qa}{w:World}(hr:HR g h w)(i:Nat)(b:aq)(j:h[i]?=some b)(f:b.mp=none)(a:0<b.n∨g.φ i≠none):∃cb sh arr e,mO w g h i b cb sh arr e:=by
 rcases hr.dh i b j f with q|⟨d,k⟩
 .exact q
 .rcases a with a|a
  .omega
  .exact absurd d a
def HR.box{g:Gh}{h:qa}{w:World}(hr:HR g h w){b t:Nat}(a:g.own b=some (.inr t)):∃arr e,w.heap[b]?=some (.cells arr e (0,0)):=by
 rcases hr.cells b _ a with h|⟨i,es,c,h,_⟩
 .exact h
 .cases h
def HR.eU{g:Gh}{h:qa}{w w':World}(hr:HR g h w){b:Nat}{o:Nat ⊕ Nat}(f:g.own b=some o)(e:w'.heap[b]?=w.heap[b]?) :
 (∃arr e,w'.heap[b]?=some (.cells arr e (0,0)))∨∃i es c,o = .inl i/\w'.heap[b]?=some (.map es c):=by
 rcases hr.cells b o f with⟨k,j,a⟩|⟨d,es,c,h1,a⟩
 .exact .inl ⟨k,j,e.trans a⟩
 .exact .inr ⟨d,es,c,h1,e.trans a⟩
def HR.eX{g g':Gh}{h:qa}{w w':World}(hr:HR g h w){i:Nat}{b:aq}{m:bp}(j:h[i]?=some b)(f:b.mp=some m)(d:g'.φ i=g.φ i)
 (e:∀c,g.own c=some (.inl i)->g'.own c=some (.inl i)) (he:∀c,c<w.heap.size->g.own c=some (.inl i)->w'.heap[c]?=w.heap[c]?) :
 ∃cb,g'.φ i=some (cb,0)/\g'.own cb=some (.inl i)/\gU w' cb m:=by
 obtain⟨cb,h1,a,k⟩:=hr.mp i b m j f;exact⟨cb,d.trans h1,e cb a,k.of_heap (he cb (hr.own _ _ a).2 a)⟩
def HR.place{g:Gh}{h:qa}{w:World}(hr:HR g h w){i:Nat}{b:aq}(d:h[i]?=some b):(∃cb sh,g.φ i=some (cb,sh)/\g.own cb=some (.inl i))∨g.φ i=none:=by
 cases a:b.mp with
 |none =>
  rcases hr.dh i b d a with⟨cb,sh,k,e,f⟩|⟨q,_⟩
  .exact .inl ⟨cb,sh,f.φ,f.own⟩
  .exact .inr q
 |some m =>
  obtain⟨cb,h1,j,_⟩:=hr.mp i b m d a;exact .inl ⟨cb,0,h1,j⟩
def HR.mD{g:Gh}{h:qa}{w:World}(hr:HR g h w){i cb sh:Nat}{b:aq}(d:h[i]?=some b)(a:g.φ i=some (cb,sh)):g.own cb=some (.inl i):=by
 rcases hr.place d with⟨j,f,h1,e⟩|h1
 .rw[a] at h1;obtain⟨rfl,rfl⟩:=vU (wa h1);exact e
 .rw[a] at h1;cases h1
def dQ(w' w:World):Prop:=w'.output=w.output/\w'.drawn<=w'.drawn
def dQ.refl(w:World):dQ w w:=⟨rfl,wc _⟩
def dQ.trans{a d w:World}(h2:dQ a d)(h1:dQ d w):dQ a w:=⟨h2.1.trans h1.1,h2.2⟩
structure mh(g:Gh)(w:World)(g':Gh)(w':World):Prop where
 size:w.heap.size<=w'.heap.size
 own:∀b,b<w.heap.size->g'.own b=g.own b
 os:w'.os=w.os
 tape:w'.tape=w.tape
 output:dQ w' w
 same:∀b,b<w.heap.size->(∀i,g.own b≠some (.inl i))->w'.heap[b]?=w.heap[b]?
 bs:g'.bs=g.bs
 u:∀b,g'.U b->g.U b∨w.heap.size<=b
 new:∀b,w.heap.size<=b->∀t,g'.own b≠some (.inr t)
def mh.base{g g':Gh}{w w':World}(f:mh g w g' w'):g'.base=g.base:=vD Prod.fst f.bs
def mh.refl(g:Gh)(w:World)(a:∀b o,g.own b=some o->b<w.heap.size):mh g w g w :=
 ⟨wc _,λ_ _=>rfl,rfl,rfl,.refl _,λ_ _ _=>rfl,rfl,λ_ h=>.inl h,λb d t e=>by have:=a b _ e;omega⟩
abbrev Gh.VR(g:Gh)(h:qa)(w:World)(x:T)(v:Value):Prop:=Ab.VR w g.U g.φ h x v
abbrev z8(g:Gh)(h:qa)(w:World)(g':Gh)(h':qa)(w':World):Prop:=fO w g.U g.φ h w' g'.U g'.φ h'
def gV(g:Gh)(h:qa)(w:World)(x:T)(h':qa)(v:Value)(w':World):Prop :=
 ∃a,HR a h' w'/\a.VR h' w' x v/\z8 g h w a h' w'/\mh g w a w'
def gV.pure{g:Gh}{h:qa}{w:World}{x:T}{v:Value}(hr:HR g h w)(hx:g.VR h w x v):gV g h w x h v w :=
 ⟨g,hr,hx,.refl _ _ _ _,.refl _ _ λb o e=>(hr.own b o e).2⟩
def QC(r:Option Nat):Fence:={ fn:=λ_=>True,depth:=none,alive:=false,round:=r }
def Yk{P:Program}{r:Option Nat}{a:Act}{o:Oper}{w w':World}{x:Next}(h:(execOp a.eval o).run P w = .ok x w')(hx:∀d,x≠.defer d):(o.semAt r a.eval).run P w = .ok x w':=by
 cases r with
 |none=>exact h
 |some l =>
  rw[Oper.semAt_eq]
  .exact h
  .intro c e;unfold execOp at h;rw[e] at h;simp only[Sem.run_bind] at h;cases hr:(Go.resolve a.eval c o.type).run P w with
   |ok d f =>
    rw[hr] at h;simp only[Result.andThen_ok,Sem.run_pure,Result.ok.injEq] at h;exact hx d h.1.symm
   |_=>rw[hr] at h;simp[Result.andThen] at h
def Yields(P:Program)(o:Oper)(a:Act)(w:World)(Φ:Value->World->Prop):Prop :=
 ∀(ro:Option Nat) (n:Nat) (next:Act->World->Prop) (Q:Exit->Act->World->Prop),(∀v w',Φ v w'->next (a.put o.dst v) w')->o.wpIn (QC ro) n P a w next Q
def Zm{P:Program}{o:Oper}{a:Act}{w w':World}{v:Value}{Φ:Value->World->Prop}(h:(execOp a.eval o).run P w = .ok (.value v) w')(d:Φ v w'):Yields P o a w Φ:=by
 intro ro n next Q e
 refine⟨λ_ _=>trivial,?_⟩;rw[Yk h au];exact e v w' d
def jb{P:Program}{o:Oper}{a:Act}{w w':World}{Φ:Value->World->Prop}(h:(execOp a.eval o).run P w = .ok .skip w')(d:Φ undef w'):Yields P o a w Φ:=by
 intro ro n next Q e
 refine⟨λ_ _=>trivial,?_⟩;rw[Yk h au];exact e undef w' d
section
variable {P:Program} {R:Type} {g:Gh} {h:qa} {w:World}
def QO(b o n:Nat):(⟨b,o,none⟩:Addr).add n=⟨b,o+n,none⟩:=by
 unfold Addr.add;split
 .rename_i a;subst a;rfl
 .rfl
def MV{a:Addr}(d:a.spot=none):a=⟨a.block,a.off,none⟩:=by cases a;simp_all
def qx{c:Bool}{x y:Option R}{r:R}(h:(bif c then x else y)=some r):(c=true/\x=some r)∨(c=false/\y=some r):=by
 cases c
 .exact .inr ⟨rfl,h⟩
 .exact .inl ⟨rfl,h⟩
def qm{c:Bool}{x:Option R}{r:R}(h:(bif c then x else none)=some r):c=true/\x=some r:=by
 cases c
 .simp at h
 .exact⟨rfl,h⟩
def Qg{a b:Nat}(h:Nat.ble a b=true):a<=b:=xu h
def Qb{a b:Nat}(h:Nat.blt a b=true):a<b:=xu h
def qo{t:TypeId}{d:TypeDesc}(h:P.underlying t=some d):(underlying t).run P w = .ok d w:=run_underlying h w
def Yz{t:TypeId}{d:TypeDesc}(h:P.underlying t=some d):∃i,P.info? t=some i:=by
 unfold Program.underlying at h;cases a:P.info? t with
 |none=>simp[a] at h
 |some i=>exact⟨i,rfl⟩
def jc{t:TypeId}{i:TypeInfo}(h:P.info? t=some i):(sizeOf t).run P w = .ok (qN P t) w:=by
 simp[sizeOf,typeInfo,h,qN]
def kK{t:TypeId}{d:TypeDesc}(h:P.underlying t=some d):(isAgg t).run P w = .ok (yf P t) w:=by
 unfold isAgg yf;simp only[Sem.run_bind,qo h,Result.andThen_ok,h];cases d<;>rfl
def dR(g:Gh)(h:qa)(w:World)(b off:Nat)(cells:JO):Prop:=∀o c,cells[o]?=some c->∃v,cellAt w b (off+o) v/\g.VR h w c v
def dR.drop{b off:Nat}{cells:JO}(e:dR g h w b off cells)(n:Nat):dR g h w b (off+n) (cells.drop n):=by
 intro o c a;rw[vA] at a;obtain⟨v,d,hr⟩:=e _ _ a;exact⟨v,by rw[vG];exact d,hr⟩
def Ju{b off:Nat}{cells:JO}(i:dR g h w b off cells):∀n,n<=cells.length →
 ∃vs:List Value,vs.length=n/\(∀(j:Nat) (v:Value),vs[j]?=some v->cellAt w b (off+j) v)/\∀(j:Nat) (c:T),j<n->cells[j]?=some c->∃v,vs[j]?=some v/\g.VR h w c v
 |0,_=>⟨[],rfl,λj v a=>by simp at a,λj c a=>ae⟩
 |n+1,B=>by
  obtain⟨vs,f,h1,x⟩:=Ju i n ae;obtain⟨v,r,hr⟩:=i n cells[n] (wj ae);refine⟨vs++[v],by simp[f],λj u a=>?_,λj c a d=>?_⟩
  .rw[List.getElem?_append] at a;split at a
   .exact h1 j u a
   ·rename_i o;have:j-vs.length=0:=by
     rcases vS (j-vs.length) with k|k
     ·exact k
     ·rw[wz (by simp;omega)] at a;simp at a
    have e:j=n:=by omega
    subst e;rw[this] at a;simp only[wO,wi] at a;subst a;exact r
  .rcases wt j n with A|o
   .obtain⟨u,s,z⟩:=x j c A d;exact⟨u,by rw[wx ae];exact s,z⟩
   .have e:j=n:=by omega
    subst e;rw[wj ae] at d;simp only[wi] at d;exact⟨v,by rw[wH ae];simp[f],by rw[←d];exact hr⟩
def Ip{t:TypeId}{cells:JO}{k:T->Option R}{r:R}{b off:Nat}(a:ld P t cells k=some r)(B:dR g h w b off cells) :
 ∃x,k x=some r/\∃v,(loadVar t ⟨b,off,none⟩).run P w = .ok v w/\g.VR h w x v:=by
 unfold ld at a;cases f:P.underlying t with
 |none=>simp[f] at a
 |some d =>
  rw[f] at a;dsimp only at a;obtain⟨i,E⟩:=Yz f;cases o:yf P t with
  |true =>
   simp only[o,wm] at a;obtain⟨z,a⟩:=qm a;have z:=Qg z;refine⟨_,a,?_⟩;obtain⟨A,D,h1,H⟩:=Ju B _ z;refine⟨.agg A.toArray,?_,?_⟩
   .unfold loadVar;simp only[Sem.run_bind,kK f,Result.andThen_ok,o,vH,jc E];rw[←D,run_loadCells_list w ⟨b,off,none⟩ A (λj v e=>by rw[QO];exact(h1 j v e).1)];rfl
   .refine VR.dc (by simp;omega) (λj u C=>(h1 j u (by simpa using C)).2) (λj c e=>?_);rw[xR] at e;split at e
    .rename_i I;obtain⟨v,s,hr⟩:=H j c I e;exact⟨v,by simpa using s,hr⟩
    .simp at e
  |false =>
   simp only[o,wp] at a;cases cells with
   |nil=>simp at a
   |cons c l =>
    refine⟨c,a,?_⟩;obtain⟨v,s,hr⟩:=B 0 c rfl;refine⟨v,?_,hr⟩;unfold loadVar;simp only[Sem.run_bind,kK f,Result.andThen_ok,o,xy,ve];have:=s.1;simp only[xV] at this;simp[this]
def Zc{i aj:Nat}{k:aq->Option R}{r:R}(a:Qc h i aj k=some r):∃b,h[i]?=some b/\b.mp=none/\b.aj=aj/\k b=some r:=by
 unfold Qc at a;cases e:h[i]? with
 |none=>simp[e] at a
 |some b =>
  rw[e] at a;obtain⟨d,a⟩:=qm a;simp only[wg,vf,Option.isNone_iff_eq_none] at d;exact⟨b,rfl,d.2,d.1,a⟩
def mO.gz{i:Nat}{b:aq}{cb sh:Nat}{arr:Array Value}{e:TypeId}(a:mO w g h i b cb sh arr e){j:Nat}(k:j<b.n) :
 dR g h w cb (sh+j*b.sz) (b.get j):=by
 intro o c f;obtain⟨v,d,h1,hr⟩:=a.cell j o c k f;exact⟨v,⟨by simp[World.cell?,a.heap,d],h1⟩,hr⟩
def Jv{cells:JO}{v:Value}(f:g.VR h w (.vp cells) v):∃b o,v = .pointer (some ⟨b,o,none⟩)/\dR g h w b o cells:=by
 cases f.vp with
 |vp _ a e i r j k =>
  exact⟨a.block,a.off,by rw[←MV i],λo c d=>⟨e o,j o c d,.aH _ _ (k o c d)⟩⟩
def kf{t:TypeId}{x:T}{k:Qd R}{r:R}{v:Value}(a:kZ P t x h k=some r)(hr:HR g h w)(hx:g.VR h w x v) :
 ∃y,k y h false=some r/\∃u,(Instr.loadAt t v).run P w = .ok u w/\g.VR h w y u:=by
 cases x with
 |vp cells =>
  obtain⟨b,o,rfl,H⟩:=Jv hx;obtain⟨y,d,u,f,z⟩:=Ip (show ld P t cells (λx=>k x h false)=some r from a) H;exact⟨y,d,u,by simp[Instr.loadAt,Instr.sureAddr,f],z⟩
 |ptr i aj j o =>
  obtain⟨b,A,I,M,a⟩:=Zc a;obtain⟨s,a⟩:=qm a;have s:=Qb s;obtain⟨cb,N,J,e,D⟩:=hr.ey i b A I (.inl ae);obtain⟨S,C,_,_,E⟩:=hx.cX;rw[A] at C;obtain rfl:=wa C;obtain⟨Q,O,B,rfl⟩:=E M;rw[D.φ] at B;obtain⟨rfl,rfl⟩:=vU (wa B);obtain⟨y,d,u,f,z⟩:=Ip a ((D.gz s).drop o);exact⟨y,d,u,by simp[Instr.loadAt,Instr.sureAddr,f],z⟩
 |_=>simp[kZ] at a
def qI{w:World}{b:Nat}{o:Obj}(a:w.heap[b]?=some o):b<w.heap.size:=by
 rcases wt b w.heap.size with h|h
 .exact h
 .simp[xb h] at a
def HR.change(hr:HR g h w){i:Nat}{b:aq}(X:h[i]?=some b){w':World}{cb sh:Nat}{arr:Array Value}{e:TypeId}{b':aq}
 (Z:w.heap.size<=w'.heap.size) (B:∀k,k<w.heap.size->k≠cb->w'.heap[k]?=w.heap[k]?) (I:w'.heap[cb]?=some (.cells arr e (0,0)))
 (A:g.own cb=some (.inl i)∨w.heap.size<=cb) (lY:∀n,room w cb n->n<=arr.size) (aD:b.aj<=b'.aj)
 (cY:b'.aj=b.aj->b'.sz=b.sz/\b'.n=b.n/\g.φ i=some (cb,sh)) (dB:sh+b'.n*b'.sz<=arr.size) (bc:∀j,j<b'.n->(b'.get j).length=b'.sz)
 (fy:∀j o c,j<b'.n->(b'.get j)[o]?=some c->∃v,arr[sh+j*b'.sz+o]?=some v/\v.oneCell'=true/\g.VR h w c v)
 (nG:b'.flat=true->∀j,j<b'.n->∀c,c∈b'.get j->qG c=true)
 (sW:w'.os=w.os) (nH:w'.tape=w.tape) (iw:dQ w' w) (cC:b'.mp=none:=by first|rfl|assumption) :
 ∃g',g'.φ i=some (cb,sh)/\(∀k,k≠i->g'.φ k=g.φ k)/\g'.U=g.U/\HR g' (h.set i b') w'/\z8 g h w g' (h.set i b') w'/\mh g w g' w':=by
 have J:i<h.length:=by
  rcases wt i h.length with N|N
  .exact N
  .simp[wz N] at X
 have su:cb<w'.heap.size:=qI I
 let g':Gh:={ g with φ:=λk=>if k=i then some (cb,sh) else g.φ k,own:=λk=>if k=cb then some (.inl i) else g.own k }
 have hU:eE w g.U w' g.U:=by
  intro k a;obtain⟨h1,f⟩:=hr.u k a;refine⟨a,B k h1 ?_⟩;rintro rfl;rcases A with d|d
  .rw[f] at d;cases d
  .omega
 have CZ:∀k n,room w k n->room w' k n:=by
  intro k n Y;by_cases a:k=cb
  .subst a;exact⟨arr,e,I,lY n Y⟩
  .obtain⟨a',e',h1,f⟩:=Y;exact⟨a',e',by rw[B k (qI h1) a];exact h1,f⟩
 have V:z8 g h w g' (h.set i b') w':=by
  refine⟨hU,λk x hx=>?_,CZ⟩;by_cases a:k=i
  .subst a;rw[X] at hx;obtain rfl:=wa hx;refine⟨b',by simp[J],aD,λev=>?_⟩;obtain⟨a1,W,a3⟩:=cY ev;exact⟨a1,W,by simp[g',a3]⟩
  .exact⟨x,by rw[wV (λe=>a e.symm)];exact hx,wc _,λ_=>⟨rfl,rfl,by simp[g',a]⟩⟩
 refine⟨g',by simp[g'],λk a=>by simp[g',a],rfl,?_,V,?_⟩
 .refine⟨λk x hx E=>?_,λk a=>?_,λk o r=>?_,wN hr.base Z,λk o r=>?_,λk j r=>?_,λk x m hx E=>?_⟩
  .by_cases a:k=i
   .subst a;simp only[wP J,wi] at hx;subst hx;refine .inl ⟨cb,sh,arr,e,by simp[g'],by simp[g'],I,dB,bc,λj o c M O=>?_,nG⟩;obtain⟨v,h1,f,Q⟩:=fy j o c M O;exact⟨v,h1,f,Q.ar V⟩
   .rw[wV (λe=>a e.symm)] at hx;rcases hr.dh k x hx E with⟨z,oW,eZ,S,s⟩|⟨q1,q2⟩
    rotate_left
    .exact .inr ⟨by simp[g',a,q1],q2⟩
    refine .inl ?_;have C:z≠cb:=by
     rintro rfl;rcases A with d|d
     .rw[s.own] at d;exact a (by simpa using d)
     .have:=qI s.heap;omega
    refine⟨z,oW,eZ,S,by simp[g',a,s.φ],by simp[g',C,s.own],by rw[B z (qI s.heap) C];exact s.heap,s.room,s.len,λj o c M O=>?_,s.flat⟩;obtain⟨v,h1,f,Q⟩:=s.cell j o c M O;exact⟨v,h1,f,Q.ar V⟩
  ·obtain⟨h1,f⟩:=hr.u k a;refine⟨ae,?_⟩;have C:k≠cb:=by
    rintro rfl;rcases A with d|d
    ·rw[f] at d;cases d
    ·omega
   simp[g',C,f]
  .by_cases a:k=cb
   .subst a;refine⟨?_,su⟩;rcases A with d|d
    .exact(hr.own k _ d).1
    .exact wN hr.base d
   .simp only[g',a,ve] at r;exact⟨(hr.own k o r).1,by have:=(hr.own k o r).2;omega⟩
  .by_cases a:k=cb
   .subst a;exact .inl ⟨arr,e,I⟩
   .simp only[g',a,ve] at r;rcases hr.cells k o r with⟨W,S,f⟩|⟨i2,es,c,h1,f⟩
    .exact .inl ⟨W,S,by rw[B k (qI f) a];exact f⟩
    .exact .inr ⟨i2,es,c,h1,by rw[B k (qI f) a];exact f⟩
  .rw[xM];by_cases a:k=cb
   .subst a;simp only[g',vH,wi,Sum.inl.injEq] at r;omega
   .simp only[g',a,ve] at r;exact hr.lt k j r
  .by_cases a:k=i
   .subst a;simp only[wP J,wi] at hx;subst hx;rw[cC] at E;cases E
   ·rw[wV (λe=>a e.symm)] at hx;obtain⟨z,o1,H,o3⟩:=hr.mp k x m hx E;have C:z≠cb:=by
     rintro rfl;rcases A with d|d
     ·rw[H] at d;exact a (by simpa using d)
     ·have:=(hr.own _ _ H).2;omega
    exact⟨z,by simp[g',a,o1],by simp[g',C,H],o3.of_heap (B z (hr.own _ _ H).2 C)⟩
 .refine⟨Z,λk a=>?_,sW,nH,iw,λk a uz=>?_,rfl,λ_ a=>.inl a,λk a t=>?_⟩
  .by_cases D:k=cb
   .subst D;rcases A with d|d
    .simp[g',d]
    .omega
   .simp[g',D]
  .refine B k a ?_;rintro rfl;rcases A with d|d
   .exact uz i d
   .omega
  .by_cases D:k=cb
   .simp[g',D]
   .simp only[g',D,ve];intro r;have:=(hr.own k _ r).2;omega
def HR.alloc(hr:HR g h w){w':World}{cb sh:Nat}{arr:Array Value}{e:TypeId}{b':aq}
 (Q:w.heap.size<=w'.heap.size) (s:∀k,k<w.heap.size->w'.heap[k]?=w.heap[k]?) (C:w'.heap[cb]?=some (.cells arr e (0,0)))
 (cQ:w.heap.size<=cb) (dB:sh+b'.n*b'.sz<=arr.size) (bc:∀j,j<b'.n->(b'.get j).length=b'.sz)
 (fy:∀j o c,j<b'.n->(b'.get j)[o]?=some c->∃v,arr[sh+j*b'.sz+o]?=some v/\v.oneCell'=true/\g.VR h w c v)
 (nG:b'.flat=true->∀j,j<b'.n->∀c,c∈b'.get j->qG c=true)
 (V:w'.os=w.os) (nH:w'.tape=w.tape) (iw:dQ w' w) (cC:b'.mp=none:=by first|rfl|assumption) :
 ∃g',g'.φ h.length=some (cb,sh)/\g'.U=g.U/\HR g' (h++[b']) w'/\z8 g h w g' (h++[b']) w'/\mh g w g' w':=by
 have S:cb<w'.heap.size:=qI C
 let g':Gh:={ g with φ:=λk=>if k=h.length then some (cb,sh) else g.φ k,own:=λk=>if k=cb then some (.inl h.length) else g.own k }
 have hU:eE w g.U w' g.U:=λk a=>⟨a,s k (hr.u k a).1⟩;have N:z8 g h w g' (h++[b']) w':=by
  refine⟨hU,λk x hx=>?_,λk n ci=>?_⟩
  ·have a:k<h.length:=by
    rcases wt k h.length with E|E
    ·exact E
    ·simp[wz E] at hx
   exact⟨x,by rw[wx a];exact hx,wc _,λ_=>⟨rfl,rfl,by simp[g',vq a]⟩⟩
  .obtain⟨a',e',h1,d⟩:=ci;exact⟨a',e',by rw[s k (qI h1)];exact h1,d⟩
 refine⟨g',by simp[g'],rfl,?_,N,?_⟩
 .refine⟨λk x hx A=>?_,λk a=>?_,λk o f=>?_,wN hr.base Q,λk o f=>?_,λk j f=>?_,λk x m hx A=>?_⟩
  .rcases wt k h.length with a|a
   .rw[wx a] at hx;rcases hr.dh k x hx A with⟨r,Y,eZ,M,i⟩|⟨X,W⟩
    rotate_left
    .exact .inr ⟨by simp[g',vq a,X],W⟩
    refine .inl ?_;have z:r≠cb:=by have:=qI i.heap;omega
    refine⟨r,Y,eZ,M,by simp[g',vq a,i.φ],by simp[g',z,i.own],by rw[s r (qI i.heap)];exact i.heap,i.room,i.len,λj o c D H=>?_,i.flat⟩;obtain⟨v,h1,d,I⟩:=i.cell j o c D H;exact⟨v,h1,d,I.ar N⟩
   ·have J:k=h.length:=by
     rcases wt h.length k with h'|h'
     ·rw[wz (by simp;omega)] at hx;simp at hx
     ·omega
    subst J;simp only[wH (wc _),wW,wO,wi] at hx;subst hx;refine .inl ⟨cb,sh,arr,e,by simp[g'],by simp[g'],C,dB,bc,λj o c D H=>?_,nG⟩;obtain⟨v,h1,d,I⟩:=fy j o c D H;exact⟨v,h1,d,I.ar N⟩
  .obtain⟨h1,d⟩:=hr.u k a;have z:k≠cb:=by omega
   exact⟨ae,by simp[g',z,d]⟩
  .by_cases a:k=cb
   .subst a;exact⟨wN hr.base cQ,S⟩
   .simp only[g',a,ve] at f;exact⟨(hr.own k o f).1,by have:=(hr.own k o f).2;omega⟩
  .by_cases a:k=cb
   .subst a;exact .inl ⟨arr,e,C⟩
   .simp only[g',a,ve] at f;rcases hr.cells k o f with⟨a2,M,d⟩|⟨i2,es,c,h1,d⟩
    .exact .inl ⟨a2,M,by rw[s k (qI d)];exact d⟩
    .exact .inr ⟨i2,es,c,h1,by rw[s k (qI d)];exact d⟩
  .rw[wD,xD];by_cases a:k=cb
   .subst a;simp only[g',vH,wi,Sum.inl.injEq] at f;omega
   .simp only[g',a,ve] at f;have:=hr.lt k j f;omega
  .rcases wt k h.length with a|a
   .rw[wx a] at hx;obtain⟨r,o1,B,Z⟩:=hr.mp k x m hx A;have z:r≠cb:=by have:=(hr.own _ _ B).2;omega
    exact⟨r,by simp[g',vq a,o1],by simp[g',z,B],Z.of_heap (s r (hr.own _ _ B).2)⟩
   ·have J:k=h.length:=by
     rcases wt h.length k with h'|h'
     ·rw[wz (by simp;omega)] at hx;simp at hx
     ·omega
    subst J;simp only[wH (wc _),wW,wO,wi] at hx;subst hx;rw[cC] at A;cases A
 .refine⟨Q,λk a=>?_,V,nH,iw,λk a _=>s k a,rfl,λ_ a=>.inl a,λk a t=>?_⟩
  .have z:k≠cb:=by omega
   simp[g',z]
  .by_cases O:k=cb
   .simp[g',O]
   .simp only[g',O,ve];intro f;have:=(hr.own k _ f).2;omega
end
section
variable {P:Program} {R:Type} {g:Gh} {h:qa} {w:World}
def Kf{t:TypeId}(a:zv P t=true):∃i,P.info? t=some i:=by
 unfold zv at a;cases d:P.info? t with
 |none=>simp[d] at a
 |some i=>exact⟨i,rfl⟩
def Qh{t:TypeId}(a:zv P t=true):(sizeOf t).run P w = .ok (qN P t) w:=by
 obtain⟨i,d⟩:=Kf a;exact jc d
def qfT(v:Value):(kY v).cells=[kY v]:=by unfold kY;split<;>rfl
def ZF{t:TypeId}(a:y5 P t=true):∃z:Value,(zeroValue t).run P w = .ok z w/\zv P t=true/\(Qi P t).length=z.cells.size/\z.cells.size=qN P t ∧
 (∀(i:Nat) (u:Value),z.cells[i]?=some u->u.oneCell'=true)/\∀(i:Nat) (c:T),(Qi P t)[i]?=some c->∃u,z.cells[i]?=some u/\g.VR h w c u:=by
 unfold y5 at a;cases d:P.info? t with
 |none=>simp[d] at a
 |some i =>
  rw[d] at a;dsimp only at a;cases f:i.zero with
  |none=>simp[f] at a
  |some z =>
   rw[f] at a;simp only[wg,vf] at a;obtain⟨⟨h1,x⟩,s⟩:=a;have e:Qi P t=(KH z).cells:=by simp[Qi,d,f]
   have r:qN P t=i.size:=by simp[qN,d]
   refine⟨z,by simp[zeroValue,typeInfo,d,f],by simp[zv,d],?_⟩;rw[e,r];have I:g.VR h w (KH z) z:=.aH _ _ (Sq z x)
   have D2:∀v:Value,KH v=kY v->v.cells = #[v]->v.oneCell'=true->(KH v).cells.length=v.cells.size/\v.cells.size=v.cells.size/\(∀(i:Nat) (u:Value),v.cells[i]?=some u->u.oneCell'=true) ∧
    ∀(i:Nat) (c:T),(KH v).cells[i]?=some c->∃u,v.cells[i]?=some u/\g.VR h w c u:=by
    intro v B A h1;rw[B,qfT,A];refine⟨rfl,rfl,λj u k=>?_,λj c o=>?_⟩
    .cases j with
     |zero=>simp at k;subst k;exact h1
     |succ j=>simp at k
    .cases j with
     |zero=>simp at o;subst o;exact⟨v,rfl,.aH _ _ (Ke v)⟩
     |succ j=>simp at o
   rw[←h1];cases z with
   |agg C =>
    obtain⟨H,E,D⟩:=I.eJ rfl;exact⟨H,rfl,E,D⟩
   |tuple C=>simp at s
   |_=>exact D2 _ rfl rfl rfl
def zj(w:World)(o:Obj):(w.alloc o).heap[w.heap.size]?=some o:=by
 show(w.heap.push o)[w.heap.size]?=some o;simp
def YA(h:qa)(b:aq):(h++[b])[h.length]?=some b:=by simp
def jd{cells:JO}{k:Qd R}{r:R}{vs:Array Value}{e:TypeId}(a:JU cells h k=some r)(hr:HR g h w)(x:cells.length=vs.size)
 (h1:∀(i:Nat) (u:Value),vs[i]?=some u->u.oneCell'=true) (B:∀(i:Nat) (c:T),cells[i]?=some c->∃u,vs[i]?=some u/\g.VR h w c u) :
 ∃y h',k y h' true=some r/\gV g h w y h' (.pointer (some ⟨w.heap.size,0,none⟩)) (w.alloc (.cells vs e)):=by
 refine⟨_,_,a,?_⟩;obtain⟨C,D,_,E,M,I⟩:=hr.alloc (w':=w.alloc (.cells vs e)) (cb:=w.heap.size) (sh:=0) (arr:=vs) (e:=e) (b':=⟨0,cells.length,1,λ_=>cells,cells.all qG,false,none⟩)
  au (λk a=>RowKit.Below.heap_alloc _ _ _ a) (zj w _) (wc _) (by simp[x]) (λ_ _=>rfl)
  (λj o c z s=>by
   obtain⟨u,d,H⟩:=B o c s;have:j=0:=by simpa using z
   subst this;exact⟨u,by simpa using d,h1 o u d,H⟩)
  (λA j _ c f=>by simpa using (wA.1 A) c f) rfl rfl ⟨rfl,wc _⟩
 refine⟨C,E,.ptr _ _ _ _ _ _ (YA h _) (wc _) rfl λ_=>⟨_,_,D,?_⟩,M,I⟩;simp
def qkS{a b:T}(h:ME a b=true):a=b:=by
 unfold ME at h;split at h
 .simp at h;rw[h]
 .simp at h;rw[h.1,h.2]
 .rfl
 .rfl
 .rfl
 .rfl
 .cases h
def Ss:∀{l m:JO},D0 l m=true->l=m
 |[],[],_=>rfl
 |a::l,b::m,h=>by
  simp only[D0,wg] at h;rw[qkS h.1,Ss h.2]
 |[],_::_,h=>by simp[D0] at h
 |_::_,[],h=>by simp[D0] at h
def qlE{z:JO}:∀{n j o:Nat},j<n->o<z.length->((List.replicate n z).flatten)[j*z.length+o]?=z[o]?:=by
 intro n
 induction n with
 |zero=>intro j o h;omega
 |succ n d =>
  intro j o e a;rw[List.replicate_succ,List.flatten_cons];cases j with
  |zero=>rw[Nat.zero_mul,wn,wx a]
  |succ j =>
   rw[Nat.succ_mul,wH ae,show j*z.length+z.length+o-z.length=j*z.length+o by omega];exact d ae a
def qhi{P:Program}{ty:TypeId}{n sz:Nat}{z:JO}(h:MF P ty=some (n,sz,z)):z.length=sz/\Qi P ty=(List.replicate n z).flatten:=by
 unfold MF at h;split at h
 .rename_i d e _;obtain⟨a,h⟩:=qm h;simp only[wg,vf] at a;simp only[wi,wy] at h;obtain⟨rfl,rfl,rfl⟩:=h;exact⟨a.1.2,Ss a.2⟩
 .cases h
def qcq{P:Program}{ty:TypeId}{k:Qd R}{r:R}{vs:Array Value}{e:TypeId}(a:Yi P ty h k=some r)(hr:HR g h w)(x:(Qi P ty).length=vs.size)
 (h1:∀(i:Nat) (u:Value),vs[i]?=some u->u.oneCell'=true) (A:∀(i:Nat) (c:T),(Qi P ty)[i]?=some c->∃u,vs[i]?=some u/\g.VR h w c u) :
 ∃y h',k y h' true=some r/\gV g h w y h' (.pointer (some ⟨w.heap.size,0,none⟩)) (w.alloc (.cells vs e)):=by
 unfold Yi at a;split at a
 .rename_i n sz z E;obtain⟨C,d⟩:=qhi E;subst C;refine⟨_,_,a,?_⟩;have M:n*z.length=vs.size:=by rw[←x,d];simp
  obtain⟨H,I,_,J,S,O⟩:=hr.alloc (w':=w.alloc (.cells vs e)) (cb:=w.heap.size) (sh:=0) (arr:=vs) (e:=e) (b':=⟨0,z.length,n,λ_=>z,z.all qG,false,none⟩)
   au (λk a=>RowKit.Below.heap_alloc _ _ _ a) (zj w _) (wc _) (by simp[M]) (λ_ _=>rfl)
   (λj o c D s=>by
    have U:o<z.length:=by
     rcases wt o z.length with q|q
     .exact q
     .simp[wz q] at s
    obtain⟨u,f,N⟩:=A (j*z.length+o) c (by rw[d,qlE D U];exact s);exact⟨u,by simpa using f,h1 _ u f,N⟩)
   (λd j _ c B=>by simpa using (wA.1 d) c B) rfl rfl ⟨rfl,wc _⟩
  refine⟨H,J,.ptr _ _ _ _ _ _ (YA h _) (wc _) rfl λ_=>⟨_,_,I,?_⟩,S,O⟩;simp
 .exact jd a hr x h1 A
def Jw(cells new:JO)(o i:Nat)(e:o+new.length<=cells.length) :
 (y6 cells o new)[i]?=if o<=i/\i<o+new.length then new[i-o]? else cells[i]?:=by
 unfold y6;have a:(cells.take o).length=o:=by simp;omega
 by_cases h1:i<o
 .rw[wX,wx ae,xR,wl h1,we ae]
 .by_cases d:i<o+new.length
  .rw[wX,wH ae,a,wx ae,wl ⟨ae,d⟩]
  .rw[wH (by simp;omega),we ae,vA];congr 1;simp only[wD,a];omega
def kp(cells new:JO)(o:Nat)(a:o+new.length<=cells.length):(y6 cells o new).length=cells.length:=by
 unfold y6;simp;omega
def Yl(w:World)(b:Nat)(a arr:Array Value)(e:TypeId)(d:w.heap[b]?=some (.cells a e (0,0))):(w.setRow b arr).heap[b]?=some (.cells arr e (0,0)):=setRow_heap w b a arr e _ d
def Iq(a:Array Value)(vs:List Value)(p i:Nat)(hp:p+vs.length<=a.size) :
 (a.toList.take p++vs++a.toList.drop (p+vs.length)).toArray[i]?=if p<=i/\i<p+vs.length then vs[i-p]? else a[i]?:=by
 have d:(a.toList.take p).length=p:=by simp;omega
 simp only[xv];by_cases h1:i<p
 .rw[wX,wx ae,xR,wl h1,we ae];simp
 .by_cases e:i<p+vs.length
  .rw[wX,wH ae,d,wx ae,wl ⟨ae,e⟩]
  .rw[wH (by simp;omega),we ae,vA];simp only[wD,d,vt];congr 1;omega
def Zn(a:Array Value)(vs:List Value)(p:Nat)(hp:p+vs.length<=a.size):(a.toList.take p++vs++a.toList.drop (p+vs.length)).toArray.size=a.size:=by
 simp;omega
def Su{t:TypeId}{v:Value}{b off:Nat}{a:Array Value}{e:TypeId}(k:zv P t=true)(f:v.cells.size=qN P t)(r:w.heap[b]?=some (.cells a e (0,0)))
 (j:off+v.cells.size<=a.size) (h1:∀(i:Nat) (u:Value),v.cells[i]?=some u->u.oneCell'=true) :
 (storeVar t ⟨b,off,none⟩ v).run P w = .ok () (w.setRow b (a.toList.take off++v.cells.toList++a.toList.drop (off+v.cells.toList.length)).toArray):=by
 unfold storeVar;have:=run_storeCells_at P b off e v.cells.toList 0 a w r (by simpa using j) (λu d=>by
  obtain⟨i,o⟩:=xc.1 d;exact h1 i u (by simpa using o))
 simp only[xV] at this;simp[Qh k,f,this]
def qdc{t:TypeId}{a v:T}{k:Qd R}{r:R}{ca E:Value}(C:KQ P t a v h k=some r)(hr:HR g h w)(ha:g.VR h w a ca)(hv:g.VR h w v E) :
 ∃h',k .undef h' true=some r/\∃w',(Instr.storeAt t ca E).run P w = .ok () w'/\gV g h w .undef h' undef w':=by
 cases a with
 |ptr i aj j o =>
  obtain⟨b,N,cC,aD,C⟩:=Zc C;obtain⟨d,C⟩:=qm C;simp only[wg,vf] at d;obtain⟨⟨⟨⟨ci,D⟩,H⟩,ap⟩,Q⟩:=d;have D:=Qb D;have Q:=Qg Q;obtain⟨cb,A,arr,e,f⟩:=hr.ey i b N cC (.inl ae);rw[qpn (f.len j D)] at C;rw[←f.len j D] at Q;refine⟨_,C,?_⟩;obtain⟨b',Z,_,_,hp⟩:=ha.cX;rw[N] at Z;obtain rfl:=wa Z;obtain⟨gJ,iq,O,rfl⟩:=hp aD;rw[f.φ] at O;obtain⟨rfl,rfl⟩:=vU (wa O);obtain⟨I,c2,c3⟩:=hv.eJ ap;have bc:=f.len j D;have C0:(j+1)*b.sz<=b.n*b.sz:=wJ _ D;rw[wZ,xr] at C0;have dB:=f.room;have Y:A+j*b.sz+o+E.cells.size<=arr.size:=by rw[←I,H];omega
  have ax:=Su (P:=P) (w:=w) (v:=E) ci (by rw[←I,H]) f.heap Y c2;refine⟨_,by simp[Instr.storeAt,Instr.sureAddr];exact ax,?_⟩;have S:A+j*b.sz+o+E.cells.toList.length<=arr.size:=by simpa using Y
  have AZ:=Zn arr E.cells.toList (A+j*b.sz+o) S;obtain⟨g',O,e2,_,dm,aO,bJ⟩:=hr.change N (w':=w.setRow cb _) (cb:=cb) (sh:=A) (e:=e) (b':=b.tP j (y6 (b.get j) o v.cells)) (by simp[World.setRow]) (λk _ aZ=>setRow_other w cb k _ aZ)
   (Yl w cb arr _ e f.heap) (.inl f.own) (λn hn=>by
    obtain⟨a',e',J,U⟩:=hn;rw[f.heap] at J;simp only[wi,Obj.cells.injEq] at J;rw[AZ,J.1];exact U) (wc _) (λ_=>⟨rfl,rfl,f.φ⟩) (by rw[AZ];exact dB)
   (λs B=>by
    simp only[aq.tP,kB];by_cases x:s=j
    .subst x;simp only[wF,wm];rw[kp _ _ _ (by rw[H];omega)];exact bc
    .simp only[x,vf,vg,ve];exact f.len s B)
   (λs z c B d=>by
    simp only[aq.tP,kB] at d ⊢;rw[Iq arr _ _ _ S];by_cases x:s=j
    .subst x;simp only[wF,wm] at d;rw[Jw _ _ _ _ (by rw[H];omega)] at d;by_cases V:o<=z/\z<o+v.cells.length
     .rw[wl V] at d;obtain⟨u,W,cU⟩:=c3 _ c d;refine⟨u,?_,c2 _ _ W,cU⟩;rw[wl ⟨ae,by simp only[xq,←I];omega⟩];rw[show A+s*b.sz+z-(A+s*b.sz+o)=z-o by omega];simpa using W
     .rw[we V] at d;rw[we (by simp only[xq,←I];omega)];exact f.cell s z c B d
    ·simp only[x,vf,vg,ve] at d;have rA:z<b.sz:=by
      have:=f.len s B;rcases wt z (b.get s).length with X|X
      ·omega
      ·simp[wz X] at d
     rw[we ?_]
     .exact f.cell s z c B d
     .simp only[xq,←I,H];rintro⟨J,U⟩;rcases Nat.lt_or_gt_of_ne x with aN|rY
      .have:(s+1)*b.sz<=j*b.sz:=wJ _ aN;rw[wZ,xr] at this;omega
      .have:(j+1)*b.sz<=s*b.sz:=wJ _ rY;rw[wZ,xr] at this;omega)
   (λM s B c d=>by
    simp only[aq.tP,kB,wg] at M d;by_cases x:s=j
    .subst x;simp only[wF,wm] at d;exact(wA.1 M.2) c d
    .simp only[x,vf,vg,ve] at d;exact f.flat M.1 s B c d) rfl rfl ⟨rfl,wc _⟩
  exact⟨g',dm,.aH _ _ (.undef _),aO,bJ⟩
 |_=>simp[KQ] at C
def Sv(cs:Array Value)(off:Nat)(vs:Array Value)(f:off+vs.size<=cs.size) :
 (vs.zipIdx.foldl (λcs (p:Value×Nat)=>cs.setIfInBounds (off+p.2) p.1) cs).size=cs.size ∧
 ∀i,(vs.zipIdx.foldl (λcs (p:Value×Nat)=>cs.setIfInBounds (off+p.2) p.1) cs)[i]?=if off<=i/\i<off+vs.size then vs[i-off]? else cs[i]?:=by
 rw[←Array.foldl_toList,Array.toList_zipIdx]
 have key:∀(l:List Value) (s:Nat) (cs:Array Value),off+s+l.length<=cs.size →
  ((l.zipIdx s).foldl (λcs (p:Value×Nat)=>cs.setIfInBounds (off+p.2) p.1) cs).size=cs.size ∧
  ∀i,((l.zipIdx s).foldl (λcs (p:Value×Nat)=>cs.setIfInBounds (off+p.2) p.1) cs)[i]?=if off+s<=i/\i<off+s+l.length then l[i-(off+s)]? else cs[i]?:=by
  intro l
  induction l with
  |nil=>intro s cs _;exact⟨rfl,λi=>by simp;intro h1 a;omega⟩
  |cons v l d =>
   intro s cs e;simp only[vc] at e;simp only[List.zipIdx_cons,List.foldl_cons];obtain⟨k,j⟩:=d (s+1) (cs.setIfInBounds (off+s) v) (by simp;omega);refine⟨by rw[k];simp,λi=>?_⟩;rw[j];simp only[vc];by_cases h1:i=off+s
   .subst h1;rw[we ae,wl ae,Array.getElem?_setIfInBounds,wl rfl,wl ae];simp
   .by_cases a:off+(s+1)<=i/\i<off+(s+1)+l.length
    .rw[wl a,wl ae];rw[show i-(off+s)=(i-(off+(s+1)))+1 by omega];simp
    .rw[we a,we ae];simp[Ne.symm h1]
 have:=key vs.toList 0 cs (by simpa using f);simpa using this
def kq{pl:Nat->Option (Nat×Nat)}:∀(parts:List (Nat×T)) (bg:List (Nat×Value)) (cells:JO) (cs:Array Value) (k:JO->Option R) (r:R),
 YU pl cells parts k=some r->parts.length=bg.length->(∀(n:Nat) (p:Nat×T),parts[n]?=some p->∃q:Nat×Value,bg[n]?=some q/\q.1=p.1/\g.VR h w p.2 q.2) →
 cells.length=cs.size->(∀(i:Nat) (u:Value),cs[i]?=some u->u.oneCell'=true)->(∀(i:Nat) (c:T),cells[i]?=some c->∃u,cs[i]?=some u/\g.VR h w c u) →
 ∃l f,k l=some r/\Instr.fill pl cs bg=some f/\l.length=f.size/\(∀(i:Nat) (u:Value),f[i]?=some u->u.oneCell'=true)/\∀(i:Nat) (c:T),l[i]?=some c->∃u,f[i]?=some u/\g.VR h w c u
 |[],bg,cells,cs,k,r,e,s,_,h1,C,B=>by
  cases bg with
  |nil=>exact⟨cells,cs,e,rfl,h1,C,B⟩
  |cons q l=>simp at s
 |(i,v)::parts,bg,cells,cs,k,r,e,s,D,h1,C,B=>by
  cases bg with
  |nil=>simp at s
  |cons q bg =>
   obtain⟨Z,M,J,I⟩:=D 0 (i,v) rfl;simp only[wO,wi] at M;subst M;obtain⟨N,Q⟩:=q;dsimp only at J I;subst J;simp only[YU] at e;cases A:pl N with
   |none=>simp[A] at e
   |some os =>
    obtain⟨d,size⟩:=os;rw[A] at e;obtain⟨E,e⟩:=qm e;simp only[wg,vf] at E;obtain⟨⟨x,V⟩,j⟩:=E;have j:=Qg j;obtain⟨z,U,S⟩:=I.eJ V;obtain⟨O,H⟩:=Sv cs d Q.cells (by rw[←z,x,←h1];exact j);obtain⟨l,f,Y,X,W⟩:=kq parts bg (y6 cells d v.cells) _ k r e (by simpa using s) (λn p a=>D (n+1) p a)
     (by rw[kp _ _ _ (by rw[x];exact j),O,h1])
     (λn u a=>by
      rw[H] at a;split at a
      .exact U _ u a
      .exact C _ u a)
     (λn c a=>by
      rw[Jw _ _ _ _ (by rw[x];exact j)] at a;rw[H];by_cases o:d<=n/\n<d+v.cells.length
      .rw[wl o] at a;rw[wl (by rw[←z];exact o)];exact S _ c a
      .rw[we o] at a;rw[we (by rw[←z];exact o)];exact B _ c a)
    refine⟨l,f,Y,?_,W⟩;simp only[Instr.fill,A];rw[we (by simp only[vY,wC,not_or];rw[←z,x,←h1];exact⟨au,ae⟩)];exact X
end
section
variable {P:Program} {R:Type} {g:Gh} {h:qa} {w:World}
def Jd{α β:Type}(f:α->Sem β)(a:α->β):∀(l:List α),(∀x∈l,(f x).run P w = .ok (a x) w)->(l.mapM f).run P w = .ok (l.map a) w
 |[],_=>by simp
 |x::l,hx=>by
  have d:=Jd f a l (λy e=>hx y (by simp[e]));simp[List.mapM_cons,hx x au,d]
def qde{α β:Type}(f:α->Sem β)(a:α->β)(l:Array α)(hx:∀x∈l.toList,(f x).run P w = .ok (a x) w):(l.mapM f).run P w = .ok (l.map a) w:=by
 rw[Array.mapM_eq_mapM_toList];simp only[Sem.run_map,Jd f a l.toList hx,Result.andThen_ok];congr 1;apply Array.ext';simp
def qdf{t:TypeId}{parts:List (Nat×T)}{bg:Array (Nat×Value)}{k:Qd R}{r:R}(a:KR P t parts h k=some r)
 (J:parts.length=bg.size) (hp:∀(n:Nat) (p:Nat×T),parts[n]?=some p->∃q:Nat×Value,bg.toList[n]?=some q/\q.1=p.1/\g.VR h w p.2 q.2) :
 ∃y,k y h false=some r/\∃v,(Instr.build t bg).run P w = .ok v w/\g.VR h w y v:=by
 unfold KR at a;cases o:P.underlying t with
 |none=>simp[o] at a
 |some d =>
  rw[o] at a;cases d with
  |struct fs =>
   dsimp only at a;obtain⟨j,a⟩:=qm a;simp only[wg] at j;obtain⟨z,A,Q,x,M,u,s⟩:=ZF (P:=P) (g:=g) (h:=h) (w:=w) j.1;obtain⟨l,B,I,H,E,D,C⟩:=kq parts bg.toList _ z.cells _ r a (by simpa using J) hp x u s;refine⟨_,I,.agg B,?_,VR.dc E D C⟩;unfold Instr.build;have N:=qde (P:=P) (w:=w) (λf:Field=>do pure (f.offset,←sizeOf f.type)) (λf:Field=>(f.offset,qN P f.type)) fs (λf O=>by
    have:=(wA.1 j.2) f O;simp[Qh this])
   have he:(λi=>(fs.map (λf:Field=>(f.offset,qN P f.type)))[i]?)=MG P fs:=by
    funext i;rw[Array.getElem?_map];unfold MG;cases fs[i]?<;>rfl
   simp only[Sem.run_bind,A,Result.andThen_ok,qo o];simp only[N,Result.andThen_ok];rw[he,H];rfl
  |array n e =>
   dsimp only at a;obtain⟨j,a⟩:=qm a;simp only[wg] at j;obtain⟨z,A,Q,x,M,u,s⟩:=ZF (P:=P) (g:=g) (h:=h) (w:=w) j.1;obtain⟨l,B,I,H,E,D,C⟩:=kq parts bg.toList _ z.cells _ r a (by simpa using J) hp x u s;refine⟨_,I,.agg B,?_,VR.dc E D C⟩;unfold Instr.build;simp only[Sem.run_bind,A,Result.andThen_ok,qo o];simp only[Qh j.2,Result.andThen_ok];rw[show(λi=>some (i*qN P e,qN P e))=RT (qN P e) from rfl,H];rfl
  |_=>simp at a
def YC{α:Type}(f:Nat->α):(Array.range 0).map f = #[]:=by apply Array.ext';simp
def ZJ{a:JO}{z:Array Value}{sz:Nat}(s:a.length=z.size)(e:z.size=sz)(len:Nat)(j o:Nat)(c:T)(i:j<len)(f:a[o]?=some c) :
 ((Array.range (len*sz)).map (z[·%z.size]!))[j*sz+o]?=z[o]?:=by
 have d:o<sz:=by
  rcases wt o a.length with h|h
  .omega
  .simp[wz h] at f
 have k:j*sz+o<len*sz:=by
  have:(j+1)*sz<=len*sz:=wJ _ i;rw[wZ,xr] at this;omega
 have r:(j*sz+o)%sz=o:=by rw[Nat.add_comm,Nat.add_mul_mod_self_right];exact Nat.mod_eq_of_lt d
 rw[Array.getElem?_map];simp only[Array.getElem?_range,k,vH,vX,e,r];rw[Array.getElem!_eq_getD,wG,wL ae];rfl
def YD{sz:Nat}:∀(parts:List (Nat×T)) (bg:List (Nat×Value)) (d:List JO) (cs:Array Value) (k:List JO->Option R) (r:R),
 Yq sz d parts k=some r->parts.length=bg.length->(∀(n:Nat) (p:Nat×T),parts[n]?=some p->∃q:Nat×Value,bg[n]?=some q/\q.1=p.1/\g.VR h w p.2 q.2) →
 d.length*sz<=cs.size->(∀l∈d,l.length=sz)->(∀(i:Nat) (u:Value),cs[i]?=some u->u.oneCell'=true) →
 (∀(j o:Nat) (l:JO) (c:T),d[j]?=some l->l[o]?=some c->∃u,cs[j*sz+o]?=some u/\g.VR h w c u) →
 ∃es z,k es=some r/\Instr.fill (λi=>some (i*sz,sz)) cs bg=some z/\es.length=d.length/\z.size=cs.size/\(∀l∈es,l.length=sz)/\(∀(i:Nat) (u:Value),z[i]?=some u->u.oneCell'=true) ∧
  ∀(j o:Nat) (l:JO) (c:T),es[j]?=some l->l[o]?=some c->∃u,z[j*sz+o]?=some u/\g.VR h w c u
 |[],bg,d,cs,k,r,x,C,_,Q,h1,J,I=>by
  cases bg with
  |nil=>exact⟨d,cs,x,rfl,rfl,rfl,h1,J,I⟩
  |cons q l=>simp at C
 |(i,v)::parts,bg,d,cs,k,r,x,C,N,Q,h1,J,I=>by
  cases bg with
  |nil=>simp at C
  |cons q bg =>
   obtain⟨q',X,W,V⟩:=N 0 (i,v) rfl;simp only[wO,wi] at X;subst X;obtain⟨f,cv⟩:=q;dsimp only at W V;subst W;simp only[Yq] at x;obtain⟨O,x⟩:=qm x;simp only[wg,vf] at O;obtain⟨⟨D,ap⟩,H⟩:=O;have H:=Qb H;obtain⟨E,c2,c3⟩:=V.eJ ap;have gp:(f+1)*sz<=d.length*sz:=wJ _ H;rw[wZ,xr] at gp;obtain⟨U,S⟩:=Sv cs (f*sz) cv.cells (by rw[←E,D];omega);obtain⟨es,z,a1,a2,a3,a4,a5,a6,a7⟩:=YD parts bg (d.set f v.cells) _ k r x (by simpa using C) (λn p s=>N (n+1) p s)
    (by rw[U];simpa using Q)
    (λl Z=>by
     rcases List.mem_or_eq_of_mem_set Z with a|a
     .exact h1 l a
     .rw[a];exact D)
    (λn u s=>by
     rw[S] at s;split at s
     .exact c2 _ u s
     .exact J _ u s)
    (λj o l c A B=>by
     rw[S];by_cases M:j=f
     ·subst M;simp only[wP H,wi] at A;subst A;have MZ:o<v.cells.length:=by
       rcases wt o v.cells.length with a|a
       ·exact a
       ·simp[wz a] at B
      rw[wl ⟨ae,by rw[←E];omega⟩,show j*sz+o-j*sz=o by omega];exact c3 o c B
     ·rw[wV (λe=>M e.symm)] at A;have MZ:o<sz:=by
       have:=h1 l (wo A);rcases wt o l.length with a|a
       ·omega
       ·simp[wz a] at B
      rw[we ?_]
      .exact I j o l c A B
      .rw[←E,D];rintro⟨q1,q2⟩;rcases Nat.lt_or_gt_of_ne M with M0|Y
       .have:(j+1)*sz<=f*sz:=wJ _ M0;rw[wZ,xr] at this;omega
       .have:(f+1)*sz<=j*sz:=wJ _ Y;rw[wZ,xr] at this;omega)
   refine⟨es,z,a1,?_,by simpa using a3,by rw[a4,U],a5,a6,a7⟩;simp only[Instr.fill];rw[we (by simp only[vY,wC,not_or];rw[←E,D];exact⟨au,ae⟩)];exact a2
def qkT{es:List JO}(d:(es.all (·.all qG))=true){l:JO}(a:l∈es){c:T}(e:c∈l):qG c=true :=
 (wA.1 ((wA.1 d) l a)) c e
def j3{t:TypeId}{len:Nat}{parts:List (Nat×T)}{bg:Array (Nat×Value)}{k:Qd R}{r:R}(f:zO P t len parts h k=some r)(hr:HR g h w)
 (hl:parts.length=bg.size) (hp:∀(n:Nat) (p:Nat×T),parts[n]?=some p->∃q:Nat×Value,bg.toList[n]?=some q/\q.1=p.1/\g.VR h w p.2 q.2) :
 ∃y h',k y h' true=some r/\∃v w',(Instr.buildSlice t len bg).run P w = .ok v w'/\gV g h w y h' v w':=by
 unfold zO qT at f;cases J:P.underlying t with
 |none=>simp[J] at f
 |some d =>
  rw[J] at f;cases d with
  |slice e =>
   dsimp only at f;obtain⟨M,f⟩:=qm f;simp only[wg] at M;obtain⟨N,S⟩:=M;have S:=Qg S;obtain⟨z,N,ci,X,Y,rC,rZ⟩:=ZF (P:=P) (g:=g) (h:=h) (w:=w) N
   let B:Array Value:=(Array.range (len*qN P e)).map (z.cells[·%z.cells.size]!)
   obtain⟨es,I,a1,V,U,a4,a5,a6,a7⟩:=YD (sz:=qN P e) parts bg.toList (List.replicate len (Qi P e)) B _ r f (by simpa using hl) hp
    (by simp[B]) (λl n9=>by rw[(List.mem_replicate.1 n9).2,X,Y])
    (λi u C=>by
     simp only[B,Array.getElem?_map,wI] at C;obtain⟨n,O,rfl⟩:=C;have fL:n=i/\i<len*qN P e:=by
      rcases wt i (len*qN P e) with a|a
      .simp[a] at O;exact⟨O.symm,a⟩
      .simp[Nat.not_lt.2 a] at O
     have sm:0<qN P e:=by
      rcases vS (qN P e) with x|x
      .rw[x] at fL;omega
      .exact x
     rw[Array.getElem!_eq_getD,wG];have H:n%z.cells.size<z.cells.size:=Nat.mod_lt _ ae;rw[wL H];exact rC _ _ (wL H))
    (λj o l c s E=>by
     have A:j<len:=by
      rcases wt j len with a|a
      .exact a
      .rw[wz (by simpa using a)] at s;simp at s
     have:l=Qi P e:=(List.mem_replicate.1 (wo s)).2;subst this;rw[ZJ X Y len j o c A E];exact rZ o c E)
   refine⟨_,_,a1,.slice (some ⟨w.heap.size,0,none⟩) len len,w.alloc (.cells I e),?_,?_⟩
   .unfold Instr.buildSlice;have a:¬(len*qN P e > 2 ^ 24):=by simpa using S
    by_cases x:len*qN P e=0
    .have Q:B = #[]:=by simp only[B,x];exact YC _
     rw[Q] at V;have Z:(Array.range (len*qN P e)).map ((#[]:Array Value)[·%(#[]:Array Value).size]!) = #[]:=by rw[x];exact YC _
     simp only[Sem.run_bind,qo J,Result.andThen_ok,Qh ci,x,vH];rw[we (by decide)];rw[x] at Z;simp only[Sem.run_bind,Sem.run_pure,Result.andThen_ok,Z,V];rfl
    .simp only[Sem.run_bind,qo J,Result.andThen_ok,Qh ci,a,ve,Sem.run_pure,x,N];rw[show(Array.range (len*qN P e)).map (z.cells[·%z.cells.size]!)=B from rfl,V];rfl
   .have C3:I.size=len*qN P e:=by rw[a4];simp[B]
    obtain⟨g',Q,_,dm,aO,bJ⟩:=hr.alloc (w':=w.alloc (.cells I e)) (cb:=w.heap.size) (sh:=0) (arr:=I) (e:=e) (b':=⟨0,qN P e,len,λj=>es.getD j [],es.all (·.all qG),Nat.ble len 8,none⟩)
     au (λk f=>RowKit.Below.heap_alloc _ _ _ f) (zj w _) (wc _) (by simp[C3])
     (λj s=>by
      have A:j<es.length:=by simp at U;simp at s;omega
      have:es[j]?=some es[j]:=wj A;simp only[List.getD,this,xz];exact a5 _ (wo this))
     (λj o c s E=>by
      have A:j<es.length:=by simp at U;simp at s;omega
      have D:es[j]?=some es[j]:=wj A;simp only[List.getD,D,xz] at E;obtain⟨u,C,cU⟩:=a7 j o _ c D E;exact⟨u,by simpa using C,a6 _ _ C,cU⟩)
     (λhf j s c W=>by
      have A:j<es.length:=by simp at U;simp at s;omega
      have D:es[j]?=some es[j]:=wj A;simp only[List.getD,D,xz] at W;exact qkT hf (wo D) W) rfl rfl ⟨rfl,wc _⟩
    refine⟨g',dm,.own _ _ _ _ _ _ _ (YA h _) (wc _) rfl λ_=>.inl ⟨_,_,len,_,Q,rfl,rfl,au,wc _,λm H=>?_,au,?_,λM=>by cases M⟩,aO,bJ⟩
    .simp only[wi] at H;subst H;exact⟨rfl,au⟩
    .exact⟨I,e,zj w _,by simp[C3]⟩
  |_=>simp at f
def HR.C4(hr:HR g h w)(i:Array Value)(e:TypeId) :
 HR { g with U:=λb=>g.U b∨b=w.heap.size } h (w.alloc (.cells i e))/\z8 g h w { g with U:=λb=>g.U b∨b=w.heap.size } h (w.alloc (.cells i e))/\mh g w { g with U:=λb=>g.U b∨b=w.heap.size } (w.alloc (.cells i e)):=by
 have r:∀k,k<w.heap.size->(w.alloc (.cells i e)).heap[k]?=w.heap[k]?:=λk a=>RowKit.Below.heap_alloc _ _ _ a;have D:(w.alloc (.cells i e)).heap.size=w.heap.size+1:=by simp
 have E:z8 g h w { g with U:=λb=>g.U b∨b=w.heap.size } h (w.alloc (.cells i e)):=by
  refine⟨λk a=>⟨.inl a,r k (hr.u k a).1⟩,λk x hx=>⟨x,hx,wc _,λ_=>⟨rfl,rfl,rfl⟩⟩,λk n V=>?_⟩;obtain⟨W,S,h1,A⟩:=V;exact⟨W,S,by rw[r k (qI h1)];exact h1,A⟩
 have I:g.own w.heap.size=none:=by
  cases f:g.own w.heap.size with
  |none=>rfl
  |some o=>have:=(hr.own _ o f).2;omega
 refine⟨⟨λk x hx B=>?_,λk a=>?_,λk o f=>?_,by rw[D];exact Nat.le_succ_of_le hr.base,λk o f=>hr.eU f (r k (hr.own k o f).2),hr.lt,λk x m hx B=>hr.eX hx B rfl (λ_ h=>h) λc z _=>r c z⟩,E,by rw[D];exact Nat.le_succ _,λ_ _=>rfl,rfl,rfl,⟨rfl,wc _⟩,λk a _=>r k a,rfl,λb s=>?_,λb s t J=>?_⟩
 .rcases hr.dh k x hx B with⟨C,H,O,Q,d⟩|q
  rotate_left
  .exact .inr q
  refine .inl ⟨C,H,O,Q,d.φ,d.own,by rw[r C (qI d.heap)];exact d.heap,d.room,d.len,λj o c M z=>?_,d.flat⟩;obtain⟨v,h1,A,N⟩:=d.cell j o c M z;exact⟨v,h1,A,N.ar E⟩
 .rcases a with a|a
  .exact⟨by have:=(hr.u k a).1;omega,(hr.u k a).2⟩
  .subst a;exact⟨ae,I⟩
 .exact⟨(hr.own k o f).1,by have:=(hr.own k o f).2;omega⟩
 .rcases s with s|s
  .exact .inl s
  .exact .inr ae
 .have:=(hr.own b _ J).2;omega
def jG{c:T}{v:Value}(hp:zK c=true)(a:g.VR h w c v):VI w g.U c v:=by
 cases a with
 |aH _ _ a=>exact a
 |fn f o k e j r a =>
  have:o=[]:=by simpa [zK] using hp
  subst this;exact .fn f [] k e j (λi c d=>by simp at d) (λi c d=>by simp at d)
 |_=>simp[zK] at hp
def ZM{c:T}{v:Value}(hp:aH c=true)(a:g.VR h w c v):VI w g.U c v:=by
 cases a with
 |aH _ _ a=>exact a
 |fn f r o e j k a =>
  have:=wA.1 (show r.all zK=true from hp);exact .fn f r o e j k (λi c d=>jG (this c (wo d)) (a i c d))
 |agg l o e j h1 k a =>
  have:=wA.1 (show l.all zK=true from hp);exact .agg l o e j h1 k (λi c d=>jG (this c (wo d)) (a i c d))
 |aK l o e j k a =>
  have:=wA.1 (show l.all zK=true from hp);exact .aK l o e j k (λi c d=>jG (this c (wo d)) (a i c d))
 |iface t x v a=>exact .iface t x v (jG (show zK x=true from hp) a)
 |_=>simp[aH,zK] at hp
def qam{t:TypeId}{len:Nat}{parts:List (Nat×T)}{bg:Array (Nat×Value)}{k:T->Option R}{r:R}(B:yT P t len parts k=some r)(hr:HR g h w)
 (hl:parts.length=bg.size) (hp:∀(n:Nat) (p:Nat×T),parts[n]?=some p->∃q:Nat×Value,bg.toList[n]?=some q/\q.1=p.1/\g.VR h w p.2 q.2) :
 ∃y,k y=some r/\∃v w',(Instr.buildSlice t len bg).run P w = .ok v w'/\gV g h w y h v w':=by
 unfold yT qT at B;cases H:P.underlying t with
 |none=>simp[H] at B
 |some d =>
  rw[H] at B;cases d with
  |slice e =>
   dsimp only at B;obtain⟨V,B⟩:=qm B;simp only[wg] at V;obtain⟨J,N⟩:=V;have N:=Qg N;obtain⟨z,J,X,S,U,rC,rZ⟩:=ZF (P:=P) (g:=g) (h:=h) (w:=w) J
   let D:Array Value:=(Array.range (len*qN P e)).map (z.cells[·%z.cells.size]!)
   obtain⟨es,C,Q,O,a3,a4,a5,a6,a7⟩:=YD (sz:=qN P e) parts bg.toList (List.replicate len (Qi P e)) D _ r B (by simpa using hl) hp
    (by simp[D]) (λl n9=>by rw[(List.mem_replicate.1 n9).2,S,U])
    (λi u A=>by
     simp only[D,Array.getElem?_map,wI] at A;obtain⟨n,M,rfl⟩:=A;have fL:n=i/\i<len*qN P e:=by
      rcases wt i (len*qN P e) with a|a
      .simp[a] at M;exact⟨M.symm,a⟩
      .simp[Nat.not_lt.2 a] at M
     have sm:0<qN P e:=by
      rcases vS (qN P e) with x|x
      .rw[x] at fL;omega
      .exact x
     rw[Array.getElem!_eq_getD,wG];have I:n%z.cells.size<z.cells.size:=Nat.mod_lt _ ae;rw[wL I];exact rC _ _ (wL I))
    (λj o l c E s=>by
     have rX:j<len:=by
      rcases wt j len with a|a
      .exact a
      .rw[wz (by simpa using a)] at E;simp at E
     have:l=Qi P e:=(List.mem_replicate.1 (wo E)).2;subst this;rw[ZJ S U len j o c rX s];exact rZ o c s)
   obtain⟨n6,Q⟩:=qm Q;refine⟨_,Q,.slice (some ⟨w.heap.size,0,none⟩) len len,w.alloc (.cells C e),?_,?_⟩
   .unfold Instr.buildSlice;have a:¬(len*qN P e > 2 ^ 24):=by simpa using N
    by_cases x:len*qN P e=0
    .have e1:D = #[]:=by simp only[D,x];exact YC _
     rw[e1] at O;have W:(Array.range (len*qN P e)).map ((#[]:Array Value)[·%(#[]:Array Value).size]!) = #[]:=by rw[x];exact YC _
     simp only[Sem.run_bind,qo H,Result.andThen_ok,Qh X,x,vH];rw[we (by decide)];rw[x] at W;simp only[Sem.run_bind,Sem.run_pure,Result.andThen_ok,W,O];rfl
    .simp only[Sem.run_bind,qo H,Result.andThen_ok,Qh X,a,ve,Sem.run_pure,x,J];rw[show(Array.range (len*qN P e)).map (z.cells[·%z.cells.size]!)=D from rfl,O];rfl
   .have C3:C.size=len*qN P e:=by rw[a4];simp[D]
    obtain⟨dm,Z,bJ⟩:=hr.C4 C e;have bO:es.length=len:=by simpa using a3
    refine⟨_,dm,.aH _ _ (.view _ _ _ _ ⟨w.heap.size,0,none⟩ len (λj o=>C.getD (j*qN P e+o) undef) (λ_=>rfl) (λm I=>by simpa using I) (wc _) (λ_ _=>.inr rfl) (λj E=>?_) (λj o c E s=>?_) (λj o c E s=>?_)),Z,bJ⟩
    .have f:es[j]?=some (es[j]'ae):=wj ae;simp only[List.getD,f,xz];exact a5 _ (wo f)
    .have f:es[j]?=some (es[j]'ae):=wj ae;simp only[List.getD,f,xz] at s;obtain⟨u,A,Y⟩:=a7 j o _ c f s;rw[show C.getD (j*qN P e+o) undef=u by rw[wG,A];rfl];exact⟨by simp only[World.cell?,zj];simpa using A,a6 _ _ A⟩
    .have f:es[j]?=some (es[j]'ae):=wj ae;simp only[List.getD,f,xz] at s;obtain⟨u,A,Y⟩:=a7 j o _ c f s;show VI _ _ c (C.getD (j*qN P e+o) undef);rw[show C.getD (j*qN P e+o) undef=u by rw[wG,A];rfl];exact(ZM (wA.1 (wA.1 n6 _ (wo f)) _ (wo s)) Y).ar Z.1
  |_=>simp at B
end
section
variable {P:Program} {R:Type} {g:Gh} {h:qa} {w:World}
def qU{t e:TypeId}(h:qT P t=some e):P.underlying t=some (.slice e):=by
 unfold qT at h;cases a:P.underlying t with
 |none=>simp[a] at h
 |some d =>
  rw[a] at h;cases d<;>simp at h
  rw[h]
def yx{t e:TypeId}{n:Nat}(h:QR P t=some (n,e)):P.underlying t=some (.array n e):=by
 unfold QR at h;cases a:P.underlying t with
 |none=>simp[a] at h
 |some d =>
  rw[a] at h;cases d<;>simp at h
  rw[h.1,h.2]
def Sw{n:Int}(h1:-9223372036854775808<=n)(h2:n<=9223372036854775807):IntKind.i64.wrap n=n:=by
 exact IntWalk.i64_in n ⟨h1,h2⟩
def qeo{t:TypeId}{l c:T}{k:Qd R}{r:R}{cl cc:Value}(a:JV P t l c h k=some r)(hr:HR g h w)(V:g.VR h w l cl)(f:g.VR h w c cc) :
 ∃y h',k y h' true=some r/\∃v w',(Instr.makeSlice t cl cc).run P w = .ok v w'/\gV g h w y h' v w':=by
 unfold JV at a;cases he:qT P t with
 |none=>simp[he] at a
 |some e =>
  rw[he] at a;cases l with
  |int kl l =>
   cases c with
   |int kc c =>
    dsimp only at a;obtain⟨d,a⟩:=qm a;obtain⟨N,a⟩:=qm a;simp only[wg,wC] at N;obtain⟨⟨⟨q1,q2⟩,A⟩,q4⟩:=N;obtain rfl:=V.int;obtain rfl:=f.int;obtain⟨z,d,M,B,C,Q,O⟩:=ZF (P:=P) (g:=g) (h:=h) (w:=w) d;obtain⟨i,I⟩:=Kf M;have Y:YT P e=i.bytes:=by simp[YT,I]
    refine⟨_,_,a,.slice (some ⟨w.heap.size,0,none⟩) l.toNat c.toNat,w.alloc (.cells ((Array.range (c.toNat*qN P e)).map (z.cells[·%z.cells.size]!)) e),?_,?_⟩
    ·unfold Instr.makeSlice;simp only[Sem.run_bind,qo (qU he),Result.andThen_ok];have s:=Sw (n:=l) ae ae;have e2:=Sw (n:=c) ae ae;have U:¬((decide (c<0) || decide ((i.bytes:Int)*c > 2 ^ 48) || decide (l<0) || decide (l > c))=true):=by
      rw[Y] at A;have q5:(i.bytes:Int)*c<=140737488355328:=by rw[Int.mul_comm];exact A
      have e3:((2:Int) ^ 48)=281474976710656:=by decide
      simp only[vY,wC,not_or,e3];omega
     have BU:(typeInfo e).run P w = .ok i w:=by simp[typeInfo,I]
     simp only[asInt,asIntOf,Sem.run_bind,Sem.run_pure,Result.andThen_ok,BU,s,e2,U,ve,run_askRoom,Qh M,xy];by_cases J:c.toNat*qN P e=0
     .simp only[J,vH,Sem.run_bind,Sem.run_pure,Result.andThen_ok,YC];rfl
     .simp only[J,ve,Sem.run_bind,d,Sem.run_pure,Result.andThen_ok];rfl
    ·obtain⟨Z,s,_,dm,aO,bJ⟩:=hr.alloc (w':=w.alloc (.cells ((Array.range (c.toNat*qN P e)).map (z.cells[·%z.cells.size]!)) e)) (cb:=w.heap.size) (sh:=0) (arr:=(Array.range (c.toNat*qN P e)).map (z.cells[·%z.cells.size]!)) (e:=e)
      (b':=⟨0,qN P e,c.toNat,λ_=>Qi P e,(Qi P e).all qG,false,none⟩)
      au (λk a=>RowKit.Below.heap_alloc _ _ _ a) (zj w _) (wc _) au
      (λj _=>by rw[B,C])
      (λj o x W E=>by
       have S:=ZJ B C c.toNat j o x W E;obtain⟨u,D,cU⟩:=O o x E;refine⟨u,?_,Q _ _ D,cU⟩;rw[←D,←S];simp)
      (λX j _ x hx=>(wA.1 X) x hx) rfl rfl ⟨rfl,wc _⟩
     refine⟨Z,dm,.own _ _ _ _ _ _ _ (YA h _) (wc _) rfl λ_=>.inl ⟨_,_,c.toNat,_,s,rfl,rfl,au,ae,λm H=>?_,by simp;omega,?_,λf=>by cases f⟩,aO,bJ⟩
     .simp only[wi] at H;subst H;exact⟨rfl,au⟩
     .exact⟨_,e,zj w _,au⟩
   |_=>simp at a
  |_=>simp at a
def zG{x:Option T}{d:Int}{k:Int->Option R}{r:R}(e:k9 x d k=some r):(x=none/\k d=some r)∨∃a i,x=some (.int a i)/\k i=some r:=by
 cases x with
 |none=>exact .inl ⟨rfl,e⟩
 |some x =>
  cases x with
  |int a i=>exact .inr ⟨a,i,rfl,e⟩
  |_=>simp[k9] at e
def Ay(g:Gh)(h:qa)(w:World)(x:Option T)(v:Option Value):Prop:=(x=none/\v=none)∨∃y u,x=some y/\v=some u/\g.VR h w y u
def Zo{isS:Bool}{len gn ccap:Nat}{cap:Option Nat}{O J z:Option T}{X W Y:Option Value}{k:Nat->Nat->Option Nat->Option R}{r:R}
 (a:Yr len gn cap O J z k=some r) (C:Ay g h w O X) (B:Ay g h w J W) (S:Ay g h w z Y) (fk:∀m,cap=some m->ccap=m) (bc:len<=ccap) (Z:len<=gn) (M1:cap=none->gn<=ccap) :
 ∃l d c m,k l d c=some r/\(Instr.sliceBounds isS len ccap X W Y).run P w = .ok (l,d,m) w/\l<=d/\d<=m/\m<=ccap ∧
  (z=none->m=ccap/\c=cap.map (·-l)/\(cap=none->d<=gn))/\(z≠none->c=some (m-l)/\(cap=none->m<=gn)):=by
 have s:∀{x:Option T} {v:Option Value} {E:IntKind} {i:Int},Ay g h w x v->x=some (.int E i)->v=some (.int E i):=by
  intro x v E i hx e;rcases hx with⟨f,j⟩|⟨y,u,f,j,hr⟩
  .rw[f] at e;cases e
  .rw[f] at e;obtain rfl:=wa e;rw[j,hr.int]
 have A:∀{x:Option T} {v:Option Value},Ay g h w x v->x=none->v=none:=by
  intro x v hx e;rcases hx with⟨f,j⟩|⟨y,u,f,j,hr⟩
  .exact j
  .rw[f] at e;cases e
 have sb:∀(E:IntKind) (i:Int) (y:Nat) (code:BoundsCode),0<=i->i<=(y:Int)->(Instr.sliceBound (.int E i) y code).run P w = .ok i.toNat w:=by
  intro E i y code h1 h2;simp[Instr.sliceBound,asIntOf,h1,h2]
 have acj:(cap.getD gn:Int)<=(ccap:Int):=by
  cases cap with
  |none=>have:=M1 rfl;simp;omega
  |some c=>have:=fk c rfl;simp;omega
 unfold Yr at a;cases z with
 |none =>
  obtain rfl:=A S rfl;rcases zG a with⟨f,a⟩|⟨D,l,f,a⟩<;>rcases zG a with⟨j,a⟩|⟨H,d,j,a⟩ <;>
   (dsimp only at a;obtain⟨I,a⟩:=qm a;simp only[wg,wC] at I;obtain⟨⟨M,V⟩,N⟩:=I)
  .refine⟨_,_,_,ccap,a,?_,ae,ae,wc _,λ_=>⟨rfl,?_,λo=>by subst o;simp;omega⟩,λd=>absurd rfl d⟩
   .rw[A C f,A B j];simp[Instr.sliceBounds]
   .rfl
  .refine⟨_,_,_,ccap,a,?_,ae,ae,wc _,λ_=>⟨rfl,?_,λo=>by subst o;simp only[Option.getD_none] at N;omega⟩,λd=>absurd rfl d⟩
   .rw[A C f,s B j];simp[Instr.sliceBounds,sb H d ccap _ ae ae]
   .rfl
  .refine⟨_,_,_,ccap,a,?_,ae,ae,wc _,λ_=>⟨rfl,?_,λo=>by subst o;simp;omega⟩,λd=>absurd rfl d⟩
   .rw[s C f,A B j];simp[Instr.sliceBounds,sb D l len _ M V]
   .rfl
  .refine⟨_,_,_,ccap,a,?_,ae,ae,wc _,λ_=>⟨rfl,?_,λo=>by subst o;simp only[Option.getD_none] at N;omega⟩,λd=>absurd rfl d⟩
   .rw[s C f,s B j];simp[Instr.sliceBounds,sb H d ccap _ ae ae,sb D l d.toNat _ M ae]
   .rfl
 |some z =>
  cases z with
  |int km m =>
   cases J with
   |none =>
    rcases zG a with⟨f,a⟩|⟨D,l,f,a⟩<;>simp[k9] at a
   |some J =>
    have Q:=s S rfl;rcases zG a with⟨f,a⟩|⟨D,l,f,a⟩<;>rcases zG a with⟨j,a⟩|⟨H,d,j,a⟩ <;>
     (dsimp only at a;obtain⟨I,a⟩:=qm a;simp only[wg,wC] at I;obtain⟨⟨⟨M,V⟩,N⟩,U⟩:=I)
    .cases j
    .refine⟨_,_,_,m.toNat,a,?_,ae,ae,ae,(λo=>by cases o),λ_=>⟨rfl,λo=>by subst o;simp only[Option.getD_none] at U;omega⟩⟩;rw[A C f,s B j,Q];simp[Instr.sliceBounds,sb km m ccap _ ae ae,sb H d m.toNat _ ae ae]
    .cases j
    .refine⟨_,_,_,m.toNat,a,?_,ae,ae,ae,(λo=>by cases o),λ_=>⟨rfl,λo=>by subst o;simp only[Option.getD_none] at U;omega⟩⟩;rw[s C f,s B j,Q];simp[Instr.sliceBounds,sb km m ccap _ ae ae,sb H d m.toNat _ ae ae,sb D l d.toNat _ M ae]
  |_ =>
   rcases zG a with⟨f,a⟩|⟨D,l,f,a⟩<;>rcases zG a with⟨j,a⟩|⟨H,d,j,a⟩<;>simp at a
def Ym{s:List UInt8}{b:ByteArray}(a:b.data.toList=s):b.size=s.length:=by
 show b.data.size=_;rw[←a];exact xq.symm
def Kg(b:ByteArray)(l r:Nat):(b.extract l r).data.toList=(b.data.toList.take r).drop l:=by
 rw[ByteArray.data_extract,Array.toList_extract];simp[List.extract,List.drop_take]
def je{t:TypeId}(h:JT P t=true):P.underlying t=some .string:=by
 unfold JT at h;cases a:P.underlying t with
 |none=>simp[a] at h
 |some d =>
  rw[a] at h;cases d<;>simp at h
  rfl
def M2(a:Addr)(d:a.spot=none)(n:Nat):a.add n=⟨a.block,a.off+n,none⟩:=by
 cases a with
 |mk b o s=>dsimp only at d;subst d;exact QO b o n
def jf{t:TypeId}{x:T}{lo hi O:Option T}{v:Value}{Fs Ft Ea:Option Value}{k:Qd R}{r:R}(d:zh P t x lo hi O h k=some r)
 (hx:g.VR h w x v) (pV:Ay g h w lo Fs) (tR:Ay g h w hi Ft) (dp:Ay g h w O Ea) :
 ∃y,k y h false=some r/\∃u,(Instr.sliceAt t v Fs Ft Ea).run P w = .ok u w/\g.VR h w y u:=by
 cases x with
 |str s =>
  obtain⟨b,rfl,Y⟩:=hx.str;cases O with
  |some O=>simp[zh] at d
  |none =>
   obtain rfl:Ea=none:=by
    rcases dp with⟨_,e⟩|⟨y,u,e,_⟩
    .exact e
    .cases e
   obtain⟨hs,d⟩:=qm d;have hu:=je hs;have dM:=Ym Y;obtain⟨l,C,c,m,d,I,h1,h2,h3,S,_⟩:=Zo (P:=P) (isS:=false) (ccap:=b.size) d pV tR (.inl ⟨rfl,rfl⟩) (λm Q=>by simp only[wi] at Q;omega) ae (wc _) (λf=>by cases f);rw[←dM] at I;refine⟨_,d,.string (b.extract l C),?_,.aH _ _ (.str _ _ (by rw[Kg,Y]))⟩;simp only[Instr.sliceAt,Instr.slice,Sem.run_bind,qo hu,Result.andThen_ok];simp only[Option.isSome_none,xy,ve,Sem.run_bind,I,Result.andThen_ok];rfl
 |ag =>
  obtain rfl:=hx.ag;simp only[zh] at d;cases he:qT P t with
  |none=>simp[he] at d
  |some e =>
   rw[he] at d;obtain⟨Z,d⟩:=qm d;obtain⟨l,C,c,m,d,I,h1,h2,h3,_,_⟩:=Zo (P:=P) (isS:=true) (ccap:=0) d pV tR dp (λm Q=>by simp only[wi] at Q;omega) ae (wc _) (λf=>by cases f);refine⟨_,d,.slice none 0 0,?_,.aH _ _ .ag⟩;simp only[Instr.sliceAt,Instr.slice,Sem.run_bind,qo (qU he),Result.andThen_ok];simp only[I,Result.andThen_ok,Qh Z];have D:C-l=0:=by omega
   have X:m-l=0:=by omega
   simp[D,X]
 |view sz n g' cap =>
  simp only[zh] at d;cases he:qT P t with
  |none=>simp[he] at d
  |some e =>
   rw[he] at d;obtain⟨f,d⟩:=qm d;simp only[wg,vf] at f;obtain⟨Z,dM⟩:=f;cases hx.view with
   |eS _ _ _ r8 =>
    obtain⟨l,C,c,m,d,I,h1,h2,h3,S,W⟩:=Zo (P:=P) (isS:=true) (ccap:=0) d pV tR dp (λm Q=>by rcases r8 with h|h<;>rw[h] at Q<;>cases Q;rfl) (wc _) (wc _) (λ_=>wc _);obtain⟨bv,d⟩:=qm d;have B:c=none∨c=some 0:=by
     cases O with
     |none =>
      obtain⟨_,B,_⟩:=S rfl;rcases r8 with h|h
      .rw[h] at B;exact .inl B
      .rw[h] at B;right;rw[B];simp
     |some x =>
      obtain⟨B,_⟩:=W au;right;rw[B,show m-l=0 by omega]
    have D:C-l=0:=by omega
    have X:m-l=0:=by omega
    refine⟨_,d,.slice none 0 0,?_,?_⟩
    .simp only[Instr.sliceAt,Instr.slice,Sem.run_bind,qo (qU he),Result.andThen_ok];simp only[I,Result.andThen_ok,Qh Z];simp[D,X]
    .rw[D];exact .aH _ _ (.eS _ _ _ B)
   |view _ _ _ _ a cc vs hs fk hn hU hl f hv =>
    obtain⟨l,C,c,m,d,I,h1,h2,h3,S,W⟩:=Zo (P:=P) (isS:=true) (ccap:=cc) d pV tR dp fk hn (wc _) (λ_=>hn);obtain⟨bv,d⟩:=qm d;have bv:=Qg bv;refine⟨_,d,.slice (if m=l then some a else(some a).map (·.add (l*qN P e))) (C-l) (m-l),?_,?_⟩
    .simp only[Instr.sliceAt,Instr.slice,Sem.run_bind,qo (qU he),Result.andThen_ok];simp only[I,Result.andThen_ok,Qh Z];rfl
    ·have BV:∀E,c=some E->m-l=E:=by
      intro E z;cases M:O with
      |none =>
       obtain⟨D,X,_⟩:=S M;rw[X] at z;cases cap with
       |none=>cases z
       |some H=>have:=fk H rfl;simp at z;omega
      |some y =>
       obtain⟨D,_⟩:=W (by rw[M];simp);rw[D] at z;exact wa z
     by_cases Fu:m=l
     .rw[wl Fu];exact .aH _ _ (.view sz (C-l) _ c a _ (λj o=>vs (l+j) o) (λh0=>ae) BV ae (λhp _=>ae) (λj hj=>ae) (λj o c hj=>ae) (λj o c hj=>ae))
     ·rw[we Fu];simp only[vX];rw[M2 a (hs ae)];exact .aH _ _ (.view sz (C-l) _ c _ _ (λj o=>vs (l+j) o) (λ_=>rfl) BV ae (λhp=>hU ae) (λj hj=>hl (l+j) ae)
       (λj o c hj ho=>by
        have:=f (l+j) o c ae ho;rw[←dM];have e:a.off+l*sz+j*sz+o=a.off+(l+j)*sz+o:=by rw[wZ];omega
        dsimp only;rw[e];exact this)
       (λj o c hj ho=>hv (l+j) o c ae ho))
 |own i aj V len cap =>
  simp only[zh] at d;cases he:qT P t with
  |none=>simp[he] at d
  |some e =>
   rw[he] at d;obtain⟨b,Y,cC,aD,d⟩:=Zc d;obtain⟨f,d⟩:=qm d;simp only[wg,vf] at f;obtain⟨Z,dM⟩:=f;obtain⟨b',dH,_,_,hp⟩:=hx.cW;rw[Y] at dH;obtain rfl:=wa dH;rcases hp aD with⟨cb,sh,cc,ad,D,rfl,es,X,e3,e4,e5,e6,e7⟩|⟨U,J,rfl,rfl,q5,rfl⟩
   rotate_left
   ·obtain⟨l,C,c,m,d,I,h1,h2,h3,S,W⟩:=Zo (P:=P) (isS:=true) (ccap:=0) d pV tR dp (λm Q=>(q5 m Q).symm) (wc _) (wR _) (λ_=>ae);have B:∀E,c=some E->E=0:=by
     intro E z;cases O with
     |none =>
      obtain⟨_,B,_⟩:=S rfl;rw[B] at z;cases cap with
      |none=>cases z
      |some H=>have:=q5 H rfl;simp at z;omega
     |some x =>
      obtain⟨B,_⟩:=W au;rw[B] at z;have:=wa z;omega
    have D:C-l=0:=by omega
    have X:m-l=0:=by omega
    have e3:l=0:=by omega
    refine⟨_,d,.slice none 0 0,?_,?_⟩
    .simp only[Instr.sliceAt,Instr.slice,Sem.run_bind,qo (qU he),Result.andThen_ok];simp only[I,Result.andThen_ok,Qh Z];simp[D,X]
    .rw[D,e3];exact .own _ _ _ _ _ b _ Y (Nat.le_of_eq aD.symm) rfl λ_=>.inr ⟨U,J,rfl,rfl,B,rfl⟩
   obtain⟨l,C,c,m,d,I,h1,h2,h3,S,W⟩:=Zo (P:=P) (isS:=true) (ccap:=cc) d pV tR dp (λm Q=>(e4 m Q).1) e3 ae (λf=>by have:=e7 f;omega);refine⟨_,d,.slice (if m=l then some ad else(some ad).map (·.add (l*qN P e))) (C-l) (m-l),?_,?_⟩
   .simp only[Instr.sliceAt,Instr.slice,Sem.run_bind,qo (qU he),Result.andThen_ok];simp only[I,Result.andThen_ok,Qh Z];rfl
   ·have r9:∀E,c=some E->m-l=E/\V+l+E<=b.n:=by
     intro E z;cases M:O with
     |none =>
      obtain⟨U,J,_⟩:=S M;rw[J] at z;cases cap with
      |none=>cases z
      |some H=>have:=e4 H rfl;simp at z;omega
     |some y =>
      obtain⟨U,J⟩:=W (by rw[M];simp);rw[U] at z;have:=wa z;cases cap with
      |none=>have:=J rfl;omega
      |some H=>have:=e4 H rfl;omega
    have bc:V+l+(C-l)<=b.n:=by
     cases M:O with
     |none =>
      obtain⟨U,J,q3⟩:=S M;cases cap with
      |none=>have:=q3 rfl;omega
      |some H=>have:=e4 H rfl;omega
     |some y =>
      obtain⟨U,J⟩:=W (by rw[M];simp);cases cap with
      |none=>have:=J rfl;omega
      |some H=>have:=e4 H rfl;omega
    have r8:c=none->b.n<=V+l+(m-l):=by
     intro f;cases M:O with
     |none =>
      obtain⟨U,J,q3⟩:=S M;rw[J] at f;cases cap with
      |none=>have:=e7 rfl;omega
      |some H=>cases f
     |some y =>
      obtain⟨U,J⟩:=W (by rw[M];simp);rw[U] at f;cases f
    have lY:room w cb (sh+(V+l+(m-l))*b.sz):=by
     obtain⟨arr,e',r1,r2⟩:=e6;refine⟨arr,e',r1,wN ?_ r2⟩;exact xC (wJ _ ae) _
    by_cases Fu:m=l
    .rw[wl Fu];exact .own _ _ _ _ _ b _ Y (Nat.le_of_eq aD.symm) rfl λ_=>.inl ⟨cb,sh,m-l,ad,D,rfl,es,λhp=>ae,ae,r9,bc,lY,r8⟩
    .rw[we Fu];have sY:=X ae;subst sY;simp only[vX,QO];exact .own _ _ _ _ _ b _ Y (Nat.le_of_eq aD.symm) rfl λ_=>.inl ⟨cb,sh,m-l,_,D,rfl,rfl,λ_=>by rw[dM,wZ,vG],ae,r9,bc,lY,r8⟩
 |_=>simp[zh] at d
end
section
variable {P:Program} {R:Type} {g:Gh} {h:qa} {w:World}
def Jy{t:TypeId}{f off:Nat}{ty:TypeId}(a:Zi P t f=some (off,ty)) :
 ∃fs x,P.underlying t=some (.struct fs)/\fs[f]?=some x/\x.offset=off/\x.type=ty/\zv P ty=true/\qN P ty≠0:=by
 unfold Zi at a;cases i:P.underlying t with
 |none=>simp[i] at a
 |some d =>
  rw[i] at a;cases d with
  |struct fs =>
   dsimp only at a;cases hx:fs[f]? with
   |none=>simp[hx] at a
   |some x =>
    rw[hx] at a;obtain⟨e,a⟩:=qm a;simp only[wg,vn,ud] at e;simp only[wi,wy] at a;obtain⟨rfl,rfl⟩:=a;exact⟨fs,x,rfl,hx,rfl,rfl,e.1,e.2⟩
  |_=>simp at a
def jH{t:TypeId}{l:JO}{cs:Array Value}{off:Nat}{k:T->Option R}{r:R}(a:ld P t (l.drop off) k=some r)(I:l.length=cs.size)
 (h1:∀(i:Nat) (u:Value),cs[i]?=some u->u.oneCell'=true) (C:∀(i:Nat) (c:T),l[i]?=some c->∃u,cs[i]?=some u/\g.VR h w c u) :
 ∃x,k x=some r/\∃v,(part t cs off).run P w = .ok v w/\g.VR h w x v:=by
 unfold ld at a;cases o:P.underlying t with
 |none=>simp[o] at a
 |some d =>
  rw[o] at a;dsimp only at a;obtain⟨i,E⟩:=Yz o;cases s:yf P t with
  |true =>
   simp only[s,wm] at a;obtain⟨B,a⟩:=qm a;have B:=Qg B;refine⟨_,a,.agg (cs.extract off (off+qN P t)),?_,?_⟩
   .unfold part;simp only[Sem.run_bind,kK o,Result.andThen_ok,s,vH,jc E];rfl
   .simp only[vo] at B;refine VR.dc (by simp;omega) ?_ ?_
    .intro j u e;rw[Array.getElem?_extract] at e;split at e
     .exact h1 _ u e
     .simp at e
    .intro j c e;rw[xR] at e;split at e
     ·rename_i J;rw[vA] at e;obtain⟨u,f,hr⟩:=C _ c e;refine⟨u,?_,hr⟩;rw[Array.getElem?_extract,wl (by
       have:off+j<cs.size:=by
        rcases wt (off+j) cs.size with z|z
        .exact z
        .rw[xb z] at f;cases f
       omega)]
      exact f
     .simp at e
  |false =>
   simp only[s,wp] at a;cases A:l.drop off with
   |nil=>rw[A] at a;simp at a
   |cons c H =>
    rw[A] at a;refine⟨c,a,?_⟩;have D:l[off]?=some c:=by
     have:=vD (·[0]?) A;simpa [vA] using this
    obtain⟨u,f,hr⟩:=C _ c D;refine⟨u,?_,hr⟩;unfold part;simp only[Sem.run_bind,kK o,Result.andThen_ok,s,xy,ve,f];rfl
def qdg{t:TypeId}{x:T}{f:Nat}{v:Value}{k:Qd R}{r:R}(a:KT P t x f h k=some r)(hx:g.VR h w x v) :
 ∃y,k y h false=some r/\∃u,(Instr.field t v f).run P w = .ok u w/\g.VR h w y u:=by
 unfold KT at a;cases x with
 |agg l =>
  cases d:Zi P t f with
  |none=>simp[d] at a
  |some p =>
   obtain⟨e,B⟩:=p;rw[d] at a;obtain⟨fs,x,o,i,rfl,rfl,D,E⟩:=Jy d;obtain⟨C,rfl,s,h1,z⟩:=hx.bM;obtain⟨y,j,u,A,hr⟩:=jH (g:=g) (h:=h) (w:=w) (P:=P) a s h1 z;refine⟨y,j,u,?_,hr⟩;simp[Instr.field,qo o,i,asAgg,A]
 |_=>simp at a
def YE{t:TypeId}{x:T}{f:Nat}{v:Value}{k:Qd R}{r:R}(d:Zj P t x f h k=some r)(hx:g.VR h w x v) :
 ∃y,k y h false=some r/\∃u,(Instr.fieldAt t v f).run P w = .ok u w/\g.VR h w y u:=by
 unfold Zj at d;cases A:Zi P t f with
 |none=>cases x<;>simp[A] at d
 |some p =>
  obtain⟨O,X⟩:=p;obtain⟨fs,e,D,C,rfl,rfl,V,W⟩:=Jy A;have J:∀a:Addr,(fieldPlace a e).run P w = .ok (a.add e.offset) w:=by
   intro a;simp[fieldPlace,Qh V,W]
  rw[A] at d;cases x with
  |ptr i aj j o =>
   obtain⟨b,H,Z,M,d⟩:=Zc d;obtain⟨b',I,_,_,z⟩:=hx.cX;rw[H] at I;obtain rfl:=wa I;obtain⟨cb,B,U,rfl⟩:=z M;refine⟨_,d,.pointer (some ((⟨cb,B+j*b.sz+o,none⟩:Addr).add e.offset)),?_,?_⟩
   .simp[Instr.fieldAt,Instr.sureAddr,qo D,C,J]
   .rw[QO];exact .ptr _ _ _ _ b _ H (Nat.le_of_eq M.symm) rfl λ_=>⟨cb,B,U,by rw[vG]⟩
  |vp cells =>
   obtain⟨b,o,rfl,E⟩:=Jv hx;refine⟨_,d,.pointer (some ((⟨b,o,none⟩:Addr).add e.offset)),?_,?_⟩
   .simp[Instr.fieldAt,Instr.sureAddr,qo D,C,J]
   .rw[QO];cases hx.vp with
    |vp _ a N Y S E Q =>
     refine .aH _ _ (.vp _ _ (λn=>N (e.offset+n)) rfl (λz=>S (by simp at z;omega)) (λn c s=>?_) (λn c s=>?_))
     .rw[vA] at s;have:=E _ c s;dsimp only at this ⊢;rw[vG];exact this
     .rw[vA] at s;exact Q _ c s
  |_=>simp at d
def YH{t:TypeId}{x i:T}{v vi:Value}{k:Qd R}{r:R}(d:zi P t x i h k=some r)(hx:g.VR h w x v)(hi:g.VR h w i vi) :
 ∃y,k y h false=some r/\∃u,(Instr.indexAt t v vi).run P w = .ok u w/\g.VR h w y u:=by
 unfold zi at d;cases i with
 |int kk i =>
  obtain rfl:=hi.int;cases x with
  |own b aj H len cap =>
   dsimp only at d;cases he:qT P t with
   |none=>simp[he] at d
   |some e =>
    rw[he] at d;obtain⟨ey,D,cC,E,d⟩:=Zc d;obtain⟨f,d⟩:=qm d;simp only[wg,vf] at f;obtain⟨z,X⟩:=f;obtain⟨f,d⟩:=qm d;simp only[wg,wC] at f;obtain⟨b',J,_,_,C⟩:=hx.cW;rw[D] at J;obtain rfl:=wa J;rcases C E with⟨cb,B,cc,ad,N,rfl,es,e2,e3,e4,e5,e6⟩|⟨_,_,_,q4,_⟩
    rotate_left
    .omega
    have Z:=e2 ae;subst Z;have d:k (.ptr b aj (H+i.toNat) 0) h false=some r:=by
     rcases qx d with⟨_,d⟩|⟨_,d⟩
     .exact RU ae d
     .exact d
    refine⟨_,d,.pointer (some ((⟨cb,B+H*ey.sz,none⟩:Addr).add (i.toNat*qN P e))),?_,?_⟩
    .simp[Instr.indexAt,asIntOf,qo (qU he),f.1,f.2,Qh z]
    .rw[QO];exact .ptr _ _ _ _ ey _ D (Nat.le_of_eq E.symm) rfl λ_=>⟨cb,B,N,by rw[←X,wZ];simp[vG]⟩
  |view sz n g' cap =>
   dsimp only at d;cases he:qT P t with
   |none=>simp[he] at d
   |some e =>
    rw[he] at d;obtain⟨f,d⟩:=qm d;simp only[wg,vf] at f;obtain⟨z,X⟩:=f;obtain⟨f,d⟩:=qm d;simp only[wg,wC] at f;cases hx.view with
    |eS _ _ _ _=>exact absurd f.2 (by have:=f.1;simp at *;omega)
    |view _ _ _ _ a cc O U fk hn W hl Q S =>
     refine⟨_,d,.pointer (some (a.add (i.toNat*qN P e))),?_,?_⟩
     .simp[Instr.indexAt,asIntOf,qo (qU he),f.1,f.2,Qh z]
     .rw[M2 a (U ae)];have A:i.toNat<n:=by omega
      refine .aH _ _ (.vp _ _ (O i.toNat) rfl (λC=>W ae (by rw[←hl i.toNat A];exact C)) (λo c V=>?_) (λo c V=>S _ o c A V));rw[←X];exact Q _ o c A V
  |ptr b aj j o =>
   dsimp only at d;cases s:QR P t with
   |none=>simp[s] at d
   |some p =>
    obtain⟨n,e⟩:=p;rw[s] at d;obtain⟨f,d⟩:=qm d;simp only[wg,wC] at f;obtain⟨⟨z,M⟩,A⟩:=f;obtain⟨ey,D,cC,E,d⟩:=Zc d;obtain⟨b',J,_,_,C⟩:=hx.cX;rw[D] at J;obtain rfl:=wa J;obtain⟨cb,B,N,rfl⟩:=C E;rcases qx d with⟨Y,d⟩|⟨_,d⟩
    .simp only[wg,vf] at Y;refine⟨_,d,.pointer (some ((⟨cb,B+j*ey.sz+o,none⟩:Addr).add (i.toNat*qN P e))),?_,?_⟩
     .simp[Instr.indexAt,Instr.sureAddr,asIntOf,qo (yx s),M,A,Qh z]
     .rw[QO];exact .ptr _ _ _ _ ey _ D (Nat.le_of_eq E.symm) rfl λ_=>⟨cb,B,N,by rw[←Y.1,wZ];simp only[Value.pointer.injEq,wi,Addr.mk.injEq,and_true,true_and];omega⟩
    have d:=z9 ae d;refine⟨_,d,.pointer (some ((⟨cb,B+j*ey.sz+o,none⟩:Addr).add (i.toNat*qN P e))),?_,?_⟩
    .simp[Instr.indexAt,Instr.sureAddr,asIntOf,qo (yx s),M,A,Qh z]
    .rw[QO];exact .ptr _ _ _ _ ey _ D (Nat.le_of_eq E.symm) rfl λ_=>⟨cb,B,N,by rw[vG]⟩
  |vp cells =>
   dsimp only at d;cases s:QR P t with
   |none=>simp[s] at d
   |some p =>
    obtain⟨n,e⟩:=p;rw[s] at d;obtain⟨f,d⟩:=qm d;simp only[wg,wC] at f;obtain⟨⟨z,M⟩,A⟩:=f;have d:=z9 ae d;cases hx.vp with
    |vp _ a O U W Q S =>
     refine⟨_,d,.pointer (some (a.add (i.toNat*qN P e))),?_,?_⟩
     .simp[Instr.indexAt,Instr.sureAddr,asIntOf,qo (yx s),M,A,Qh z]
     .rw[M2 a U];refine .aH _ _ (.vp _ _ (λm=>O (i.toNat*qN P e+m)) rfl (λC=>W (by simp at C;omega)) (λm c I=>?_) (λm c I=>?_))
      .rw[vA] at I;have:=Q _ c I;dsimp only;rw[vG];exact this
      .rw[vA] at I;exact S _ c I
  |_=>simp at d
 |_=>simp at d
def qdh{t:TypeId}{x i:T}{v vi:Value}{k:Qd R}{r:R}(a:KU P t x i h k=some r)(hx:g.VR h w x v)(o:g.VR h w i vi) :
 ∃y,k y h false=some r/\∃u,(Instr.index t v vi).run P w = .ok u w/\g.VR h w y u:=by
 unfold KU at a;cases x with
 |str s =>
  cases i with
  |int A i =>
   dsimp only at a;obtain⟨C,a⟩:=qm a;obtain⟨d,a⟩:=qm a;simp only[wg,wC] at d;obtain rfl:=o.int;obtain⟨b,rfl,z⟩:=hx.str;refine⟨_,a,.int .u8 ((s.getD i.toNat 0).toNat:Int),?_,.aH _ _ (.int _ _)⟩;have M:=Ym z;have f:i.toNat<b.size:=by omega
   have e:b[i.toNat]?=some (s.getD i.toNat 0):=by
    have h1:b[i.toNat]?=some b[i.toNat]:=getElem?_pos b i.toNat f;rw[h1];congr 1;have E:b[i.toNat]=b.data[i.toNat]:=rfl;rw[E];subst z;rw[wh,vt,wL f];rfl
   simp[Instr.index,asIntOf,qo (je C),d.1,e]
  |_=>simp at a
 |agg l =>
  cases i with
  |int A i =>
   dsimp only at a;cases j:QR P t with
   |none=>simp[j] at a
   |some p =>
    obtain⟨n,e⟩:=p;rw[j] at a;obtain⟨d,a⟩:=qm a;simp only[wg,wC] at d;obtain⟨⟨I,H⟩,f⟩:=d;have a:=z9 ae a;obtain rfl:=o.int;obtain⟨N,rfl,D,h1,d⟩:=hx.bM;obtain⟨y,B,u,J,hr⟩:=jH (g:=g) (h:=h) (w:=w) (P:=P) a D h1 d;refine⟨y,B,u,?_,hr⟩;simp[Instr.index,asIntOf,qo (yx j),H,f,Qh I,J]
  |_=>simp at a
 |_=>cases i<;>simp at a
def qbg{x:T}{d:Nat}{v:Value}{k:Qd R}{r:R}(a:ym x d h k=some r)(hx:g.VR h w x v) :
 ∃y,k y h false=some r/\∃u,(Instr.extract v d).run P w = .ok u w/\g.VR h w y u:=by
 cases x with
 |aK l =>
  simp only[ym] at a;cases e:l[d]? with
  |none=>simp[e] at a
  |some y =>
   rw[e] at a;obtain⟨j,rfl,o,i⟩:=hx.nk;obtain⟨u,f,hr⟩:=i d y e;exact⟨y,a,u,by simp[Instr.extract,f],hr⟩
 |_=>simp[ym] at a
end
section
variable {P:Program} {R:Type} {g:Gh} {h:qa} {w:World}
def zk(b:ByteArray):b.toList=b.data.toList:=ByteArray.toList_eq b
def qkU{t:TypeId}(h:MH P t=true):P.underlying t=some .bool:=by
 unfold MH at h;cases a:P.underlying t with
 |none=>simp[a] at h
 |some d=>rw[a] at h;cases d<;>simp at h;rfl
def qlF{t:TypeId}(h:MI P t=true):∃k,P.underlying t=some (.int k):=by
 unfold MI at h;cases a:P.underlying t with
 |none=>simp[a] at h
 |some d=>rw[a] at h;cases d<;>simp at h;exact⟨_,rfl⟩
def M3{t:TypeId}(h:H8 P t=true):∃a b c,P.underlying t=some (.func a b c):=by
 unfold H8 at h;cases e:P.underlying t with
 |none=>simp[e] at h
 |some d=>rw[e] at h;cases d<;>simp at h;exact⟨_,_,_,rfl⟩
def qhk{t:TypeId}{fs:List Field}(h:KW P t=some fs):∃a,P.underlying t=some (.struct a)/\a.toList=fs:=by
 unfold KW at h;cases e:P.underlying t with
 |none=>simp[e] at h
 |some d=>rw[e] at h;cases d<;>simp at h;exact⟨_,rfl,h⟩
def M4(a b:Bool):(bif a then b else !b)=(a==b):=by cases a<;>cases b<;>rfl
def YI{d:Nat}{J:TypeId->T->T->(Bool->Option R)->Option R}
 (s:∀{t x y k r u v},J t x y k=some r->g.VR h w x u->g.VR h w y v->∃b,k b=some r/\(Op.equalIn d t u v).run P w = .ok b w)
 {l m:JO} {xs e:Array Value} (B:l.length=xs.size) (o:∀(i:Nat) (u:Value),xs[i]?=some u->u.oneCell'=true) (D:∀(i:Nat) (c:T),l[i]?=some c->∃u,xs[i]?=some u/\g.VR h w c u)
 (A:m.length=e.size) (j:∀(i:Nat) (u:Value),e[i]?=some u->u.oneCell'=true) (E:∀(i:Nat) (c:T),m[i]?=some c->∃u,e[i]?=some u/\g.VR h w c u) :
 ∀(fs:List Field) (k:Bool->Option R) (r:R),eqFields P J l m fs k=some r->∃b,k b=some r/\(Op.eqFields d xs e fs).run P w = .ok b w
 |[],k,r,a=>⟨true,a,by simp[Op.eqFields]⟩
 |f::fs,k,r,a=>by
  simp only[eqFields] at a;rcases qx a with⟨z,a⟩|⟨z,a⟩
  .obtain⟨b,h1,C⟩:=YI s B o D A j E fs k r a;refine⟨b,h1,?_⟩;simp only[Op.eqFields];rw[we (by simpa using z)];exact C
  .obtain⟨x,a,u,I,O⟩:=jH a B o D;obtain⟨y,a,v,H,N⟩:=jH a A j E;obtain⟨b,a,M⟩:=s a O N;simp only[Op.eqFields];rw[wl (by simpa using z)];rcases qx a with⟨rfl,a⟩|⟨rfl,a⟩
   .obtain⟨b,h1,C⟩:=YI s B o D A j E fs k r a;exact⟨b,h1,by simp[I,H,M,C]⟩
   .exact⟨false,a,by simp[I,H,M]⟩
def Je{d:Nat}{E:TypeId->T->T->(Bool->Option R)->Option R}
 (z:∀{t x y k r u v},E t x y k=some r->g.VR h w x u->g.VR h w y v->∃b,k b=some r/\(Op.equalIn d t u v).run P w = .ok b w)
 {l m:JO} {xs f:Array Value} (D:l.length=xs.size) (s:∀(i:Nat) (u:Value),xs[i]?=some u->u.oneCell'=true) (I:∀(i:Nat) (c:T),l[i]?=some c->∃u,xs[i]?=some u/\g.VR h w c u)
 (C:m.length=f.size) (o:∀(i:Nat) (u:Value),f[i]?=some u->u.oneCell'=true) (J:∀(i:Nat) (c:T),m[i]?=some c->∃u,f[i]?=some u/\g.VR h w c u) (e:TypeId) :
 ∀(j:Wa) (k:Bool->Option R) (r:R),eqItems P E l m e j k=some r->∃b,k b=some r/\(Op.eqItems d e (P.cellsOf e) xs f j).run P w = .ok b w
 |[],k,r,a=>⟨true,a,by simp[Op.eqItems]⟩
 |i::j,k,r,a=>by
  simp only[eqItems] at a;obtain⟨x,a,u,B,O⟩:=jH a D s I;obtain⟨y,a,v,A,N⟩:=jH a C o J;obtain⟨b,a,H⟩:=z a O N;simp only[Op.eqItems];rcases qx a with⟨rfl,a⟩|⟨rfl,a⟩
  .obtain⟨b,h1,M⟩:=Je z D s I C o J e j k r a;exact⟨b,h1,by simp[B,A,H,M]⟩
  .exact⟨false,a,by simp[B,A,H]⟩
def qlG{t:TypeId}{n:Nat}{e:TypeId}(h:Fb P t=some (n,e)):P.underlying t=some (.array n e)/\∃i,P.info? e=some i:=by
 unfold Fb at h;split at h
 .next f j a =>
  split at h
  .next i d =>
   cases h;exact⟨a,i,d⟩
  .cases h
 .cases h
def Kh:∀(d n:Nat) {t:TypeId} {x y:T} {k:Bool->Option R} {r:R} {u v:Value},KN P d t x y k=some r->g.VR h w x u->g.VR h w y v →
 ∃b,k b=some r/\(Op.equalIn (d+n) t u v).run P w = .ok b w
 |0,_,_,_,_,_,_,_,_,f,_,_=>by simp[KN] at f
 |d+1,n,t,x,y,k,r,u,v,f,hx,j=>by
  rw[show d+1+n=(d+n)+1 by omega];cases x with
  |int U a =>
   cases y with
   |int ky b =>
    simp only[KN] at f;obtain⟨s,Q⟩:=qm f;clear f;have f:=Q;clear Q;simp only[wg,wC] at s;obtain⟨o,Fv⟩:=s;subst Fv;obtain⟨V,o⟩:=qlF o;obtain rfl:=hx.int;obtain rfl:=j.int;exact⟨_,f,by rw[run_equalIn_int w (d+n) t U V a b o];rfl⟩
   |_=>simp[KN] at f
  |bool a =>
   cases y with
   |bool b =>
    simp only[KN] at f;obtain⟨o,f⟩:=qm f;obtain rfl:=hx.bool;obtain rfl:=j.bool;exact⟨_,f,by rw[run_equalIn_bool' w (d+n) t a b (qkU o),M4]⟩
   |_=>simp[KN] at f
  |str a =>
   cases y with
   |str b =>
    simp only[KN] at f;obtain⟨o,f⟩:=qm f;obtain⟨ba,rfl,z⟩:=hx.str;obtain⟨Z,rfl,Y⟩:=j.str;refine⟨_,f,?_⟩;rw[run_equalIn_string w (d+n) t ba Z (je o),zk,zk,z,Y];congr 1;rw[Bool.eq_iff_iff];simp
   |_=>simp[KN] at f
  |agg l =>
   cases y with
   |agg m =>
    simp only[KN] at f;cases D:KW P t with
    |none =>
     rw[D] at f;dsimp only at f;cases z:Fb P t with
     |none=>rw[z] at f;cases f
     |some ne =>
      rw[z] at f;obtain⟨A,i,X⟩:=qlG (n:=ne.1) (e:=ne.2) z;obtain⟨N,rfl,E,h1,s⟩:=hx.bM;obtain⟨M,rfl,C,B,J⟩:=j.bM;obtain⟨b,I,H⟩:=Je (d:=d+n) (λ{t x y k r u v} f hx j=>Kh d n f hx j) E h1 s C B J ne.2 (List.range ne.1) k r f;exact⟨b,I,by rw[run_equalIn_array w (d+n) N M A X];exact H⟩
    |some fs =>
     rw[D] at f;rcases qx f with⟨_,f⟩|⟨W,f⟩
     .cases f
     obtain⟨a,A,S⟩:=qhk D;obtain⟨N,rfl,E,h1,s⟩:=hx.bM;obtain⟨M,rfl,C,B,J⟩:=j.bM;have O:P.fieldsOf t=a:=by simp[Program.fieldsOf,A]
     obtain⟨b,I,H⟩:=YI (d:=d+n) (λ{t x y k r u v} f hx j=>Kh d n f hx j) E h1 s C B J fs k r f;exact⟨b,I,by rw[run_equalIn_struct w (d+n) t N M (by rw[O];exact A) W,O,S];exact H⟩
   |_=>simp[KN] at f
  |_=>simp[KN] at f
def zQ{i aj off len:Nat}{cap:Option Nat}{b:aq}{v:Value}(e:h[i]?=some b)(f:b.aj=aj)(hx:g.VR h w (.own i aj off len cap) v) :
 MR w g.φ b i off len cap v:=by
 obtain⟨j,a,_,_,d⟩:=hx.cW;rw[e] at a;obtain rfl:=wa a;exact d f
def Sy{i aj off len:Nat}{cap:Option Nat}{b:aq}{v:Value}(a:h[i]?=some b)(d:b.aj=aj)(hx:g.VR h w (.own i aj off len cap) v)(e:0<b.n) :
 So w g.φ b i off len cap v:=by
 rcases zQ a d hx with q|⟨_,q,_⟩
 .exact q
 .omega
def yy(w:World)(d:Nat){t e:TypeId}(f:P.underlying t=some (.slice e))(a:Option Addr)(l c:Nat):(Op.equalIn (d+1) t (.slice none 0 0) (.slice a l c)).run P w = .ok a.isNone w:=by
 simp[Op.equalIn,qo f]
def Y4(w:World)(d:Nat){t e:TypeId}(f:P.underlying t=some (.slice e))(a:Addr)(l c:Nat):(Op.equalIn (d+1) t (.slice (some a) l c) (.slice none 0 0)).run P w = .ok false w:=by
 simp[Op.equalIn,qo f]
def qbi(w:World)(d:Nat){t:TypeId}{a b:Array TypeId}{c:Bool}(e:P.underlying t=some (.func a b c)):(Op.equalIn (d+1) t .nilFunc .nilFunc).run P w = .ok true w:=by
 simp[Op.equalIn,qo e]
def qan(w:World)(d:Nat){t:TypeId}{a b:Array TypeId}{c:Bool}(e:P.underlying t=some (.func a b c))(f:FuncId)(cs:Array Value):(Op.equalIn (d+1) t .nilFunc (.func (.func f) #[] cs)).run P w = .ok false w:=by
 simp[Op.equalIn,qo e]
def qao(w:World)(d:Nat){t:TypeId}{a b:Array TypeId}{c:Bool}(e:P.underlying t=some (.func a b c))(f:FuncId)(cs:Array Value):(Op.equalIn (d+1) t (.func (.func f) #[] cs) .nilFunc).run P w = .ok false w:=by
 simp[Op.equalIn,qo e]
def Sz{D:BinOp}{t:TypeId}{x y:T}{ox oy:Operand}{u v:Value}{k:Bool->Option R}{r:R}(C:D = .eql∨D = .neq)(d:CW P t x y h k=some r)(hx:g.VR h w x u)(B:g.VR h w y v) :
 ∃b,k b=some r/\(do eqGuard D t ox oy u v;binOp D t u v:Sem Value).run P w = .ok (.bool (if D = .eql then b else !b)) w:=by
 have j:∀(u v:Value) (b:Bool),(eqGuard D t ox oy u v).run P w = .ok () w->(binOp .eql t u v).run P w = .ok (.bool b) w->(binOp .neq t u v).run P w = .ok (.bool (!b)) w →
  (do eqGuard D t ox oy u v;binOp D t u v:Sem Value).run P w = .ok (.bool (if D = .eql then b else !b)) w:=by
  intro u v b h1 h2 Z;rcases C with rfl|rfl
  .simp[h1,h2]
  .simp[h1,Z]
 have s:∀(u v:Value) (b:Bool),(Op.equalIn 10000 t u v).run P w = .ok b w->(do pure (.bool (←Op.equal t u v)):Sem Value).run P w = .ok (.bool b) w/\(do pure (.bool (!(←Op.equal t u v))):Sem Value).run P w = .ok (.bool (!b)) w:=by
  intro u v b E;constructor<;>simp[Op.equal,Op.maxDepth,E]
 unfold CW at d;cases x with
 |int kx a =>
  cases y with
  |int ky b =>
   obtain⟨I,gQ⟩:=qm d;clear d;have Fv:=of_decide_eq_true I;subst Fv;obtain rfl:=hx.int;obtain rfl:=B.int;refine⟨_,gQ,j _ _ _ ?_ ?_ ?_⟩
   .rcases C with rfl|rfl<;>simp[eqGuard]
   .simp[binOp,Op.intCmp];rfl
   .simp[binOp,Op.intCmp,bne];rfl
  |_=>simp at d
 |str a =>
  cases y with
  |str b =>
   dsimp only at d;obtain⟨ba,rfl,Y⟩:=hx.str;obtain⟨bb,rfl,E⟩:=B.str;have e:(ba.toList==bb.toList)=decide (a=b):=by rw[zk,zk,Y,E,Bool.eq_iff_iff];simp
   refine⟨_,d,j _ _ _ ?_ ?_ ?_⟩
   .rcases C with rfl|rfl<;>simp[eqGuard]
   .rw[binOp_string_eql,e];rfl
   .rw[binOp_string_neq,e];rfl
  |_=>simp at d
 |bool a =>
  cases y with
  |bool b =>
   dsimp only at d;obtain⟨c,I,O⟩:=Kh 1 9999 d hx B;obtain rfl:=hx.bool;obtain rfl:=B.bool;obtain⟨A,z⟩:=s _ _ _ O;refine⟨_,I,j _ _ _ ?_ A z⟩;rcases C with rfl|rfl<;>simp[eqGuard]
  |_=>simp at d
 |agg a =>
  cases y with
  |agg b =>
   dsimp only at d;rcases qx d with⟨_,d⟩|⟨X,d⟩
   .cases d
   obtain⟨c,I,O⟩:=Kh 10 9990 d hx B;obtain⟨H,rfl,_⟩:=hx.bM;obtain⟨gB,rfl,_⟩:=B.bM;obtain⟨A,z⟩:=s _ _ _ O;exact⟨_,I,j _ _ _ (run_eqGuard_agg w D t ox oy H gB X) A z⟩
  |_=>simp at d
 |ag =>
  obtain rfl:=hx.ag;cases y with
  |ag =>
   obtain⟨o,d⟩:=qm d;obtain⟨e,he⟩:=vh.1 o;obtain rfl:=B.ag;obtain⟨A,z⟩:=s (.slice none 0 0) (.slice none 0 0) true (yy w 9999 (qU he) _ _ _);exact⟨_,d,j _ _ _ (by rcases C with rfl|rfl<;>simp[eqGuard]) A z⟩
  |view sz n g' cap =>
   obtain⟨o,d⟩:=qm d;simp only[wg] at o;obtain⟨o,Q⟩:=o;obtain⟨e,he⟩:=vh.1 o;cases B.view with
   |eS _ _ _ M=>rcases M with h|h<;>simp[h] at Q
   |view _ _ _ _ a cc U _ _ _ _ _ _ _ =>
    obtain⟨A,z⟩:=s (.slice none 0 0) (.slice (some a) n cc) false (yy w 9999 (qU he) _ _ _);exact⟨_,d,j _ _ _ (by rcases C with rfl|rfl<;>simp[eqGuard]) A z⟩
  |own i aj N len cap =>
   obtain⟨o,d⟩:=qm d;obtain⟨e,he⟩:=vh.1 o;obtain⟨b,E,cC,S,d⟩:=Zc d;obtain⟨J,d⟩:=qm d;obtain⟨cb,V,cc,ad,W,rfl,_⟩:=Sy E S B (Qb J);obtain⟨A,z⟩:=s (.slice none 0 0) (.slice (some ad) len cc) false (yy w 9999 (qU he) _ _ _);exact⟨_,d,j _ _ _ (by rcases C with rfl|rfl<;>simp[eqGuard]) A z⟩
  |_=>simp at d
 |view sz n g' cap =>
  cases y with
  |ag =>
   obtain⟨o,d⟩:=qm d;simp only[wg] at o;obtain⟨o,Q⟩:=o;obtain⟨e,he⟩:=vh.1 o;obtain rfl:=B.ag;cases hx.view with
   |eS _ _ _ M=>rcases M with h|h<;>simp[h] at Q
   |view _ _ _ _ a cc U _ _ _ _ _ _ _ =>
    obtain⟨A,z⟩:=s (.slice (some a) n cc) (.slice none 0 0) false (Y4 w 9999 (qU he) _ _ _);exact⟨_,d,j _ _ _ (by rcases C with rfl|rfl<;>simp[eqGuard]) A z⟩
  |_=>simp at d
 |own i aj N len cap =>
  cases y with
  |ag =>
   obtain⟨o,d⟩:=qm d;obtain⟨e,he⟩:=vh.1 o;obtain rfl:=B.ag;obtain⟨b,E,cC,S,d⟩:=Zc d;obtain⟨J,d⟩:=qm d;obtain⟨cb,V,cc,ad,W,rfl,_⟩:=Sy E S hx (Qb J);obtain⟨A,z⟩:=s (.slice (some ad) len cc) (.slice none 0 0) false (Y4 w 9999 (qU he) _ _ _);exact⟨_,d,j _ _ _ (by rcases C with rfl|rfl<;>simp[eqGuard]) A z⟩
  |_=>simp at d
 |eu =>
  obtain rfl:=hx.eu;cases y with
  |eu =>
   obtain⟨o,d⟩:=qm d;obtain⟨a,b,c,he⟩:=M3 o;obtain rfl:=B.eu;obtain⟨A,z⟩:=s .nilFunc .nilFunc true (qbi w 9999 he);exact⟨_,d,j _ _ _ (by rcases C with rfl|rfl<;>simp[eqGuard]) A z⟩
  |fn f aE =>
   obtain⟨o,d⟩:=qm d;obtain⟨a,b,c,he⟩:=M3 o;obtain⟨H,rfl,_⟩:=B.gG;obtain⟨A,z⟩:=s .nilFunc (.func (.func f) #[] H) false (qan w 9999 he f H);exact⟨_,d,j _ _ _ (by rcases C with rfl|rfl<;>simp[eqGuard]) A z⟩
  |_=>simp at d
 |fn f aE =>
  cases y with
  |eu =>
   obtain⟨o,d⟩:=qm d;obtain⟨a,b,c,he⟩:=M3 o;obtain rfl:=B.eu;obtain⟨H,rfl,_⟩:=hx.gG;obtain⟨A,z⟩:=s (.func (.func f) #[] H) .nilFunc false (qao w 9999 he f H);exact⟨_,d,j _ _ _ (by rcases C with rfl|rfl<;>simp[eqGuard]) A z⟩
  |_=>simp at d
 |_=>cases y<;>simp at d
end
section
variable {P:Program} {R:Type} {g:Gh} {h:qa} {w:World}
def qfV{i:BinOp}{f:IntKind}{a b:Int}{t:TypeId}{ox oy:Operand}{k:Qd R}{r:R}(e:H9 i f a b h k=some r) :
 ∃y,k y h false=some r/\∃u,(do eqGuard i t ox oy (.int f a) (.int f b);binOp i t (.int f a) (.int f b):Sem Value).run P w = .ok u w/\g.VR h w y u:=by
 have d:∀(y:T) (u:Value),k y h false=some r->(eqGuard i t ox oy (.int f a) (.int f b)).run P w = .ok () w->(binOp i t (.int f a) (.int f b)).run P w = .ok u w->g.VR h w y u →
  ∃y,k y h false=some r/\∃u,(do eqGuard i t ox oy (.int f a) (.int f b);binOp i t (.int f a) (.int f b):Sem Value).run P w = .ok u w/\g.VR h w y u :=
  λy u h1 x s o=>⟨y,h1,u,by simp[x,s],o⟩
 cases i<;>simp only[H9] at e
 case add=>exact d _ _ e (by simp[eqGuard]) (by simp[binOp,Op.intArith]) (.aH _ _ (.int _ _))
 case sub=>exact d _ _ e (by simp[eqGuard]) (by simp[binOp,Op.intArith]) (.aH _ _ (.int _ _))
 case mul=>exact d _ _ e (by simp[eqGuard]) (by simp[binOp,Op.intArith]) (.aH _ _ (.int _ _))
 case quo =>
  rcases qx e with⟨_,e⟩|⟨j,e⟩
  .cases e
  have j:b≠0:=of_decide_eq_false j;exact d _ _ e (by simp[eqGuard]) (by simp[binOp,Op.intDiv,j]) (.aH _ _ (.int _ _))
 case rem =>
  rcases qx e with⟨_,e⟩|⟨j,e⟩
  .cases e
  have j:b≠0:=of_decide_eq_false j;exact d _ _ e (by simp[eqGuard]) (by simp[binOp,Op.intDiv,j]) (.aH _ _ (.int _ _))
 case and=>exact d _ _ e (by simp[eqGuard]) (by simp[binOp,Op.intBits,Fc]) (.aH _ _ (.int _ _))
 case or=>exact d _ _ e (by simp[eqGuard]) (by simp[binOp,Op.intBits,Fc]) (.aH _ _ (.int _ _))
 case xor=>exact d _ _ e (by simp[eqGuard]) (by simp[binOp,Op.intBits,Fc]) (.aH _ _ (.int _ _))
 case andNot=>exact d _ _ e (by simp[eqGuard]) (by simp[binOp,Op.intBits,Fc]) (.aH _ _ (.int _ _))
 case lss=>exact d _ _ e (by simp[eqGuard]) (by simp[binOp,Op.intCmp]) (.aH _ _ (.bool _))
 case leq=>exact d _ _ e (by simp[eqGuard]) (by simp[binOp,Op.intCmp]) (.aH _ _ (.bool _))
 case gtr=>exact d _ _ e (by simp[eqGuard]) (by simp[binOp,Op.intCmp]) (.aH _ _ (.bool _))
 case geq=>exact d _ _ e (by simp[eqGuard]) (by simp[binOp,Op.intCmp]) (.aH _ _ (.bool _))
 all_goals cases e
def qfW{j:BinOp}{a b:List UInt8}{f e:ByteArray}{t:TypeId}{ox oy:Operand}{k:Qd R}{r:R}(i:Ia j a b h k=some r)(s:f.data.toList=a)(o:e.data.toList=b) :
 ∃y,k y h false=some r/\∃u,(do eqGuard j t ox oy (.string f) (.string e);binOp j t (.string f) (.string e):Sem Value).run P w = .ok u w/\g.VR h w y u:=by
 have d:∀(y:T) (u:Value),k y h false=some r->(eqGuard j t ox oy (.string f) (.string e)).run P w = .ok () w->(binOp j t (.string f) (.string e)).run P w = .ok u w->g.VR h w y u →
  ∃y,k y h false=some r/\∃u,(do eqGuard j t ox oy (.string f) (.string e);binOp j t (.string f) (.string e):Sem Value).run P w = .ok u w/\g.VR h w y u :=
  λy u h1 D C B=>⟨y,h1,u,by simp[D,C],B⟩
 have x:Op.bytesLess f.toList e.toList=Op.bytesLess a b:=by rw[zk,zk,s,o]
 have z:(f.toList==e.toList)=decide (a=b):=by rw[zk,zk,s,o,Bool.eq_iff_iff];simp
 cases j<;>simp only[Ia] at i
 case add =>
  obtain⟨A,i⟩:=qm i;have A:=Qg A;have s1:=Ym s;have E:=Ym o;refine d _ (.string (f++e)) i (by simp[eqGuard]) ?_ (.aH _ _ (.str _ _ ?_))
  .rw[binOp_string_add];exact run_string_add_sum w f e ae
  .rw[ByteArray.data_append,Array.toList_append,s,o]
 case lss=>exact d _ _ i (by simp[eqGuard]) (by rw[binOp_string_lss,x];rfl) (.aH _ _ (.bool _))
 case leq=>exact d _ _ i (by simp[eqGuard]) (by rw[binOp_string_leq,x,z];rfl) (.aH _ _ (.bool _))
 case gtr=>exact d _ _ i (by simp[eqGuard]) (by rw[binOp_string_gtr,x,z];rfl) (.aH _ _ (.bool _))
 case geq=>exact d _ _ i (by simp[eqGuard]) (by rw[binOp_string_geq,x];rfl) (.aH _ _ (.bool _))
 all_goals cases i
def SA{e:BinOp}{t:TypeId}{x y:T}{ox oy:Operand}{u v:Value}{k:Qd R}{r:R}(d:Ib P e t x y h k=some r)(hx:g.VR h w x u)(i:g.VR h w y v) :
 ∃z,k z h false=some r/\∃c,(do eqGuard e t ox oy u v;binOp e t u v:Sem Value).run P w = .ok c w/\g.VR h w z c:=by
 have arith:KX e x y h k=some r →
  ∃z,k z h false=some r/\∃c,(do eqGuard e t ox oy u v;binOp e t u v:Sem Value).run P w = .ok c w/\g.VR h w z c:=by
  intro d;unfold KX at d;cases x with
  |int E a =>
   cases y with
   |int D b =>
    obtain⟨o,s⟩:=qm d;have I:=of_decide_eq_true o;subst I;obtain rfl:=hx.int;obtain rfl:=i.int;exact qfV s
   |_=>simp at d
  |str a =>
   cases y with
   |str b =>
    obtain⟨M,rfl,H⟩:=hx.str;obtain⟨J,rfl,j⟩:=i.str;exact qfW d H j
   |_=>simp at d
  |_=>cases y<;>simp at d
 have f:(e = .shl∨e = .shr)->kC e x y h k=some r →
  ∃z,k z h false=some r/\∃c,(do eqGuard e t ox oy u v;binOp e t u v:Sem Value).run P w = .ok c w/\g.VR h w z c:=by
  intro C d;unfold kC at d;cases x with
  |int E a =>
   cases y with
   |int D b =>
    simp only[JW] at d;obtain⟨o,s⟩:=qm d;have o:=of_decide_eq_true o;obtain rfl:=hx.int;obtain rfl:=i.int;have B:¬b<0:=by omega
    rcases C with rfl|rfl
    .exact⟨_,s,_,by simp[eqGuard,binOp,Op.shift,B],.aH _ _ (.int _ _)⟩
    .exact⟨_,s,_,by simp[eqGuard,binOp,Op.shift,B],.aH _ _ (.int _ _)⟩
   |_=>simp at d
  |_=>cases y<;>simp at d
 cases e<;>simp only[Ib] at d
 case eql =>
  obtain⟨b,j,A⟩:=Sz (ox:=ox) (oy:=oy) (.inl rfl) d hx i;exact⟨_,j,_,A,.aH _ _ (.bool _)⟩
 case neq =>
  obtain⟨b,j,A⟩:=Sz (ox:=ox) (oy:=oy) (.inr rfl) d hx i;exact⟨_,j,_,A,by simp only[reduceCtorEq,ve];exact .aH _ _ (.bool _)⟩
 case shl=>exact f (.inl rfl) d
 case shr=>exact f (.inr rfl) d
 all_goals exact arith d
def qhl{e:UnOp}{x:T}{u:Value}{k:Qd R}{r:R}(d:Fe e x h k=some r)(hx:g.VR h w x u) :
 ∃z,k z h false=some r/\∃c,(Op.unary e u).run P w = .ok c w/\g.VR h w z c:=by
 unfold Fe at d;cases e with
 |not =>
  cases x with
  |bool b =>
   obtain rfl:=hx.bool;exact⟨_,d,_,by simp[Op.unary],.aH _ _ (.bool _)⟩
  |_=>simp at d
 |neg =>
  cases x with
  |int f a =>
   obtain rfl:=hx.int;exact⟨_,d,_,by simp[Op.unary,Op.intArith],.aH _ _ (.int _ _)⟩
  |_=>simp at d
 |_=>cases x<;>simp at d
def SB{R:Type}:∀(l:List JO) (k:List UInt8->Option R) (r:R),(l.all λe=>(KY e).isSome)=true->k (l.map λe=>UInt8.ofNat ((KY e).getD 0).toNat)=some r->ZX l k=some r
 |[],_,_,_,a=>a
 |e::l,k,r,d,a=>by
  simp only[xJ,wg] at d;simp only[ZX];cases he:KY e with
  |none=>rw[he] at d;cases d.1
  |some x =>
   refine SB l (λm=>k (UInt8.ofNat x.toNat::m)) r d.2 ?_;rw[xA,he] at a;exact a
def SC{R:Type}{gg:Nat->JO}{n:Nat}{k:List UInt8->Option R}{r:R}(a:Jp gg n k=some r):ZX (yF gg n) k=some r:=by
 unfold Jp at a;obtain⟨d,a⟩:=qm a;exact SB _ _ _ d a
def Jf:∀(l:List JO) (k:List UInt8->Option R) (r:R),ZX l k=some r->∃d:List Int,k (d.map λn=>UInt8.ofNat n.toNat)=some r/\l=d.map λn=>[T.int .u8 n]
 |[],k,r,a=>⟨[],a,rfl⟩
 |e::l,k,r,a=>by
  simp only[ZX] at a;cases he:KY e with
  |none=>rw[he] at a;cases a
  |some n =>
   rw[he] at a;have i:e=[T.int .u8 n]:=by
    unfold KY at he;split at he
    .simp only[wi] at he;rw[he]
    .cases he
   subst i;obtain⟨d,h1,f⟩:=Jf l _ r a;exact⟨n::d,h1,by simp[f]⟩
def qiT(a:List Int):∀b:ByteArray,(a.foldl (λr n=>r.push (UInt8.ofNat n.toNat)) b).data.toList=b.data.toList++a.map λn=>UInt8.ofNat n.toNat:=by
 induction a with
 |nil=>intro b;simp
 |cons n a d =>
  intro b;rw[List.foldl_cons,d];have:(b.push (UInt8.ofNat n.toNat)).data.toList=b.data.toList++[UInt8.ofNat n.toNat]:=by
   show(b.data.push _).toList=_;simp
  rw[this];simp
def SD{b off n c:Nat}{gg:Nat->JO}{k:List UInt8->Option R}{r:R}(C:ZX (yF gg n) k=some r)
 (D:∀j,j<n->dR g h w b (off+j) (gg j)) :
 ∃s,k s=some r/\∃z:ByteArray,(Conv.bytesToString (.slice (some ⟨b,off,none⟩) n c)).run P w = .ok (.string z) w/\z.data.toList=s:=by
 obtain⟨a,h1,x⟩:=Jf _ _ _ C;refine⟨_,h1,_,run_bytesToString w _ n c a ?_,?_⟩
 .have B:a.length=n:=by have:=vD List.length x;simp[yF] at this;exact this.symm
  have:=run_loadCells_list (P:=P) w ⟨b,off,none⟩ (a.map (Value.int .u8)) (λj v o=>by
   rw[QO];simp only[wE,wI] at o;obtain⟨m,i,rfl⟩:=o;have A:j<n:=by
    rcases wt j a.length with f|f
    .omega
    .simp[wz f] at i
   have e:gg j=[T.int .u8 m]:=by
    have:=vD (·[j]?) x;simp only[yF,wE,vW A,vX,i,wi] at this;exact this
   obtain⟨u,d,hr⟩:=D j A 0 (.int .u8 m) (by rw[e];rfl);rw[hr.int] at d;exact d.1)
  rw[←B];simpa using this
 .rw[qiT];simp
def kL{C A:TypeId}{x:T}{u:Value}{k:Qd R}{r:R}(f:Yu P C A x h k=some r)(hr:HR g h w)(hx:g.VR h w x u)(D:∃d,P.underlying C=some d) :
 ∃z,k z h false=some r/\∃c,(convert C A u).run P w = .ok c w/\g.VR h w z c:=by
 obtain⟨ds,D⟩:=D;unfold Yu at f;cases x with
 |int kx n =>
  dsimp only at f;cases B:P.underlying A with
  |none=>simp[B] at f
  |some d =>
   rw[B] at f;cases d with
   |int kd =>
    obtain rfl:=hx.int;exact⟨_,f,_,by simp[convert,qo D,qo B,Conv.intToInt],.aH _ _ (.int _ _)⟩
   |_=>simp at f
 |str s =>
  dsimp only at f;cases B:P.underlying A with
  |none=>simp[B] at f
  |some d =>
   rw[B] at f;cases d with
   |string =>
    obtain⟨b,rfl,N⟩:=hx.str;exact⟨_,f,.string b,by simp[convert,qo D,qo B],.aH _ _ (.str _ _ N)⟩
   |_=>simp at f
 |ag =>
  dsimp only at f;rw[D] at f;cases B:P.underlying A with
  |none=>cases ds<;>simp[B] at f
  |some d =>
   rw[B] at f;cases ds with
   |slice e =>
    cases d with
    |string =>
     dsimp only at f;cases he:P.underlying e with
     |none=>simp[he] at f
     |some I =>
      rw[he] at f
      match I,f with
      |.int .u8,f =>
       obtain rfl:=hx.ag;exact⟨_,f,.string .empty,by rw[run_convert_bytes_string w C A e none 0 0 D he B];rfl,.aH _ _ (.str _ _ rfl)⟩
    |_=>simp at f
   |_=>simp at f
 |view sz n gg cap =>
  dsimp only at f;rw[D] at f;cases B:P.underlying A with
  |none=>cases ds<;>simp[B] at f
  |some d =>
   rw[B] at f;cases ds with
   |slice e =>
    cases d with
    |string =>
     dsimp only at f;cases he:P.underlying e with
     |none=>simp[he] at f
     |some I =>
      rw[he] at f
      match I,f with
      |.int .u8,f =>
       obtain⟨H,Az⟩:=qm f;have J:=SC Az;clear f Az;have H:sz=1:=by simpa using H
       subst H;cases hx.view with
       |eS _ _ _ _ =>
        simp only[yF,List.range_zero,List.map_nil,ZX] at J;exact⟨_,J,.string .empty,by rw[run_convert_bytes_string w C A e none 0 0 D he B];rfl,.aH _ _ (.str _ _ rfl)⟩
       |view _ _ _ _ a cc vs sw fk hn hU hl nl hv =>
        rcases vS n with Z|Z
        .subst Z;simp only[yF,List.range_zero,List.map_nil,ZX] at J;refine⟨_,J,.string .empty,?_,.aH _ _ (.str _ _ rfl)⟩;rw[run_convert_bytes_string w C A e _ 0 cc D he B];simp[Conv.bytesToString,loadCells,loadCellsFrom]
        .obtain⟨s,h1,V,S,Q⟩:=SD (P:=P) (g:=g) (h:=h) (w:=w) (b:=a.block) (off:=a.off) (c:=cc) J (λj O o c M=>⟨vs j o,by have:=nl j o c O M;rwa[Nat.mul_one] at this,.aH _ _ (hv j o c O M)⟩);refine⟨_,h1,.string V,?_,.aH _ _ (.str _ _ Q)⟩;rw[run_convert_bytes_string w C A e _ n cc D he B,MV (sw ae)];exact S
    |_=>simp at f
   |_=>simp at f
 |own i aj E len cap =>
  dsimp only at f;rw[D] at f;cases B:P.underlying A with
  |none=>cases ds<;>simp[B] at f
  |some d =>
   rw[B] at f;cases ds with
   |slice e =>
    cases d with
    |string =>
     dsimp only at f;cases he:P.underlying e with
     |none=>simp[he] at f
     |some I =>
      rw[he] at f
      match I,f with
      |.int .u8,f =>
       obtain⟨b,N,cC,aD,f⟩:=Zc f;obtain⟨W,f⟩:=qm f;simp only[wg,vf] at W;obtain⟨H,X⟩:=W;have X:=Qg X;replace f:=SC f;rcases zQ N aD hx with⟨cb,sh,cc,ad,U,rfl,es,e2,e3,e4,e5,e6,e7⟩|⟨_,_,_,rfl,_,rfl⟩
       rotate_left
       .simp only[yF,List.range_zero,List.map_nil,ZX] at f;exact⟨_,f,.string .empty,by rw[run_convert_bytes_string w C A e none 0 0 D he B];rfl,.aH _ _ (.str _ _ rfl)⟩
       obtain⟨gJ,iq,arr,e',Y⟩:=hr.ey i b N cC (.inr (by rw[U];simp));rw[Y.φ] at U;obtain⟨rfl,rfl⟩:=vU (wa U);by_cases h0:0<cc
       ·have sY:=e2 h0;subst sY;obtain⟨s,h1,V,S,Q⟩:=SD (P:=P) (g:=g) (h:=h) (w:=w) (b:=gJ) (off:=iq+E*b.sz) (c:=cc) f (λj O o c M=>by
         have:=Y.gz (j:=E+j) ae o c M;rw[H] at this ⊢;simpa [vG] using this)
        refine⟨_,h1,.string V,?_,.aH _ _ (.str _ _ Q)⟩;rw[run_convert_bytes_string w C A e _ len cc D he B];exact S
       .have C6:len=0:=by omega
        subst C6;simp only[yF,List.range_zero,List.map_nil,ZX] at f;refine⟨_,f,.string .empty,?_,.aH _ _ (.str _ _ rfl)⟩;rw[run_convert_bytes_string w C A e _ 0 cc D he B];simp[Conv.bytesToString,loadCells,loadCellsFrom]
    |_=>simp at f
   |_=>simp at f
 |_=>simp at f
def SG{t ty:TypeId}{x:T}{u:Value}{k:Qd R}{r:R}{ts:Array TypeId}(d:Jq P t x h k=some r)(hx:g.VR h w x u)(f:ts[0]?=some t) :
 ∃z,k z h false=some r/\∃c,(Builtin.len_ ts ty #[u]).run P w = .ok c w/\g.VR h w z c:=by
 unfold Jq at d;cases x with
 |str s =>
  obtain⟨j,d⟩:=qm d;obtain⟨b,rfl,o⟩:=hx.str;refine⟨_,d,goInt b.size,by simp[Builtin.len_,f,qo (je j)],?_⟩;rw[Ym o];exact .aH _ _ (.int _ _)
 |ag =>
  obtain⟨j,d⟩:=qm d;obtain⟨e,he⟩:=vh.1 j;obtain rfl:=hx.ag;exact⟨_,d,goInt 0,by simp[Builtin.len_,f,qo (qU he)],.aH _ _ (.int _ _)⟩
 |view sz n I cap =>
  obtain⟨j,B⟩:=qm d;clear d;have d:=B;clear B;obtain⟨e,he⟩:=vh.1 j;cases hx.view with
  |eS _ _ _ _=>exact⟨.int .i64 0,d,goInt 0,by simp[Builtin.len_,f,qo (qU he)],.aH _ _ (.int _ _)⟩
  |view _ _ _ _ a cc E _ _ _ _ _ _ _=>exact⟨_,d,goInt n,by simp[Builtin.len_,f,qo (qU he)],.aH _ _ (.int _ _)⟩
 |own i aj C len cap =>
  obtain⟨j,d⟩:=qm d;obtain⟨e,he⟩:=vh.1 j;obtain⟨b,o,N,D,d⟩:=Zc d;rcases zQ o D hx with⟨cb,H,cc,ad,J,rfl,_⟩|⟨_,_,_,rfl,_,rfl⟩
  rotate_left
  .exact⟨_,d,goInt 0,by simp[Builtin.len_,f,qo (qU he)],.aH _ _ (.int _ _)⟩
  exact⟨_,d,goInt len,by simp[Builtin.len_,f,qo (qU he)],.aH _ _ (.int _ _)⟩
 |agg l =>
  dsimp only at d;cases A:QR P t with
  |none=>simp[A] at d
  |some p =>
   obtain⟨n,e⟩:=p;rw[A] at d;obtain⟨M,rfl,_⟩:=hx.bM;exact⟨_,d,goInt n,by simp[Builtin.len_,f,qo (yx A)],.aH _ _ (.int _ _)⟩
 |_=>simp at d
def SH{t ty:TypeId}{x:T}{u:Value}{k:Qd R}{r:R}{ts:Array TypeId}(d:If P t x h k=some r)(hx:g.VR h w x u)(f:ts[0]?=some t) :
 ∃z,k z h false=some r/\∃c,(Builtin.cap_ ts ty #[u]).run P w = .ok c w/\g.VR h w z c:=by
 unfold If at d;obtain⟨B,d⟩:=qm d;obtain⟨e,he⟩:=vh.1 B;cases x with
 |ag =>
  obtain rfl:=hx.ag;exact⟨_,d,goInt 0,by simp[Builtin.cap_,f,qo (qU he)],.aH _ _ (.int _ _)⟩
 |view sz n N cap =>
  cases cap with
  |none=>simp at d
  |some c =>
   cases hx.view with
   |eS _ _ _ o =>
    have D:c=0:=by simpa using o
    subst D;exact⟨_,d,goInt 0,by simp[Builtin.cap_,f,qo (qU he)],.aH _ _ (.int _ _)⟩
   |view _ _ _ _ a cc J _ E _ _ _ _ _ =>
    obtain rfl:=E c rfl;exact⟨_,d,goInt _,by simp[Builtin.cap_,f,qo (qU he)],.aH _ _ (.int _ _)⟩
 |own i aj A len cap =>
  cases cap with
  |none=>simp at d
  |some c =>
   obtain⟨b,C,Q,I,j⟩:=Zc d;rcases zQ C I hx with⟨cb,M,cc,ad,O,rfl,_,_,_,H,_⟩|⟨_,_,_,rfl,s,rfl⟩
   rotate_left
   .obtain rfl:=s c rfl;exact⟨_,j,goInt 0,by simp[Builtin.cap_,f,qo (qU he)],.aH _ _ (.int _ _)⟩
   obtain rfl:=(H c rfl).1;exact⟨_,j,goInt _,by simp[Builtin.cap_,f,qo (qU he)],.aH _ _ (.int _ _)⟩
 |_=>simp at d
def yH{e:Bool}{ty:TypeId}{ts:Array TypeId}{x y:T}{u v:Value}{k:Qd R}{r:R}(d:jF e x y h k=some r)(hx:g.VR h w x u)(f:g.VR h w y v) :
 ∃z,k z h false=some r/\∃c,(if e then Builtin.max_ ts ty #[u,v] else Builtin.min_ ts ty #[u,v]).run P w = .ok c w/\g.VR h w z c:=by
 unfold jF at d;cases x with
 |int j a =>
  cases y with
  |int i b =>
   obtain⟨o,d⟩:=qm d;obtain rfl:=hx.int;obtain rfl:=f.int;refine⟨_,d,_,?_,.aH _ _ (.int _ _)⟩;cases e
   .simp[Builtin.min_,Builtin.min2,vg]
   .simp[Builtin.max_,Builtin.max2,vg]
  |_=>simp at d
 |_=>cases y<;>simp at d
def SI{x:T}{u:Value}{k:Qd R}{r:R}(d:Fg x h k=some r)(hx:g.VR h w x u) :
 k x h false=some r/\((∃a,u = .pointer (some a))∨∃f cs,u = .func (.func f) #[] cs):=by
 unfold Fg at d;cases x with
 |vp cells =>
  obtain⟨b,o,rfl,_⟩:=Jv hx;exact⟨d,.inl ⟨_,rfl⟩⟩
 |ptr i aj j o =>
  obtain⟨b,z,D,A,d⟩:=Zc d;obtain⟨E,e,_,_,s⟩:=hx.cX;rw[z] at e;obtain rfl:=wa e;obtain⟨cb,B,C,rfl⟩:=s A;exact⟨d,.inl ⟨_,rfl⟩⟩
 |fn f H =>
  obtain⟨cs,rfl,_⟩:=hx.gG;exact⟨d,.inr ⟨_,_,rfl⟩⟩
 |_=>simp at d
end
section
variable {P:Program} {R:Type} {g:Gh} {h:qa} {w:World}
def KI(gg:Nat->JO)(n:Nat):JO:=(List.range n).flatMap gg
def Jz(gg:Nat->JO)(n:Nat):KI gg (n+1)=KI gg n++gg n:=by simp[KI,xj]
def Yd{gg:Nat->JO}{sz:Nat}:∀{n:Nat},(∀j,j<n->(gg j).length=sz)->(KI gg n).length=n*sz
 |0,_=>by simp[KI]
 |n+1,a=>by rw[Jz,wD,Yd (λj d=>a j ae),a n ae,wZ,xr]
def SJ{gg:Nat->JO}{sz:Nat}:∀{n:Nat},(∀j,j<n->(gg j).length=sz)->∀j o,j<n->o<sz->(KI gg n)[j*sz+o]?=(gg j)[o]?
 |0,_,j,o,a,_=>by omega
 |n+1,d,j,o,a,f=>by
  have i:=Yd (λj a=>d j ae) (n:=n) (gg:=gg) (sz:=sz);rw[Jz];rcases wt j n with e|k
  .have:(j+1)*sz<=n*sz:=wJ _ e;rw[wZ,xr] at this;rw[wx ae];exact SJ (λj a=>d j ae) j o e f
  .obtain rfl:j=n:=by omega
   rw[wH ae,i];congr 1;omega
def SK{gg:Nat->JO}{sz:Nat}:∀{n:Nat},(∀j,j<n->(gg j).length=sz)->∀p c,(KI gg n)[p]?=some c->∃j o,j<n/\o<sz/\p=j*sz+o/\(gg j)[o]?=some c
 |0,_,p,c,a=>by simp[KI] at a
 |n+1,e,p,c,a=>by
  have f:=Yd (λj k=>e j ae) (n:=n) (gg:=gg) (sz:=sz);rw[Jz] at a;rcases wt p (KI gg n).length with s|i
  .rw[wx s] at a;obtain⟨j,o,h1,r⟩:=SK (λj k=>e j ae) p c a;exact⟨j,o,ae,r⟩
  .rw[wH i] at a;refine⟨n,p-n*sz,ae,?_,ae,by rw[←f];exact a⟩;rcases wt (p-(KI gg n).length) (gg n).length with d|d
   .rw[e n ae,f] at d;exact d
   .rw[wz d] at a;cases a
structure Src(P:Program)(g:Gh)(h:qa)(w:World)(sz:Nat)(v:Value)(m:Nat)(gx:Nat->JO)(fl:Bool)(news:List Value):Prop where
 len:(Builtin.lenOf v).run P w = .ok m w
 run:∀m',m'<=m->(Builtin.firstCells sz m' v).run P w = .ok (news.take (m'*sz)).toArray w
 uV:(Builtin.firstCells sz m v).run P w.drew = .ok news.toArray w.drew
 size:news.length=m*sz
 one:∀u∈news,u.oneCell'=true
 lens:∀j,j<m->(gx j).length=sz
 cell:∀j o c,j<m->(gx j)[o]?=some c->∃u,news[j*sz+o]?=some u/\g.VR h w c u
 flat:fl=true->∀j,j<m->∀c,c∈gx j->qG c=true
def SL{sz m cc b off:Nat}{gx:Nat->JO}{fl:Bool}{ad:Addr}(B:0<cc->ad=⟨b,off,none⟩)(U:m<=cc)(i:∀j,j<m->(gx j).length=sz)
 (I:∀j,j<m->dR g h w b (off+j*sz) (gx j)) (H:fl=true->∀j,j<m->∀c,c∈gx j->qG c=true):∃news,Src P g h w sz (.slice (some ad) m cc) m gx fl news:=by
 have s:=Yd i;have ed:dR g h w b off (KI gx m):=by
  intro p c x;obtain⟨j,o,h1,r,rfl,J⟩:=SK i p c x;obtain⟨v,D,hr⟩:=I j h1 o c J;exact⟨v,by rw[←vG];exact D,hr⟩
 obtain⟨d,h1,r,M⟩:=Ju ed _ (wc _);refine⟨d,by simp[Builtin.lenOf],λf N=>?_,?_,by rw[h1,s],λu E=>?_,i,λj o c a z=>?_,H⟩
 .simp only[Builtin.firstCells];by_cases A:0<cc
  .rw[B A];have S:f*sz<=m*sz:=wJ _ N;have e:(d.take (f*sz)).length=f*sz:=by rw[vB,h1,s];omega
   have:=run_loadCells_list (P:=P) w ⟨b,off,none⟩ (d.take (f*sz)) (λj v a=>by
    rw[QO];rw[xR] at a;split at a
    .exact(r j v a).1
    .cases a)
   rw[e] at this;exact this
  .have e:f=0:=by omega
   subst e;simp[loadCells,loadCellsFrom]
 .simp only[Builtin.firstCells];by_cases A:0<cc
  .rw[B A];have:=run_loadCells_list (P:=P) w.drew ⟨b,off,none⟩ d (λj v a=>by rw[QO];exact(r j v a).1);rw[h1,s] at this;exact this
  .have e:m=0:=by omega
   subst e;have O:d=[]:=by simpa [KI] using h1
   simp[loadCells,loadCellsFrom,O]
 .obtain⟨p,x⟩:=xc.1 E;exact(r p u x).2
 ·have C:o<sz:=by
   rcases wt o (gx j).length with k|k
   ·rw[i j a] at k;exact k
   ·rw[wz k] at z;cases z
  have Q:j*sz+o<m*sz:=by
   have:(j+1)*sz<=m*sz:=wJ _ a;rw[wZ,xr] at this;omega
  exact M _ c (by rw[s];exact Q) (by rw[SJ i j o a C];exact z)
def Ki{sz:Nat}{x:T}{v:Value}{k:Nat->(Nat->JO)->Bool->Option R}{r:R}(e:KZ sz x h k=some r)(hr:HR g h w)(hx:g.VR h w x v) :
 ∃m gx fl news,k m gx fl=some r/\Src P g h w sz v m gx fl news:=by
 unfold KZ at e;cases x with
 |ag =>
  obtain rfl:=hx.ag;refine⟨0,_,true,[],e,⟨by simp[Builtin.lenOf],λI _=>by simp[Builtin.firstCells],by simp[Builtin.firstCells],au,au,λj d=>ae,λj o c d=>ae,λ_ j d=>ae⟩⟩
 |view O n J cap =>
  obtain⟨z,E⟩:=qm e;clear e;have z:O=sz:=by simpa using z
  subst z;cases hx.view with
  |eS _ _ _ _=>exact⟨0,J,false,[],E,⟨by simp[Builtin.lenOf],λI _=>by simp[Builtin.firstCells],by simp[Builtin.firstCells],au,au,λj d=>ae,λj o c d=>ae,λC=>by cases C⟩⟩
  |view _ _ _ _ a cc S U fk Z hU hl V X =>
   obtain⟨news,N⟩:=SL (P:=P) (g:=g) (h:=h) (w:=w) (sz:=O) (m:=n) (cc:=cc) (b:=a.block) (off:=a.off) (gx:=J) (fl:=false) (ad:=a) (λh0=>MV (U h0)) Z hl
    (λj d o c A=>⟨S j o,V j o c d A,.aH _ _ (X j o c d A)⟩) (λC=>by cases C)
   exact⟨n,J,false,news,E,N⟩
 |own i aj f len cap =>
  obtain⟨b,B,cC,aD,e⟩:=Zc e;obtain⟨D,E⟩:=qm e;clear e;simp only[wg,vf] at D;obtain⟨z,Q⟩:=D;have Q:=Qg Q;subst z;rcases zQ B aD hx with⟨cb,sh,cc,ad,M,rfl,es,e2,e3,e4,e5,e6,e7⟩|⟨_,q2,_,rfl,_,rfl⟩
  rotate_left
  .exact⟨0,_,b.flat,[],E,⟨by simp[Builtin.lenOf],λI _=>by simp[Builtin.firstCells],by simp[Builtin.firstCells],au,au,λj d=>ae,λj o c d=>ae,λ_ j d=>ae⟩⟩
  obtain⟨gJ,W,arr,e',H⟩:=hr.ey i b B cC (.inr (by rw[M];simp));rw[H.φ] at M;obtain⟨rfl,rfl⟩:=vU (wa M);obtain⟨news,N⟩:=SL (P:=P) (g:=g) (h:=h) (w:=w) (sz:=b.sz) (m:=len) (cc:=cc) (b:=gJ) (off:=W+f*b.sz) (gx:=λj=>b.get (f+j)) (fl:=b.flat) (ad:=ad) e2 e3
   (λj d=>H.len _ ae) (λj d=>by
    have:=H.gz (j:=f+j) ae;rw[wZ,←vG] at this;exact this) (λC j d=>H.flat C _ ae)
  exact⟨len,_,b.flat,news,E,N⟩
 |str s =>
  obtain⟨z,e⟩:=qm e;have z:sz=1:=by simpa using z
  subst z;obtain⟨b,rfl,B⟩:=hx.str;have dM:=Ym B;refine⟨s.length,_,true,s.map λc=>.int .u8 c.toNat,e,⟨by simp[Builtin.lenOf,dM],λI fM=>?_,?_,au,λu Y=>?_,λj d=>rfl,λj o c d A=>?_,λ_ j d c D=>?_⟩⟩
  .simp only[Builtin.firstCells,Sem.run_pure];congr 1;apply Array.ext';rw[uf,Kg,B];simp
  .simp only[Builtin.firstCells,Sem.run_pure];congr 1;apply Array.ext';rw[uf,Kg,B];simp
  .obtain⟨c,_,rfl⟩:=vb.1 Y;rfl
  .cases o with
   |zero =>
    simp only[wO,wi] at A;subst A;refine⟨.int .u8 ((s.getD j 0).toNat:Int),?_,.aH _ _ (.int _ _)⟩;have:s[j]?=some s[j]:=wj d;simp[List.getD,this]
   |succ o=>simp at A
  .simp at D;subst D;rfl
 |_=>simp at e
def Jg(c:T):qG (Qj c)=true:=by
 unfold Qj;cases a:qG c with
 |true=>exact a
 |false=>rfl
def SM{c:T}{v:Value}(a:g.VR h w c v):g.VR h w (Qj c) v:=by
 unfold Qj;cases d:qG c with
 |true=>exact a
 |false=>exact .aH _ _ (.undef _)
def Src.plain{sz:Nat}{v:Value}{m:Nat}{gx:Nat->JO}{fl:Bool}{news:List Value}(a:Src P g h w sz v m gx fl news):Src P g h w sz v m (λj=>(gx j).map Qj) true news:=by
 refine⟨a.len,a.run,a.uV,a.size,a.one,λj d=>by rw[wQ];exact a.lens j d,λj o c d f=>?_,λ_ j d c k=>?_⟩
 .rw[wE] at f;obtain⟨e,i,rfl⟩:=wI.1 f;obtain⟨u,h1,r⟩:=a.cell j o e d i;exact⟨u,h1,SM r⟩
 .obtain⟨e,i,rfl⟩:=vb.1 k;exact Jg e
def Jh{pl:Bool}{sz:Nat}{x:T}{v:Value}{k:Nat->(Nat->JO)->Bool->Option R}{r:R}(d:YV pl sz x h k=some r)(hr:HR g h w)(hx:g.VR h w x v) :
 ∃m gx fl news,k m gx fl=some r/\Src P g h w sz v m gx fl news:=by
 unfold YV at d;obtain⟨m,gx,fl,news,d,a⟩:=Ki (P:=P) d hr hx;cases fl with
 |true=>exact⟨m,gx,true,news,d,a⟩
 |false =>
  cases pl with
  |false=>exact⟨m,gx,false,news,d,a⟩
  |true =>
   refine⟨m,_,true,news,d,a.len,a.run,a.uV,a.size,a.one,λj e=>by rw[wQ];exact a.lens j e,λj o c e i=>?_,λ_ j e c z=>?_⟩
   .rw[wE] at i;obtain⟨f,s,rfl⟩:=wI.1 i;obtain⟨u,h1,A⟩:=a.cell j o f e s;exact⟨u,h1,SM A⟩
   .obtain⟨f,s,rfl⟩:=vb.1 z;exact Jg f
def SN(lE:Nat)(d:256<=lE):∀r c,c<=2*lE->Builtin.growBy lE r c<=2*lE
 |0,c,a=>a
 |r+1,c,a=>by
  unfold Builtin.growBy;split
  .exact a
  .exact SN lE d r _ ae
def qiU{lE a:Nat}(d:a<lE):Builtin.nextslicecap lE a<=2*lE:=by
 unfold Builtin.nextslicecap;split
 .omega
 .split
  .omega
  .exact SN lE ae 4 a ae
def Src.all{sz m:Nat}{v:Value}{gx:Nat->JO}{fl:Bool}{news:List Value}(a:Src P g h w sz v m gx fl news):(Builtin.firstCells sz m v).run P w = .ok news.toArray w:=by
 have:=a.run m (wc _);rwa[←a.size,xm] at this
def zS{t tx ty e:TypeId}{base:Option Addr}{len cc m:Nat}{v:Value}{gx:Nat->JO}{fl:Bool}{news:List Value}{w':World}(o:P.underlying t=some (.slice e))(r:zv P e=true)
 (hx:∃d,P.underlying tx=some d/\∀k,d≠.int k) (i:Src P g h w (qN P e) v m gx fl news) (u:len+m<=cc)
 (f:match base with|some a=>(storeCells (a.add (len*qN P e)) news).run P w = .ok () w'|none=>w'=w) :
 (Builtin.append_ #[t,tx] ty #[.slice base len cc,v]).run P w = .ok (.slice base (len+m) cc) w':=by
 obtain⟨d,s,j⟩:=hx;have x:(match d with|.int _=>true|_=>false)=false:=by
  cases d<;>first|rfl|exact absurd rfl (j _)
 unfold Builtin.append_;simp only[xv,wO,vZ,Sem.run_bind,qo o,Result.andThen_ok,Qh r,qo s,Sem.run_pure,i.len,xy,ve,Bool.not_false,vH,u,i.all];cases base with
 |none=>subst f;rfl
 |some a=>simp only[Sem.run_bind,f,Result.andThen_ok];rfl
def Zd{t tx ty e:TypeId}{base:Option Addr}{len cc m:Nat}{v:Value}{gx:Nat->JO}{fl:Bool}{news dx:List Value}{z:Value}(A:P.underlying t=some (.slice e))(j:zv P e=true)
 (x:(zeroValue e).run P w.drew = .ok z w.drew) (hx:∃d,P.underlying tx=some d/\∀k,d≠.int k) (f:Src P g h w (qN P e) v m gx fl news)
 (s:(Builtin.firstCells (qN P e) len (.slice base len cc)).run P w.drew = .ok dx.toArray w.drew)
 (r:cc<len+m) (H:(len+m)*(YT P e+1)<=70368744177664) :
 ∃nc,len+m<=nc/\(Builtin.append_ #[t,tx] ty #[.slice base len cc,v]).run P w =
  .ok (.slice (some ⟨w.heap.size,0,none⟩) (len+m) nc) (w.drew.alloc (.cells (dx.toArray++news.toArray++Builtin.zeroCells z.cells (nc-(len+m))) e)):=by
 obtain⟨d,C,J⟩:=hx;obtain⟨i,o⟩:=Kf j;have D:YT P e=i.bytes:=by simp[YT,o]
 rw[D,Nat.mul_add,Nat.mul_one] at H;have a:∀w:World,(typeInfo e).run P w = .ok i w:=λw=>by simp[typeInfo,o]
 have u:=qiU r;have E:¬(Builtin.nextslicecap (len+m) cc*i.bytes > 2 ^ 48):=by
  have h1:Builtin.nextslicecap (len+m) cc*i.bytes<=2*(len+m)*i.bytes:=wJ _ u;have M:2*(len+m)*i.bytes=2*((len+m)*i.bytes):=Nat.mul_assoc _ _ _;omega
 have I:¬((((len+m:Nat):Int) > IntKind.i64.max)/\(False∨i.bytes=0)):=by
  have:IntKind.i64.max=9223372036854775807:=by decide
  rw[this];omega
 have B:(Question.appendCap (len+m) cc e).forced=false:=rfl;refine⟨(Question.appendCap (len+m) cc e).cut (w.tape w.drawn (.appendCap (len+m) cc e)),by simp only[Question.cut];omega,?_⟩;unfold Builtin.append_;simp only[xv,wO,vZ,Sem.run_bind,qo A,Result.andThen_ok,Qh j,qo C,Sem.run_pure,f.len,xy,ve,Bool.not_false,vH];rw[we ae];simp only[Sem.run_bind,a,Result.andThen_ok];rw[we I];simp only[Sem.run_bind,a,Result.andThen_ok];rw[we E];simp only[Sem.run_bind,run_choose,B,xy,ve,Result.andThen_ok,run_askRoom,a];change ((Builtin.firstCells (qN P e) len (.slice base len cc)).run P w.drew).andThen _=_;simp only[s,f.uV,Result.andThen_ok,x];rfl
end
section
variable {P:Program} {R:Type} {g:Gh} {h:qa} {w:World}
def Qt{m:Nat}{gx:Nat->JO}{fl:Bool}(a:qZ m gx fl=true)(f:fl=true->∀j,j<m->∀c,c∈gx j->qG c=true):∀j,j<m->∀c,c∈gx j->qG c=true:=by
 unfold qZ at a;cases fl with
 |true=>exact f rfl
 |false =>
  simp only[ub,wg] at a;intro j d c e;exact(wA.1 ((wA.1 a.2) j (vQ.2 d))) c e
def M8{sz len m nc:Nat}{gs gx:Nat->JO}{dx news:List Value}{z:Array Value}(H:dx.length=len*sz)
 (B:∀j o c,j<len->(gs j)[o]?=some c->∃u,dx[j*sz+o]?=some u/\u.oneCell'=true/\g.VR h w c u)
 {v:Value} {fl:Bool} (x:Src P g h w sz v m gx fl news) (aj:Nat) (C:Bool) {j o:Nat} {c:T} (I:j<len+m) (d:((Qz aj sz len m gs gx C).get j)[o]?=some c) :
 ∃u,(dx.toArray++news.toArray++Builtin.zeroCells z (nc-(len+m)))[0+j*sz+o]?=some u/\u.oneCell'=true/\g.VR h w c u:=by
 simp only[Qz,vg] at d;have key:∀(l:List Value) (i:Nat) (u:Value) (A:Array Value),l[i]?=some u->(l.toArray++A)[i]?=some u:=by
  intro l i u A f;have D:i<l.length:=by
   rcases wt i l.length with a|a
   .exact a
   .rw[wz a] at f;cases f
  rw[xS (by simpa using D)];simpa using f
 rw[Array.append_assoc];split at d
 .rename_i r;have r:=Qb r;obtain⟨u,h1,E,k⟩:=B j o c r d;exact⟨u,by rw[wn];exact key _ _ _ _ h1,E,k⟩
 ·rename_i s;have s:len<=j:=by
   rcases wt j len with a|a
   ·exact absurd (vV a) s
   ·exact a
  obtain⟨u,h1,k⟩:=x.cell (j-len) o c ae d;refine⟨u,?_,x.one u (wo h1),k⟩;rw[wn];have e:j*sz+o=dx.length+((j-len)*sz+o):=by
   rw[H,←vG,←wZ];congr 2;omega
  rw[Array.getElem?_append_right (by simp[e])];simp only[List.size_toArray];rw[show j*sz+o-dx.length=(j-len)*sz+o by omega];exact key _ _ _ _ h1
def jg{sz len m:Nat}{gs gx:Nat->JO}{news:List Value}(k:∀j,j<len->(gs j).length=sz){v:Value}{fl:Bool}(f:Src P g h w sz v m gx fl news)(aj:Nat)(e:Bool) :
 ∀j,j<len+m->((Qz aj sz len m gs gx e).get j).length=sz:=by
 intro j o;simp only[Qz,vg];split
 .rename_i i;exact k j (Qb i)
 ·rename_i d;have d:len<=j:=by
   rcases wt j len with a|a
   ·exact absurd (vV a) d
   ·exact a
  exact f.lens _ ae
def Is{sz len m:Nat}{gs gx:Nat->JO}(aj:Nat)(f:Bool)(h1:∀j,j<len->∀c,c∈gs j->qG c=true)(h2:∀j,j<m->∀c,c∈gx j->qG c=true) :
 ∀j,j<len+m->∀c,c∈(Qz aj sz len m gs gx f).get j->qG c=true:=by
 intro j k c a;simp only[Qz,vg] at a;split at a
 .rename_i i;exact h1 j (Qb i) c a
 ·rename_i e;have e:len<=j:=by
   rcases wt j len with d|d
   ·exact absurd (vV d) e
   ·exact d
  exact h2 (j-len) ae c a
def Nc{sz len m nc:Nat}{dx news:List Value}{z:Array Value}(e:dx.length=len*sz)(d:news.length=m*sz)(a:z.size=sz)(f:len+m<=nc) :
 (dx.toArray++news.toArray++Builtin.zeroCells z (nc-(len+m))).size=nc*sz:=by
 simp only[Array.size_append,List.size_toArray,e,d,size_zeroCells,a];rw[←wZ,←wZ];congr 1;omega
def YJ(hr:HR g h w){sz len m nc:Nat}{gs gx:Nat->JO}{dx news:List Value}{z:Array Value}{e:TypeId}(x:dx.length=len*sz)
 (Q:∀j,j<len->(gs j).length=sz) (A:∀j o c,j<len->(gs j)[o]?=some c->∃u,dx[j*sz+o]?=some u/\u.oneCell'=true/\g.VR h w c u)
 {v:Value} {fl:Bool} (f:Src P g h w sz v m gx fl news) (a:Bool) (s:a=true->(∀j,j<len->∀c,c∈gs j->qG c=true)/\∀j,j<m->∀c,c∈gx j->qG c=true)
 (B:z.size=sz) (d:len+m<=nc) :
 gV g h w (.own h.length 0 0 (len+m) none) (h++[Qz 0 sz len m gs gx a]) (.slice (some ⟨w.heap.size,0,none⟩) (len+m) nc)
  (w.drew.alloc (.cells (dx.toArray++news.toArray++Builtin.zeroCells z (nc-(len+m))) e)):=by
 have r:=Nc x f.size B d;obtain⟨I,J,_,M,O,N⟩:=hr.alloc (w':=w.drew.alloc (.cells (dx.toArray++news.toArray++Builtin.zeroCells z (nc-(len+m))) e)) (cb:=w.heap.size) (sh:=0) (e:=e)
  (b':=Qz 0 sz len m gs gx a) au (λk E=>RowKit.Below.heap_alloc w.drew _ _ E) (zj w.drew _) (wc _)
  (by rw[r,wn];exact wJ _ d) (jg Q f 0 a) (λj o c H C=>M8 x A f 0 a H C) (λi=>Is 0 a (s i).1 (s i).2) rfl rfl ⟨rfl,wc _⟩
 exact⟨I,M,.own _ _ _ _ _ _ _ (YA h _) (wc _) rfl λ_=>.inl ⟨_,_,nc,_,J,rfl,rfl,λ_=>by simp,d,λ_ D=>(by cases D),by simp[Qz],⟨_,e,zj w.drew _,by rw[r];simp[Qz]⟩,λ_=>by simpa [Qz] using d⟩,O,N⟩
def Src.e8{sz m:Nat}{v:Value}{gx:Nat->JO}{fl:Bool}{news:List Value}(a:Src P g h w sz v m gx fl news) :
 ∀j o c,j<m->(gx j)[o]?=some c->∃u,news[j*sz+o]?=some u/\u.oneCell'=true/\g.VR h w c u:=by
 intro j o c e d;obtain⟨u,h1,f⟩:=a.cell j o c e d;exact⟨u,h1,a.one u (wo h1),f⟩
def qpq{tx:TypeId}(hx:((qT P tx).isSome || JT P tx)=true):∃d,P.underlying tx=some d/\∀k,d≠.int k:=by
 rcases vY _ _▸hx with h1|h1
 .obtain⟨e,he⟩:=vh.1 h1;exact⟨_,qU he,λk a=>by cases a⟩
 .exact⟨_,je h1,λk a=>by cases a⟩
def qy{α:Type}{l:List α}{i:Nat}{x:α}(d:l[i]?=some x):i<l.length:=by
 rcases wt i l.length with a|a
 .exact a
 .rw[wz a] at d;cases d
def Kj{cb n:Nat}{arr:Array Value}{e:TypeId}(i:w.heap[cb]?=some (.cells arr e (0,0)))(f:room w cb n):n<=arr.size:=by
 obtain⟨j,k,a,d⟩:=f;rw[i] at a;simp only[wi,Obj.cells.injEq] at a;rw[a.1];exact d
def Iu(hr:HR g h w){i:Nat}{b:aq}(W:h[i]?=some b){cb sh:Nat}{arr:Array Value}{e:TypeId}(f:mO w g h i b cb sh arr e){p m:Nat}{gx:Nat->JO}{news:List Value}
 (E:∀j,j<m->(gx j).length=b.sz) (C:news.length=m*b.sz) (V:∀j o c,j<m->(gx j)[o]?=some c->∃u,news[j*b.sz+o]?=some u/\u.oneCell'=true/\g.VR h w c u)
 (B:Bool) (J:B=true->b.flat=true/\∀j,j<m->∀c,c∈gx j->qG c=true) (I:sh+p*b.sz+news.length<=arr.size) (S:b.mp=none:=by assumption) :
 ∃g',g'.φ i=some (cb,sh)/\HR g' (h.set i { b with get:=λj=>bif Nat.ble p j&&Nat.blt j (p+m) then gx (j-p) else b.get j,flat:=B }) (w.setRow cb (arr.toList.take (sh+p*b.sz)++news++arr.toList.drop (sh+p*b.sz+news.length)).toArray) ∧
  z8 g h w g' (h.set i { b with get:=λj=>bif Nat.ble p j&&Nat.blt j (p+m) then gx (j-p) else b.get j,flat:=B }) (w.setRow cb (arr.toList.take (sh+p*b.sz)++news++arr.toList.drop (sh+p*b.sz+news.length)).toArray) ∧
  mh g w g' (w.setRow cb (arr.toList.take (sh+p*b.sz)++news++arr.toList.drop (sh+p*b.sz+news.length)).toArray):=by
 have M:=Zn arr news _ I;have inr:∀j,(Nat.ble p j&&Nat.blt j (p+m))=true↔p<=j/\j<p+m:=by
  intro j;simp only[wg];exact⟨λ⟨A,z⟩=>⟨Qg A,Qb z⟩,λ⟨A,z⟩=>⟨vV A,vV z⟩⟩
 obtain⟨g',X,f2,_,Y,aO,Z⟩:=hr.change W (w':=w.setRow cb (arr.toList.take (sh+p*b.sz)++news++arr.toList.drop (sh+p*b.sz+news.length)).toArray) (cb:=cb) (sh:=sh) (e:=e)
  (b':={ b with get:=λj=>bif Nat.ble p j&&Nat.blt j (p+m) then gx (j-p) else b.get j,flat:=B })
  (by simp[World.setRow]) (λk _ aZ=>setRow_other w cb k _ aZ) (Yl w cb arr _ e f.heap) (.inl f.own) (λn C=>by rw[M];exact Kj f.heap C) (wc _) (λ_=>⟨rfl,rfl,f.φ⟩) (by rw[M];exact f.room)
  (λj s=>by
   simp only[vg];split
   .rename_i a;have:=(inr j).1 a;exact E _ ae
   .exact f.len j s)
  (λj o c s d=>by
   simp only[vg] at d s ⊢;rw[Iq arr _ _ _ I];have ho:o<b.sz:=by
    have x:=qy d;split at x
    .rename_i a;rw[E (j-p) (by have:=(inr j).1 a;omega)] at x;exact x
    .rw[f.len j s] at x;exact x
   split at d
   .rename_i a;have a:=(inr j).1 a;obtain⟨u,Q,O,N⟩:=V (j-p) o c ae d;have U:p*b.sz<=j*b.sz:=wJ _ a.1;have AB:(j+1)*b.sz<=(p+m)*b.sz:=wJ _ a.2;rw[wZ,xr,wZ p] at AB;have Nd:(j-p)*b.sz=j*b.sz-p*b.sz:=Nat.sub_mul _ _ _;rw[wl ⟨ae,by rw[C];omega⟩];refine⟨u,?_,O,N⟩;rw[←Q,Nd];congr 1;omega
   .rename_i D;have D:=λq=>D ((inr j).2 q);rw[we ?_]
    .exact f.cell j o c s d
    .rw[C];rintro⟨A,z⟩;apply D;constructor
     .rcases wt j p with r|r
      .have:(j+1)*b.sz<=p*b.sz:=wJ _ r;rw[wZ,xr] at this;omega
      .exact r
     .rcases wt j (p+m) with r|r
      .exact r
      .have:(p+m)*b.sz<=j*b.sz:=wJ _ r;rw[wZ p] at this;omega)
  (λH j s c d=>by
   simp only[vg] at d;split at d
   .rename_i a;exact(J H).2 _ (by have:=(inr j).1 a;omega) c d
   .exact f.flat (J H).1 j s c d) rfl rfl ⟨rfl,wc _⟩ S
 exact⟨g',X,Y,aO,Z⟩
def SP(hr:HR g h w){i:Nat}{b b':aq}(z:h[i]?=some b)(D:g.φ i=none)(H:b.n=0)(e1:b'.mp=none)(Q:b'.aj=b.aj)(O:b'.sz=b.sz)(A:b'.n=b.n) :
 HR g (h.set i b') w/\z8 g h w g (h.set i b') w/\mh g w g w:=by
 have r:=qy z;have B:z8 g h w g (h.set i b') w:=by
  refine⟨.refl _ _,λk x hx=>?_,λ_ _ q=>q⟩;by_cases a:k=i
  .subst a;rw[z] at hx;obtain rfl:=wa hx;exact⟨b',by simp[r],ae,λ_=>⟨O,A,rfl⟩⟩
  .exact⟨x,by rw[wV (λe=>a e.symm)];exact hx,wc _,λ_=>⟨rfl,rfl,rfl⟩⟩
 refine⟨⟨λk x hx f=>?_,hr.u,hr.own,hr.base,hr.cells,λc j E=>by rw[xM];exact hr.lt c j E,λk x m hx f=>?_⟩,B,.refl _ _ λc o e=>(hr.own c o e).2⟩
 .by_cases a:k=i
  .subst a;simp only[wP r,wi] at hx;subst hx;exact .inr ⟨D,A.trans H⟩
  .rw[wV (λe=>a e.symm)] at hx;rcases hr.dh k x hx f with⟨cb,C,s,e,d⟩|q
   ·exact .inl ⟨cb,C,s,e,d.φ,d.own,d.heap,d.room,d.len,λj o c I J=>by
     obtain⟨v,h1,N,M⟩:=d.cell j o c I J;exact⟨v,h1,N,M.ar B⟩,d.flat⟩
   .exact .inr q
 .by_cases a:k=i
  .subst a;simp only[wP r,wi] at hx;subst hx;rw[e1] at f;cases f
  .rw[wV (λe=>a e.symm)] at hx;exact hr.mp k x m hx f
def JA(hr:HR g h w){i:Nat}{b:aq}(r:h[i]?=some b){len m:Nat}{gs gx:Nat->JO}{w':World}{cb sh:Nat}{arr:Array Value}{e:TypeId}(a:Bool)(O:w.heap.size<=w'.heap.size)
 (V:∀k,k<w.heap.size->k≠cb->w'.heap[k]?=w.heap[k]?) (f:w'.heap[cb]?=some (.cells arr e (0,0))) (Q:g.own cb=some (.inl i)∨w.heap.size<=cb) (A:∀n,room w cb n->n<=arr.size)
 (N:sh+(len+m)*b.sz<=arr.size) (S:∀j,j<len+m->((Qz (b.aj+1) b.sz len m gs gx a).get j).length=b.sz)
 (H:∀j o c,j<len+m->((Qz (b.aj+1) b.sz len m gs gx a).get j)[o]?=some c->∃v,arr[sh+j*b.sz+o]?=some v/\v.oneCell'=true/\g.VR h w c v)
 (z:a=true->∀j,j<len+m->∀c,c∈(Qz (b.aj+1) b.sz len m gs gx a).get j->qG c=true) (u:w'.os=w.os) (x:w'.tape=w.tape) (B:dQ w' w)
 {nc:Nat} {ad:Addr} (X:ad.spot=none) (s:0<nc->ad=⟨cb,sh,none⟩) (d:len+m<=nc) (I:sh+nc*b.sz<=arr.size) :
 gV g h w (.own i (b.aj+1) 0 (len+m) none) (h.set i (Qz (b.aj+1) b.sz len m gs gx a)) (.slice (some ad) (len+m) nc) w':=by
 obtain⟨E,J,Y,_,M,W,U⟩:=hr.change r (w':=w') (cb:=cb) (sh:=sh) (e:=e) (b':=Qz (b.aj+1) b.sz len m gs gx a) O V f Q A
  (Nat.le_succ _) (λq=>by simp[Qz] at q) N S H z u x B
 exact⟨E,M,.own _ _ _ _ _ _ _ (wP (qy r)) (wc _) rfl λ_=>.inl ⟨cb,sh,nc,ad,J,rfl,X,λC=>by simpa using s C,d,λ_ D=>(by cases D),by simp[Qz],⟨arr,e,f,by simpa [Qz] using I⟩,λ_=>by simpa [Qz] using d⟩,W,U⟩
def qcs{t tx ty:TypeId}{s x:T}{cs cx:Value}{k:Qd R}{r:R}(d:yn P t s x h k=some r)(oI:((qT P tx).isSome || JT P tx)=true)(hr:HR g h w)(hs:g.VR h w s cs)(hx:g.VR h w x cx) :
 ∃y h' wr,k y h' wr=some r/\(wr=false->h'=h)/\∃v w',(Builtin.append_ #[t,tx] ty #[cs,cx]).run P w = .ok v w'/\gV g h w y h' v w':=by
 unfold yn at d;have Q:=qpq oI;cases he:qT P t with
 |none=>simp[he] at d
 |some e =>
  rw[he] at d;obtain⟨hz,d⟩:=qm d;obtain⟨z,tU,O,n7,S,rC,rZ⟩:=ZF (P:=P) (g:=g) (h:=h) (w:=w) hz;obtain⟨z',sA,_⟩:=ZF (P:=P) (g:=g) (h:=h) (w:=w.drew) hz;have Ng:z'=z:=by
   obtain⟨i,hi⟩:=Kf O;cases SQ:i.zero with
   |none=>simp[zeroValue,typeInfo,hi,SQ] at tU
   |some q =>
    simp only[zeroValue,typeInfo,Sem.run_bind,run_program,Result.andThen_ok,hi,Sem.run_pure,SQ,Result.ok.injEq] at tU sA;exact sA.1.symm.trans tU.1
  subst Ng;obtain⟨m,V,fl,news,d,f⟩:=Jh (P:=P) d hr hx;have U:=qU he;have nL:∀n,Kc P e n=true->n*(YT P e+1)<=70368744177664:=λn hn=>Qg hn;cases s with
  |ag =>
   dsimp only at d;obtain rfl:=hs.ag;rcases qx d with⟨C,d⟩|⟨C,d⟩
   .have C:m=0:=by simpa using C
    subst C;exact⟨_,_,_,d,λ_=>rfl,_,w,zS (P:=P) U O Q f (wc _) rfl,.pure hr (.aH _ _ .ag)⟩
   .have C:m≠0:=by simpa using C
    obtain⟨dB,d⟩:=qm d;obtain⟨nc,I,J⟩:=Zd (P:=P) (w:=w) (ty:=ty) (base:=none) (len:=0) (cc:=0) (dx:=[]) U O sA Q f (by simp[Builtin.firstCells]) ae (by simpa using nL _ dB);refine⟨_,_,_,d,(λD=>by cases D),_,_,J,?_⟩;have:=YJ (P:=P) (e:=e) hr (sz:=qN P e) (len:=0) (gs:=λ_=>[]) (dx:=[]) au (λj E=>ae) (λj o c E=>ae) f (qZ m V fl)
     (λB=>⟨λj E=>ae,Qt B f.flat⟩) S I
    have eb:Qz 0 (qN P e) 0 m (λ_=>[]) V (qZ m V fl)=⟨0,qN P e,m,V,qZ m V fl,false,none⟩:=by
     simp only[Qz,wn,Nat.sub_zero];rfl
    rw[eb] at this;simpa using this
  |view sz n gs cap =>
   dsimp only at d;obtain⟨W,d⟩:=qm d;have W:sz=qN P e:=by simpa using W
   subst W;obtain⟨n',gs',fl0,M,e0,H⟩:=Ki (P:=P) (R:=Nat×(Nat->JO)×Bool) (sz:=qN P e) (x:=.view (qN P e) n gs cap) (k:=λa b c=>some (a,b,c)) (r:=(n,gs,false)) (by simp[KZ]) hr hs;simp only[wi,wy] at e0;obtain⟨rfl,rfl,rfl⟩:=e0;cases hs.view with
   |eS _ gs0 _ r8 =>
    rcases qx d with⟨C,d⟩|⟨C,d⟩
    .have C:m=0:=by simpa using C
     subst C;exact⟨_,_,_,d,λ_=>rfl,_,w,zS (P:=P) U O Q f (wc _) rfl,.pure hr hs⟩
    .have C:m≠0:=by simpa using C
     cases cap with
     |none=>cases d
     |some c =>
      obtain⟨hc,d⟩:=qm d;simp only[wg] at hc;obtain⟨Z,dB⟩:=hc;obtain⟨nc,I,J⟩:=Zd (P:=P) (w:=w) (ty:=ty) (base:=none) (len:=0) (cc:=0) (dx:=[]) U O sA Q f (by simp[Builtin.firstCells]) ae (by simpa using nL _ dB);refine⟨_,_,_,d,(λD=>by cases D),_,_,J,?_⟩;unfold Ie;cases (Qi P e).all qG with
      |true =>
       simp only[wm];exact YJ (P:=P) (e:=e) hr (sz:=qN P e) (len:=0) (gs:=_) (dx:=[]) au (λj E=>ae) (λj o c E=>ae) f _
        (λB=>⟨λj E=>ae,Qt B f.flat⟩) S I
      |false =>
       simp only[wp];exact YJ (P:=P) (e:=e) hr (sz:=qN P e) (len:=0) (gs:=_) (dx:=[]) au (λj E=>ae) (λj o c E=>ae) f _
        (λB=>⟨λj E=>ae,Qt (by simp only[wg] at B;exact B.2) f.flat⟩) S I
   |view _ _ _ _ a cc vs sw fk hn hU hl nl hv =>
    rcases qx d with⟨C,d⟩|⟨C,d⟩
    .have C:m=0:=by simpa using C
     subst C;refine⟨_,_,_,d,λ_=>rfl,_,w,zS (P:=P) U O Q f ae ?_,.pure hr hs⟩;have:news=[]:=by have:=f.size;simp at this;exact this
     subst this;simp[storeCells]
    .cases cap with
     |none=>cases d
     |some c =>
      obtain rfl:=fk c rfl;obtain⟨hc,d⟩:=qm d;simp only[wg] at hc;obtain⟨Z,dB⟩:=hc;have Z:=Qb Z;obtain⟨nc,I,J⟩:=Zd (P:=P) (w:=w) (ty:=ty) (dx:=M) U O sA Q f H.uV Z (nL _ dB);refine⟨_,_,_,d,(λD=>by cases D),_,_,J,?_⟩;unfold Ie;cases (Qi P e).all qG with
      |true =>
       have sZ:=H.plain;simp only[wm];exact YJ hr sZ.size sZ.lens sZ.e8 f _ (λB=>⟨sZ.flat rfl,Qt B f.flat⟩) S I
      |false =>
       simp only[wp];exact YJ hr H.size H.lens H.e8 f _ (λB=>by
        simp only[wg] at B;exact⟨Qt B.1 H.flat,Qt B.2 f.flat⟩) S I
  |own i aj A len cap =>
   dsimp only at d;obtain⟨b,hb,cC,aD,d⟩:=Zc d;obtain⟨hc,d⟩:=qm d;simp only[wg,vf] at hc;obtain⟨W,bv⟩:=hc;have bv:=Qg bv;obtain⟨n',gs',fl0,M,e0,H⟩:=Ki (P:=P) (R:=Nat×(Nat->JO)×Bool) (sz:=qN P e) (x:=.own i aj A len cap) (k:=λa b c=>some (a,b,c)) (r:=(len,(λj=>b.get (A+j)),b.flat))
    (by simp[KZ,Qc,hb,aD,cC,W,vV bv]) hr hs
   have e0:=e0.symm;simp only[wi,wy] at e0;obtain⟨rfl,rfl,rfl⟩:=e0;rcases zQ hb aD hs with⟨cb,sh,cc,ad,e1,rfl,es,e2,e3,e4,e5,e6,e7⟩|⟨q1,q2,rfl,rfl,q5,rfl⟩
   rotate_left
   .rcases qx d with⟨C,d⟩|⟨C,d⟩
    .have C:m=0:=by simpa using C
     subst C;exact⟨_,_,_,d,λ_=>rfl,_,w,zS (P:=P) U O Q f (wc _) rfl,.pure hr hs⟩
    .have C:m≠0:=by simpa using C
     obtain⟨dB,d⟩:=qm d;obtain⟨nc,I,J⟩:=Zd (P:=P) (w:=w) (ty:=ty) (base:=none) (len:=0) (cc:=0) (dx:=[]) U O sA Q f (by simp[Builtin.firstCells]) ae (by simpa using nL _ dB);have cA:(b.flat&&qZ m V fl)=true->(∀j,j<0->∀c,c∈b.get (0+j)->qG c=true)/\∀j,j<m->∀c,c∈V j->qG c=true:=by
      intro B;simp only[wg] at B;exact⟨λj E=>ae,Qt B.2 f.flat⟩
     rw[←W] at f S;cases cap with
     |some c =>
      obtain rfl:=q5 c rfl;dsimp only at d;rw[show Nat.ble (0+m) 0=false by
       rw[Bool.eq_false_iff];intro D;have:=Qg D;omega] at d
      refine⟨_,_,_,d,(λD=>by cases D),_,_,J,?_⟩;exact YJ (P:=P) (e:=e) hr (sz:=b.sz) (len:=0) (gs:=_) (dx:=[]) au (λj E=>ae) (λj o c E=>ae) f _ cA S I
     |none =>
      dsimp only at d;rw[←aD] at d;rw[show Nat.ble (0+0+m) b.n=false by
       rw[Bool.eq_false_iff];intro D;have:=Qg D;omega] at d
      refine⟨_,_,_,d,(λD=>by cases D),_,_,J,?_⟩;have uX:=Nc (len:=0) (dx:=[]) (nc:=nc) au f.size S I;exact JA hr hb (cb:=w.heap.size) (sh:=0) (arr:=([]:List Value).toArray++news.toArray++Builtin.zeroCells z'.cells (nc-(0+m))) (e:=e) _ au (λk d _=>RowKit.Below.heap_alloc w.drew _ _ d) (zj w.drew _) (.inr (wc _))
       (λn hn=>by obtain⟨a',SO,q1,_⟩:=hn;have:=qI q1;omega) (by rw[uX,wn];exact wJ _ I)
       (jg (λj E=>ae) f _ _) (λj o c E ho=>M8 (len:=0) (dx:=[]) au (λj o c E=>ae) f _ _ E ho) (λB=>Is _ _ (cA B).1 (cA B).2) rfl rfl ⟨rfl,wc _⟩ rfl (λ_=>rfl) I (by rw[uX,wn];exact wc _)
   obtain⟨gJ,iq,arr,e',Y⟩:=hr.ey i b hb cC (.inr (by rw[e1];simp));rw[Y.φ] at e1;obtain⟨rfl,rfl⟩:=vU (wa e1);rcases qx d with⟨C,d⟩|⟨C,d⟩
   .have C:m=0:=by simpa using C
    subst C;refine⟨_,_,_,d,λ_=>rfl,_,w,zS (P:=P) U O Q f ae ?_,.pure hr hs⟩;have:news=[]:=by have:=f.size;simp at this;exact this
    subst this;simp[storeCells]
   .have C:m≠0:=by simpa using C
    obtain⟨dB,d⟩:=qm d;have fQ:=Kj Y.heap e6;rw[←W] at f H S
    have oY:len+m<=cc->(Builtin.append_ #[t,tx] ty #[.slice (some ad) len cc,cx]).run P w =
     .ok (.slice (some ad) (len+m) cc) (w.setRow gJ (arr.toList.take (iq+(A+len)*b.sz)++news++arr.toList.drop (iq+(A+len)*b.sz+news.length)).toArray)/\iq+(A+len)*b.sz+news.length<=arr.size:=by
     intro N;have X:iq+(A+len)*b.sz+news.length<=arr.size:=by
      rw[f.size];refine wN ?_ fQ;have:(A+len)*b.sz+m*b.sz<=(A+cc)*b.sz:=by rw[←wZ];exact wJ _ ae
      omega
     refine⟨zS (P:=P) U O Q (W▸f) N ?_,X⟩;rw[e2 ae];dsimp only;rw[QO,←W,vG,←wZ];have:=run_storeCells_at P gJ (iq+(A+len)*b.sz) e' news 0 arr w Y.heap (by simpa using X) f.one;simpa using this
    have BW:cc<len+m →
     ∃nc,len+m<=nc/\(Builtin.append_ #[t,tx] ty #[.slice (some ad) len cc,cx]).run P w = .ok (.slice (some ⟨w.heap.size,0,none⟩) (len+m) nc) (w.drew.alloc (.cells (M.toArray++news.toArray++Builtin.zeroCells z'.cells (nc-(len+m))) e)) :=
     λZ=>Zd (P:=P) (w:=w) (ty:=ty) (dx:=M) U O sA Q (W▸f) (W▸H).uV Z (nL _ dB)
    have cA:(b.flat&&qZ m V fl)=true->(∀j,j<len->∀c,c∈b.get (A+j)->qG c=true)/\∀j,j<m->∀c,c∈V j->qG c=true:=by
     intro B;simp only[wg] at B;exact⟨H.flat B.1,Qt B.2 f.flat⟩
    cases cap with
    |some c =>
     obtain⟨rfl,r8⟩:=e4 c rfl;dsimp only at d;rcases qx d with⟨N,d⟩|⟨N,d⟩
     ·have N:=Qg N;obtain⟨_,d⟩:=qm d;obtain⟨J,X⟩:=oY N;obtain⟨g',f1,dm,aO,bJ⟩:=Iu hr hb Y (p:=A+len) (m:=m) f.lens f.size f.e8 (b.flat&&qZ m V fl) (λB=>by
       simp only[wg] at B;exact⟨B.1,Qt B.2 f.flat⟩) X
      refine⟨_,_,_,d,(λD=>by cases D),_,_,J,g',dm,.own _ _ _ _ _ _ _ (wP (qy hb)) (Nat.le_of_eq aD.symm) rfl λ_=>.inl ⟨gJ,iq,cc,ad,f1,rfl,es,e2,N,λm' fM=>?_,?_,⟨_,e',Yl w gJ arr _ e' Y.heap,by rw[Zn arr news _ X];exact fQ⟩,λhc=>(by cases hc)⟩,aO,bJ⟩
      .simp only[wi] at fM;subst fM;exact⟨rfl,r8⟩
      .dsimp only;omega
     ·have Z:cc<len+m:=by
       rcases wt cc (len+m) with hq|hq
       ·exact hq
       ·rw[vV hq] at N;cases N
      obtain⟨nc,I,J⟩:=BW Z;exact⟨_,_,_,d,(λD=>by cases D),_,_,J,YJ (P:=P) (e:=e) hr H.size H.lens H.e8 f _ cA S I⟩
    |none =>
     dsimp only at d;rw[←aD] at d;rcases qx d with⟨iU,d⟩|⟨_,d⟩
     ·have iU:=Qg iU;have iT:=e7 rfl;obtain⟨J,X⟩:=oY ae;obtain⟨g',f1,dm,aO,bJ⟩:=Iu hr hb Y (p:=A+len) (m:=m) f.lens f.size f.e8 (b.flat&&qZ m V fl) (λB=>by
       simp only[wg] at B;exact⟨B.1,Qt B.2 f.flat⟩) X
      exact⟨_,_,_,d,(λD=>by cases D),_,_,J,g',dm,.own _ _ _ _ _ _ _ (wP (qy hb)) (wc _) rfl λ_=>.inl ⟨gJ,iq,cc,ad,f1,rfl,es,e2,ae,λm' fM=>(by cases fM),by dsimp only;omega,⟨_,e',Yl w gJ arr _ e' Y.heap,by rw[Zn arr news _ X];exact fQ⟩,λ_=>iT⟩,aO,bJ⟩
     refine⟨_,_,_,d,(λD=>by cases D),?_⟩;rcases wt cc (len+m) with Z|N
     ·obtain⟨nc,I,J⟩:=BW Z;refine⟨_,_,J,?_⟩;have uX:=Nc (nc:=nc) H.size f.size S I;exact JA hr hb (cb:=w.heap.size) (sh:=0) (arr:=M.toArray++news.toArray++Builtin.zeroCells z'.cells (nc-(len+m))) (e:=e) _ au (λk d _=>RowKit.Below.heap_alloc w.drew _ _ d) (zj w.drew _) (.inr (wc _))
       (λn hn=>by obtain⟨a',SO,q1,_⟩:=hn;have:=qI q1;omega) (by rw[uX,wn];exact wJ _ I)
       (jg H.lens f _ _) (λj o c E ho=>M8 H.size H.e8 f _ _ E ho) (λB=>Is _ _ (cA B).1 (cA B).2) rfl rfl ⟨rfl,wc _⟩ rfl (λ_=>rfl) I (by rw[uX,wn];exact wc _)
     ·obtain⟨J,X⟩:=oY N;refine⟨_,_,J,?_⟩;have AZ:=Zn arr news _ X;refine JA hr hb (cb:=gJ) (sh:=iq+A*b.sz) (arr:=(arr.toList.take (iq+(A+len)*b.sz)++news++arr.toList.drop (iq+(A+len)*b.sz+news.length)).toArray) (e:=e') _ (by simp[World.setRow]) (λk _ aZ=>setRow_other w gJ k _ aZ) (Yl w gJ arr _ e' Y.heap) (.inl Y.own)
       (λn hn=>by rw[AZ];exact Kj Y.heap hn) ?_ (jg H.lens f _ _) (λj o c E ho=>?_) (λB=>Is _ _ (cA B).1 (cA B).2) rfl rfl ⟨rfl,wc _⟩ es e2 N ?_
      .rw[AZ];refine wN ?_ fQ;have:A*b.sz+(len+m)*b.sz<=(A+cc)*b.sz:=by rw[←wZ];exact wJ _ ae
       omega
      ·rw[Iq arr _ _ _ X];have sW:o<b.sz:=by
        have aN:=qy ho;rw[jg H.lens f _ _ j E] at aN;exact aN
       simp only[Qz,vg] at ho;rw[wZ A len] at *
       split at ho
       .rename_i aN;have aN:=Qb aN;have AB:(j+1)*b.sz<=len*b.sz:=wJ _ aN;rw[wZ,xr] at AB;rw[we ae];have:=Y.cell (A+j) o c ae ho;rw[wZ,←vG] at this;exact this
       ·rename_i oH;have oH:len<=j:=by
         rcases wt j len with hq|hq
         ·exact absurd (vV hq) oH
         ·exact hq
        obtain⟨u,u1,u2,u3⟩:=f.e8 (j-len) o c ae ho;have hj1:len*b.sz<=j*b.sz:=wJ _ oH;have AB:(j+1)*b.sz<=(len+m)*b.sz:=wJ _ E;rw[wZ,xr,wZ len] at AB;have Nd:(j-len)*b.sz=j*b.sz-len*b.sz:=Nat.sub_mul _ _ _;rw[wl ⟨ae,by rw[f.size];omega⟩];refine⟨u,?_,u2,u3⟩;rw[←u1,Nd];congr 1;omega
      .rw[AZ];refine wN ?_ fQ;rw[wZ];omega
  |_=>simp at d
def qeq{t tx ty:TypeId}{d x:T}{cd Z:Value}{k:Qd R}{r:R}(a:JY P t d x h k=some r)(hr:HR g h w)(S:g.VR h w d cd)(hx:g.VR h w x Z) :
 ∃y h' wr,k y h' wr=some r/\(wr=false->h'=h)/\∃v w',(Builtin.copy_ #[t,tx] ty #[cd,Z]).run P w = .ok v w'/\gV g h w y h' v w':=by
 unfold JY at a;cases he:qT P t with
 |none=>simp[he] at a
 |some e =>
  rw[he] at a;obtain⟨O,a⟩:=qm a;have E:=qU he;obtain⟨m,A,V,news,a,s⟩:=Jh (P:=P) a hr hx;cases d with
  |ag =>
   dsimp only at a;obtain rfl:=S.ag;refine⟨_,_,_,a,λ_=>rfl,goInt 0,w,?_,.pure hr (.aH _ _ (.int _ _))⟩;have z:=s.run 0 (wR _);simp only[Nat.zero_mul,List.take_zero] at z;unfold Builtin.copy_;simp only[xv,wO,vZ,Sem.run_bind,qo E,Result.andThen_ok,s.len,Qh O];rw[show Nat.min m 0=0 from Nat.min_zero m,z];rfl
  |own i aj f len cap =>
   dsimp only at a;obtain⟨b,D,cC,aD,a⟩:=Zc a;obtain⟨U,a⟩:=qm a;simp only[wg,vf] at U;obtain⟨X,bv⟩:=U;have bv:=Qg bv;rcases zQ D aD S with⟨cb,sh,cc,ad,N,rfl,es,e2,e3,e4,e5,e6,e7⟩|⟨q1,q2,rfl,rfl,q5,rfl⟩
   rotate_left
   .obtain⟨n1,n2,n3⟩:=SP (b':={ b with get:=λj=>bif Nat.ble 0 j&&Nat.blt j (0+Nat.min m 0) then A (j-0) else b.get j,flat:=b.flat&&qZ m A V }) hr D q1 q2 cC rfl rfl rfl;refine⟨_,_,_,a,(λI=>by cases I),goInt (Nat.min m 0:Nat),w,?_,g,n1,.aH _ _ (.int _ _),n2,n3⟩;have z:=s.run 0 (wR _);simp only[Nat.zero_mul,List.take_zero] at z;unfold Builtin.copy_;simp only[xv,wO,vZ,Sem.run_bind,qo E,Result.andThen_ok,s.len,Qh O];rw[show Nat.min m 0=0 from Nat.min_zero m,z];rfl
   obtain⟨M,C,arr,W,B⟩:=hr.ey i b D cC (.inr (by rw[N];simp));rw[B.φ] at N;obtain⟨rfl,rfl⟩:=vU (wa N);have fQ:=Kj B.heap e6;rw[←X] at s;have Fx:Nat.min m len<=m:=Nat.min_le_left _ _;have SS:Nat.min m len<=len:=Nat.min_le_right _ _;have Fy:(news.take (Nat.min m len*b.sz)).length=Nat.min m len*b.sz:=by
    rw[vB,s.size];exact Nat.min_eq_left (wJ _ Fx)
   have Y:C+f*b.sz+(news.take (Nat.min m len*b.sz)).length<=arr.size:=by
    rw[Fy];refine wN ?_ fQ;have:f*b.sz+Nat.min m len*b.sz<=(f+cc)*b.sz:=by rw[←wZ];exact wJ _ ae
    omega
   obtain⟨g',f1,dm,aO,bJ⟩:=Iu hr D B (p:=f) (m:=Nat.min m len) (gx:=A) (news:=news.take (Nat.min m len*b.sz)) (λj H=>s.lens j ae) Fy (λj o c H Q=>by
    obtain⟨u,u1,u2,u3⟩:=s.e8 j o c ae Q;refine⟨u,?_,u2,u3⟩;rw[xR,wl ?_]
    .exact u1
    .have rA:=qy Q;rw[s.lens j ae] at rA;have:(j+1)*b.sz<=Nat.min m len*b.sz:=wJ _ H;rw[wZ,xr] at this;omega) (b.flat&&qZ m A V) (λJ=>by
    simp only[wg] at J;exact⟨J.1,λj H=>Qt J.2 s.flat j ae⟩) Y
   refine⟨_,_,_,a,(λI=>by cases I),goInt (Nat.min m len:Nat),_,?_,g',dm,.aH _ _ (.int _ _),aO,bJ⟩;have iz:(storeCells ad (news.take (Nat.min m len*b.sz))).run P w = .ok () (w.setRow M (arr.toList.take (C+f*b.sz)++news.take (Nat.min m len*b.sz)++arr.toList.drop (C+f*b.sz+(news.take (Nat.min m len*b.sz)).length)).toArray):=by
    by_cases z:0<cc
    .rw[e2 z];have:=run_storeCells_at P M (C+f*b.sz) W (news.take (Nat.min m len*b.sz)) 0 arr w B.heap (by simpa using Y) (λv hv=>s.one v (xX hv));simpa using this
    .have e0:Nat.min m len=0:=by omega
     rw[e0];simp only[Nat.zero_mul,List.take_zero,storeCells,vu,vE,xV,xw,Array.toArray_toList];rw[setRow_self w M arr W (0,0) B.heap];rfl
   unfold Builtin.copy_;simp only[xv,wO,vZ,Sem.run_bind,qo E,Result.andThen_ok,s.len,Qh O];rw[←X,s.run _ Fx];simp only[Result.andThen_ok,iz];rfl
  |_=>simp at a
def qdl{t ty:TypeId}{d:T}{cd:Value}{k:Qd R}{r:R}(f:K1 P t d h k=some r)(hr:HR g h w)(hd:g.VR h w d cd) :
 ∃y h' wr,k y h' wr=some r/\(wr=false->h'=h)/\∃v w',(Builtin.clear_ #[t] ty #[cd]).run P w = .ok v w'/\gV g h w y h' v w':=by
 unfold K1 at f;cases he:qT P t with
 |none=>simp[he] at f
 |some e =>
  rw[he] at f;obtain⟨hz,f⟩:=qm f;obtain⟨z,tU,ci,X,x,V,rZ⟩:=ZF (P:=P) (g:=g) (h:=h) (w:=w) hz;have E:=qU he;have S:∀{O:Gh} {h':qa} {w':World},O.VR h' w' (.aK []) (.tuple #[]):=λ{_ _ _}=>VR.iJ rfl (λi c hi=>by simp at hi);cases d with
  |ag =>
   dsimp only at f;obtain rfl:=hd.ag;refine⟨_,_,_,f,λ_=>rfl,.tuple #[],w,?_,.pure hr S⟩;unfold Builtin.clear_;simp[qo E]
  |own i aj a len cap =>
   dsimp only at f;obtain⟨b,D,cC,aD,f⟩:=Zc f;obtain⟨C,f⟩:=qm f;simp only[wg,vf] at C;obtain⟨dM,bv⟩:=C;have bv:=Qg bv;rcases zQ D aD hd with⟨cb,sh,cc,ad,Q,rfl,es,e2,e3,e4,e5,e6,e7⟩|⟨q1,q2,rfl,rfl,q5,rfl⟩
   rotate_left
   .obtain⟨n1,n2,n3⟩:=SP (b':={ b with get:=λj=>bif Nat.ble 0 j&&Nat.blt j (0+0) then Qi P e else b.get j,flat:=b.flat&&(Qi P e).all qG }) hr D q1 q2 cC rfl rfl rfl;refine⟨_,_,_,f,(λJ=>by cases J),.tuple #[],w,?_,g,n1,S,n2,n3⟩;unfold Builtin.clear_;simp[qo E]
   obtain⟨N,B,arr,e',A⟩:=hr.ey i b D cC (.inr (by rw[Q];simp));rw[A.φ] at Q;obtain⟨rfl,rfl⟩:=vU (wa Q);have fQ:=Kj A.heap e6;rw[←dM] at x;have Fy:(Builtin.zeroCells z.cells len).toList.length=len*b.sz:=by rw[xq,size_zeroCells,x]
   have dJ:B+a*b.sz+(Builtin.zeroCells z.cells len).toList.length<=arr.size:=by
    rw[Fy];refine wN ?_ fQ;have:a*b.sz+len*b.sz<=(a+cc)*b.sz:=by rw[←wZ];exact wJ _ ae
    omega
   have fy:∀j o c,j<len->(Qi P e)[o]?=some c->∃u,(Builtin.zeroCells z.cells len).toList[j*b.sz+o]?=some u/\u.oneCell'=true/\g.VR h w c u:=by
    intro j o c I Z;obtain⟨u,U,u2⟩:=rZ o c Z;refine⟨u,?_,V o u U,u2⟩;have:=ZJ X x len j o c I Z;rw[vt];unfold Builtin.zeroCells;rw[x];rw[x] at this;rw[this,U]
   obtain⟨O,f1,dm,aO,bJ⟩:=Iu hr D A (p:=a) (m:=len) (gx:=λ_=>Qi P e) (news:=(Builtin.zeroCells z.cells len).toList) (λj I=>by rw[X,x]) Fy fy
    (b.flat&&(Qi P e).all qG) (λM=>by
     simp only[wg] at M;exact⟨M.1,λj I c C=>wA.1 M.2 c C⟩) dJ
   refine⟨_,_,_,f,(λJ=>by cases J),.tuple #[],_,?_,O,dm,S,aO,bJ⟩;have C8:∀v,v∈(Builtin.zeroCells z.cells len).toList->v.oneCell'=true:=by
    intro v Y;simp only[Builtin.zeroCells,uf,vb] at Y;obtain⟨q,hq,rfl⟩:=Y;have H:q<len*z.cells.size:=by simpa using hq
    have Fz:0<z.cells.size:=by
     rcases vS z.cells.size with s|s
     .rw[s] at H;omega
     .exact s
    have SU:=Nat.mod_lt q Fz;rw[Array.getElem!_eq_getD,wG,wL SU];exact V _ _ (wL SU)
   have iz:0<len->(storeCells ad (Builtin.zeroCells z.cells len).toList).run P w = .ok () (w.setRow N (arr.toList.take (B+a*b.sz)++(Builtin.zeroCells z.cells len).toList++arr.toList.drop (B+a*b.sz+(Builtin.zeroCells z.cells len).toList.length)).toArray):=by
    intro s;rw[e2 ae];have:=run_storeCells_at P N (B+a*b.sz) e' (Builtin.zeroCells z.cells len).toList 0 arr w A.heap (by simpa using dJ) C8;simpa using this
   unfold Builtin.clear_;simp only[xv,wO,Sem.run_bind,qo E,Result.andThen_ok];rcases vS len with s|s
   .subst s;have e0:(Builtin.zeroCells z.cells 0).toList=[]:=by simp[Builtin.zeroCells]
    rw[e0];simp only[vu,vE,xV,xw,Array.toArray_toList];rw[setRow_self w N arr e' (0,0) A.heap];simp
   .cases len with
    |zero=>omega
    |succ n =>
     simp only[Sem.run_bind,tU,Result.andThen_ok,iz s];rfl
  |_=>simp at f
end
section
variable {P:Program} {R:Type} {g:Gh} {h:qa} {w:World}
def Nh{c:T}{v:Value}{U d:Nat->Prop}(hp:qG c=true)(a:VI w U c v):VI w d c v:=by
 cases a<;>first
  |exact .undef _|exact .bool _|exact .int _ _|exact .str _ _ ‹_›
  |(simp[qG] at hp;done)
def Zp{c:T}{v:Value}{d:Nat->Prop}(hp:qG c=true)(a:g.VR h w c v):VI w d c v:=by
 cases a with
 |aH _ _ a=>exact Nh hp a
 |_=>simp[qG] at hp
structure Reads(g:Gh)(h:qa)(w:World)(ex:Wa)(V:Nat->Prop):Prop where
 u:∀b,g.U b->V b
 own:∀i b cb sh,h[i]?=some b->i∉ex->g.φ i=some (cb,sh)->V cb
def Iv{V:Nat->Prop}(d:∀b,g.U b->V b):eE w g.U w V:=λb a=>⟨d b a,rfl⟩
def QE{f:T->T}{l:JO}{o:Nat}{c:T}(a:(l.map f)[o]?=some c):∃d,l[o]?=some d/\c=f d:=by
 rw[wE] at a;cases e:l[o]? with
 |none=>simp[e] at a
 |some d=>rw[e] at a;exact⟨d,rfl,(wa a).symm⟩
def qnC(hr:HR g h w){V:Nat->Prop}{i aj off len:Nat}{cap:Option Nat}{b:aq}{v:Value}(E:h[i]?=some b)(Z:b.aj=aj)(hx:g.VR h w (.own i aj off len cap) v)(bv:off+len<=b.n)
 (S:∀cb sh,g.φ i=some (cb,sh)->V cb) (gg:Nat->JO) (D:∀j,j<len->(gg j).length=b.sz)
 (O:∀(j o:Nat) (c:T) (u:Value),j<len->(gg j)[o]?=some c->∀B:T,(b.get (off+j))[o]?=some B->g.VR h w B u->(b.flat=true->qG B=true)->VI w V c u) (X:b.mp=none:=by assumption) :
 VI w V (.view b.sz len gg cap) v:=by
 rcases zQ E Z hx with⟨cb,sh,cc,ad,z,rfl,es,H,W,U,e5,e6,e7⟩|⟨q1,q2,rfl,rfl,M,rfl⟩
 rotate_left
 .refine .eS _ _ _ ?_;cases cap with
  |none=>exact .inl rfl
  |some c=>exact .inr (by rw[M c rfl])
 obtain⟨gJ,C,Y,e',r⟩:=hr.ey i b E X (.inr (by rw[z];simp));rw[r.φ] at z;obtain⟨rfl,rfl⟩:=vU (wa z);have key:∀j o c,j<len->(gg j)[o]?=some c->∃u,cellAt w ad.block (ad.off+j*b.sz+o) u/\VI w V c u:=by
  intro j o c d a;have s:=H ae;subst s;have J:=qy a;rw[D j d] at J;have bc:=r.len (off+j) ae;have x:(b.get (off+j))[o]?=some (b.get (off+j))[o]:=wj ae;obtain⟨u,k,A⟩:=r.gz (j:=off+j) ae o _ x;refine⟨u,?_,O j o c u d a _ x A (λQ=>r.flat Q _ ae _ (wo x))⟩;dsimp only;rw[wZ] at k;have e:C+off*b.sz+j*b.sz+o=C+(off*b.sz+j*b.sz)+o:=by omega
  rw[e];exact k
 let f:Nat->Nat->Value:=λj o=>(w.cell? ⟨ad.block,ad.off+j*b.sz+o,none⟩).getD Go.undef
 have I:∀j o c,j<len->(gg j)[o]?=some c->cellAt w ad.block (ad.off+j*b.sz+o) (f j o)/\VI w V c (f j o):=by
  intro j o c d a;obtain⟨u,k,A⟩:=key j o c d a;have:f j o=u:=by simp[f,k.1]
  rw[this];exact⟨k,A⟩
 refine .view b.sz len gg cap ad cc f (λ_=>es) (λm N=>(U m N).1) W (λhp _=>?_) D (λj o c d a=>(I j o c d a).1) (λj o c d a=>(I j o c d a).2);have s:=H ae;subst s;exact S _ _ r.φ
def qqW(hr:HR g h w){V:Nat->Prop}{i aj j o:Nat}{b:aq}{v:Value}(A:h[i]?=some b)(S:b.aj=aj)(hx:g.VR h w (.ptr i aj j o) v)(z:j<b.n)
 (N:∀cb sh,g.φ i=some (cb,sh)->V cb) (cells:JO)
 (J:∀(n:Nat) (c:T),cells[n]?=some c->∃e:T,(b.get j)[o+n]?=some e/\∀u:Value,g.VR h w e u->(b.flat=true->qG e=true)->VI w V c u) (O:b.mp=none:=by assumption) :
 VI w V (.vp cells) v:=by
 obtain⟨W,D,_,_,I⟩:=hx.cX;rw[A] at D;obtain rfl:=wa D;obtain⟨cb,sh,C,rfl⟩:=I S;obtain⟨s,r,Q,U,k⟩:=hr.ey i b A O (.inl ae);rw[k.φ] at C;obtain⟨rfl,rfl⟩:=vU (wa C);have key:∀n c,cells[n]?=some c->∃u,cellAt w s (r+j*b.sz+o+n) u/\VI w V c u:=by
  intro n c a;obtain⟨e,B,H⟩:=J n c a;obtain⟨u,f,x⟩:=k.gz z (o+n) e B;exact⟨u,by rw[vG];exact f,H u x (λM=>k.flat M _ z _ (wo B))⟩
 let d:Nat->Value:=λn=>(w.cell? ⟨s,r+j*b.sz+o+n,none⟩).getD Go.undef
 have E:∀n c,cells[n]?=some c->cellAt w s (r+j*b.sz+o+n) (d n)/\VI w V c (d n):=by
  intro n c a;obtain⟨u,f,x⟩:=key n c a;have:d n=u:=by simp[d,f.1]
  rw[this];exact⟨f,x⟩
 exact .vp cells _ d rfl (λ_=>N _ _ k.φ) (λn c a=>(E n c a).1) (λn c a=>(E n c a).2)
def SV{x:T}{v:Value}{V:Nat->Prop}(d:∀b,g.U b->V b)(hx:g.VR h w x v):VI w V (bif zK x then x else .undef) v:=by
 cases a:zK x with
 |true=>exact(jG a hx).ar (Iv d)
 |false=>exact .undef _
def Ze(hr:HR g h w){ex:Wa}{V:Nat->Prop}(E:Reads g h w ex V):∀(d:Nat) (x:T) (v:Value),g.VR h w x v->VI w V (resolve d ex h x) v
 |0,x,v,hx=>SV E.u hx
 |d+1,x,v,hx=>by
  have r:=Ze hr E d;cases x with
  |own i aj Q len cap =>
   simp only[resolve];cases W:ex.contains i with
   |true=>exact .undef _
   |false =>
    have O:i∉ex:=by simpa using W
    simp only[wp];cases A:h[i]? with
    |none=>exact .undef _
    |some b =>
     dsimp only;cases Y:b.mp with
     |some m=>exact .undef _
     |none =>
     simp only[vJ,xx];cases e:(b.aj==aj&&Nat.ble (Q+len) b.n) with
     |false=>exact .undef _
     |true =>
      simp only[wg,vf] at e;have bv:=Qg e.2;have BY:∀j,j<b.n->(b.get j).length=b.sz:=λj U=>by
       obtain⟨cb,J,arr,e',ap⟩:=hr.ey i b A Y (.inl ae);exact ap.len j U
      refine qnC hr A e.1 hx bv (λcb J S=>E.own i b cb J A O S) _ (λj U=>?_) (λj o c u U s B k N M=>?_)
      .cases b.flat with
       |true=>exact BY _ ae
       |false=>simp only[wp,wQ];exact BY _ ae
      .cases I:b.flat with
       |true =>
        rw[I] at s M;simp only[wm] at s;rw[s] at k;obtain rfl:=wa k;exact Zp (M rfl) N
       |false =>
        rw[I] at s;simp only[wp] at s;obtain⟨Z,h1,rfl⟩:=QE s;rw[h1] at k;obtain rfl:=wa k;exact r _ _ N
  |ptr i aj j o =>
   simp only[resolve];cases W:ex.contains i with
   |true=>exact .undef _
   |false =>
    have O:i∉ex:=by simpa using W
    simp only[wp];cases A:h[i]? with
    |none=>exact .undef _
    |some b =>
     dsimp only;cases Y:b.mp with
     |some m=>exact .undef _
     |none =>
     simp only[vJ,xx];cases e:(b.aj==aj&&Nat.blt j b.n) with
     |false=>exact .undef _
     |true =>
      simp only[wg,vf] at e;have aN:=Qb e.2;refine qqW hr A e.1 hx aN (λcb J S=>E.own i b cb J A O S) _ (λn c z=>?_);cases I:b.flat with
      |true =>
       rw[I] at z;simp only[wm,vA] at z;exact⟨c,z,λu a M=>Zp (M rfl) a⟩
      |false =>
       rw[I] at z;simp only[wp] at z;obtain⟨Z,h1,rfl⟩:=QE z;rw[vA] at h1;exact⟨Z,h1,λu a _=>r _ _ a⟩
  |agg l =>
   obtain⟨X,rfl,C,h1,e⟩:=hx.bM;simp only[resolve];refine VI.dc (by simpa using C) h1 (λi c D=>?_);obtain⟨B,k,rfl⟩:=QE D;obtain⟨u,a,H⟩:=e i B k;exact⟨u,a,r _ _ H⟩
  |aK l =>
   obtain⟨X,rfl,C,e⟩:=hx.nk;simp only[resolve];refine VI.iJ (by simpa using C) (λi c D=>?_);obtain⟨B,k,rfl⟩:=QE D;obtain⟨u,a,H⟩:=e i B k;exact⟨u,a,r _ _ H⟩
  |fn f l =>
   obtain⟨X,rfl,C,e⟩:=hx.gG;simp only[resolve];refine VI.oF (by simpa using C) (λi c D=>?_);obtain⟨B,k,rfl⟩:=QE D;obtain⟨u,a,H⟩:=e i B k;exact⟨u,a,r _ _ H⟩
  |iface t x =>
   simp only[resolve];cases hx with
   |aH _ _ N=>cases N with|iface _ _ u a=>exact .iface _ _ _ (r _ _ (.aH _ _ a))
   |iface _ _ u a=>exact .iface _ _ _ (r _ _ a)
  |_=>exact SV E.u hx
def Ni(hr:HR g h w):Reads g h w [] (λb=>b<w.heap.size) :=
 ⟨λb d=>(hr.u b d).1,λi b cb r d _ a=>by
  cases e:b.mp with
  |none =>
   obtain⟨k,s,o,z,f⟩:=hr.ey i b d e (.inr (by rw[a];simp));rw[f.φ] at a;obtain⟨rfl,rfl⟩:=vU (wa a);exact qI f.heap
  |some m =>
   obtain⟨k,h1,j,x⟩:=hr.mp i b m d e;rw[h1] at a;obtain⟨rfl,rfl⟩:=vU (wa a);exact(hr.own _ _ j).2⟩
def qer(hr:HR g h w){x:T}{v:Value}(hx:g.VR h w x v):VI w (λb=>b<w.heap.size) (zo h x) v:=by
 unfold zo;cases a:aH x with
 |true=>exact(ZM a hx).ar (Iv (Ni hr).u)
 |false=>exact Ze hr (Ni hr) 4 x v hx
inductive gO(w:World)(B:Nat)(U:Nat->Prop):T->Value->Wa->Prop
 |vi (x:T) (v:Value) (hv:VI w U x v):gO w B U x v []
 |nw (x:T) (v:Value) (hv:VI w (λb=>U b/\B<=b) x v):gO w B U (.new x) v []
 |fresh (flat:Bool) (sz n:Nat) (gg:Nat->JO) (len:Nat) (cap:Option Nat) (cb sh cc:Nat) (ad:Addr) (arr:Array Value) (e:TypeId)
  (es:ad.spot=none) (e2:0<cc->ad=⟨cb,sh,none⟩) (e3:len<=cc) (e4:∀m,cap=some m->cc=m/\m<=n) (e5:len<=n) (e7:cap=none->n<=cc) (hh:w.heap[cb]?=some (.cells arr e (0,0)))
  (r1:sh+n*sz<=arr.size) (r2:sh+cc*sz<=arr.size) (hl:∀j,j<n->(gg j).length=sz)
  (hc:∀j o c,j<n->(gg j)[o]?=some c->∃u,arr[sh+j*sz+o]?=some u/\u.oneCell'=true/\VI w U c u) (hf:flat=true->∀j,j<n->∀c,c∈gg j->qG c=true) :
  gO w B U (.fresh flat sz n gg len cap) (.slice (some ad) len cc) [cb]
 |AD (flat:Bool) (sz:Nat) (gg:Nat->JO) (cap:Option Nat) (e4:∀m,cap=some m->m=0):gO w B U (.fresh flat sz 0 gg 0 cap) (.slice none 0 0) []
 |sC (m:bp) (cb:Nat) (hm:gU w cb m):gO w B U (.iG m) (.map (some cb)) [cb]
inductive mE(Q:T->Value->Wa->Prop):JO->List Value->Wa->Prop
 |nil:mE Q [] [] []
 |cons (x:T) (v:Value) (X:Wa) (l:JO) (vs:List Value) (Y:Wa) (hx:Q x v X) (hl:mE Q l vs Y):mE Q (x::l) (v::vs) (X++Y)
def lU(w:World)(B:Nat)(U:Nat->Prop)(x:T)(v:Value)(X:Wa):Prop :=
 match x with
 |.agg l=>∃a:Array Value,v = .agg a/\(∀(i:Nat) (u:Value),a[i]?=some u->u.oneCell'=true)/\mE (gO w B U) l a.toList X
 |x=>gO w B U x v X
def oa(w:World)(B:Nat)(U:Nat->Prop)(x:T)(v:Value)(X:Wa):Prop :=
 match x with
 |.aK l=>∃a:Array Value,v = .tuple a/\mE (lU w B U) l a.toList X
 |x=>lU w B U x v X
def RV(w:World)(U:Nat->Prop)(r:T)(v:Value)(w':World):Prop :=
 (RowKit.Below w.heap.size w w'/\w'.drawn<=w'.drawn)/\∃(a:Nat->Prop) (X:Wa),(∀b,U b->a b)/\(∀b,a b->(U b∨w.heap.size<=b)/\b<w'.heap.size)/\X.Nodup ∧
  (∀b,b∈X->w.heap.size<=b/\b<w'.heap.size/\¬a b)/\oa w' w.heap.size a r v X
def HR.rF(hr:HR g h w){cb sh:Nat}{arr:Array Value}{e:TypeId}{b':aq}(B:w.heap[cb]?=some (.cells arr e (0,0)))(A:g.own cb=none)(S:¬g.U cb)(Y:g.base<=cb)
 (Z:sh+b'.n*b'.sz<=arr.size) (bc:∀j,j<b'.n->(b'.get j).length=b'.sz)
 (V:∀j o c,j<b'.n->(b'.get j)[o]?=some c->∃v,arr[sh+j*b'.sz+o]?=some v/\v.oneCell'=true/\g.VR h w c v)
 (Q:b'.flat=true->∀j,j<b'.n->∀c,c∈b'.get j->qG c=true) (cC:b'.mp=none:=by first|rfl|assumption) :
 ∃g',g'.φ h.length=some (cb,sh)/\g'.U=g.U/\g'.bs=g.bs/\(∀k,g'.own k=if k=cb then some (.inl h.length) else g.own k)/\HR g' (h++[b']) w/\z8 g h w g' (h++[b']) w:=by
 have J:cb<w.heap.size:=qI B
 let g':Gh:={ g with φ:=λk=>if k=h.length then some (cb,sh) else g.φ k,own:=λk=>if k=cb then some (.inl h.length) else g.own k }
 have H:z8 g h w g' (h++[b']) w:=by
  refine⟨λk a=>⟨a,rfl⟩,λk x hx=>?_,λk n ci=>ci⟩;have a:=qy hx;exact⟨x,by rw[wx a];exact hx,wc _,λ_=>⟨rfl,rfl,by simp[g',vq a]⟩⟩
 refine⟨g',by simp[g'],rfl,rfl,λk=>rfl,?_,H⟩;refine⟨λk x hx s=>?_,λk a=>?_,λk o d=>?_,hr.base,λk o d=>?_,λk j d=>?_,λk x m hx s=>?_⟩
 .rcases wt k h.length with a|a
  .rw[wx a] at hx;rcases hr.dh k x hx s with⟨I,O,W,X,f⟩|⟨N,M⟩
   rotate_left
   .exact .inr ⟨by simp[g',vq a,N],M⟩
   have z:I≠cb:=by rintro rfl;rw[f.own] at A;cases A
   refine .inl ⟨I,O,W,X,by simp[g',vq a,f.φ],by simp[g',z,f.own],f.heap,f.room,f.len,λj o c C i=>?_,f.flat⟩;obtain⟨v,h1,r,D⟩:=f.cell j o c C i;exact⟨v,h1,r,D.ar H⟩
  ·have E:k=h.length:=by
    have:=qy hx;simp at this;omega
   subst E;simp only[wH (wc _),wW,wO,wi] at hx;subst hx;refine .inl ⟨cb,sh,arr,e,by simp[g'],by simp[g'],B,Z,bc,λj o c C i=>?_,Q⟩;obtain⟨v,h1,r,D⟩:=V j o c C i;exact⟨v,h1,r,D.ar H⟩
 .obtain⟨h1,r⟩:=hr.u k a;have z:k≠cb:=by rintro rfl;exact S a
  exact⟨h1,by simp[g',z,r]⟩
 .by_cases a:k=cb
  .subst a;exact⟨Y,J⟩
  .simp only[g',a,ve] at d;exact hr.own k o d
 .by_cases a:k=cb
  .subst a;exact .inl ⟨arr,e,B⟩
  .simp only[g',a,ve] at d;exact hr.cells k o d
 .rw[wD,xD];by_cases a:k=cb
  .subst a;simp only[g',vH,wi,Sum.inl.injEq] at d;omega
  .simp only[g',a,ve] at d;have:=hr.lt k j d;omega
 .rcases wt k h.length with a|a
  .rw[wx a] at hx;refine hr.eX hx s (by simp[g',vq a]) (λc i=>?_) λ_ _ _=>rfl;have z:c≠cb:=by rintro rfl;rw[i] at A;cases A
   simp[g',z,i]
  ·have E:k=h.length:=by
    have:=qy hx;simp at this;omega
   subst E;simp only[wH (wc _),wW,wO,wi] at hx;subst hx;rw[cC] at s;cases s
def HR.nO(hr:HR g h w){b':aq}(B:b'.n=0)(O:b'.mp=none) :
 ∃g',g'.φ h.length=none/\(∀k,k≠h.length->g'.φ k=g.φ k)/\g'.U=g.U/\g'.bs=g.bs/\g'.own=g.own/\HR g' (h++[b']) w/\z8 g h w g' (h++[b']) w:=by
 let g':Gh:={ g with φ:=λk=>if k=h.length then none else g.φ k }
 have i:z8 g h w g' (h++[b']) w:=by
  refine⟨λk a=>⟨a,rfl⟩,λk x hx=>?_,λk n N=>N⟩;have a:=qy hx;exact⟨x,by rw[wx a];exact hx,wc _,λ_=>⟨rfl,rfl,by simp[g',vq a]⟩⟩
 have last:∀{k:Nat} {x:aq},h.length<=k->(h++[b'])[k]?=some x->k=h.length/\x=b':=by
  intro k x a hx;have H:k=h.length:=by
   have:=qy hx;simp at this;omega
  subst H;simp only[wH (wc _),wW,wO,wi] at hx;exact⟨rfl,hx.symm⟩
 refine⟨g',by simp[g'],λk a=>by simp[g',a],rfl,rfl,rfl,?_,i⟩;refine⟨λk x hx e=>?_,hr.u,hr.own,hr.base,hr.cells,λk j A=>by rw[wD];exact vd (hr.lt k j A) (xH _ _),λk x m hx e=>?_⟩
 .rcases wt k h.length with a|a
  .rw[wx a] at hx;rcases hr.dh k x hx e with⟨I,z,J,M,d⟩|⟨s,r⟩
   .refine .inl ⟨I,z,J,M,by simp[g',vq a,d.φ],d.own,d.heap,d.room,d.len,λj o c C f=>?_,d.flat⟩;obtain⟨v,h1,E,D⟩:=d.cell j o c C f;exact⟨v,h1,E,D.ar i⟩
   .exact .inr ⟨by simp[g',s],r⟩
  .obtain⟨rfl,rfl⟩:=last a hx;exact .inr ⟨by simp[g'],B⟩
 .rcases wt k h.length with a|a
  .rw[wx a] at hx;exact hr.eX hx e (by simp[g',vq a]) (λc f=>f) λ_ _ _=>rfl
  .obtain⟨rfl,rfl⟩:=last a hx;rw[O] at e;cases e
def HR.uY(hr:HR g h w){cb aj:Nat}{f:bp}(hm:gU w cb f)(s:g.own cb=none)(N:¬g.U cb)(V:g.base<=cb) :
 ∃g',g'.φ h.length=some (cb,0)/\g'.U=g.U/\g'.bs=g.bs/\(∀k,g'.own k=if k=cb then some (.inl h.length) else g.own k)/\HR g' (h++[ke aj f]) w/\z8 g h w g' (h++[ke aj f]) w:=by
 have E:cb<w.heap.size:=by obtain⟨es,c,q⟩:=hm.heap;exact qI q
 let g':Gh:={ g with φ:=λk=>if k=h.length then some (cb,0) else g.φ k,own:=λk=>if k=cb then some (.inl h.length) else g.own k }
 have D:z8 g h w g' (h++[ke aj f]) w:=by
  refine⟨λk a=>⟨a,rfl⟩,λk x hx=>?_,λk n W=>W⟩;have a:=qy hx;exact⟨x,by rw[wx a];exact hx,wc _,λ_=>⟨rfl,rfl,by simp[g',vq a]⟩⟩
 refine⟨g',by simp[g'],rfl,rfl,λk=>rfl,?_,D⟩;refine⟨λk x hx i=>?_,λk a=>?_,λk o d=>?_,hr.base,λk o d=>?_,λk j d=>?_,λk x m hx i=>?_⟩
 .rcases wt k h.length with a|a
  .rw[wx a] at hx;rcases hr.dh k x hx i with⟨C,J,Q,S,e⟩|⟨I,H⟩
   rotate_left
   .exact .inr ⟨by simp[g',vq a,I],H⟩
   have r:C≠cb:=by rintro rfl;rw[e.own] at s;cases s
   refine .inl ⟨C,J,Q,S,by simp[g',vq a,e.φ],by simp[g',r,e.own],e.heap,e.room,e.len,λj o c M z=>?_,e.flat⟩;obtain⟨v,h1,A,O⟩:=e.cell j o c M z;exact⟨v,h1,A,O.ar D⟩
  ·have B:k=h.length:=by
    have:=qy hx;simp at this;omega
   subst B;simp only[wH (wc _),wW,wO,wi] at hx;subst hx;cases i
 .obtain⟨h1,A⟩:=hr.u k a;have r:k≠cb:=by rintro rfl;exact N a
  exact⟨h1,by simp[g',r,A]⟩
 .by_cases a:k=cb
  .subst a;exact⟨V,E⟩
  .simp only[g',a,ve] at d;exact hr.own k o d
 .by_cases a:k=cb
  .subst a;simp only[g',vH,wi] at d;subst d;obtain⟨es,c,q⟩:=hm.heap;exact .inr ⟨_,es,c,rfl,q⟩
  .simp only[g',a,ve] at d;exact hr.cells k o d
 .rw[wD,xD];by_cases a:k=cb
  .subst a;simp only[g',vH,wi,Sum.inl.injEq] at d;omega
  .simp only[g',a,ve] at d;have:=hr.lt k j d;omega
 .rcases wt k h.length with a|a
  .rw[wx a] at hx;refine hr.eX hx i (by simp[g',vq a]) (λc z=>?_) λ_ _ _=>rfl;have r:c≠cb:=by rintro rfl;rw[z] at s;cases s
   simp[g',r,z]
  ·have B:k=h.length:=by
    have:=qy hx;simp at this;omega
   subst B;simp only[wH (wc _),wW,wO,wi] at hx;subst hx;obtain rfl:f=m:=wa i;exact⟨cb,by simp[g'],by simp[g'],hm⟩
end
end Go.Ab
