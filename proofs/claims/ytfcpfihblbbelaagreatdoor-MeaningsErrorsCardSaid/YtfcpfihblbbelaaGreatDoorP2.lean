/- A part of the proof: nothing is assumed. -/
import Derived.Test.YtfcpfihblbbelaaGreatDoorP1
import Derived.Laws.Cover1
import Derived.Orders
set_option linter.all false
namespace Go.Ab
section
variable {P:Program} {R:Type} {g:Gh} {h:qa} {w:World}
theorem qcs{op:BinOp}{kx:IntKind}{a b:Int}{t:TypeId}{ox oy:Operand}{k:qO R}{r:R}(hk:qb8 op kx a b h k=some r) :
 ∃y,k y h false=some r/\∃u,(do eqGuard op t ox oy (.int kx a) (.int kx b);binOp op t (.int kx a) (.int kx b):Sem Value).run P w = .ok u w/\g.VR h w y u:=by
 have fin:∀(y:T) (u:Value),k y h false=some r->(eqGuard op t ox oy (.int kx a) (.int kx b)).run P w = .ok () w->(binOp op t (.int kx a) (.int kx b)).run P w = .ok u w->g.VR h w y u →
  ∃y,k y h false=some r/\∃u,(do eqGuard op t ox oy (.int kx a) (.int kx b);binOp op t (.int kx a) (.int kx b):Sem Value).run P w = .ok u w/\g.VR h w y u :=
  fun y u h1 h2 h3 h4=>⟨y,h1,u,by simp[h2,h3],h4⟩
 cases op<;>simp only[qb8] at hk
 case add=>exact fin _ _ hk (by simp[eqGuard]) (by simp[binOp,Op.intArith]) (.imm _ _ (.int _ _))
 case sub=>exact fin _ _ hk (by simp[eqGuard]) (by simp[binOp,Op.intArith]) (.imm _ _ (.int _ _))
 case mul=>exact fin _ _ hk (by simp[eqGuard]) (by simp[binOp,Op.intArith]) (.imm _ _ (.int _ _))
 case quo =>
  rcases qk hk with⟨_,hk⟩|⟨hb,hk⟩
  ·cases hk
  have hb:b≠0:=of_decide_eq_false hb;exact fin _ _ hk (by simp[eqGuard]) (by simp[binOp,Op.intDiv,hb]) (.imm _ _ (.int _ _))
 case rem =>
  rcases qk hk with⟨_,hk⟩|⟨hb,hk⟩
  ·cases hk
  have hb:b≠0:=of_decide_eq_false hb;exact fin _ _ hk (by simp[eqGuard]) (by simp[binOp,Op.intDiv,hb]) (.imm _ _ (.int _ _))
 case and=>exact fin _ _ hk (by simp[eqGuard]) (by simp[binOp,Op.intBits,J6]) (.imm _ _ (.int _ _))
 case or=>exact fin _ _ hk (by simp[eqGuard]) (by simp[binOp,Op.intBits,J6]) (.imm _ _ (.int _ _))
 case xor=>exact fin _ _ hk (by simp[eqGuard]) (by simp[binOp,Op.intBits,J6]) (.imm _ _ (.int _ _))
 case andNot=>exact fin _ _ hk (by simp[eqGuard]) (by simp[binOp,Op.intBits,J6]) (.imm _ _ (.int _ _))
 case lss=>exact fin _ _ hk (by simp[eqGuard]) (by simp[binOp,Op.intCmp]) (.imm _ _ (.bool _))
 case leq=>exact fin _ _ hk (by simp[eqGuard]) (by simp[binOp,Op.intCmp]) (.imm _ _ (.bool _))
 case gtr=>exact fin _ _ hk (by simp[eqGuard]) (by simp[binOp,Op.intCmp]) (.imm _ _ (.bool _))
 case geq=>exact fin _ _ hk (by simp[eqGuard]) (by simp[binOp,Op.intCmp]) (.imm _ _ (.bool _))
 all_goals cases hk
theorem qct{op:BinOp}{a b:List UInt8}{ba bb:ByteArray}{t:TypeId}{ox oy:Operand}{k:qO R}{r:R}(hk:qb9 op a b h k=some r)(ha:ba.data.toList=a)(hb:bb.data.toList=b) :
 ∃y,k y h false=some r/\∃u,(do eqGuard op t ox oy (.string ba) (.string bb);binOp op t (.string ba) (.string bb):Sem Value).run P w = .ok u w/\g.VR h w y u:=by
 have fin:∀(y:T) (u:Value),k y h false=some r->(eqGuard op t ox oy (.string ba) (.string bb)).run P w = .ok () w->(binOp op t (.string ba) (.string bb)).run P w = .ok u w->g.VR h w y u →
  ∃y,k y h false=some r/\∃u,(do eqGuard op t ox oy (.string ba) (.string bb);binOp op t (.string ba) (.string bb):Sem Value).run P w = .ok u w/\g.VR h w y u :=
  fun y u h1 h2 h3 h4=>⟨y,h1,u,by simp[h2,h3],h4⟩
 have e1:Op.bytesLess ba.toList bb.toList=Op.bytesLess a b:=by rw[QK,QK,ha,hb]
 have e2:(ba.toList==bb.toList)=decide (a=b):=by rw[QK,QK,ha,hb,Bool.eq_iff_iff];simp
 cases op<;>simp only[qb9] at hk
 case add =>
  obtain⟨hle,hk⟩:=qc hk;have hle:=qT hle;have s1:=ZW ha;have s2:=ZW hb;refine fin _ (.string (ba++bb)) hk (by simp[eqGuard]) ?_ (.imm _ _ (.str _ _ ?_))
  ·rw[binOp_string_add];exact run_string_add_sum w ba bb (by omega)
  ·rw[ByteArray.data_append,Array.toList_append,ha,hb]
 case lss=>exact fin _ _ hk (by simp[eqGuard]) (by rw[binOp_string_lss,e1];rfl) (.imm _ _ (.bool _))
 case leq=>exact fin _ _ hk (by simp[eqGuard]) (by rw[binOp_string_leq,e1,e2];rfl) (.imm _ _ (.bool _))
 case gtr=>exact fin _ _ hk (by simp[eqGuard]) (by rw[binOp_string_gtr,e1,e2];rfl) (.imm _ _ (.bool _))
 case geq=>exact fin _ _ hk (by simp[eqGuard]) (by rw[binOp_string_geq,e1];rfl) (.imm _ _ (.bool _))
 all_goals cases hk
theorem jl{op:BinOp}{t:TypeId}{x y:T}{ox oy:Operand}{u v:Value}{k:qO R}{r:R}(hk:qca P op t x y h k=some r)(hx:g.VR h w x u)(hy:g.VR h w y v) :
 ∃z,k z h false=some r/\∃c,(do eqGuard op t ox oy u v;binOp op t u v:Sem Value).run P w = .ok c w/\g.VR h w z c:=by
 have arith:YT op x y h k=some r →
  ∃z,k z h false=some r/\∃c,(do eqGuard op t ox oy u v;binOp op t u v:Sem Value).run P w = .ok c w/\g.VR h w z c:=by
  intro hk;unfold YT at hk;cases x with
  |int kx a =>
   cases y with
   |int ky b =>
    obtain⟨hc,hk'⟩:=qc hk;have hkk:=of_decide_eq_true hc;subst hkk;obtain rfl:=hx.int;obtain rfl:=hy.int;exact qcs hk'
   |_=>simp at hk
  |str a =>
   cases y with
   |str b =>
    obtain⟨ba,rfl,ha⟩:=hx.str;obtain⟨bb,rfl,hb⟩:=hy.str;exact qct hk ha hb
   |_=>simp at hk
  |_=>cases y<;>simp at hk
 have shift:(op = .shl∨op = .shr)->yN op x y h k=some r →
  ∃z,k z h false=some r/\∃c,(do eqGuard op t ox oy u v;binOp op t u v:Sem Value).run P w = .ok c w/\g.VR h w z c:=by
  intro hop hk;unfold yN at hk;cases x with
  |int kx a =>
   cases y with
   |int ky b =>
    simp only[KY] at hk;obtain⟨hc,hk'⟩:=qc hk;have hc:=of_decide_eq_true hc;obtain rfl:=hx.int;obtain rfl:=hy.int;have hn:¬b<0:=by omega
    rcases hop with rfl|rfl
    ·exact⟨_,hk',_,by simp[eqGuard,binOp,Op.shift,hn],.imm _ _ (.int _ _)⟩
    ·exact⟨_,hk',_,by simp[eqGuard,binOp,Op.shift,hn],.imm _ _ (.int _ _)⟩
   |_=>simp at hk
  |_=>cases y<;>simp at hk
 cases op<;>simp only[qca] at hk
 case eql =>
  obtain⟨b,hb,hrun⟩:=Jr (ox:=ox) (oy:=oy) (.inl rfl) hk hx hy;exact⟨_,hb,_,hrun,.imm _ _ (.bool _)⟩
 case neq =>
  obtain⟨b,hb,hrun⟩:=Jr (ox:=ox) (oy:=oy) (.inr rfl) hk hx hy;exact⟨_,hb,_,hrun,by simp only[reduceCtorEq,if_false];exact .imm _ _ (.bool _)⟩
 case shl=>exact shift (.inl rfl) hk
 case shr=>exact shift (.inr rfl) hk
 all_goals exact arith hk
theorem qdk{op:UnOp}{x:T}{u:Value}{k:qO R}{r:R}(hk:qc2 op x h k=some r)(hx:g.VR h w x u) :
 ∃z,k z h false=some r/\∃c,(Op.unary op u).run P w = .ok c w/\g.VR h w z c:=by
 unfold qc2 at hk;cases op with
 |not =>
  cases x with
  |bool b =>
   obtain rfl:=hx.bool;exact⟨_,hk,_,by simp[Op.unary],.imm _ _ (.bool _)⟩
  |_=>simp at hk
 |neg =>
  cases x with
  |int kx a =>
   obtain rfl:=hx.int;exact⟨_,hk,_,by simp[Op.unary,Op.intArith],.imm _ _ (.int _ _)⟩
  |_=>simp at hk
 |_=>cases x<;>simp at hk
theorem Js{R:Type}:∀(l:List (List T)) (k:List UInt8->Option R) (r:R),(l.all fun e=>(YU e).isSome)=true->k (l.map fun e=>UInt8.ofNat ((YU e).getD 0).toNat)=some r->z6 l k=some r
 |[],_,_,_,hk=>hk
 |e::l,k,r,hc,hk=>by
  simp only[List.all_cons,Bool.and_eq_true] at hc;simp only[z6];cases he:YU e with
  |none=>rw[he] at hc;cases hc.1
  |some x =>
   refine Js l (fun m=>k (UInt8.ofNat x.toNat::m)) r hc.2 ?_;rw[List.map_cons,he] at hk;exact hk
theorem qbA{R:Type}{gg:Nat->List T}{n:Nat}{k:List UInt8->Option R}{r:R}(hk:Kq gg n k=some r):z6 (Zs gg n) k=some r:=by
 unfold Kq at hk;obtain⟨hc,hk⟩:=qc hk;exact Js _ _ _ hc hk
theorem Ki:∀(l:List (List T)) (k:List UInt8->Option R) (r:R),z6 l k=some r->∃ns:List Int,k (ns.map fun n=>UInt8.ofNat n.toNat)=some r/\l=ns.map fun n=>[T.int .u8 n]
 |[],k,r,hk=>⟨[],hk,rfl⟩
 |e::l,k,r,hk=>by
  simp only[z6] at hk;cases he:YU e with
  |none=>rw[he] at hk;cases hk
  |some n =>
   rw[he] at hk;have e1:e=[T.int .u8 n]:=by
    unfold YU at he;split at he
    ·simp only[Option.some.injEq] at he;rw[he]
    ·cases he
   subst e1;obtain⟨ns,h1,h2⟩:=Ki l _ r hk;exact⟨n::ns,h1,by simp[h2]⟩
theorem qec(ns:List Int):∀b:ByteArray,(ns.foldl (fun r n=>r.push (UInt8.ofNat n.toNat)) b).data.toList=b.data.toList++ns.map fun n=>UInt8.ofNat n.toNat:=by
 induction ns with
 |nil=>intro b;simp
 |cons n ns ih =>
  intro b;rw[List.foldl_cons,ih];have:(b.push (UInt8.ofNat n.toNat)).data.toList=b.data.toList++[UInt8.ofNat n.toNat]:=by
   show(b.data.push _).toList=_;simp
  rw[this];simp
theorem qbB{b off n c:Nat}{gg:Nat->List T}{k:List UInt8->Option R}{r:R}(hk:z6 (Zs gg n) k=some r)
 (hc:∀j,j<n->CellsAt g h w b (off+j) (gg j)) :
 ∃s,k s=some r/\∃ba:ByteArray,(Conv.bytesToString (.slice (some ⟨b,off,none⟩) n c)).run P w = .ok (.string ba) w/\ba.data.toList=s:=by
 obtain⟨ns,h1,h2⟩:=Ki _ _ _ hk;refine⟨_,h1,_,run_bytesToString w _ n c ns ?_,?_⟩
 ·have hn:ns.length=n:=by have:=congrArg List.length h2;simp[Zs] at this;exact this.symm
  have:=run_loadCells_list (P:=P) w ⟨b,off,none⟩ (ns.map (Value.int .u8)) (fun j v hj=>by
   rw[Qs];simp only[List.getElem?_map,Option.map_eq_some_iff] at hj;obtain⟨m,hm,rfl⟩:=hj;have hjn:j<n:=by
    rcases Nat.lt_or_ge j ns.length with hq|hq
    ·omega
    ·simp[List.getElem?_eq_none hq] at hm
   have e:gg j=[T.int .u8 m]:=by
    have:=congrArg (·[j]?) h2;simp only[Zs,List.getElem?_map,List.getElem?_range hjn,Option.map_some,hm,Option.some.injEq] at this;exact this
   obtain⟨u,hu,hr⟩:=hc j hjn 0 (.int .u8 m) (by rw[e];rfl);rw[hr.int] at hu;exact hu.1)
  rw[←hn];simpa using this
 ·rw[qec];simp
theorem yW{src dst:TypeId}{x:T}{u:Value}{k:qO R}{r:R}(hk:Z3 P src dst x h k=some r)(hr:HR g h w)(hx:g.VR h w x u)(hs:∃d,P.underlying src=some d) :
 ∃z,k z h false=some r/\∃c,(convert src dst u).run P w = .ok c w/\g.VR h w z c:=by
 obtain⟨ds,hs⟩:=hs;unfold Z3 at hk;cases x with
 |int kx n =>
  dsimp only at hk;cases hd:P.underlying dst with
  |none=>simp[hd] at hk
  |some d =>
   rw[hd] at hk;cases d with
   |int kd =>
    obtain rfl:=hx.int;exact⟨_,hk,_,by simp[convert,qe hs,qe hd,Conv.intToInt],.imm _ _ (.int _ _)⟩
   |_=>simp at hk
 |str s =>
  dsimp only at hk;cases hd:P.underlying dst with
  |none=>simp[hd] at hk
  |some d =>
   rw[hd] at hk;cases d with
   |string =>
    obtain⟨b,rfl,hb⟩:=hx.str;exact⟨_,hk,.string b,by simp[convert,qe hs,qe hd],.imm _ _ (.str _ _ hb)⟩
   |_=>simp at hk
 |nils =>
  dsimp only at hk;rw[hs] at hk;cases hd:P.underlying dst with
  |none=>cases ds<;>simp[hd] at hk
  |some d =>
   rw[hd] at hk;cases ds with
   |slice e =>
    cases d with
    |string =>
     dsimp only at hk;cases he:P.underlying e with
     |none=>simp[he] at hk
     |some de =>
      rw[he] at hk
      match de,hk with
      |.int .u8,hk =>
       obtain rfl:=hx.nils;exact⟨_,hk,.string .empty,by rw[run_convert_bytes_string w src dst e none 0 0 hs he hd];rfl,.imm _ _ (.str _ _ rfl)⟩
    |_=>simp at hk
   |_=>simp at hk
 |view sz n gg cap =>
  dsimp only at hk;rw[hs] at hk;cases hd:P.underlying dst with
  |none=>cases ds<;>simp[hd] at hk
  |some d =>
   rw[hd] at hk;cases ds with
   |slice e =>
    cases d with
    |string =>
     dsimp only at hk;cases he:P.underlying e with
     |none=>simp[he] at hk
     |some de =>
      rw[he] at hk
      match de,hk with
      |.int .u8,hk =>
       obtain⟨hz,hk0⟩:=qc hk;have hkB:=qbA hk0;clear hk hk0;have hz:sz=1:=by simpa using hz
       subst hz;cases hx.view with
       |vnil _ _ _ _ =>
        simp only[Zs,List.range_zero,List.map_nil,z6] at hkB;exact⟨_,hkB,.string .empty,by rw[run_convert_bytes_string w src dst e none 0 0 hs he hd];rfl,.imm _ _ (.str _ _ rfl)⟩
       |view _ _ _ _ a cc vs hsp hcap hn hU hl hcl hv =>
        rcases Nat.eq_zero_or_pos n with hn0|hn0
        ·subst hn0;simp only[Zs,List.range_zero,List.map_nil,z6] at hkB;refine⟨_,hkB,.string .empty,?_,.imm _ _ (.str _ _ rfl)⟩;rw[run_convert_bytes_string w src dst e _ 0 cc hs he hd];simp[Conv.bytesToString,loadCells,loadCellsFrom]
        ·obtain⟨s,h1,ba,h2,h3⟩:=qbB (P:=P) (g:=g) (h:=h) (w:=w) (b:=a.block) (off:=a.off) (c:=cc) hkB (fun j hj o c ho=>⟨vs j o,by have:=hcl j o c hj ho;rwa[Nat.mul_one] at this,.imm _ _ (hv j o c hj ho)⟩);refine⟨_,h1,.string ba,?_,.imm _ _ (.str _ _ h3)⟩;rw[run_convert_bytes_string w src dst e _ n cc hs he hd,qan (hsp (by omega))];exact h2
    |_=>simp at hk
   |_=>simp at hk
 |own i ver off len cap =>
  dsimp only at hk;rw[hs] at hk;cases hd:P.underlying dst with
  |none=>cases ds<;>simp[hd] at hk
  |some d =>
   rw[hd] at hk;cases ds with
   |slice e =>
    cases d with
    |string =>
     dsimp only at hk;cases he:P.underlying e with
     |none=>simp[he] at hk
     |some de =>
      rw[he] at hk
      match de,hk with
      |.int .u8,hk =>
       obtain⟨b,hb,hmp,hver,hk⟩:=zm hk;obtain⟨hc,hk⟩:=qc hk;simp only[Bool.and_eq_true,beq_iff_eq] at hc;obtain⟨hz,hle⟩:=hc;have hle:=qT hle;replace hk:=qbA hk;rcases Q6 hb hver hx with⟨cb,sh,cc,ad,e1,rfl,es,e2,e3,e4,e5,e6,e7⟩|⟨_,_,_,rfl,_,rfl⟩
       rotate_left
       ·simp only[Zs,List.range_zero,List.map_nil,z6] at hk;exact⟨_,hk,.string .empty,by rw[run_convert_bytes_string w src dst e none 0 0 hs he hd];rfl,.imm _ _ (.str _ _ rfl)⟩
       obtain⟨cb',sh',arr,e',hok⟩:=hr.blk i b hb hmp (.inr (by rw[e1];simp));rw[hok.φ] at e1;obtain⟨rfl,rfl⟩:=Prod.mk.inj (Option.some.inj e1);by_cases h0:0<cc
       ·have had:=e2 h0;subst had;obtain⟨s,h1,ba,h2,h3⟩:=qbB (P:=P) (g:=g) (h:=h) (w:=w) (b:=cb') (off:=sh'+off*b.sz) (c:=cc) hk (fun j hj o c ho=>by
         have:=hok.cellsAt (j:=off+j) (by omega) o c ho;rw[hz] at this ⊢;simpa [Nat.add_assoc] using this)
        refine⟨_,h1,.string ba,?_,.imm _ _ (.str _ _ h3)⟩;rw[run_convert_bytes_string w src dst e _ len cc hs he hd];exact h2
       ·have hl0:len=0:=by omega
        subst hl0;simp only[Zs,List.range_zero,List.map_nil,z6] at hk;refine⟨_,hk,.string .empty,?_,.imm _ _ (.str _ _ rfl)⟩;rw[run_convert_bytes_string w src dst e _ 0 cc hs he hd];simp[Conv.bytesToString,loadCells,loadCellsFrom]
    |_=>simp at hk
   |_=>simp at hk
 |_=>simp at hk
theorem jm{t ty:TypeId}{x:T}{u:Value}{k:qO R}{r:R}{ts:Array TypeId}(hk:Kr P t x h k=some r)(hx:g.VR h w x u)(ht:ts[0]?=some t) :
 ∃z,k z h false=some r/\∃c,(Builtin.len_ ts ty #[u]).run P w = .ok c w/\g.VR h w z c:=by
 unfold Kr at hk;cases x with
 |str s =>
  obtain⟨hs,hk⟩:=qc hk;obtain⟨b,rfl,hb⟩:=hx.str;refine⟨_,hk,goInt b.size,by simp[Builtin.len_,ht,qe (kb hs)],?_⟩;rw[ZW hb];exact .imm _ _ (.int _ _)
 |nils =>
  obtain⟨hs,hk⟩:=qc hk;obtain⟨e,he⟩:=Option.isSome_iff_exists.1 hs;obtain rfl:=hx.nils;exact⟨_,hk,goInt 0,by simp[Builtin.len_,ht,qe (qH he)],.imm _ _ (.int _ _)⟩
 |view sz n gg cap =>
  obtain⟨hs,hk'⟩:=qc hk;clear hk;have hk:=hk';clear hk';obtain⟨e,he⟩:=Option.isSome_iff_exists.1 hs;cases hx.view with
  |vnil _ _ _ _=>exact⟨.int .i64 0,hk,goInt 0,by simp[Builtin.len_,ht,qe (qH he)],.imm _ _ (.int _ _)⟩
  |view _ _ _ _ a cc vs _ _ _ _ _ _ _=>exact⟨_,hk,goInt n,by simp[Builtin.len_,ht,qe (qH he)],.imm _ _ (.int _ _)⟩
 |own i ver off len cap =>
  obtain⟨hs,hk⟩:=qc hk;obtain⟨e,he⟩:=Option.isSome_iff_exists.1 hs;obtain⟨b,hb,hmp,hver,hk⟩:=zm hk;rcases Q6 hb hver hx with⟨cb,sh,cc,ad,e1,rfl,_⟩|⟨_,_,_,rfl,_,rfl⟩
  rotate_left
  ·exact⟨_,hk,goInt 0,by simp[Builtin.len_,ht,qe (qH he)],.imm _ _ (.int _ _)⟩
  exact⟨_,hk,goInt len,by simp[Builtin.len_,ht,qe (qH he)],.imm _ _ (.int _ _)⟩
 |agg l =>
  dsimp only at hk;cases ha:Qu P t with
  |none=>simp[ha] at hk
  |some p =>
   obtain⟨n,e⟩:=p;rw[ha] at hk;obtain⟨cs,rfl,_⟩:=hx.agg_inv;exact⟨_,hk,goInt n,by simp[Builtin.len_,ht,qe (Zn ha)],.imm _ _ (.int _ _)⟩
 |_=>simp at hk
theorem jn{t ty:TypeId}{x:T}{u:Value}{k:qO R}{r:R}{ts:Array TypeId}(hk:qcb P t x h k=some r)(hx:g.VR h w x u)(ht:ts[0]?=some t) :
 ∃z,k z h false=some r/\∃c,(Builtin.cap_ ts ty #[u]).run P w = .ok c w/\g.VR h w z c:=by
 unfold qcb at hk;obtain⟨hs,hk⟩:=qc hk;obtain⟨e,he⟩:=Option.isSome_iff_exists.1 hs;cases x with
 |nils =>
  obtain rfl:=hx.nils;exact⟨_,hk,goInt 0,by simp[Builtin.cap_,ht,qe (qH he)],.imm _ _ (.int _ _)⟩
 |view sz n gg cap =>
  cases cap with
  |none=>simp at hk
  |some c =>
   cases hx.view with
   |vnil _ _ _ hcn =>
    have h0:c=0:=by simpa using hcn
    subst h0;exact⟨_,hk,goInt 0,by simp[Builtin.cap_,ht,qe (qH he)],.imm _ _ (.int _ _)⟩
   |view _ _ _ _ a cc vs _ hcap _ _ _ _ _ =>
    obtain rfl:=hcap c rfl;exact⟨_,hk,goInt _,by simp[Builtin.cap_,ht,qe (qH he)],.imm _ _ (.int _ _)⟩
 |own i ver off len cap =>
  cases cap with
  |none=>simp at hk
  |some c =>
   obtain⟨b,hb,hmp,hver,hk'⟩:=zm hk;rcases Q6 hb hver hx with⟨cb,sh,cc,ad,e1,rfl,_,_,_,e4,_⟩|⟨_,_,_,rfl,q5,rfl⟩
   rotate_left
   ·obtain rfl:=q5 c rfl;exact⟨_,hk',goInt 0,by simp[Builtin.cap_,ht,qe (qH he)],.imm _ _ (.int _ _)⟩
   obtain rfl:=(e4 c rfl).1;exact⟨_,hk',goInt _,by simp[Builtin.cap_,ht,qe (qH he)],.imm _ _ (.int _ _)⟩
 |_=>simp at hk
theorem Zt{mx:Bool}{ty:TypeId}{ts:Array TypeId}{x y:T}{u v:Value}{k:qO R}{r:R}(hk:kH mx x y h k=some r)(hx:g.VR h w x u)(hy:g.VR h w y v) :
 ∃z,k z h false=some r/\∃c,(if mx then Builtin.max_ ts ty #[u,v] else Builtin.min_ ts ty #[u,v]).run P w = .ok c w/\g.VR h w z c:=by
 unfold kH at hk;cases x with
 |int kx a =>
  cases y with
  |int ky b =>
   obtain⟨hc,hk⟩:=qc hk;obtain rfl:=hx.int;obtain rfl:=hy.int;refine⟨_,hk,_,?_,.imm _ _ (.int _ _)⟩;cases mx
   ·simp[Builtin.min_,Builtin.min2,Bool.cond_eq_ite]
   ·simp[Builtin.max_,Builtin.max2,Bool.cond_eq_ite]
  |_=>simp at hk
 |_=>cases y<;>simp at hk
theorem jo{x:T}{u:Value}{k:qO R}{r:R}(hk:J7 x h k=some r)(hx:g.VR h w x u) :
 k x h false=some r/\((∃a,u = .pointer (some a))∨∃f cs,u = .func (.func f) #[] cs):=by
 unfold J7 at hk;cases x with
 |vp cells =>
  obtain⟨b,o,rfl,_⟩:=Kw hx;exact⟨hk,.inl ⟨_,rfl⟩⟩
 |ptr i ver j o =>
  obtain⟨b,hb,hmp,hver,hk⟩:=zm hk;obtain⟨b',hb',_,_,hp⟩:=hx.ptr_inv;rw[hb] at hb';obtain rfl:=Option.some.inj hb';obtain⟨cb,sh,e1,rfl⟩:=hp hver;exact⟨hk,.inl ⟨_,rfl⟩⟩
 |fn f caps =>
  obtain⟨cs,rfl,_⟩:=hx.fn_inv;exact⟨hk,.inr ⟨_,_,rfl⟩⟩
 |_=>simp at hk
end
section
variable {P:Program} {R:Type} {g:Gh} {h:qa} {w:World}
def YG(gg:Nat->List T)(n:Nat):List T:=(List.range n).flatMap gg
theorem Kz(gg:Nat->List T)(n:Nat):YG gg (n+1)=YG gg n++gg n:=by simp[YG,List.range_succ]
theorem ZK{gg:Nat->List T}{sz:Nat}:∀{n:Nat},(∀j,j<n->(gg j).length=sz)->(YG gg n).length=n*sz
 |0,_=>by simp[YG]
 |n+1,hl=>by rw[Kz,List.length_append,ZK (fun j hj=>hl j (by omega)),hl n (by omega),Nat.add_mul,Nat.one_mul]
theorem qbC{gg:Nat->List T}{sz:Nat}:∀{n:Nat},(∀j,j<n->(gg j).length=sz)->∀j o,j<n->o<sz->(YG gg n)[j*sz+o]?=(gg j)[o]?
 |0,_,j,o,hj,_=>by omega
 |n+1,hl,j,o,hj,ho=>by
  have hlen:=ZK (fun j hj=>hl j (by omega)) (n:=n) (gg:=gg) (sz:=sz);rw[Kz];rcases Nat.lt_or_ge j n with hlt|hge
  ·have:(j+1)*sz<=n*sz:=Nat.mul_le_mul_right _ hlt;rw[Nat.add_mul,Nat.one_mul] at this;rw[List.getElem?_append_left (by omega)];exact qbC (fun j hj=>hl j (by omega)) j o hlt ho
  ·obtain rfl:j=n:=by omega
   rw[List.getElem?_append_right (by omega),hlen];congr 1;omega
theorem qbD{gg:Nat->List T}{sz:Nat}:∀{n:Nat},(∀j,j<n->(gg j).length=sz)->∀p c,(YG gg n)[p]?=some c->∃j o,j<n/\o<sz/\p=j*sz+o/\(gg j)[o]?=some c
 |0,_,p,c,hp=>by simp[YG] at hp
 |n+1,hl,p,c,hp=>by
  have hlen:=ZK (fun j hj=>hl j (by omega)) (n:=n) (gg:=gg) (sz:=sz);rw[Kz] at hp;rcases Nat.lt_or_ge p (YG gg n).length with hlt|hge
  ·rw[List.getElem?_append_left hlt] at hp;obtain⟨j,o,h1,h2⟩:=qbD (fun j hj=>hl j (by omega)) p c hp;exact⟨j,o,by omega,h2⟩
  ·rw[List.getElem?_append_right hge] at hp;refine⟨n,p-n*sz,by omega,?_,by omega,by rw[←hlen];exact hp⟩;rcases Nat.lt_or_ge (p-(YG gg n).length) (gg n).length with hq|hq
   ·rw[hl n (by omega),hlen] at hq;exact hq
   ·rw[List.getElem?_eq_none hq] at hp;cases hp
structure Src(P:Program)(g:Gh)(h:qa)(w:World)(sz:Nat)(v:Value)(m:Nat)(gx:Nat->List T)(fl:Bool)(news:List Value):Prop where
 len:(Builtin.lenOf v).run P w = .ok m w
 run:∀m',m'<=m->(Builtin.firstCells sz m' v).run P w = .ok (news.take (m'*sz)).toArray w
 runD:(Builtin.firstCells sz m v).run P w.drew = .ok news.toArray w.drew
 size:news.length=m*sz
 one:∀u∈news,u.oneCell'=true
 lens:∀j,j<m->(gx j).length=sz
 cell:∀j o c,j<m->(gx j)[o]?=some c->∃u,news[j*sz+o]?=some u/\g.VR h w c u
 flat:fl=true->∀j,j<m->∀c,c∈gx j->qw c=true
theorem jp{sz m cc b off:Nat}{gx:Nat->List T}{fl:Bool}{ad:Addr}(had:0<cc->ad=⟨b,off,none⟩)(hmc:m<=cc)(hl:∀j,j<m->(gx j).length=sz)
 (hc:∀j,j<m->CellsAt g h w b (off+j*sz) (gx j)) (hf:fl=true->∀j,j<m->∀c,c∈gx j->qw c=true):∃news,Src P g h w sz (.slice (some ad) m cc) m gx fl news:=by
 have hlen:=ZK hl;have hat:CellsAt g h w b off (YG gx m):=by
  intro p c hp;obtain⟨j,o,h1,h2,rfl,h4⟩:=qbD hl p c hp;obtain⟨v,hv,hr⟩:=hc j h1 o c h4;exact⟨v,by rw[←Nat.add_assoc];exact hv,hr⟩
 obtain⟨vs,h1,h2,h3⟩:=Kv hat _ (Nat.le_refl _);refine⟨vs,by simp[Builtin.lenOf],fun m' hm'=>?_,?_,by rw[h1,hlen],fun u hu=>?_,hl,fun j o c hj ho=>?_,hf⟩
 ·simp only[Builtin.firstCells];by_cases h0:0<cc
  ·rw[had h0];have hle:m'*sz<=m*sz:=Nat.mul_le_mul_right _ hm';have e:(vs.take (m'*sz)).length=m'*sz:=by rw[List.length_take,h1,hlen];omega
   have:=run_loadCells_list (P:=P) w ⟨b,off,none⟩ (vs.take (m'*sz)) (fun j v hj=>by
    rw[Qs];rw[List.getElem?_take] at hj;split at hj
    ·exact(h2 j v hj).1
    ·cases hj)
   rw[e] at this;exact this
  ·have e:m'=0:=by omega
   subst e;simp[loadCells,loadCellsFrom]
 ·simp only[Builtin.firstCells];by_cases h0:0<cc
  ·rw[had h0];have:=run_loadCells_list (P:=P) w.drew ⟨b,off,none⟩ vs (fun j v hj=>by rw[Qs];exact(h2 j v hj).1);rw[h1,hlen] at this;exact this
  ·have e:m=0:=by omega
   subst e;have e2:vs=[]:=by simpa [YG] using h1
   simp[loadCells,loadCellsFrom,e2]
 ·obtain⟨p,hp⟩:=List.mem_iff_getElem?.1 hu;exact(h2 p u hp).2
 ·have hos:o<sz:=by
   rcases Nat.lt_or_ge o (gx j).length with hq|hq
   ·rw[hl j hj] at hq;exact hq
   ·rw[List.getElem?_eq_none hq] at ho;cases ho
  have hlt:j*sz+o<m*sz:=by
   have:(j+1)*sz<=m*sz:=Nat.mul_le_mul_right _ hj;rw[Nat.add_mul,Nat.one_mul] at this;omega
  exact h3 _ c (by rw[hlen];exact hlt) (by rw[qbC hl j o hj hos];exact ho)
theorem Yn{sz:Nat}{x:T}{v:Value}{k:Nat->(Nat->List T)->Bool->Option R}{r:R}(hk:YV sz x h k=some r)(hr:HR g h w)(hx:g.VR h w x v) :
 ∃m gx fl news,k m gx fl=some r/\Src P g h w sz v m gx fl news:=by
 unfold YV at hk;cases x with
 |nils =>
  obtain rfl:=hx.nils;refine⟨0,_,true,[],hk,⟨by simp[Builtin.lenOf],fun m' _=>by simp[Builtin.firstCells],by simp[Builtin.firstCells],by simp,by simp,fun j hj=>by omega,fun j o c hj=>by omega,fun _ j hj=>by omega⟩⟩
 |view sz' n gg cap =>
  obtain⟨hs,hk'⟩:=qc hk;clear hk;have hs:sz'=sz:=by simpa using hs
  subst hs;cases hx.view with
  |vnil _ _ _ _=>exact⟨0,gg,false,[],hk',⟨by simp[Builtin.lenOf],fun m' _=>by simp[Builtin.firstCells],by simp[Builtin.firstCells],by simp,by simp,fun j hj=>by omega,fun j o c hj=>by omega,fun hf=>by cases hf⟩⟩
  |view _ _ _ _ a cc vs hsp hcap hn hU hl hcl hv =>
   obtain⟨news,hsrc⟩:=jp (P:=P) (g:=g) (h:=h) (w:=w) (sz:=sz') (m:=n) (cc:=cc) (b:=a.block) (off:=a.off) (gx:=gg) (fl:=false) (ad:=a) (fun h0=>qan (hsp h0)) hn hl
    (fun j hj o c ho=>⟨vs j o,hcl j o c hj ho,.imm _ _ (hv j o c hj ho)⟩) (fun hf=>by cases hf)
   exact⟨n,gg,false,news,hk',hsrc⟩
 |own i ver off len cap =>
  obtain⟨b,hb,hmp,hver,hk⟩:=zm hk;obtain⟨hc,hk'⟩:=qc hk;clear hk;simp only[Bool.and_eq_true,beq_iff_eq] at hc;obtain⟨hs,hle⟩:=hc;have hle:=qT hle;subst hs;rcases Q6 hb hver hx with⟨cb,sh,cc,ad,e1,rfl,es,e2,e3,e4,e5,e6,e7⟩|⟨_,q2,_,rfl,_,rfl⟩
  rotate_left
  ·exact⟨0,_,b.flat,[],hk',⟨by simp[Builtin.lenOf],fun m' _=>by simp[Builtin.firstCells],by simp[Builtin.firstCells],by simp,by simp,fun j hj=>by omega,fun j o c hj=>by omega,fun _ j hj=>by omega⟩⟩
  obtain⟨cb',sh',arr,e',hok⟩:=hr.blk i b hb hmp (.inr (by rw[e1];simp));rw[hok.φ] at e1;obtain⟨rfl,rfl⟩:=Prod.mk.inj (Option.some.inj e1);obtain⟨news,hsrc⟩:=jp (P:=P) (g:=g) (h:=h) (w:=w) (sz:=b.sz) (m:=len) (cc:=cc) (b:=cb') (off:=sh'+off*b.sz) (gx:=fun j=>b.get (off+j)) (fl:=b.flat) (ad:=ad) e2 e3
   (fun j hj=>hok.len _ (by omega)) (fun j hj=>by
    have:=hok.cellsAt (j:=off+j) (by omega);rw[Nat.add_mul,←Nat.add_assoc] at this;exact this) (fun hf j hj=>hok.flat hf _ (by omega))
  exact⟨len,_,b.flat,news,hk',hsrc⟩
 |str s =>
  obtain⟨hs,hk⟩:=qc hk;have hs:sz=1:=by simpa using hs
  subst hs;obtain⟨b,rfl,hb⟩:=hx.str;have hsz:=ZW hb;refine⟨s.length,_,true,s.map fun c=>.int .u8 c.toNat,hk,⟨by simp[Builtin.lenOf,hsz],fun m' hm'=>?_,?_,by simp,fun u hu=>?_,fun j hj=>rfl,fun j o c hj ho=>?_,fun _ j hj c hc=>?_⟩⟩
  ·simp only[Builtin.firstCells,Sem.run_pure];congr 1;apply Array.ext';rw[Array.toList_map,Yl,hb];simp
  ·simp only[Builtin.firstCells,Sem.run_pure];congr 1;apply Array.ext';rw[Array.toList_map,Yl,hb];simp
  ·obtain⟨c,_,rfl⟩:=List.mem_map.1 hu;rfl
  ·cases o with
   |zero =>
    simp only[List.getElem?_cons_zero,Option.some.injEq] at ho;subst ho;refine⟨.int .u8 ((s.getD j 0).toNat:Int),?_,.imm _ _ (.int _ _)⟩;have:s[j]?=some s[j]:=List.getElem?_eq_getElem hj;simp[List.getD,this]
   |succ o=>simp at ho
  ·simp at hc;subst hc;rfl
 |_=>simp at hk
theorem Kj(c:T):qw (Yf c)=true:=by
 unfold Yf;cases hp:qw c with
 |true=>exact hp
 |false=>rfl
theorem qav{c:T}{v:Value}(hv:g.VR h w c v):g.VR h w (Yf c) v:=by
 unfold Yf;cases hp:qw c with
 |true=>exact hv
 |false=>exact .imm _ _ (.undef _)
theorem Src.plain{sz:Nat}{v:Value}{m:Nat}{gx:Nat->List T}{fl:Bool}{news:List Value}(hs:Src P g h w sz v m gx fl news):Src P g h w sz v m (fun j=>(gx j).map Yf) true news:=by
 refine⟨hs.len,hs.run,hs.runD,hs.size,hs.one,fun j hj=>by rw[List.length_map];exact hs.lens j hj,fun j o c hj ho=>?_,fun _ j hj c hc=>?_⟩
 ·rw[List.getElem?_map] at ho;obtain⟨c0,h0,rfl⟩:=Option.map_eq_some_iff.1 ho;obtain⟨u,h1,h2⟩:=hs.cell j o c0 hj h0;exact⟨u,h1,qav h2⟩
 ·obtain⟨c0,h0,rfl⟩:=List.mem_map.1 hc;exact Kj c0
theorem Kk{pl:Bool}{sz:Nat}{x:T}{v:Value}{k:Nat->(Nat->List T)->Bool->Option R}{r:R}(hk:yo pl sz x h k=some r)(hr:HR g h w)(hx:g.VR h w x v) :
 ∃m gx fl news,k m gx fl=some r/\Src P g h w sz v m gx fl news:=by
 unfold yo at hk;obtain⟨m,gx,fl,news,hk,hs⟩:=Yn (P:=P) hk hr hx;cases fl with
 |true=>exact⟨m,gx,true,news,hk,hs⟩
 |false =>
  cases pl with
  |false=>exact⟨m,gx,false,news,hk,hs⟩
  |true =>
   refine⟨m,_,true,news,hk,hs.len,hs.run,hs.runD,hs.size,hs.one,fun j hj=>by rw[List.length_map];exact hs.lens j hj,fun j o c hj ho=>?_,fun _ j hj c hc=>?_⟩
   ·rw[List.getElem?_map] at ho;obtain⟨c0,h0,rfl⟩:=Option.map_eq_some_iff.1 ho;obtain⟨u,h1,h2⟩:=hs.cell j o c0 hj h0;exact⟨u,h1,qav h2⟩
   ·obtain⟨c0,h0,rfl⟩:=List.mem_map.1 hc;exact Kj c0
theorem qbE(need:Nat)(hn:256<=need):∀r c,c<=2*need->Builtin.growBy need r c<=2*need
 |0,c,hc=>hc
 |r+1,c,hc=>by
  unfold Builtin.growBy;split
  ·exact hc
  ·exact qbE need hn r _ (by omega)
theorem qed{need old:Nat}(ho:old<need):Builtin.nextslicecap need old<=2*need:=by
 unfold Builtin.nextslicecap;split
 ·omega
 ·split
  ·omega
  ·exact qbE need (by omega) 4 old (by omega)
theorem Src.all{sz m:Nat}{v:Value}{gx:Nat->List T}{fl:Bool}{news:List Value}(hs:Src P g h w sz v m gx fl news):(Builtin.firstCells sz m v).run P w = .ok news.toArray w:=by
 have:=hs.run m (Nat.le_refl _);rwa[←hs.size,List.take_length] at this
theorem Q7{t tx ty e:TypeId}{base:Option Addr}{len cc m:Nat}{v:Value}{gx:Nat->List T}{fl:Bool}{news:List Value}{w':World}(ht:P.underlying t=some (.slice e))(hk:QP P e=true)
 (hx:∃d,P.underlying tx=some d/\∀k,d≠.int k) (hs:Src P g h w (qz P e) v m gx fl news) (hle:len+m<=cc)
 (hst:match base with|some a=>(storeCells (a.add (len*qz P e)) news).run P w = .ok () w'|none=>w'=w) :
 (Builtin.append_ #[t,tx] ty #[.slice base len cc,v]).run P w = .ok (.slice base (len+m) cc) w':=by
 obtain⟨d,hd,hni⟩:=hx;have hz:(match d with|.int _=>true|_=>false)=false:=by
  cases d<;>first|rfl|exact absurd rfl (hni _)
 unfold Builtin.append_;simp only[List.getElem?_toArray,List.getElem?_cons_zero,List.getElem?_cons_succ,Sem.run_bind,qe ht,Result.andThen_ok,qR hk,qe hd,Sem.run_pure,hs.len,Bool.false_eq_true,if_false,Bool.not_false,if_true,hle,hs.all];cases base with
 |none=>subst hst;rfl
 |some a=>simp only[Sem.run_bind,hst,Result.andThen_ok];rfl
theorem zn{t tx ty e:TypeId}{base:Option Addr}{len cc m:Nat}{v:Value}{gx:Nat->List T}{fl:Bool}{news olds:List Value}{z:Value}(ht:P.underlying t=some (.slice e))(hk:QP P e=true)
 (hz:(zeroValue e).run P w.drew = .ok z w.drew) (hx:∃d,P.underlying tx=some d/\∀k,d≠.int k) (hs:Src P g h w (qz P e) v m gx fl news)
 (ho':(Builtin.firstCells (qz P e) len (.slice base len cc)).run P w.drew = .ok olds.toArray w.drew)
 (hgt:cc<len+m) (hle:(len+m)*(ym P e+1)<=70368744177664) :
 ∃nc,len+m<=nc/\(Builtin.append_ #[t,tx] ty #[.slice base len cc,v]).run P w =
  .ok (.slice (some ⟨w.heap.size,0,none⟩) (len+m) nc) (w.drew.alloc (.cells (olds.toArray++news.toArray++Builtin.zeroCells z.cells (nc-(len+m))) e)):=by
 obtain⟨d,hd,hni⟩:=hx;obtain⟨i,hi⟩:=Yk hk;have hb:ym P e=i.bytes:=by simp[ym,hi]
 rw[hb,Nat.mul_add,Nat.mul_one] at hle;have hti:∀w:World,(typeInfo e).run P w = .ok i w:=fun w=>by simp[typeInfo,hi]
 have hnc:=qed hgt;have hcap:¬(Builtin.nextslicecap (len+m) cc*i.bytes > 2 ^ 48):=by
  have h1:Builtin.nextslicecap (len+m) cc*i.bytes<=2*(len+m)*i.bytes:=Nat.mul_le_mul_right _ hnc;have h2:2*(len+m)*i.bytes=2*((len+m)*i.bytes):=Nat.mul_assoc _ _ _;omega
 have hmax:¬((((len+m:Nat):Int) > IntKind.i64.max)/\(False∨i.bytes=0)):=by
  have:IntKind.i64.max=9223372036854775807:=by decide
  rw[this];omega
 have hf:(Question.appendCap (len+m) cc e).forced=false:=rfl;refine⟨(Question.appendCap (len+m) cc e).cut (w.tape w.drawn (.appendCap (len+m) cc e)),by simp only[Question.cut];omega,?_⟩;unfold Builtin.append_;simp only[List.getElem?_toArray,List.getElem?_cons_zero,List.getElem?_cons_succ,Sem.run_bind,qe ht,Result.andThen_ok,qR hk,qe hd,Sem.run_pure,hs.len,Bool.false_eq_true,if_false,Bool.not_false,if_true];rw[if_neg (by omega)];simp only[Sem.run_bind,hti,Result.andThen_ok];rw[if_neg hmax];simp only[Sem.run_bind,hti,Result.andThen_ok];rw[if_neg hcap];simp only[Sem.run_bind,run_choose,hf,Bool.false_eq_true,if_false,Result.andThen_ok,run_askRoom,hti];change ((Builtin.firstCells (qz P e) len (.slice base len cc)).run P w.drew).andThen _=_;simp only[ho',hs.runD,Result.andThen_ok,hz];rfl
end
section
variable {P:Program} {R:Type} {g:Gh} {h:qa} {w:World}
theorem Qb{m:Nat}{gx:Nat->List T}{fl:Bool}(hf:qK m gx fl=true)(hfl:fl=true->∀j,j<m->∀c,c∈gx j->qw c=true):∀j,j<m->∀c,c∈gx j->qw c=true:=by
 unfold qK at hf;cases fl with
 |true=>exact hfl rfl
 |false =>
  simp only[Bool.false_or,Bool.and_eq_true] at hf;intro j hj c hc;exact(List.all_eq_true.1 ((List.all_eq_true.1 hf.2) j (List.mem_range.2 hj))) c hc
theorem jW{sz len m nc:Nat}{gs gx:Nat->List T}{olds news:List Value}{z:Array Value}(hol:olds.length=len*sz)
 (hos:∀j o c,j<len->(gs j)[o]?=some c->∃u,olds[j*sz+o]?=some u/\u.oneCell'=true/\g.VR h w c u)
 {v:Value} {fl:Bool} (hs:Src P g h w sz v m gx fl news) (ver:Nat) (fl':Bool) {j o:Nat} {c:T} (hj:j<len+m) (hc:((Qg ver sz len m gs gx fl').get j)[o]?=some c) :
 ∃u,(olds.toArray++news.toArray++Builtin.zeroCells z (nc-(len+m)))[0+j*sz+o]?=some u/\u.oneCell'=true/\g.VR h w c u:=by
 simp only[Qg,Bool.cond_eq_ite] at hc;have key:∀(l:List Value) (i:Nat) (u:Value) (A:Array Value),l[i]?=some u->(l.toArray++A)[i]?=some u:=by
  intro l i u A hl;have hi:i<l.length:=by
   rcases Nat.lt_or_ge i l.length with hq|hq
   ·exact hq
   ·rw[List.getElem?_eq_none hq] at hl;cases hl
  rw[Array.getElem?_append_left (by simpa using hi)];simpa using hl
 rw[Array.append_assoc];split at hc
 ·rename_i hlt;have hlt:=qU hlt;obtain⟨u,h1,h2,h3⟩:=hos j o c hlt hc;exact⟨u,by rw[Nat.zero_add];exact key _ _ _ _ h1,h2,h3⟩
 ·rename_i hge;have hge:len<=j:=by
   rcases Nat.lt_or_ge j len with hq|hq
   ·exact absurd (Nat.ble_eq_true_of_le hq) hge
   ·exact hq
  obtain⟨u,h1,h3⟩:=hs.cell (j-len) o c (by omega) hc;refine⟨u,?_,hs.one u (List.mem_of_getElem? h1),h3⟩;rw[Nat.zero_add];have e:j*sz+o=olds.length+((j-len)*sz+o):=by
   rw[hol,←Nat.add_assoc,←Nat.add_mul];congr 2;omega
  rw[Array.getElem?_append_right (by simp[e])];simp only[List.size_toArray];rw[show j*sz+o-olds.length=(j-len)*sz+o by omega];exact key _ _ _ _ h1
theorem kf{sz len m:Nat}{gs gx:Nat->List T}{news:List Value}(hls:∀j,j<len->(gs j).length=sz){v:Value}{fl:Bool}(hs:Src P g h w sz v m gx fl news)(ver:Nat)(fl':Bool) :
 ∀j,j<len+m->((Qg ver sz len m gs gx fl').get j).length=sz:=by
 intro j hj;simp only[Qg,Bool.cond_eq_ite];split
 ·rename_i hlt;exact hls j (qU hlt)
 ·rename_i hge;have hge:len<=j:=by
   rcases Nat.lt_or_ge j len with hq|hq
   ·exact absurd (Nat.ble_eq_true_of_le hq) hge
   ·exact hq
  exact hs.lens _ (by omega)
theorem jq{sz len m:Nat}{gs gx:Nat->List T}(ver:Nat)(fl':Bool)(h1:∀j,j<len->∀c,c∈gs j->qw c=true)(h2:∀j,j<m->∀c,c∈gx j->qw c=true) :
 ∀j,j<len+m->∀c,c∈(Qg ver sz len m gs gx fl').get j->qw c=true:=by
 intro j hj c hc;simp only[Qg,Bool.cond_eq_ite] at hc;split at hc
 ·rename_i hlt;exact h1 j (qU hlt) c hc
 ·rename_i hge;have hge:len<=j:=by
   rcases Nat.lt_or_ge j len with hq|hq
   ·exact absurd (Nat.ble_eq_true_of_le hq) hge
   ·exact hq
  exact h2 (j-len) (by omega) c hc
theorem qaw{sz len m nc:Nat}{olds news:List Value}{z:Array Value}(hol:olds.length=len*sz)(hn:news.length=m*sz)(hz:z.size=sz)(hnc:len+m<=nc) :
 (olds.toArray++news.toArray++Builtin.zeroCells z (nc-(len+m))).size=nc*sz:=by
 simp only[Array.size_append,List.size_toArray,hol,hn,size_zeroCells,hz];rw[←Nat.add_mul,←Nat.add_mul];congr 1;omega
theorem yf(hr:HR g h w){sz len m nc:Nat}{gs gx:Nat->List T}{olds news:List Value}{z:Array Value}{e:TypeId}(hol:olds.length=len*sz)
 (hls:∀j,j<len->(gs j).length=sz) (hos:∀j o c,j<len->(gs j)[o]?=some c->∃u,olds[j*sz+o]?=some u/\u.oneCell'=true/\g.VR h w c u)
 {v:Value} {fl:Bool} (hs:Src P g h w sz v m gx fl news) (fl':Bool) (hfl:fl'=true->(∀j,j<len->∀c,c∈gs j->qw c=true)/\∀j,j<m->∀c,c∈gx j->qw c=true)
 (hz:z.size=sz) (hnc:len+m<=nc) :
 Res g h w (.own h.length 0 0 (len+m) none) (h++[Qg 0 sz len m gs gx fl']) (.slice (some ⟨w.heap.size,0,none⟩) (len+m) nc)
  (w.drew.alloc (.cells (olds.toArray++news.toArray++Builtin.zeroCells z (nc-(len+m))) e)):=by
 have hsz:=qaw hol hs.size hz hnc;obtain⟨g',e1,_,hr',hkeep,hfr⟩:=hr.alloc (w':=w.drew.alloc (.cells (olds.toArray++news.toArray++Builtin.zeroCells z (nc-(len+m))) e)) (cb:=w.heap.size) (sh:=0) (e:=e)
  (b':=Qg 0 sz len m gs gx fl') (by simp) (fun k hk=>RowKit.Below.heap_alloc w.drew _ _ hk) (QJ w.drew _) (Nat.le_refl _)
  (by rw[hsz,Nat.zero_add];exact Nat.mul_le_mul_right _ hnc) (kf hls hs 0 fl') (fun j o c hj ho=>jW hol hos hs 0 fl' hj ho) (fun hf=>jq 0 fl' (hfl hf).1 (hfl hf).2) rfl rfl ⟨rfl,Nat.le_refl _⟩
 exact⟨g',hr',.own _ _ _ _ _ _ _ (Z8 h _) (Nat.le_refl _) rfl fun _=>.inl ⟨_,_,nc,_,e1,rfl,rfl,fun _=>by simp,hnc,fun _ hm=>(by cases hm),by simp[Qg],⟨_,e,QJ w.drew _,by rw[hsz];simp[Qg]⟩,fun _=>by simpa [Qg] using hnc⟩,hkeep,hfr⟩
theorem Src.one_cell{sz m:Nat}{v:Value}{gx:Nat->List T}{fl:Bool}{news:List Value}(hs:Src P g h w sz v m gx fl news) :
 ∀j o c,j<m->(gx j)[o]?=some c->∃u,news[j*sz+o]?=some u/\u.oneCell'=true/\g.VR h w c u:=by
 intro j o c hj ho;obtain⟨u,h1,h2⟩:=hs.cell j o c hj ho;exact⟨u,h1,hs.one u (List.mem_of_getElem? h1),h2⟩
theorem qhq{tx:TypeId}(hx:((qD P tx).isSome || KU P tx)=true):∃d,P.underlying tx=some d/\∀k,d≠.int k:=by
 rcases Bool.or_eq_true _ _▸hx with h1|h1
 ·obtain⟨e,he⟩:=Option.isSome_iff_exists.1 h1;exact⟨_,qH he,fun k hk=>by cases hk⟩
 ·exact⟨_,kb h1,fun k hk=>by cases hk⟩
theorem qC{α:Type}{l:List α}{i:Nat}{x:α}(hb:l[i]?=some x):i<l.length:=by
 rcases Nat.lt_or_ge i l.length with hq|hq
 ·exact hq
 ·rw[List.getElem?_eq_none hq] at hb;cases hb
theorem Yo{cb n:Nat}{arr:Array Value}{e:TypeId}(hh:w.heap[cb]?=some (.cells arr e (0,0)))(hn:room w cb n):n<=arr.size:=by
 obtain⟨a',e'',q1,q2⟩:=hn;rw[hh] at q1;simp only[Option.some.injEq,Obj.cells.injEq] at q1;rw[q1.1];exact q2
theorem JX(hr:HR g h w){i:Nat}{b:Blk}(hb:h[i]?=some b){cb sh:Nat}{arr:Array Value}{e:TypeId}(hok:BlkOk w g h i b cb sh arr e){p m:Nat}{gx:Nat->List T}{news:List Value}
 (hl:∀j,j<m->(gx j).length=b.sz) (hn:news.length=m*b.sz) (hc:∀j o c,j<m->(gx j)[o]?=some c->∃u,news[j*b.sz+o]?=some u/\u.oneCell'=true/\g.VR h w c u)
 (fl':Bool) (hfl:fl'=true->b.flat=true/\∀j,j<m->∀c,c∈gx j->qw c=true) (hfits:sh+p*b.sz+news.length<=arr.size) (hm:b.mp=none:=by assumption) :
 ∃g',g'.φ i=some (cb,sh)/\HR g' (h.set i { b with get:=fun j=>bif Nat.ble p j&&Nat.blt j (p+m) then gx (j-p) else b.get j,flat:=fl' }) (w.setRow cb (arr.toList.take (sh+p*b.sz)++news++arr.toList.drop (sh+p*b.sz+news.length)).toArray) ∧
  zx g h w g' (h.set i { b with get:=fun j=>bif Nat.ble p j&&Nat.blt j (p+m) then gx (j-p) else b.get j,flat:=fl' }) (w.setRow cb (arr.toList.take (sh+p*b.sz)++news++arr.toList.drop (sh+p*b.sz+news.length)).toArray) ∧
  FrO g w g' (w.setRow cb (arr.toList.take (sh+p*b.sz)++news++arr.toList.drop (sh+p*b.sz+news.length)).toArray):=by
 have hws:=zz arr news _ hfits;have inr:∀j,(Nat.ble p j&&Nat.blt j (p+m))=true↔p<=j/\j<p+m:=by
  intro j;simp only[Bool.and_eq_true];exact⟨fun ⟨q1,q2⟩=>⟨qT q1,qU q2⟩,fun ⟨q1,q2⟩=>⟨Nat.ble_eq_true_of_le q1,Nat.ble_eq_true_of_le q2⟩⟩
 obtain⟨g',f1,f2,_,hr',hkeep,hfr⟩:=hr.change hb (w':=w.setRow cb (arr.toList.take (sh+p*b.sz)++news++arr.toList.drop (sh+p*b.sz+news.length)).toArray) (cb:=cb) (sh:=sh) (e:=e)
  (b':={ b with get:=fun j=>bif Nat.ble p j&&Nat.blt j (p+m) then gx (j-p) else b.get j,flat:=fl' })
  (by simp[World.setRow]) (fun k _ hne=>setRow_other w cb k _ hne) (ZV w cb arr _ e hok.heap) (.inl hok.own) (fun n hn=>by rw[hws];exact Yo hok.heap hn) (Nat.le_refl _) (fun _=>⟨rfl,rfl,hok.φ⟩) (by rw[hws];exact hok.room)
  (fun j hj=>by
   simp only[Bool.cond_eq_ite];split
   ·rename_i hin;have:=(inr j).1 hin;exact hl _ (by omega)
   ·exact hok.len j hj)
  (fun j o c hj hc'=>by
   simp only[Bool.cond_eq_ite] at hc' hj ⊢;rw[JW arr _ _ _ hfits];have ho:o<b.sz:=by
    have hlt:=qC hc';split at hlt
    ·rename_i hin;rw[hl (j-p) (by have:=(inr j).1 hin;omega)] at hlt;exact hlt
    ·rw[hok.len j hj] at hlt;exact hlt
   split at hc'
   ·rename_i hin;have hin:=(inr j).1 hin;obtain⟨u,u1,u2,u3⟩:=hc (j-p) o c (by omega) hc';have hj1:p*b.sz<=j*b.sz:=Nat.mul_le_mul_right _ hin.1;have hj2:(j+1)*b.sz<=(p+m)*b.sz:=Nat.mul_le_mul_right _ hin.2;rw[Nat.add_mul,Nat.one_mul,Nat.add_mul p] at hj2;have hj3:(j-p)*b.sz=j*b.sz-p*b.sz:=Nat.sub_mul _ _ _;rw[if_pos ⟨by omega,by rw[hn];omega⟩];refine⟨u,?_,u2,u3⟩;rw[←u1,hj3];congr 1;omega
   ·rename_i hout;have hout:=fun q=>hout ((inr j).2 q);rw[if_neg ?_]
    ·exact hok.cell j o c hj hc'
    ·rw[hn];rintro⟨q1,q2⟩;apply hout;constructor
     ·rcases Nat.lt_or_ge j p with hq|hq
      ·have:(j+1)*b.sz<=p*b.sz:=Nat.mul_le_mul_right _ hq;rw[Nat.add_mul,Nat.one_mul] at this;omega
      ·exact hq
     ·rcases Nat.lt_or_ge j (p+m) with hq|hq
      ·exact hq
      ·have:(p+m)*b.sz<=j*b.sz:=Nat.mul_le_mul_right _ hq;rw[Nat.add_mul p] at this;omega)
  (fun hf j hj c hc'=>by
   simp only[Bool.cond_eq_ite] at hc';split at hc'
   ·rename_i hin;exact(hfl hf).2 _ (by have:=(inr j).1 hin;omega) c hc'
   ·exact hok.flat (hfl hf).1 j hj c hc') rfl rfl ⟨rfl,Nat.le_refl _⟩ hm
 exact⟨g',f1,hr',hkeep,hfr⟩
theorem qeR(hr:HR g h w){i:Nat}{b b':Blk}(hb:h[i]?=some b)(hφ:g.φ i=none)(hn:b.n=0)(e1:b'.mp=none)(e2:b'.ver=b.ver)(e3:b'.sz=b.sz)(e4:b'.n=b.n) :
 HR g (h.set i b') w/\zx g h w g (h.set i b') w/\FrO g w g w:=by
 have hil:=qC hb;have hkeep:zx g h w g (h.set i b') w:=by
  refine⟨.refl _ _,fun k x hx=>?_,fun _ _ q=>q⟩;by_cases hk:k=i
  ·subst hk;rw[hb] at hx;obtain rfl:=Option.some.inj hx;exact⟨b',by simp[hil],by omega,fun _=>⟨e3,e4,rfl⟩⟩
  ·exact⟨x,by rw[List.getElem?_set_ne (fun e=>hk e.symm)];exact hx,Nat.le_refl _,fun _=>⟨rfl,rfl,rfl⟩⟩
 refine⟨⟨fun k x hx hmx=>?_,hr.u,hr.own,hr.base,hr.cells,fun c j ho=>by rw[List.length_set];exact hr.lt c j ho,fun k x m hx hmx=>?_⟩,hkeep,.refl _ _ fun c o e=>(hr.own c o e).2⟩
 ·by_cases hk:k=i
  ·subst hk;simp only[List.getElem?_set_self hil,Option.some.injEq] at hx;subst hx;exact .inr ⟨hφ,e4.trans hn⟩
  ·rw[List.getElem?_set_ne (fun e=>hk e.symm)] at hx;rcases hr.blk0 k x hx hmx with⟨cb,sh,arr,e,hok⟩|q
   ·exact .inl ⟨cb,sh,arr,e,hok.φ,hok.own,hok.heap,hok.room,hok.len,fun j o c hj hc=>by
     obtain⟨v,h1,h2,h3⟩:=hok.cell j o c hj hc;exact⟨v,h1,h2,h3.keep hkeep⟩,hok.flat⟩
   ·exact .inr q
 ·by_cases hk:k=i
  ·subst hk;simp only[List.getElem?_set_self hil,Option.some.injEq] at hx;subst hx;rw[e1] at hmx;cases hmx
  ·rw[List.getElem?_set_ne (fun e=>hk e.symm)] at hx;exact hr.mp k x m hx hmx
theorem KA(hr:HR g h w){i:Nat}{b:Blk}(hb:h[i]?=some b){len m:Nat}{gs gx:Nat->List T}{w':World}{cb sh:Nat}{arr:Array Value}{e:TypeId}(fl':Bool)(hsize:w.heap.size<=w'.heap.size)
 (hheap:∀k,k<w.heap.size->k≠cb->w'.heap[k]?=w.heap[k]?) (hcb:w'.heap[cb]?=some (.cells arr e (0,0))) (hplace:g.own cb=some (.inl i)∨w.heap.size<=cb) (hrm:∀n,room w cb n->n<=arr.size)
 (hroom:sh+(len+m)*b.sz<=arr.size) (hlen:∀j,j<len+m->((Qg (b.ver+1) b.sz len m gs gx fl').get j).length=b.sz)
 (hcell:∀j o c,j<len+m->((Qg (b.ver+1) b.sz len m gs gx fl').get j)[o]?=some c->∃v,arr[sh+j*b.sz+o]?=some v/\v.oneCell'=true/\g.VR h w c v)
 (hflat:fl'=true->∀j,j<len+m->∀c,c∈(Qg (b.ver+1) b.sz len m gs gx fl').get j->qw c=true) (hos:w'.os=w.os) (htape:w'.tape=w.tape) (hout:OutOk w' w)
 {nc:Nat} {ad:Addr} (hads:ad.spot=none) (had:0<nc->ad=⟨cb,sh,none⟩) (hnc:len+m<=nc) (hroom2:sh+nc*b.sz<=arr.size) :
 Res g h w (.own i (b.ver+1) 0 (len+m) none) (h.set i (Qg (b.ver+1) b.sz len m gs gx fl')) (.slice (some ad) (len+m) nc) w':=by
 obtain⟨g',f1,f2,_,hr',hkeep,hfr⟩:=hr.change hb (w':=w') (cb:=cb) (sh:=sh) (e:=e) (b':=Qg (b.ver+1) b.sz len m gs gx fl') hsize hheap hcb hplace hrm
  (Nat.le_succ _) (fun q=>by simp[Qg] at q) hroom hlen hcell hflat hos htape hout
 exact⟨g',hr',.own _ _ _ _ _ _ _ (List.getElem?_set_self (qC hb)) (Nat.le_refl _) rfl fun _=>.inl ⟨cb,sh,nc,ad,f1,rfl,hads,fun hp=>by simpa using had hp,hnc,fun _ hm=>(by cases hm),by simp[Qg],⟨arr,e,hcb,by simpa [Qg] using hroom2⟩,fun _=>by simpa [Qg] using hnc⟩,hkeep,hfr⟩
theorem JL{t tx ty:TypeId}{s x:T}{cs cx:Value}{k:qO R}{r:R}(hk:Zi P t s x h k=some r)(hx':((qD P tx).isSome || KU P tx)=true)(hr:HR g h w)(hs:g.VR h w s cs)(hx:g.VR h w x cx) :
 ∃y h' wr,k y h' wr=some r/\(wr=false->h'=h)/\∃v w',(Builtin.append_ #[t,tx] ty #[cs,cx]).run P w = .ok v w'/\Res g h w y h' v w':=by
 unfold Zi at hk;have hxt:=qhq hx';cases he:qD P t with
 |none=>simp[he] at hk
 |some e =>
  rw[he] at hk;obtain⟨hz,hk⟩:=qc hk;obtain⟨z,hzr,hkn,hz1,hz2,hz3,hz4⟩:=zH (P:=P) (g:=g) (h:=h) (w:=w) hz;obtain⟨z',hzr',_⟩:=zH (P:=P) (g:=g) (h:=h) (w:=w.drew) hz;have hzz:z'=z:=by
   obtain⟨i,hi⟩:=Yk hkn;cases hiz:i.zero with
   |none=>simp[zeroValue,typeInfo,hi,hiz] at hzr
   |some q =>
    simp only[zeroValue,typeInfo,Sem.run_bind,run_program,Result.andThen_ok,hi,Sem.run_pure,hiz,Result.ok.injEq] at hzr hzr';exact hzr'.1.symm.trans hzr.1
  subst hzz;obtain⟨m,gx,fl,news,hk,hsrc⟩:=Kk (P:=P) hk hr hx;have ht:=qH he;have roomle:∀n,Yg P e n=true->n*(ym P e+1)<=70368744177664:=fun n hn=>qT hn;cases s with
  |nils =>
   dsimp only at hk;obtain rfl:=hs.nils;rcases qk hk with⟨hm,hk⟩|⟨hm,hk⟩
   ·have hm:m=0:=by simpa using hm
    subst hm;exact⟨_,_,_,hk,fun _=>rfl,_,w,Q7 (P:=P) ht hkn hxt hsrc (Nat.le_refl _) rfl,.pure hr (.imm _ _ .nils)⟩
   ·have hm:m≠0:=by simpa using hm
    obtain⟨hroom,hk⟩:=qc hk;obtain⟨nc,hnc,hrun⟩:=zn (P:=P) (w:=w) (ty:=ty) (base:=none) (len:=0) (cc:=0) (olds:=[]) ht hkn hzr' hxt hsrc (by simp[Builtin.firstCells]) (by omega) (by simpa using roomle _ hroom);refine⟨_,_,_,hk,(fun hh=>by cases hh),_,_,hrun,?_⟩;have:=yf (P:=P) (e:=e) hr (sz:=qz P e) (len:=0) (gs:=fun _=>[]) (olds:=[]) (by simp) (fun j hj=>by omega) (fun j o c hj=>by omega) hsrc (qK m gx fl)
     (fun hf=>⟨fun j hj=>by omega,Qb hf hsrc.flat⟩) hz2 hnc
    have eb:Qg 0 (qz P e) 0 m (fun _=>[]) gx (qK m gx fl)=⟨0,qz P e,m,gx,qK m gx fl,false,none⟩:=by
     simp only[Qg,Nat.zero_add,Nat.sub_zero];rfl
    rw[eb] at this;simpa using this
  |view sz n gs cap =>
   dsimp only at hk;obtain⟨hsz,hk⟩:=qc hk;have hsz:sz=qz P e:=by simpa using hsz
   subst hsz;obtain⟨n',gs',fl0,olds,e0,hold⟩:=Yn (P:=P) (R:=Nat×(Nat->List T)×Bool) (sz:=qz P e) (x:=.view (qz P e) n gs cap) (k:=fun a b c=>some (a,b,c)) (r:=(n,gs,false)) (by simp[YV]) hr hs;simp only[Option.some.injEq,Prod.mk.injEq] at e0;obtain⟨rfl,rfl,rfl⟩:=e0;cases hs.view with
   |vnil _ gs0 _ hcn =>
    rcases qk hk with⟨hm,hk⟩|⟨hm,hk⟩
    ·have hm:m=0:=by simpa using hm
     subst hm;exact⟨_,_,_,hk,fun _=>rfl,_,w,Q7 (P:=P) ht hkn hxt hsrc (Nat.le_refl _) rfl,.pure hr hs⟩
    ·have hm:m≠0:=by simpa using hm
     cases cap with
     |none=>cases hk
     |some c =>
      obtain⟨hc,hk⟩:=qc hk;simp only[Bool.and_eq_true] at hc;obtain⟨hgt,hroom⟩:=hc;obtain⟨nc,hnc,hrun⟩:=zn (P:=P) (w:=w) (ty:=ty) (base:=none) (len:=0) (cc:=0) (olds:=[]) ht hkn hzr' hxt hsrc (by simp[Builtin.firstCells]) (by omega) (by simpa using roomle _ hroom);refine⟨_,_,_,hk,(fun hh=>by cases hh),_,_,hrun,?_⟩;unfold qgs;cases (qS P e).all qw with
      |true =>
       simp only[cond_true];exact yf (P:=P) (e:=e) hr (sz:=qz P e) (len:=0) (gs:=_) (olds:=[]) (by simp) (fun j hj=>by omega) (fun j o c hj=>by omega) hsrc _
        (fun hf=>⟨fun j hj=>by omega,Qb hf hsrc.flat⟩) hz2 hnc
      |false =>
       simp only[cond_false];exact yf (P:=P) (e:=e) hr (sz:=qz P e) (len:=0) (gs:=_) (olds:=[]) (by simp) (fun j hj=>by omega) (fun j o c hj=>by omega) hsrc _
        (fun hf=>⟨fun j hj=>by omega,Qb (by simp only[Bool.and_eq_true] at hf;exact hf.2) hsrc.flat⟩) hz2 hnc
   |view _ _ _ _ a cc vs hsp hcap hn hU hl hcl hv =>
    rcases qk hk with⟨hm,hk⟩|⟨hm,hk⟩
    ·have hm:m=0:=by simpa using hm
     subst hm;refine⟨_,_,_,hk,fun _=>rfl,_,w,Q7 (P:=P) ht hkn hxt hsrc (by omega) ?_,.pure hr hs⟩;have:news=[]:=by have:=hsrc.size;simp at this;exact this
     subst this;simp[storeCells]
    ·cases cap with
     |none=>cases hk
     |some c =>
      obtain rfl:=hcap c rfl;obtain⟨hc,hk⟩:=qc hk;simp only[Bool.and_eq_true] at hc;obtain⟨hgt,hroom⟩:=hc;have hgt:=qU hgt;obtain⟨nc,hnc,hrun⟩:=zn (P:=P) (w:=w) (ty:=ty) (olds:=olds) ht hkn hzr' hxt hsrc hold.runD hgt (roomle _ hroom);refine⟨_,_,_,hk,(fun hh=>by cases hh),_,_,hrun,?_⟩;unfold qgs;cases (qS P e).all qw with
      |true =>
       have hold2:=hold.plain;simp only[cond_true];exact yf hr hold2.size hold2.lens hold2.one_cell hsrc _ (fun hf=>⟨hold2.flat rfl,Qb hf hsrc.flat⟩) hz2 hnc
      |false =>
       simp only[cond_false];exact yf hr hold.size hold.lens hold.one_cell hsrc _ (fun hf=>by
        simp only[Bool.and_eq_true] at hf;exact⟨Qb hf.1 hold.flat,Qb hf.2 hsrc.flat⟩) hz2 hnc
  |own i ver off len cap =>
   dsimp only at hk;obtain⟨b,hb,hmp,hver,hk⟩:=zm hk;obtain⟨hc,hk⟩:=qc hk;simp only[Bool.and_eq_true,beq_iff_eq] at hc;obtain⟨hsz,hle⟩:=hc;have hle:=qT hle;obtain⟨n',gs',fl0,olds,e0,hold⟩:=Yn (P:=P) (R:=Nat×(Nat->List T)×Bool) (sz:=qz P e) (x:=.own i ver off len cap) (k:=fun a b c=>some (a,b,c)) (r:=(len,(fun j=>b.get (off+j)),b.flat))
    (by simp[YV,qM,hb,hver,hmp,hsz,Nat.ble_eq_true_of_le hle]) hr hs
   have e0:=e0.symm;simp only[Option.some.injEq,Prod.mk.injEq] at e0;obtain⟨rfl,rfl,rfl⟩:=e0;rcases Q6 hb hver hs with⟨cb,sh,cc,ad,e1,rfl,es,e2,e3,e4,e5,e6,e7⟩|⟨q1,q2,rfl,rfl,q5,rfl⟩
   rotate_left
   ·rcases qk hk with⟨hm,hk⟩|⟨hm,hk⟩
    ·have hm:m=0:=by simpa using hm
     subst hm;exact⟨_,_,_,hk,fun _=>rfl,_,w,Q7 (P:=P) ht hkn hxt hsrc (Nat.le_refl _) rfl,.pure hr hs⟩
    ·have hm:m≠0:=by simpa using hm
     obtain⟨hroom,hk⟩:=qc hk;obtain⟨nc,hnc,hrun⟩:=zn (P:=P) (w:=w) (ty:=ty) (base:=none) (len:=0) (cc:=0) (olds:=[]) ht hkn hzr' hxt hsrc (by simp[Builtin.firstCells]) (by omega) (by simpa using roomle _ hroom);have hfl:(b.flat&&qK m gx fl)=true->(∀j,j<0->∀c,c∈b.get (0+j)->qw c=true)/\∀j,j<m->∀c,c∈gx j->qw c=true:=by
      intro hf;simp only[Bool.and_eq_true] at hf;exact⟨fun j hj=>by omega,Qb hf.2 hsrc.flat⟩
     rw[←hsz] at hsrc hz2;cases cap with
     |some c =>
      obtain rfl:=q5 c rfl;dsimp only at hk;rw[show Nat.ble (0+m) 0=false by
       rw[Bool.eq_false_iff];intro hh;have:=qT hh;omega] at hk
      refine⟨_,_,_,hk,(fun hh=>by cases hh),_,_,hrun,?_⟩;exact yf (P:=P) (e:=e) hr (sz:=b.sz) (len:=0) (gs:=_) (olds:=[]) (by simp) (fun j hj=>by omega) (fun j o c hj=>by omega) hsrc _ hfl hz2 hnc
     |none =>
      dsimp only at hk;rw[←hver] at hk;rw[show Nat.ble (0+0+m) b.n=false by
       rw[Bool.eq_false_iff];intro hh;have:=qT hh;omega] at hk
      refine⟨_,_,_,hk,(fun hh=>by cases hh),_,_,hrun,?_⟩;have hsz':=qaw (len:=0) (olds:=[]) (nc:=nc) (by simp) hsrc.size hz2 hnc;exact KA hr hb (cb:=w.heap.size) (sh:=0) (arr:=([]:List Value).toArray++news.toArray++Builtin.zeroCells z'.cells (nc-(0+m))) (e:=e) _ (by simp) (fun k hk _=>RowKit.Below.heap_alloc w.drew _ _ hk) (QJ w.drew _) (.inr (Nat.le_refl _))
       (fun n hn=>by obtain⟨a',e'',q1,_⟩:=hn;have:=qu q1;omega) (by rw[hsz',Nat.zero_add];exact Nat.mul_le_mul_right _ hnc)
       (kf (fun j hj=>by omega) hsrc _ _) (fun j o c hj ho=>jW (len:=0) (olds:=[]) (by simp) (fun j o c hj=>by omega) hsrc _ _ hj ho) (fun hf=>jq _ _ (hfl hf).1 (hfl hf).2) rfl rfl ⟨rfl,Nat.le_refl _⟩ rfl (fun _=>rfl) hnc (by rw[hsz',Nat.zero_add];exact Nat.le_refl _)
   obtain⟨cb',sh',arr,e',hok⟩:=hr.blk i b hb hmp (.inr (by rw[e1];simp));rw[hok.φ] at e1;obtain⟨rfl,rfl⟩:=Prod.mk.inj (Option.some.inj e1);rcases qk hk with⟨hm,hk⟩|⟨hm,hk⟩
   ·have hm:m=0:=by simpa using hm
    subst hm;refine⟨_,_,_,hk,fun _=>rfl,_,w,Q7 (P:=P) ht hkn hxt hsrc (by omega) ?_,.pure hr hs⟩;have:news=[]:=by have:=hsrc.size;simp at this;exact this
    subst this;simp[storeCells]
   ·have hm:m≠0:=by simpa using hm
    obtain⟨hroom,hk⟩:=qc hk;have hroom2:=Yo hok.heap e6;rw[←hsz] at hsrc hold hz2
    have inplace:len+m<=cc->(Builtin.append_ #[t,tx] ty #[.slice (some ad) len cc,cx]).run P w =
     .ok (.slice (some ad) (len+m) cc) (w.setRow cb' (arr.toList.take (sh'+(off+len)*b.sz)++news++arr.toList.drop (sh'+(off+len)*b.sz+news.length)).toArray)/\sh'+(off+len)*b.sz+news.length<=arr.size:=by
     intro hfit;have hfits:sh'+(off+len)*b.sz+news.length<=arr.size:=by
      rw[hsrc.size];refine Nat.le_trans ?_ hroom2;have:(off+len)*b.sz+m*b.sz<=(off+cc)*b.sz:=by rw[←Nat.add_mul];exact Nat.mul_le_mul_right _ (by omega)
      omega
     refine⟨Q7 (P:=P) ht hkn hxt (hsz▸hsrc) hfit ?_,hfits⟩;rw[e2 (by omega)];dsimp only;rw[Qs,←hsz,Nat.add_assoc,←Nat.add_mul];have:=run_storeCells_at P cb' (sh'+(off+len)*b.sz) e' news 0 arr w hok.heap (by simpa using hfits) hsrc.one;simpa using this
    have grows:cc<len+m →
     ∃nc,len+m<=nc/\(Builtin.append_ #[t,tx] ty #[.slice (some ad) len cc,cx]).run P w = .ok (.slice (some ⟨w.heap.size,0,none⟩) (len+m) nc) (w.drew.alloc (.cells (olds.toArray++news.toArray++Builtin.zeroCells z'.cells (nc-(len+m))) e)) :=
     fun hgt=>zn (P:=P) (w:=w) (ty:=ty) (olds:=olds) ht hkn hzr' hxt (hsz▸hsrc) (hsz▸hold).runD hgt (roomle _ hroom)
    have hfl:(b.flat&&qK m gx fl)=true->(∀j,j<len->∀c,c∈b.get (off+j)->qw c=true)/\∀j,j<m->∀c,c∈gx j->qw c=true:=by
     intro hf;simp only[Bool.and_eq_true] at hf;exact⟨hold.flat hf.1,Qb hf.2 hsrc.flat⟩
    cases cap with
    |some c =>
     obtain⟨rfl,hcn⟩:=e4 c rfl;dsimp only at hk;rcases qk hk with⟨hfit,hk⟩|⟨hfit,hk⟩
     ·have hfit:=qT hfit;obtain⟨_,hk⟩:=qc hk;obtain⟨hrun,hfits⟩:=inplace hfit;obtain⟨g',f1,hr',hkeep,hfr⟩:=JX hr hb hok (p:=off+len) (m:=m) hsrc.lens hsrc.size hsrc.one_cell (b.flat&&qK m gx fl) (fun hf=>by
       simp only[Bool.and_eq_true] at hf;exact⟨hf.1,Qb hf.2 hsrc.flat⟩) hfits
      refine⟨_,_,_,hk,(fun hh=>by cases hh),_,_,hrun,g',hr',.own _ _ _ _ _ _ _ (List.getElem?_set_self (qC hb)) (Nat.le_of_eq hver.symm) rfl fun _=>.inl ⟨cb',sh',cc,ad,f1,rfl,es,e2,hfit,fun m' hm'=>?_,?_,⟨_,e',ZV w cb' arr _ e' hok.heap,by rw[zz arr news _ hfits];exact hroom2⟩,fun hc=>(by cases hc)⟩,hkeep,hfr⟩
      ·simp only[Option.some.injEq] at hm';subst hm';exact⟨rfl,hcn⟩
      ·dsimp only;omega
     ·have hgt:cc<len+m:=by
       rcases Nat.lt_or_ge cc (len+m) with hq|hq
       ·exact hq
       ·rw[Nat.ble_eq_true_of_le hq] at hfit;cases hfit
      obtain⟨nc,hnc,hrun⟩:=grows hgt;exact⟨_,_,_,hk,(fun hh=>by cases hh),_,_,hrun,yf (P:=P) (e:=e) hr hold.size hold.lens hold.one_cell hsrc _ hfl hz2 hnc⟩
    |none =>
     dsimp only at hk;rw[←hver] at hk;rcases qk hk with⟨hin,hk⟩|⟨_,hk⟩
     ·have hin:=qT hin;have hcb:=e7 rfl;obtain⟨hrun,hfits⟩:=inplace (by omega);obtain⟨g',f1,hr',hkeep,hfr⟩:=JX hr hb hok (p:=off+len) (m:=m) hsrc.lens hsrc.size hsrc.one_cell (b.flat&&qK m gx fl) (fun hf=>by
       simp only[Bool.and_eq_true] at hf;exact⟨hf.1,Qb hf.2 hsrc.flat⟩) hfits
      exact⟨_,_,_,hk,(fun hh=>by cases hh),_,_,hrun,g',hr',.own _ _ _ _ _ _ _ (List.getElem?_set_self (qC hb)) (Nat.le_refl _) rfl fun _=>.inl ⟨cb',sh',cc,ad,f1,rfl,es,e2,by omega,fun m' hm'=>(by cases hm'),by dsimp only;omega,⟨_,e',ZV w cb' arr _ e' hok.heap,by rw[zz arr news _ hfits];exact hroom2⟩,fun _=>hcb⟩,hkeep,hfr⟩
     refine⟨_,_,_,hk,(fun hh=>by cases hh),?_⟩;rcases Nat.lt_or_ge cc (len+m) with hgt|hfit
     ·obtain⟨nc,hnc,hrun⟩:=grows hgt;refine⟨_,_,hrun,?_⟩;have hsz':=qaw (nc:=nc) hold.size hsrc.size hz2 hnc;exact KA hr hb (cb:=w.heap.size) (sh:=0) (arr:=olds.toArray++news.toArray++Builtin.zeroCells z'.cells (nc-(len+m))) (e:=e) _ (by simp) (fun k hk _=>RowKit.Below.heap_alloc w.drew _ _ hk) (QJ w.drew _) (.inr (Nat.le_refl _))
       (fun n hn=>by obtain⟨a',e'',q1,_⟩:=hn;have:=qu q1;omega) (by rw[hsz',Nat.zero_add];exact Nat.mul_le_mul_right _ hnc)
       (kf hold.lens hsrc _ _) (fun j o c hj ho=>jW hold.size hold.one_cell hsrc _ _ hj ho) (fun hf=>jq _ _ (hfl hf).1 (hfl hf).2) rfl rfl ⟨rfl,Nat.le_refl _⟩ rfl (fun _=>rfl) hnc (by rw[hsz',Nat.zero_add];exact Nat.le_refl _)
     ·obtain⟨hrun,hfits⟩:=inplace hfit;refine⟨_,_,hrun,?_⟩;have hws:=zz arr news _ hfits;refine KA hr hb (cb:=cb') (sh:=sh'+off*b.sz) (arr:=(arr.toList.take (sh'+(off+len)*b.sz)++news++arr.toList.drop (sh'+(off+len)*b.sz+news.length)).toArray) (e:=e') _ (by simp[World.setRow]) (fun k _ hne=>setRow_other w cb' k _ hne) (ZV w cb' arr _ e' hok.heap) (.inl hok.own)
       (fun n hn=>by rw[hws];exact Yo hok.heap hn) ?_ (kf hold.lens hsrc _ _) (fun j o c hj ho=>?_) (fun hf=>jq _ _ (hfl hf).1 (hfl hf).2) rfl rfl ⟨rfl,Nat.le_refl _⟩ es e2 hfit ?_
      ·rw[hws];refine Nat.le_trans ?_ hroom2;have:off*b.sz+(len+m)*b.sz<=(off+cc)*b.sz:=by rw[←Nat.add_mul];exact Nat.mul_le_mul_right _ (by omega)
       omega
      ·rw[JW arr _ _ _ hfits];have hos:o<b.sz:=by
        have hlt:=qC ho;rw[kf hold.lens hsrc _ _ j hj] at hlt;exact hlt
       simp only[Qg,Bool.cond_eq_ite] at ho;rw[Nat.add_mul off len] at *
       split at ho
       ·rename_i hlt;have hlt:=qU hlt;have hj2:(j+1)*b.sz<=len*b.sz:=Nat.mul_le_mul_right _ hlt;rw[Nat.add_mul,Nat.one_mul] at hj2;rw[if_neg (by omega)];have:=hok.cell (off+j) o c (by omega) ho;rw[Nat.add_mul,←Nat.add_assoc] at this;exact this
       ·rename_i hge;have hge:len<=j:=by
         rcases Nat.lt_or_ge j len with hq|hq
         ·exact absurd (Nat.ble_eq_true_of_le hq) hge
         ·exact hq
        obtain⟨u,u1,u2,u3⟩:=hsrc.one_cell (j-len) o c (by omega) ho;have hj1:len*b.sz<=j*b.sz:=Nat.mul_le_mul_right _ hge;have hj2:(j+1)*b.sz<=(len+m)*b.sz:=Nat.mul_le_mul_right _ hj;rw[Nat.add_mul,Nat.one_mul,Nat.add_mul len] at hj2;have hj3:(j-len)*b.sz=j*b.sz-len*b.sz:=Nat.sub_mul _ _ _;rw[if_pos ⟨by omega,by rw[hsrc.size];omega⟩];refine⟨u,?_,u2,u3⟩;rw[←u1,hj3];congr 1;omega
      ·rw[hws];refine Nat.le_trans ?_ hroom2;rw[Nat.add_mul];omega
  |_=>simp at hk
theorem qbg{t tx ty:TypeId}{d x:T}{cd cx:Value}{k:qO R}{r:R}(hk:K1 P t d x h k=some r)(hr:HR g h w)(hd:g.VR h w d cd)(hx:g.VR h w x cx) :
 ∃y h' wr,k y h' wr=some r/\(wr=false->h'=h)/\∃v w',(Builtin.copy_ #[t,tx] ty #[cd,cx]).run P w = .ok v w'/\Res g h w y h' v w':=by
 unfold K1 at hk;cases he:qD P t with
 |none=>simp[he] at hk
 |some e =>
  rw[he] at hk;obtain⟨hkn,hk⟩:=qc hk;have ht:=qH he;obtain⟨m,gx,fl,news,hk,hsrc⟩:=Kk (P:=P) hk hr hx;cases d with
  |nils =>
   dsimp only at hk;obtain rfl:=hd.nils;refine⟨_,_,_,hk,fun _=>rfl,goInt 0,w,?_,.pure hr (.imm _ _ (.int _ _))⟩;have h0:=hsrc.run 0 (Nat.zero_le _);simp only[Nat.zero_mul,List.take_zero] at h0;unfold Builtin.copy_;simp only[List.getElem?_toArray,List.getElem?_cons_zero,List.getElem?_cons_succ,Sem.run_bind,qe ht,Result.andThen_ok,hsrc.len,qR hkn];rw[show Nat.min m 0=0 from Nat.min_zero m,h0];rfl
  |own i ver off len cap =>
   dsimp only at hk;obtain⟨b,hb,hmp,hver,hk⟩:=zm hk;obtain⟨hc,hk⟩:=qc hk;simp only[Bool.and_eq_true,beq_iff_eq] at hc;obtain⟨hsz,hle⟩:=hc;have hle:=qT hle;rcases Q6 hb hver hd with⟨cb,sh,cc,ad,e1,rfl,es,e2,e3,e4,e5,e6,e7⟩|⟨q1,q2,rfl,rfl,q5,rfl⟩
   rotate_left
   ·obtain⟨n1,n2,n3⟩:=qeR (b':={ b with get:=fun j=>bif Nat.ble 0 j&&Nat.blt j (0+Nat.min m 0) then gx (j-0) else b.get j,flat:=b.flat&&qK m gx fl }) hr hb q1 q2 hmp rfl rfl rfl;refine⟨_,_,_,hk,(fun hh=>by cases hh),goInt (Nat.min m 0:Nat),w,?_,g,n1,.imm _ _ (.int _ _),n2,n3⟩;have h0:=hsrc.run 0 (Nat.zero_le _);simp only[Nat.zero_mul,List.take_zero] at h0;unfold Builtin.copy_;simp only[List.getElem?_toArray,List.getElem?_cons_zero,List.getElem?_cons_succ,Sem.run_bind,qe ht,Result.andThen_ok,hsrc.len,qR hkn];rw[show Nat.min m 0=0 from Nat.min_zero m,h0];rfl
   obtain⟨cb',sh',arr,e',hok⟩:=hr.blk i b hb hmp (.inr (by rw[e1];simp));rw[hok.φ] at e1;obtain⟨rfl,rfl⟩:=Prod.mk.inj (Option.some.inj e1);have hroom2:=Yo hok.heap e6;rw[←hsz] at hsrc;have hmin:Nat.min m len<=m:=Nat.min_le_left _ _;have hmin2:Nat.min m len<=len:=Nat.min_le_right _ _;have hnl:(news.take (Nat.min m len*b.sz)).length=Nat.min m len*b.sz:=by
    rw[List.length_take,hsrc.size];exact Nat.min_eq_left (Nat.mul_le_mul_right _ hmin)
   have hfits:sh'+off*b.sz+(news.take (Nat.min m len*b.sz)).length<=arr.size:=by
    rw[hnl];refine Nat.le_trans ?_ hroom2;have:off*b.sz+Nat.min m len*b.sz<=(off+cc)*b.sz:=by rw[←Nat.add_mul];exact Nat.mul_le_mul_right _ (by omega)
    omega
   obtain⟨g',f1,hr',hkeep,hfr⟩:=JX hr hb hok (p:=off) (m:=Nat.min m len) (gx:=gx) (news:=news.take (Nat.min m len*b.sz)) (fun j hj=>hsrc.lens j (by omega)) hnl (fun j o c hj ho=>by
    obtain⟨u,u1,u2,u3⟩:=hsrc.one_cell j o c (by omega) ho;refine⟨u,?_,u2,u3⟩;rw[List.getElem?_take,if_pos ?_]
    ·exact u1
    ·have ho':=qC ho;rw[hsrc.lens j (by omega)] at ho';have:(j+1)*b.sz<=Nat.min m len*b.sz:=Nat.mul_le_mul_right _ hj;rw[Nat.add_mul,Nat.one_mul] at this;omega) (b.flat&&qK m gx fl) (fun hf=>by
    simp only[Bool.and_eq_true] at hf;exact⟨hf.1,fun j hj=>Qb hf.2 hsrc.flat j (by omega)⟩) hfits
   refine⟨_,_,_,hk,(fun hh=>by cases hh),goInt (Nat.min m len:Nat),_,?_,g',hr',.imm _ _ (.int _ _),hkeep,hfr⟩;have hst:(storeCells ad (news.take (Nat.min m len*b.sz))).run P w = .ok () (w.setRow cb' (arr.toList.take (sh'+off*b.sz)++news.take (Nat.min m len*b.sz)++arr.toList.drop (sh'+off*b.sz+(news.take (Nat.min m len*b.sz)).length)).toArray):=by
    by_cases h0:0<cc
    ·rw[e2 h0];have:=run_storeCells_at P cb' (sh'+off*b.sz) e' (news.take (Nat.min m len*b.sz)) 0 arr w hok.heap (by simpa using hfits) (fun v hv=>hsrc.one v (List.mem_of_mem_take hv));simpa using this
    ·have e0:Nat.min m len=0:=by omega
     rw[e0];simp only[Nat.zero_mul,List.take_zero,storeCells,List.append_nil,List.length_nil,Nat.add_zero,List.take_append_drop,Array.toArray_toList];rw[setRow_self w cb' arr e' (0,0) hok.heap];rfl
   unfold Builtin.copy_;simp only[List.getElem?_toArray,List.getElem?_cons_zero,List.getElem?_cons_succ,Sem.run_bind,qe ht,Result.andThen_ok,hsrc.len,qR hkn];rw[←hsz,hsrc.run _ hmin];simp only[Result.andThen_ok,hst];rfl
  |_=>simp at hk
theorem qax{t ty:TypeId}{d:T}{cd:Value}{k:qO R}{r:R}(hk:YW P t d h k=some r)(hr:HR g h w)(hd:g.VR h w d cd) :
 ∃y h' wr,k y h' wr=some r/\(wr=false->h'=h)/\∃v w',(Builtin.clear_ #[t] ty #[cd]).run P w = .ok v w'/\Res g h w y h' v w':=by
 unfold YW at hk;cases he:qD P t with
 |none=>simp[he] at hk
 |some e =>
  rw[he] at hk;obtain⟨hz,hk⟩:=qc hk;obtain⟨z,hzr,hkn,hz1,hz2,hz3,hz4⟩:=zH (P:=P) (g:=g) (h:=h) (w:=w) hz;have ht:=qH he;have tup0:∀{g':Gh} {h':qa} {w':World},g'.VR h' w' (.tup []) (.tuple #[]):=fun {_ _ _}=>VR.mk_tup rfl (fun i c hi=>by simp at hi);cases d with
  |nils =>
   dsimp only at hk;obtain rfl:=hd.nils;refine⟨_,_,_,hk,fun _=>rfl,.tuple #[],w,?_,.pure hr tup0⟩;unfold Builtin.clear_;simp[qe ht]
  |own i ver off len cap =>
   dsimp only at hk;obtain⟨b,hb,hmp,hver,hk⟩:=zm hk;obtain⟨hc,hk⟩:=qc hk;simp only[Bool.and_eq_true,beq_iff_eq] at hc;obtain⟨hsz,hle⟩:=hc;have hle:=qT hle;rcases Q6 hb hver hd with⟨cb,sh,cc,ad,e1,rfl,es,e2,e3,e4,e5,e6,e7⟩|⟨q1,q2,rfl,rfl,q5,rfl⟩
   rotate_left
   ·obtain⟨n1,n2,n3⟩:=qeR (b':={ b with get:=fun j=>bif Nat.ble 0 j&&Nat.blt j (0+0) then qS P e else b.get j,flat:=b.flat&&(qS P e).all qw }) hr hb q1 q2 hmp rfl rfl rfl;refine⟨_,_,_,hk,(fun hh=>by cases hh),.tuple #[],w,?_,g,n1,tup0,n2,n3⟩;unfold Builtin.clear_;simp[qe ht]
   obtain⟨cb',sh',arr,e',hok⟩:=hr.blk i b hb hmp (.inr (by rw[e1];simp));rw[hok.φ] at e1;obtain⟨rfl,rfl⟩:=Prod.mk.inj (Option.some.inj e1);have hroom2:=Yo hok.heap e6;rw[←hsz] at hz2;have hnl:(Builtin.zeroCells z.cells len).toList.length=len*b.sz:=by rw[Array.length_toList,size_zeroCells,hz2]
   have hfits:sh'+off*b.sz+(Builtin.zeroCells z.cells len).toList.length<=arr.size:=by
    rw[hnl];refine Nat.le_trans ?_ hroom2;have:off*b.sz+len*b.sz<=(off+cc)*b.sz:=by rw[←Nat.add_mul];exact Nat.mul_le_mul_right _ (by omega)
    omega
   have hcell:∀j o c,j<len->(qS P e)[o]?=some c->∃u,(Builtin.zeroCells z.cells len).toList[j*b.sz+o]?=some u/\u.oneCell'=true/\g.VR h w c u:=by
    intro j o c hj ho;obtain⟨u,u1,u2⟩:=hz4 o c ho;refine⟨u,?_,hz3 o u u1,u2⟩;have:=zM hz1 hz2 len j o c hj ho;rw[Array.getElem?_toList];unfold Builtin.zeroCells;rw[hz2];rw[hz2] at this;rw[this,u1]
   obtain⟨g',f1,hr',hkeep,hfr⟩:=JX hr hb hok (p:=off) (m:=len) (gx:=fun _=>qS P e) (news:=(Builtin.zeroCells z.cells len).toList) (fun j hj=>by rw[hz1,hz2]) hnl hcell
    (b.flat&&(qS P e).all qw) (fun hf=>by
     simp only[Bool.and_eq_true] at hf;exact⟨hf.1,fun j hj c hc=>List.all_eq_true.1 hf.2 c hc⟩) hfits
   refine⟨_,_,_,hk,(fun hh=>by cases hh),.tuple #[],_,?_,g',hr',tup0,hkeep,hfr⟩;have hone:∀v,v∈(Builtin.zeroCells z.cells len).toList->v.oneCell'=true:=by
    intro v hv;simp only[Builtin.zeroCells,Array.toList_map,List.mem_map] at hv;obtain⟨q,hq,rfl⟩:=hv;have hql:q<len*z.cells.size:=by simpa using hq
    have hzpos:0<z.cells.size:=by
     rcases Nat.eq_zero_or_pos z.cells.size with h0|h0
     ·rw[h0] at hql;omega
     ·exact h0
    have hqm:=Nat.mod_lt q hzpos;rw[Array.getElem!_eq_getD,Array.getD_eq_getD_getElem?,Array.getElem?_eq_getElem hqm];exact hz3 _ _ (Array.getElem?_eq_getElem hqm)
   have hst:0<len->(storeCells ad (Builtin.zeroCells z.cells len).toList).run P w = .ok () (w.setRow cb' (arr.toList.take (sh'+off*b.sz)++(Builtin.zeroCells z.cells len).toList++arr.toList.drop (sh'+off*b.sz+(Builtin.zeroCells z.cells len).toList.length)).toArray):=by
    intro h0;rw[e2 (by omega)];have:=run_storeCells_at P cb' (sh'+off*b.sz) e' (Builtin.zeroCells z.cells len).toList 0 arr w hok.heap (by simpa using hfits) hone;simpa using this
   unfold Builtin.clear_;simp only[List.getElem?_toArray,List.getElem?_cons_zero,Sem.run_bind,qe ht,Result.andThen_ok];rcases Nat.eq_zero_or_pos len with h0|h0
   ·subst h0;have e0:(Builtin.zeroCells z.cells 0).toList=[]:=by simp[Builtin.zeroCells]
    rw[e0];simp only[List.append_nil,List.length_nil,Nat.add_zero,List.take_append_drop,Array.toArray_toList];rw[setRow_self w cb' arr e' (0,0) hok.heap];simp
   ·cases len with
    |zero=>omega
    |succ n =>
     simp only[Sem.run_bind,hzr,Result.andThen_ok,hst h0];rfl
  |_=>simp at hk
end
section
variable {P:Program} {R:Type} {g:Gh} {h:qa} {w:World}
theorem jX{c:T}{v:Value}{U U':Nat->Prop}(hp:qw c=true)(hv:VI w U c v):VI w U' c v:=by
 cases hv<;>first
  |exact .undef _|exact .bool _|exact .int _ _|exact .str _ _ ‹_›
  |(simp[qw] at hp;done)
theorem kK{c:T}{v:Value}{U':Nat->Prop}(hp:qw c=true)(hv:g.VR h w c v):VI w U' c v:=by
 cases hv with
 |imm _ _ hv=>exact jX hp hv
 |_=>simp[qw] at hp
structure Reads(g:Gh)(h:qa)(w:World)(ex:List Nat)(V:Nat->Prop):Prop where
 u:∀b,g.U b->V b
 own:∀i b cb sh,h[i]?=some b->i∉ex->g.φ i=some (cb,sh)->V cb
theorem jr{V:Nat->Prop}(hV:∀b,g.U b->V b):KeepU w g.U w V:=fun b hb=>⟨hV b hb,rfl⟩
theorem zB{f:T->T}{l:List T}{o:Nat}{c:T}(hc:(l.map f)[o]?=some c):∃c0,l[o]?=some c0/\c=f c0:=by
 rw[List.getElem?_map] at hc;cases hl:l[o]? with
 |none=>simp[hl] at hc
 |some c0=>rw[hl] at hc;exact⟨c0,rfl,(Option.some.inj hc).symm⟩
theorem qgw(hr:HR g h w){V:Nat->Prop}{i ver off len:Nat}{cap:Option Nat}{b:Blk}{v:Value}(hb:h[i]?=some b)(hver:b.ver=ver)(hx:g.VR h w (.own i ver off len cap) v)(hle:off+len<=b.n)
 (hV:∀cb sh,g.φ i=some (cb,sh)->V cb) (gg:Nat->List T) (hl:∀j,j<len->(gg j).length=b.sz)
 (hg:∀(j o:Nat) (c:T) (u:Value),j<len->(gg j)[o]?=some c->∀c0:T,(b.get (off+j))[o]?=some c0->g.VR h w c0 u->(b.flat=true->qw c0=true)->VI w V c u) (hmp:b.mp=none:=by assumption) :
 VI w V (.view b.sz len gg cap) v:=by
 rcases Q6 hb hver hx with⟨cb,sh,cc,ad,e1,rfl,es,e2,e3,e4,e5,e6,e7⟩|⟨q1,q2,rfl,rfl,q5,rfl⟩
 rotate_left
 ·refine .vnil _ _ _ ?_;cases cap with
  |none=>exact .inl rfl
  |some c=>exact .inr (by rw[q5 c rfl])
 obtain⟨cb',sh',arr,e',hok⟩:=hr.blk i b hb hmp (.inr (by rw[e1];simp));rw[hok.φ] at e1;obtain⟨rfl,rfl⟩:=Prod.mk.inj (Option.some.inj e1);have key:∀j o c,j<len->(gg j)[o]?=some c->∃u,cellAt w ad.block (ad.off+j*b.sz+o) u/\VI w V c u:=by
  intro j o c hj ho;have had:=e2 (by omega);subst had;have ho':=qC ho;rw[hl j hj] at ho';have hlen:=hok.len (off+j) (by omega);have hc0:(b.get (off+j))[o]?=some (b.get (off+j))[o]:=List.getElem?_eq_getElem (by omega);obtain⟨u,hu,hur⟩:=hok.cellsAt (j:=off+j) (by omega) o _ hc0;refine⟨u,?_,hg j o c u hj ho _ hc0 hur (fun hf=>hok.flat hf _ (by omega) _ (List.mem_of_getElem? hc0))⟩;dsimp only;rw[Nat.add_mul] at hu;have e:sh'+off*b.sz+j*b.sz+o=sh'+(off*b.sz+j*b.sz)+o:=by omega
  rw[e];exact hu
 let vs:Nat->Nat->Value:=fun j o=>(w.cell? ⟨ad.block,ad.off+j*b.sz+o,none⟩).getD Go.undef
 have hvs:∀j o c,j<len->(gg j)[o]?=some c->cellAt w ad.block (ad.off+j*b.sz+o) (vs j o)/\VI w V c (vs j o):=by
  intro j o c hj ho;obtain⟨u,hu,hur⟩:=key j o c hj ho;have:vs j o=u:=by simp[vs,hu.1]
  rw[this];exact⟨hu,hur⟩
 refine .view b.sz len gg cap ad cc vs (fun _=>es) (fun m hm=>(e4 m hm).1) e3 (fun hp _=>?_) hl (fun j o c hj ho=>(hvs j o c hj ho).1) (fun j o c hj ho=>(hvs j o c hj ho).2);have had:=e2 (by omega);subst had;exact hV _ _ hok.φ
theorem qhX(hr:HR g h w){V:Nat->Prop}{i ver j o:Nat}{b:Blk}{v:Value}(hb:h[i]?=some b)(hver:b.ver=ver)(hx:g.VR h w (.ptr i ver j o) v)(hj:j<b.n)
 (hV:∀cb sh,g.φ i=some (cb,sh)->V cb) (cells:List T)
 (hg:∀(n:Nat) (c:T),cells[n]?=some c->∃c0:T,(b.get j)[o+n]?=some c0/\∀u:Value,g.VR h w c0 u->(b.flat=true->qw c0=true)->VI w V c u) (hmp:b.mp=none:=by assumption) :
 VI w V (.vp cells) v:=by
 obtain⟨b',hb',_,_,hp⟩:=hx.ptr_inv;rw[hb] at hb';obtain rfl:=Option.some.inj hb';obtain⟨cb,sh,e1,rfl⟩:=hp hver;obtain⟨cb',sh',arr,e',hok⟩:=hr.blk i b hb hmp (.inl (by omega));rw[hok.φ] at e1;obtain⟨rfl,rfl⟩:=Prod.mk.inj (Option.some.inj e1);have key:∀n c,cells[n]?=some c->∃u,cellAt w cb' (sh'+j*b.sz+o+n) u/\VI w V c u:=by
  intro n c hn;obtain⟨c0,h0,hv⟩:=hg n c hn;obtain⟨u,hu,hur⟩:=hok.cellsAt hj (o+n) c0 h0;exact⟨u,by rw[Nat.add_assoc];exact hu,hv u hur (fun hf=>hok.flat hf _ hj _ (List.mem_of_getElem? h0))⟩
 let vs:Nat->Value:=fun n=>(w.cell? ⟨cb',sh'+j*b.sz+o+n,none⟩).getD Go.undef
 have hvs:∀n c,cells[n]?=some c->cellAt w cb' (sh'+j*b.sz+o+n) (vs n)/\VI w V c (vs n):=by
  intro n c hn;obtain⟨u,hu,hur⟩:=key n c hn;have:vs n=u:=by simp[vs,hu.1]
  rw[this];exact⟨hu,hur⟩
 exact .vp cells _ vs rfl (fun _=>hV _ _ hok.φ) (fun n c hn=>(hvs n c hn).1) (fun n c hn=>(hvs n c hn).2)
theorem qdl{x:T}{v:Value}{V:Nat->Prop}(hV:∀b,g.U b->V b)(hx:g.VR h w x v):VI w V (bif Zg x then x else .undef) v:=by
 cases hi:Zg x with
 |true=>exact(kI hi hx).keep (jr hV)
 |false=>exact .undef _
theorem zo(hr:HR g h w){ex:List Nat}{V:Nat->Prop}(hV:Reads g h w ex V):∀(d:Nat) (x:T) (v:Value),g.VR h w x v->VI w V (resolve d ex h x) v
 |0,x,v,hx=>qdl hV.u hx
 |d+1,x,v,hx=>by
  have ih:=zo hr hV d;cases x with
  |own i ver off len cap =>
   simp only[resolve];cases hex:ex.contains i with
   |true=>exact .undef _
   |false =>
    have hni:i∉ex:=by simpa using hex
    simp only[cond_false];cases hb:h[i]? with
    |none=>exact .undef _
    |some b =>
     dsimp only;cases hmp:b.mp with
     |some m=>exact .undef _
     |none =>
     simp only[Option.isNone_none,Bool.true_and];cases hc:(b.ver==ver&&Nat.ble (off+len) b.n) with
     |false=>exact .undef _
     |true =>
      simp only[Bool.and_eq_true,beq_iff_eq] at hc;have hle:=qT hc.2;have hlen0:∀j,j<b.n->(b.get j).length=b.sz:=fun j hj=>by
       obtain⟨cb,sh,arr,e',hok⟩:=hr.blk i b hb hmp (.inl (by omega));exact hok.len j hj
      refine qgw hr hb hc.1 hx hle (fun cb sh hφ=>hV.own i b cb sh hb hni hφ) _ (fun j hj=>?_) (fun j o c u hj ho c0 h0 hv hpl=>?_)
      ·cases b.flat with
       |true=>exact hlen0 _ (by omega)
       |false=>simp only[cond_false,List.length_map];exact hlen0 _ (by omega)
      ·cases hfl:b.flat with
       |true =>
        rw[hfl] at ho hpl;simp only[cond_true] at ho;rw[ho] at h0;obtain rfl:=Option.some.inj h0;exact kK (hpl rfl) hv
       |false =>
        rw[hfl] at ho;simp only[cond_false] at ho;obtain⟨c1,h1,rfl⟩:=zB ho;rw[h1] at h0;obtain rfl:=Option.some.inj h0;exact ih _ _ hv
  |ptr i ver j o =>
   simp only[resolve];cases hex:ex.contains i with
   |true=>exact .undef _
   |false =>
    have hni:i∉ex:=by simpa using hex
    simp only[cond_false];cases hb:h[i]? with
    |none=>exact .undef _
    |some b =>
     dsimp only;cases hmp:b.mp with
     |some m=>exact .undef _
     |none =>
     simp only[Option.isNone_none,Bool.true_and];cases hc:(b.ver==ver&&Nat.blt j b.n) with
     |false=>exact .undef _
     |true =>
      simp only[Bool.and_eq_true,beq_iff_eq] at hc;have hlt:=qU hc.2;refine qhX hr hb hc.1 hx hlt (fun cb sh hφ=>hV.own i b cb sh hb hni hφ) _ (fun n c hn=>?_);cases hfl:b.flat with
      |true =>
       rw[hfl] at hn;simp only[cond_true,List.getElem?_drop] at hn;exact⟨c,hn,fun u hu hpl=>kK (hpl rfl) hu⟩
      |false =>
       rw[hfl] at hn;simp only[cond_false] at hn;obtain⟨c1,h1,rfl⟩:=zB hn;rw[List.getElem?_drop] at h1;exact⟨c1,h1,fun u hu _=>ih _ _ hu⟩
  |agg l =>
   obtain⟨cs,rfl,hl,h1,hc⟩:=hx.agg_inv;simp only[resolve];refine VI.mk_agg (by simpa using hl) h1 (fun i c hi=>?_);obtain⟨c0,h0,rfl⟩:=zB hi;obtain⟨u,hu,hr'⟩:=hc i c0 h0;exact⟨u,hu,ih _ _ hr'⟩
  |tup l =>
   obtain⟨cs,rfl,hl,hc⟩:=hx.tup_inv;simp only[resolve];refine VI.mk_tup (by simpa using hl) (fun i c hi=>?_);obtain⟨c0,h0,rfl⟩:=zB hi;obtain⟨u,hu,hr'⟩:=hc i c0 h0;exact⟨u,hu,ih _ _ hr'⟩
  |fn f l =>
   obtain⟨cs,rfl,hl,hc⟩:=hx.fn_inv;simp only[resolve];refine VI.mk_fn (by simpa using hl) (fun i c hi=>?_);obtain⟨c0,h0,rfl⟩:=zB hi;obtain⟨u,hu,hr'⟩:=hc i c0 h0;exact⟨u,hu,ih _ _ hr'⟩
  |iface t x =>
   simp only[resolve];cases hx with
   |imm _ _ hv=>cases hv with|iface _ _ u hu=>exact .iface _ _ _ (ih _ _ (.imm _ _ hu))
   |iface _ _ u hu=>exact .iface _ _ _ (ih _ _ hu)
  |_=>exact qdl hV.u hx
theorem jY(hr:HR g h w):Reads g h w [] (fun b=>b<w.heap.size) :=
 ⟨fun b hb=>(hr.u b hb).1,fun i b cb sh hb _ hφ=>by
  cases hmp:b.mp with
  |none =>
   obtain⟨cb',sh',arr,e',hok⟩:=hr.blk i b hb hmp (.inr (by rw[hφ];simp));rw[hok.φ] at hφ;obtain⟨rfl,rfl⟩:=Prod.mk.inj (Option.some.inj hφ);exact qu hok.heap
  |some m =>
   obtain⟨cb',h1,h2,h3⟩:=hr.mp i b m hb hmp;rw[h1] at hφ;obtain⟨rfl,rfl⟩:=Prod.mk.inj (Option.some.inj hφ);exact(hr.own _ _ h2).2⟩
theorem qbh(hr:HR g h w){x:T}{v:Value}(hx:g.VR h w x v):VI w (fun b=>b<w.heap.size) (zO h x) v:=by
 unfold zO;cases hi:imm x with
 |true=>exact(ka hi hx).keep (jr (jY hr).u)
 |false=>exact zo hr (jY hr) 4 x v hx
inductive RT0(w:World)(B:Nat)(U:Nat->Prop):T->Value->List Nat->Prop
 |vi (x:T) (v:Value) (hv:VI w U x v):RT0 w B U x v []
 |nw (x:T) (v:Value) (hv:VI w (fun b=>U b/\B<=b) x v):RT0 w B U (.new x) v []
 |fresh (flat:Bool) (sz n:Nat) (gg:Nat->List T) (len:Nat) (cap:Option Nat) (cb sh cc:Nat) (ad:Addr) (arr:Array Value) (e:TypeId)
  (es:ad.spot=none) (e2:0<cc->ad=⟨cb,sh,none⟩) (e3:len<=cc) (e4:∀m,cap=some m->cc=m/\m<=n) (e5:len<=n) (e7:cap=none->n<=cc) (hh:w.heap[cb]?=some (.cells arr e (0,0)))
  (r1:sh+n*sz<=arr.size) (r2:sh+cc*sz<=arr.size) (hl:∀j,j<n->(gg j).length=sz)
  (hc:∀j o c,j<n->(gg j)[o]?=some c->∃u,arr[sh+j*sz+o]?=some u/\u.oneCell'=true/\VI w U c u) (hf:flat=true->∀j,j<n->∀c,c∈gg j->qw c=true) :
  RT0 w B U (.fresh flat sz n gg len cap) (.slice (some ad) len cc) [cb]
 |frn (flat:Bool) (sz:Nat) (gg:Nat->List T) (cap:Option Nat) (e4:∀m,cap=some m->m=0):RT0 w B U (.fresh flat sz 0 gg 0 cap) (.slice none 0 0) []
 |mapr (m:MapD) (cb:Nat) (hm:MapOk w cb m):RT0 w B U (.freshm m) (.map (some cb)) [cb]
inductive RTL(Q:T->Value->List Nat->Prop):List T->List Value->List Nat->Prop
 |nil:RTL Q [] [] []
 |cons (x:T) (v:Value) (X:List Nat) (l:List T) (vs:List Value) (Y:List Nat) (hx:Q x v X) (hl:RTL Q l vs Y):RTL Q (x::l) (v::vs) (X++Y)
def RT1(w:World)(B:Nat)(U:Nat->Prop)(x:T)(v:Value)(X:List Nat):Prop :=
 match x with
 |.agg l=>∃cs:Array Value,v = .agg cs/\(∀(i:Nat) (u:Value),cs[i]?=some u->u.oneCell'=true)/\RTL (RT0 w B U) l cs.toList X
 |x=>RT0 w B U x v X
def RT2(w:World)(B:Nat)(U:Nat->Prop)(x:T)(v:Value)(X:List Nat):Prop :=
 match x with
 |.tup l=>∃cs:Array Value,v = .tuple cs/\RTL (RT1 w B U) l cs.toList X
 |x=>RT1 w B U x v X
def RV(w:World)(U:Nat->Prop)(r:T)(v:Value)(w':World):Prop :=
 (RowKit.Below w.heap.size w w'/\w'.drawn<=w'.drawn)/\∃(U':Nat->Prop) (X:List Nat),(∀b,U b->U' b)/\(∀b,U' b->(U b∨w.heap.size<=b)/\b<w'.heap.size)/\X.Nodup ∧
  (∀b,b∈X->w.heap.size<=b/\b<w'.heap.size/\¬U' b)/\RT2 w' w.heap.size U' r v X
theorem HR.adopt(hr:HR g h w){cb sh:Nat}{arr:Array Value}{e:TypeId}{b':Blk}(hcb:w.heap[cb]?=some (.cells arr e (0,0)))(hown:g.own cb=none)(hU:¬g.U cb)(hbase:g.base<=cb)
 (hroom:sh+b'.n*b'.sz<=arr.size) (hlen:∀j,j<b'.n->(b'.get j).length=b'.sz)
 (hcell:∀j o c,j<b'.n->(b'.get j)[o]?=some c->∃v,arr[sh+j*b'.sz+o]?=some v/\v.oneCell'=true/\g.VR h w c v)
 (hflat:b'.flat=true->∀j,j<b'.n->∀c,c∈b'.get j->qw c=true) (hmp:b'.mp=none:=by first|rfl|assumption) :
 ∃g',g'.φ h.length=some (cb,sh)/\g'.U=g.U/\g'.bs=g.bs/\(∀k,g'.own k=if k=cb then some (.inl h.length) else g.own k)/\HR g' (h++[b']) w/\zx g h w g' (h++[b']) w:=by
 have hcbl:cb<w.heap.size:=qu hcb
 let g':Gh:={ g with φ:=fun k=>if k=h.length then some (cb,sh) else g.φ k,own:=fun k=>if k=cb then some (.inl h.length) else g.own k }
 have hkeep:zx g h w g' (h++[b']) w:=by
  refine⟨fun k hk=>⟨hk,rfl⟩,fun k x hx=>?_,fun k n hkn=>hkn⟩;have hk:=qC hx;exact⟨x,by rw[List.getElem?_append_left hk];exact hx,Nat.le_refl _,fun _=>⟨rfl,rfl,by simp[g',Nat.ne_of_lt hk]⟩⟩
 refine⟨g',by simp[g'],rfl,rfl,fun k=>rfl,?_,hkeep⟩;refine⟨fun k x hx hmx=>?_,fun k hk=>?_,fun k o ho=>?_,hr.base,fun k o ho=>?_,fun k j ho=>?_,fun k x m hx hmx=>?_⟩
 ·rcases Nat.lt_or_ge k h.length with hk|hk
  ·rw[List.getElem?_append_left hk] at hx;rcases hr.blk0 k x hx hmx with⟨cb2,sh2,arr2,e2,hok⟩|⟨q1,q2⟩
   rotate_left
   ·exact .inr ⟨by simp[g',Nat.ne_of_lt hk,q1],q2⟩
   have hne:cb2≠cb:=by rintro rfl;rw[hok.own] at hown;cases hown
   refine .inl ⟨cb2,sh2,arr2,e2,by simp[g',Nat.ne_of_lt hk,hok.φ],by simp[g',hne,hok.own],hok.heap,hok.room,hok.len,fun j o c hj hc=>?_,hok.flat⟩;obtain⟨v,h1,h2,h3⟩:=hok.cell j o c hj hc;exact⟨v,h1,h2,h3.keep hkeep⟩
  ·have hk':k=h.length:=by
    have:=qC hx;simp at this;omega
   subst hk';simp only[List.getElem?_append_right (Nat.le_refl _),Nat.sub_self,List.getElem?_cons_zero,Option.some.injEq] at hx;subst hx;refine .inl ⟨cb,sh,arr,e,by simp[g'],by simp[g'],hcb,hroom,hlen,fun j o c hj hc=>?_,hflat⟩;obtain⟨v,h1,h2,h3⟩:=hcell j o c hj hc;exact⟨v,h1,h2,h3.keep hkeep⟩
 ·obtain⟨h1,h2⟩:=hr.u k hk;have hne:k≠cb:=by rintro rfl;exact hU hk
  exact⟨h1,by simp[g',hne,h2]⟩
 ·by_cases hk:k=cb
  ·subst hk;exact⟨hbase,hcbl⟩
  ·simp only[g',hk,if_false] at ho;exact hr.own k o ho
 ·by_cases hk:k=cb
  ·subst hk;exact .inl ⟨arr,e,hcb⟩
  ·simp only[g',hk,if_false] at ho;exact hr.cells k o ho
 ·rw[List.length_append,List.length_singleton];by_cases hk:k=cb
  ·subst hk;simp only[g',if_true,Option.some.injEq,Sum.inl.injEq] at ho;omega
  ·simp only[g',hk,if_false] at ho;have:=hr.lt k j ho;omega
 ·rcases Nat.lt_or_ge k h.length with hk|hk
  ·rw[List.getElem?_append_left hk] at hx;refine hr.mp_of hx hmx (by simp[g',Nat.ne_of_lt hk]) (fun c hc=>?_) fun _ _ _=>rfl;have hne:c≠cb:=by rintro rfl;rw[hc] at hown;cases hown
   simp[g',hne,hc]
  ·have hk':k=h.length:=by
    have:=qC hx;simp at this;omega
   subst hk';simp only[List.getElem?_append_right (Nat.le_refl _),Nat.sub_self,List.getElem?_cons_zero,Option.some.injEq] at hx;subst hx;rw[hmp] at hmx;cases hmx
theorem HR.adoptNil(hr:HR g h w){b':Blk}(hn:b'.n=0)(hmp:b'.mp=none) :
 ∃g',g'.φ h.length=none/\(∀k,k≠h.length->g'.φ k=g.φ k)/\g'.U=g.U/\g'.bs=g.bs/\g'.own=g.own/\HR g' (h++[b']) w/\zx g h w g' (h++[b']) w:=by
 let g':Gh:={ g with φ:=fun k=>if k=h.length then none else g.φ k }
 have hkeep:zx g h w g' (h++[b']) w:=by
  refine⟨fun k hk=>⟨hk,rfl⟩,fun k x hx=>?_,fun k n hkn=>hkn⟩;have hk:=qC hx;exact⟨x,by rw[List.getElem?_append_left hk];exact hx,Nat.le_refl _,fun _=>⟨rfl,rfl,by simp[g',Nat.ne_of_lt hk]⟩⟩
 have last:∀{k:Nat} {x:Blk},h.length<=k->(h++[b'])[k]?=some x->k=h.length/\x=b':=by
  intro k x hk hx;have hk':k=h.length:=by
   have:=qC hx;simp at this;omega
  subst hk';simp only[List.getElem?_append_right (Nat.le_refl _),Nat.sub_self,List.getElem?_cons_zero,Option.some.injEq] at hx;exact⟨rfl,hx.symm⟩
 refine⟨g',by simp[g'],fun k hk=>by simp[g',hk],rfl,rfl,rfl,?_,hkeep⟩;refine⟨fun k x hx hmx=>?_,hr.u,hr.own,hr.base,hr.cells,fun k j ho=>by rw[List.length_append];exact Nat.lt_of_lt_of_le (hr.lt k j ho) (Nat.le_add_right _ _),fun k x m hx hmx=>?_⟩
 ·rcases Nat.lt_or_ge k h.length with hk|hk
  ·rw[List.getElem?_append_left hk] at hx;rcases hr.blk0 k x hx hmx with⟨cb2,sh2,arr2,e2,hok⟩|⟨q1,q2⟩
   ·refine .inl ⟨cb2,sh2,arr2,e2,by simp[g',Nat.ne_of_lt hk,hok.φ],hok.own,hok.heap,hok.room,hok.len,fun j o c hj hc=>?_,hok.flat⟩;obtain⟨v,h1,h2,h3⟩:=hok.cell j o c hj hc;exact⟨v,h1,h2,h3.keep hkeep⟩
   ·exact .inr ⟨by simp[g',q1],q2⟩
  ·obtain⟨rfl,rfl⟩:=last hk hx;exact .inr ⟨by simp[g'],hn⟩
 ·rcases Nat.lt_or_ge k h.length with hk|hk
  ·rw[List.getElem?_append_left hk] at hx;exact hr.mp_of hx hmx (by simp[g',Nat.ne_of_lt hk]) (fun c hc=>hc) fun _ _ _=>rfl
  ·obtain⟨rfl,rfl⟩:=last hk hx;rw[hmp] at hmx;cases hmx
theorem HR.adoptMap(hr:HR g h w){cb ver:Nat}{m0:MapD}(hm:MapOk w cb m0)(hown:g.own cb=none)(hU:¬g.U cb)(hbase:g.base<=cb) :
 ∃g',g'.φ h.length=some (cb,0)/\g'.U=g.U/\g'.bs=g.bs/\(∀k,g'.own k=if k=cb then some (.inl h.length) else g.own k)/\HR g' (h++[yD ver m0]) w/\zx g h w g' (h++[yD ver m0]) w:=by
 have hcbl:cb<w.heap.size:=by obtain⟨es,c,q⟩:=hm.heap;exact qu q
 let g':Gh:={ g with φ:=fun k=>if k=h.length then some (cb,0) else g.φ k,own:=fun k=>if k=cb then some (.inl h.length) else g.own k }
 have hkeep:zx g h w g' (h++[yD ver m0]) w:=by
  refine⟨fun k hk=>⟨hk,rfl⟩,fun k x hx=>?_,fun k n hkn=>hkn⟩;have hk:=qC hx;exact⟨x,by rw[List.getElem?_append_left hk];exact hx,Nat.le_refl _,fun _=>⟨rfl,rfl,by simp[g',Nat.ne_of_lt hk]⟩⟩
 refine⟨g',by simp[g'],rfl,rfl,fun k=>rfl,?_,hkeep⟩;refine⟨fun k x hx hmx=>?_,fun k hk=>?_,fun k o ho=>?_,hr.base,fun k o ho=>?_,fun k j ho=>?_,fun k x m hx hmx=>?_⟩
 ·rcases Nat.lt_or_ge k h.length with hk|hk
  ·rw[List.getElem?_append_left hk] at hx;rcases hr.blk0 k x hx hmx with⟨cb2,sh2,arr2,e2,hok⟩|⟨q1,q2⟩
   rotate_left
   ·exact .inr ⟨by simp[g',Nat.ne_of_lt hk,q1],q2⟩
   have hne:cb2≠cb:=by rintro rfl;rw[hok.own] at hown;cases hown
   refine .inl ⟨cb2,sh2,arr2,e2,by simp[g',Nat.ne_of_lt hk,hok.φ],by simp[g',hne,hok.own],hok.heap,hok.room,hok.len,fun j o c hj hc=>?_,hok.flat⟩;obtain⟨v,h1,h2,h3⟩:=hok.cell j o c hj hc;exact⟨v,h1,h2,h3.keep hkeep⟩
  ·have hk':k=h.length:=by
    have:=qC hx;simp at this;omega
   subst hk';simp only[List.getElem?_append_right (Nat.le_refl _),Nat.sub_self,List.getElem?_cons_zero,Option.some.injEq] at hx;subst hx;cases hmx
 ·obtain⟨h1,h2⟩:=hr.u k hk;have hne:k≠cb:=by rintro rfl;exact hU hk
  exact⟨h1,by simp[g',hne,h2]⟩
 ·by_cases hk:k=cb
  ·subst hk;exact⟨hbase,hcbl⟩
  ·simp only[g',hk,if_false] at ho;exact hr.own k o ho
 ·by_cases hk:k=cb
  ·subst hk;simp only[g',if_true,Option.some.injEq] at ho;subst ho;obtain⟨es,c,q⟩:=hm.heap;exact .inr ⟨_,es,c,rfl,q⟩
  ·simp only[g',hk,if_false] at ho;exact hr.cells k o ho
 ·rw[List.length_append,List.length_singleton];by_cases hk:k=cb
  ·subst hk;simp only[g',if_true,Option.some.injEq,Sum.inl.injEq] at ho;omega
  ·simp only[g',hk,if_false] at ho;have:=hr.lt k j ho;omega
 ·rcases Nat.lt_or_ge k h.length with hk|hk
  ·rw[List.getElem?_append_left hk] at hx;refine hr.mp_of hx hmx (by simp[g',Nat.ne_of_lt hk]) (fun c hc=>?_) fun _ _ _=>rfl;have hne:c≠cb:=by rintro rfl;rw[hc] at hown;cases hown
   simp[g',hne,hc]
  ·have hk':k=h.length:=by
    have:=qC hx;simp at this;omega
   subst hk';simp only[List.getElem?_append_right (Nat.le_refl _),Nat.sub_self,List.getElem?_cons_zero,Option.some.injEq] at hx;subst hx;obtain rfl:m0=m:=Option.some.inj hmx;exact⟨cb,by simp[g'],by simp[g'],hm⟩
end
section
variable {P:Program} {R:Type} {g:Gh} {h:qa} {w:World}
structure Took(g0:Gh)(w0:World)(g:Gh)(h:qa)(w:World)(g':Gh)(h':qa)(X:List Nat):Prop where
 hr:HR g' h' w
 keep:zx g h w g' h' w
 fr:FrO g0 w0 g' w
 u:g'.U=g.U
 own:∀b,b∉X->g'.own b=g.own b
theorem Took.refl{g0:Gh}{w0:World}(hr:HR g h w)(hf:FrO g0 w0 g w):Took g0 w0 g h w g h []:=⟨hr,.refl _ _ _ _,hf,rfl,fun _ _=>rfl⟩
def Free(g0:Gh)(w0:World)(g:Gh)(b:Nat):Prop:=g.own b=none/\¬g.U b/\w0.heap.size<=b/\g0.base<=w0.heap.size
theorem qeS{x:T}{v:Value}{U U':Nat->Prop}(hv:VI w U x v) :
 VI w U' (qfc x) v:=by
 cases hv<;>first|exact .bool _|exact .int _ _|exact .str _ _ ‹_›|exact .nilp|exact .nils|exact .nilf|exact .nili|exact .nilm|exact .undef _
theorem qfQ{x:T}{v:Value}{U U':Nat->Prop}(hv:VI w U x v):VI w U' (qeN x) v:=by
 have h0:=hv;cases hv with
 |vnil sz g cap hc=>exact .vnil _ _ _ (.inl rfl)
 |view sz n g cap a c vs hs hcap hn hU hl hc hv=>exact .view 0 n (fun _=>[]) none a c vs hs (fun m hm=>by cases hm) hn (fun _ h=>absurd h (Nat.lt_irrefl 0)) (fun _ _=>rfl) (fun j o x _ ho=>by simp at ho) (fun j o x _ ho=>by simp at ho)
 |_=>exact qeS h0
theorem Jt{g0:Gh}{w0:World}{safe:Bool}{B:Nat}{U':Nat->Prop}{x:T}{v:Value}{X:List Nat}(hx:RT0 w B U' x v X)(hr:HR g h w)(hfr:FrO g0 w0 g w)(hfree:∀b,b∈X->Free g0 w0 g b)
 (hsafe:safe=true->∀b,U' b->g.U b) (hnew:∀b,U' b->B<=b->g.U b):∃g',Took g0 w0 g h w g' (Zd safe h x).2 X/\g'.VR (Zd safe h x).2 w (Zd safe h x).1 v:=by
 cases hx with
 |vi x v hv =>
  have e:(Zd safe h x).2=h:=by cases hv<;>rfl
  rw[e];refine⟨g,.refl hr hfr,.imm _ _ ?_⟩;cases safe with
  |true =>
   have e1:(Zd true h x).1=x:=by cases hv<;>rfl
   rw[e1];exact hv.keep (fun b hb=>⟨hsafe rfl b hb,rfl⟩)
  |false =>
   have e1:(Zd false h x).1=qfc x:=by cases hv<;>rfl
   rw[e1];exact qeS hv
 |nw x v hv =>
  refine⟨g,.refl hr hfr,.imm _ _ ?_⟩;exact hv.keep (fun b hb=>⟨hnew b hb.1 hb.2,rfl⟩)
 |fresh flat sz n gg len cap cb sh cc ad arr e es e2 e3 e4 e5 e7 hh r1 r2 hl hc hf =>
  simp only[Zd];cases hsf:(safe || flat) with
  |false =>
   simp only[cond_false];obtain⟨f1,f2,f3,f4⟩:=hfree cb (by simp);have hbase:g.base<=cb:=by rw[hfr.base];omega
   obtain⟨g',q1,q2,q3,q4,q5,q6⟩:=hr.adopt (b':=⟨0,sz,n,fun j=>(gg j).map qeN,false,false,none⟩) hh f1 f2 hbase r1 (fun j hj=>by rw[List.length_map];exact hl j hj) (fun j o c hj ho=>by
    obtain⟨c0,hc0,rfl⟩:=zB ho;obtain⟨u,u1,u2,u3⟩:=hc j o c0 hj hc0;exact⟨u,u1,u2,.imm _ _ (qfQ u3)⟩) (fun h=>by cases h)
   refine⟨g',⟨q5,q6,?_,q2,fun b hb=>by rw[q4,if_neg (by simpa using hb)]⟩,?_⟩
   ·refine⟨hfr.size,fun b hb=>?_,hfr.os,hfr.tape,hfr.output,hfr.same,q3.trans hfr.bs,fun b hb=>hfr.u b (q2▸hb),fun b hb t=>?_⟩
    ·rw[q4,if_neg (by omega)];exact hfr.own b hb
    ·rw[q4];split
     ·simp
     ·exact hfr.new b hb t
   ·exact .own _ _ _ _ _ _ _ (Z8 h _) (Nat.le_refl _) rfl fun _=>.inl ⟨cb,sh,cc,ad,q1,rfl,es,fun hp=>by simpa using e2 hp,e3,fun m hm=>⟨(e4 m hm).1,by simpa using (e4 m hm).2⟩,by simpa using e5,⟨arr,e,hh,by simpa using r2⟩,fun hc=>by simpa using e7 hc⟩
  |true =>
   simp only[cond_true];obtain⟨f1,f2,f3,f4⟩:=hfree cb (by simp);have hbase:g.base<=cb:=by rw[hfr.base];omega
   obtain⟨g',q1,q2,q3,q4,q5,q6⟩:=hr.adopt (b':=⟨0,sz,n,gg,flat,false,none⟩) hh f1 f2 hbase r1 hl (fun j o c hj ho=>by
    obtain⟨u,u1,u2,u3⟩:=hc j o c hj ho;refine⟨u,u1,u2,.imm _ _ ?_⟩;cases hfl:flat with
    |true=>exact jX (hf hfl j hj c (List.mem_of_getElem? ho)) u3
    |false =>
     rw[hfl] at hsf;exact u3.keep (fun b hb=>⟨hsafe (by simpa using hsf) b hb,rfl⟩)) hf
   refine⟨g',⟨q5,q6,?_,q2,fun b hb=>by rw[q4,if_neg (by simpa using hb)]⟩,?_⟩
   ·refine⟨hfr.size,fun b hb=>?_,hfr.os,hfr.tape,hfr.output,hfr.same,q3.trans hfr.bs,fun b hb=>hfr.u b (q2▸hb),fun b hb t=>?_⟩
    ·rw[q4,if_neg (by omega)];exact hfr.own b hb
    ·rw[q4];split
     ·simp
     ·exact hfr.new b hb t
   ·exact .own _ _ _ _ _ _ _ (Z8 h _) (Nat.le_refl _) rfl fun _=>.inl ⟨cb,sh,cc,ad,q1,rfl,es,fun hp=>by simpa using e2 hp,e3,fun m hm=>⟨(e4 m hm).1,by simpa using (e4 m hm).2⟩,by simpa using e5,⟨arr,e,hh,by simpa using r2⟩,fun hc=>by simpa using e7 hc⟩
 |frn flat sz gg cap e4 =>
  simp only[Zd];cases hsf:(safe || flat) with
  |false =>
   simp only[cond_false];obtain⟨g',q1,q0,q2,q3,q4,q5,q6⟩:=hr.adoptNil (b':=⟨0,sz,0,fun j=>(gg j).map qeN,false,false,none⟩) rfl rfl;refine⟨g',⟨q5,q6,?_,q2,fun b hb=>by rw[q4]⟩,?_⟩
   ·exact⟨hfr.size,fun b hb=>by rw[q4];exact hfr.own b hb,hfr.os,hfr.tape,hfr.output,hfr.same,q3.trans hfr.bs,fun b hb=>hfr.u b (q2▸hb),fun b hb t=>by rw[q4];exact hfr.new b hb t⟩
   ·exact .own _ _ _ _ _ _ _ (Z8 h _) (Nat.le_refl _) rfl fun _=>.inr ⟨q1,rfl,rfl,rfl,e4,rfl⟩
  |true =>
   simp only[cond_true];obtain⟨g',q1,q0,q2,q3,q4,q5,q6⟩:=hr.adoptNil (b':=⟨0,sz,0,gg,flat,false,none⟩) rfl rfl;refine⟨g',⟨q5,q6,?_,q2,fun b hb=>by rw[q4]⟩,?_⟩
   ·exact⟨hfr.size,fun b hb=>by rw[q4];exact hfr.own b hb,hfr.os,hfr.tape,hfr.output,hfr.same,q3.trans hfr.bs,fun b hb=>hfr.u b (q2▸hb),fun b hb t=>by rw[q4];exact hfr.new b hb t⟩
   ·exact .own _ _ _ _ _ _ _ (Z8 h _) (Nat.le_refl _) rfl fun _=>.inr ⟨q1,rfl,rfl,rfl,e4,rfl⟩
 |mapr m cb hm =>
  simp only[Zd];obtain⟨f1,f2,f3,f4⟩:=hfree cb (by simp);have hbase:g.base<=cb:=by rw[hfr.base];omega
  obtain⟨g',q1,q2,q3,q4,q5,q6⟩:=hr.adoptMap (ver:=0) hm f1 f2 hbase;refine⟨g',⟨q5,q6,?_,q2,fun b hb=>by rw[q4,if_neg (by simpa using hb)]⟩,?_⟩
  ·refine⟨hfr.size,fun b hb=>?_,hfr.os,hfr.tape,hfr.output,hfr.same,q3.trans hfr.bs,fun b hb=>hfr.u b (q2▸hb),fun b hb t=>?_⟩
   ·rw[q4,if_neg (by omega)];exact hfr.own b hb
   ·rw[q4];split
    ·simp
    ·exact hfr.new b hb t
  ·exact .mp _ _ _ _ (Z8 h _) (Nat.le_refl _) rfl fun _=>⟨cb,q1,rfl⟩
theorem Took.trans{g0:Gh}{w0:World}{g1 g2:Gh}{h1 h2:qa}{X Y:List Nat}(a:Took g0 w0 g h w g1 h1 X)(b:Took g0 w0 g1 h1 w g2 h2 Y):Took g0 w0 g h w g2 h2 (X++Y) :=
 ⟨b.hr,a.keep.trans b.keep,b.fr,b.u.trans a.u,fun k hk=>by
  simp only[List.mem_append,not_or] at hk;rw[b.own k hk.2,a.own k hk.1]⟩
theorem Free.after{g0:Gh}{w0:World}{g':Gh}{h':qa}{X:List Nat}{b:Nat}(hf:Free g0 w0 g b)(t:Took g0 w0 g h w g' h' X)(hb:b∉X):Free g0 w0 g' b :=
 ⟨by rw[t.own b hb];exact hf.1,by rw[t.u];exact hf.2.1,hf.2.2⟩
theorem qdm{g0:Gh}{w0:World}{safe:Bool}{B:Nat}{U':Nat->Prop}:∀{l:List T} {vs:List Value} {X:List Nat},RTL (RT0 w B U') l vs X->∀{g:Gh} {h:qa},HR g h w->FrO g0 w0 g w->(∀b,b∈X->Free g0 w0 g b)->X.Nodup →
 (safe=true->∀b,U' b->g.U b)->(∀b,U' b->B<=b->g.U b)->∃g',Took g0 w0 g h w g' (Z4 safe h l).2 X/\(Z4 safe h l).1.length=vs.length/\∀(i:Nat) (c:T),(Z4 safe h l).1[i]?=some c->∃u,vs[i]?=some u/\g'.VR (Z4 safe h l).2 w c u:=by
 intro l vs X hl
 induction hl with
 |nil =>
  intro g h hr hfr _ _ _ _;exact⟨g,.refl hr hfr,rfl,fun i c hi=>by simp[Z4] at hi⟩
 |cons x v X l vs Y hx hl ih =>
  intro g h hr hfr hfree hnd hsafe hnew;obtain⟨g1,t1,r1⟩:=Jt hx hr hfr (fun b hb=>hfree b (by simp[hb])) hsafe hnew;have hnd':=List.nodup_append.1 hnd;obtain⟨g2,t2,l2,r2⟩:=ih (g:=g1) (h:=(Zd safe h x).2) t1.hr t1.fr (fun b hb=>(hfree b (by simp[hb])).after t1 (fun hbx=>hnd'.2.2 b hbx b hb rfl)) hnd'.2.1 (fun hs b hb=>by rw[t1.u];exact hsafe hs b hb) (fun b hb hB=>by rw[t1.u];exact hnew b hb hB);refine⟨g2,t1.trans t2,by simp[Z4,l2],fun i c hi=>?_⟩;cases i with
  |zero =>
   simp only[Z4,List.getElem?_cons_zero,Option.some.injEq] at hi;subst hi;exact⟨v,rfl,r1.keep t2.keep⟩
  |succ i=>exact r2 i c (by simpa [Z4] using hi)
theorem Ju{g0:Gh}{w0:World}{safe:Bool}{B:Nat}{U':Nat->Prop}{x:T}{v:Value}{X:List Nat}(hx:RT1 w B U' x v X)(hr:HR g h w)(hfr:FrO g0 w0 g w)(hfree:∀b,b∈X->Free g0 w0 g b)(hnd:X.Nodup)
 (hsafe:safe=true->∀b,U' b->g.U b) (hnew:∀b,U' b->B<=b->g.U b):∃g',Took g0 w0 g h w g' (Zx safe h x).2 X/\g'.VR (Zx safe h x).2 w (Zx safe h x).1 v:=by
 cases x with
 |agg l =>
  obtain⟨cs,rfl,h1,hl⟩:=hx;obtain⟨g',t,hlen,hc⟩:=qdm hl hr hfr hfree hnd hsafe hnew;refine⟨g',t,VR.mk_agg (by simpa [Zx] using hlen) h1 (fun i c hi=>?_)⟩;obtain⟨u,hu,hur⟩:=hc i c hi;exact⟨u,by simpa using hu,hur⟩
 |_=>exact Jt hx hr hfr hfree hsafe hnew
theorem qcu{g0:Gh}{w0:World}{safe:Bool}{B:Nat}{U':Nat->Prop}:∀{l:List T} {vs:List Value} {X:List Nat},RTL (RT1 w B U') l vs X->∀{g:Gh} {h:qa},HR g h w->FrO g0 w0 g w->(∀b,b∈X->Free g0 w0 g b)->X.Nodup →
 (safe=true->∀b,U' b->g.U b)->(∀b,U' b->B<=b->g.U b)->∃g',Took g0 w0 g h w g' (zQ safe h l).2 X/\(zQ safe h l).1.length=vs.length/\∀(i:Nat) (c:T),(zQ safe h l).1[i]?=some c->∃u,vs[i]?=some u/\g'.VR (zQ safe h l).2 w c u:=by
 intro l vs X hl
 induction hl with
 |nil =>
  intro g h hr hfr _ _ _ _;exact⟨g,.refl hr hfr,rfl,fun i c hi=>by simp[zQ] at hi⟩
 |cons x v X l vs Y hx hl ih =>
  intro g h hr hfr hfree hnd hsafe hnew;have hnd':=List.nodup_append.1 hnd;obtain⟨g1,t1,r1⟩:=Ju hx hr hfr (fun b hb=>hfree b (by simp[hb])) hnd'.1 hsafe hnew;obtain⟨g2,t2,l2,r2⟩:=ih (g:=g1) (h:=(Zx safe h x).2) t1.hr t1.fr (fun b hb=>(hfree b (by simp[hb])).after t1 (fun hbx=>hnd'.2.2 b hbx b hb rfl)) hnd'.2.1 (fun hs b hb=>by rw[t1.u];exact hsafe hs b hb) (fun b hb hB=>by rw[t1.u];exact hnew b hb hB);refine⟨g2,t1.trans t2,by simp[zQ,l2],fun i c hi=>?_⟩;cases i with
  |zero =>
   simp only[zQ,List.getElem?_cons_zero,Option.some.injEq] at hi;subst hi;exact⟨v,rfl,r1.keep t2.keep⟩
  |succ i=>exact r2 i c (by simpa [zQ] using hi)
theorem qdn{g0:Gh}{w0:World}{safe:Bool}{B:Nat}{U':Nat->Prop}{x:T}{v:Value}{X:List Nat}(hx:RT2 w B U' x v X)(hr:HR g h w)(hfr:FrO g0 w0 g w)(hfree:∀b,b∈X->Free g0 w0 g b)(hnd:X.Nodup)
 (hsafe:safe=true->∀b,U' b->g.U b) (hnew:∀b,U' b->B<=b->g.U b):∃g',Took g0 w0 g h w g' (zG safe h x).2 X/\g'.VR (zG safe h x).2 w (zG safe h x).1 v:=by
 cases x with
 |tup l =>
  obtain⟨cs,rfl,hl⟩:=hx;obtain⟨g',t,hlen,hc⟩:=qcu hl hr hfr hfree hnd hsafe hnew;refine⟨g',t,VR.mk_tup (by simpa [zG] using hlen) (fun i c hi=>?_)⟩;obtain⟨u,hu,hur⟩:=hc i c hi;exact⟨u,by simpa using hu,hur⟩
 |_=>exact Ju hx hr hfr hfree hnd hsafe hnew
theorem qbF{safe:Bool}{U:Nat->Prop}{r:T}{v:Value}{w':World}(hr:HR g h w)(hrv:RV w U r v w')(hsafe:safe=true->U=g.U):Res g h w (zG safe h r).1 (zG safe h r).2 v w':=by
 obtain⟨⟨hb,hdr⟩,U',X,h1,h2,h3,h4,h5⟩:=hrv
 let g1:Gh:=if safe=true then { g with U:=U' } else { g with U:=fun b=>g.U b∨(U' b/\w.heap.size<=b) }
 have hU1:∀b,g.U b->g1.U b:=by
  intro b hbU;by_cases hs:safe=true
  ·simp only[g1,hs,if_true];exact h1 b (by rw[hsafe hs];exact hbU)
  ·simp only[g1,hs];exact .inl hbU
 have hU2:∀b,g1.U b->(g.U b∨w.heap.size<=b)/\b<w'.heap.size:=by
  intro b hbU;by_cases hs:safe=true
  ·simp only[g1,hs,if_true] at hbU;have:=h2 b hbU;rw[hsafe hs] at this;exact this
  ·simp only[g1,hs] at hbU;rcases hbU with hbU|hbU
   ·exact⟨.inl hbU,by have:=(hr.u b hbU).1;have:=hb.size;omega⟩
   ·exact⟨.inr hbU.2,(h2 b hbU.1).2⟩
 have hown1:g1.own=g.own:=by by_cases hs:safe=true<;>simp[g1,hs]
 have hφ1:g1.φ=g.φ:=by by_cases hs:safe=true<;>simp[g1,hs]
 have hbs1:g1.bs=g.bs:=by by_cases hs:safe=true<;>simp[g1,hs,Gh.bs]
 have hbase1:g1.base=g.base:=congrArg Prod.fst hbs1;have hkeep:zx g h w g1 h w':=by
  refine⟨fun b hbU=>⟨hU1 b hbU,hb.block b (hr.u b hbU).1⟩,fun i b hib=>⟨b,hib,Nat.le_refl _,fun _=>⟨rfl,rfl,by rw[hφ1]⟩⟩,fun k n hkn=>?_⟩;obtain⟨arr,e,q1,q2⟩:=hkn;exact⟨arr,e,by rw[hb.block k (qu q1)];exact q1,q2⟩
 have hr1:HR g1 h w':=by
  refine⟨fun i b hib hmp=>?_,fun b hbU=>⟨(hU2 b hbU).2,?_⟩,fun b o ho=>?_,by rw[hbase1];exact Nat.le_trans hr.base hb.size,fun b o ho=>?_,fun b j ho=>hr.lt b j (by rw[hown1] at ho;exact ho),fun i b m hib hm=>hr.mp_of hib hm (by rw[hφ1]) (fun c hc=>by rw[hown1];exact hc) fun c hc _=>hb.block c hc⟩
  ·rcases hr.blk0 i b hib hmp with⟨cb,sh,arr,e,hok⟩|⟨q1,q2⟩
   rotate_left
   ·exact .inr ⟨by rw[hφ1];exact q1,q2⟩
   exact .inl ⟨cb,sh,arr,e,by rw[hφ1];exact hok.φ,by rw[hown1];exact hok.own,by rw[hb.block cb (qu hok.heap)];exact hok.heap,hok.room,hok.len,fun j o c hj hc=>by
    obtain⟨u,u1,u2,u3⟩:=hok.cell j o c hj hc;exact⟨u,u1,u2,u3.keep hkeep⟩,hok.flat⟩
  ·rw[hown1];rcases (hU2 b hbU).1 with q|q
   ·exact(hr.u b q).2
   ·cases ho:g.own b with
    |none=>rfl
    |some o=>have:=(hr.own b o ho).2;omega
  ·rw[hown1] at ho;have:=hr.own b o ho;rw[hbase1];exact⟨this.1,by have:=hb.size;omega⟩
  ·rw[hown1] at ho;exact hr.cells_of ho (hb.block b (hr.own b o ho).2)
 have hfr1:FrO g w g1 w':=by
  refine⟨hb.size,fun b _=>by rw[hown1],hb.os,hb.tape,⟨hb.output,hdr⟩,fun b hbs _=>hb.block b hbs,hbs1,fun b hbU=>(hU2 b hbU).1,fun b hbs t ho=>?_⟩;rw[hown1] at ho;have:=(hr.own b _ ho).2;omega
 obtain⟨g',t,hvr⟩:=qdn (g0:=g) (w0:=w) (safe:=safe) h5 hr1 hfr1 (fun b hbX=>by
  obtain⟨q1,q2,q3⟩:=h4 b hbX;refine⟨?_,fun hU=>?_,q1,hr.base⟩
  ·rw[hown1];cases ho:g.own b with
   |none=>rfl
   |some o=>have:=(hr.own b o ho).2;omega
  ·by_cases hs:safe=true
   ·simp only[g1,hs,if_true] at hU;exact q3 hU
   ·simp only[g1,hs] at hU;rcases hU with hU|hU
    ·have:=(hr.u b hU).1;omega
    ·exact q3 hU.1) h3 (fun hs b hbU=>by simp only[g1,hs,if_true];exact hbU) (fun b hbU hB=>by
  by_cases hs:safe=true
  ·simp only[g1,hs,if_true];exact hbU
  ·simp only[g1,hs];exact .inr ⟨hbU,hB⟩)
 exact⟨g',t.hr,hvr,hkeep.trans t.keep,t.fr⟩
end
section
variable {P:Program} {R:Type} {g:Gh} {h:qa} {w:World}
theorem js:∀{l:List Nat},Q9 l=true->l.Nodup
 |[],_=>List.nodup_nil
 |a::l,hn=>by
  simp only[Q9,Bool.and_eq_true,Bool.not_eq_true'] at hn;exact List.nodup_cons.2 ⟨by simpa using hn.1,js hn.2⟩
def QA(g:Gh)(i:Nat):Option Nat:=(g.φ i).map (·.1)
def ZG(g:Gh)(w:World)(B:Nat)(all:List Nat)(b:Nat):Prop:=g.U b∨(B<=b/\b<w.heap.size/\b∉all.filterMap (QA g))
theorem qdo(hr:HR g h w)(B:Nat)(hB:B<=g.base)(all:List Nat)(hall:∀j,j∈all->∃b,h[j]?=some b):Reads g h w all (ZG g w B all):=by
 refine⟨fun b hb=>.inl hb,fun i b cb sh hb hni hφ=>.inr ?_⟩;have hokown:=hr.placed hb hφ;have:=hr.own _ _ hokown;refine⟨by omega,this.2,fun hm=>?_⟩;obtain⟨j,hj,hjp⟩:=List.mem_filterMap.1 hm;obtain⟨bj,hbj⟩:=hall j hj;unfold QA at hjp;obtain⟨⟨cbj,shj⟩,hokjφ,hjp⟩:=Option.map_eq_some_iff.1 hjp;dsimp only at hjp;subst hjp;have hokjown:=hr.placed hbj hokjφ;have:=hokjown;rw[hokown] at this;have:i=j:=by simpa using this
 subst this;exact hni hj
theorem Jv(hr:HR g h w){B:Nat}(hB:B<=g.base){all:List Nat}(hall:∀j,j∈all->∃b,h[j]?=some b){ok:Bool}{x:T}{v:Value}(hx:g.VR h w x v) :
 ∃X,RT0 w B (ZG g w B all) (KZ ok all h x) v X/\X.Sublist ((yO x).filterMap (QA g))/\(ok=false->X=[]):=by
 have hreads:=qdo hr B hB all hall;have other:(∀i ver off len cap,x≠.own i ver off len cap)->(∀i ver,x≠.mp i ver)->∃X,RT0 w B (ZG g w B all) (KZ ok all h x) v X/\X.Sublist ((yO x).filterMap (QA g))/\(ok=false->X=[]):=by
  intro hno hno2;have e:KZ ok all h x=bif imm x then x else resolve 4 all h x:=by
   cases x<;>first|rfl|exact absurd rfl (hno2 _ _)|exact absurd rfl (hno _ _ _ _ _)
  rw[e];refine⟨[],.vi _ _ ?_,List.nil_sublist _,fun _=>rfl⟩;cases hi:imm x with
  |true=>exact(ka hi hx).keep (jr hreads.u)
  |false=>exact zo hr hreads 4 x v hx
 cases x with
 |own i ver off len cap =>
  simp only[KZ];cases ok with
  |false=>exact⟨[],.vi _ _ (.undef _),List.nil_sublist _,fun _=>rfl⟩
  |true =>
   simp only[cond_true];cases hb:h[i]? with
   |none=>exact⟨[],.vi _ _ (.undef _),List.nil_sublist _,fun _=>rfl⟩
   |some b =>
    dsimp only;cases hmp:b.mp with
    |some m=>exact⟨[],.vi _ _ (.undef _),List.nil_sublist _,fun _=>rfl⟩
    |none =>
    simp only[Option.isNone_none,Bool.true_and];cases hc:(b.ver==ver&&Nat.ble (off+len) b.n) with
    |false=>exact⟨[],.vi _ _ (.undef _),List.nil_sublist _,fun _=>rfl⟩
    |true =>
     simp only[Bool.and_eq_true,beq_iff_eq] at hc;have hle:=qT hc.2;rcases Q6 hb hc.1 hx with⟨cb,sh,cc,ad,e1,rfl,es,e2,e3,e4,e5,e6,e7⟩|⟨q1,q2,rfl,rfl,q5,rfl⟩
     rotate_left
     ·simp only[cond_true];rw[show b.n-0=0 by omega];exact⟨[],.frn _ _ _ _ q5,List.nil_sublist _,fun _=>rfl⟩
     obtain⟨cb',sh',arr,e',hok⟩:=hr.blk i b hb hmp (.inr (by rw[e1];simp));rw[hok.φ] at e1;obtain⟨rfl,rfl⟩:=Prod.mk.inj (Option.some.inj e1);have hroom:=Yo hok.heap e6;simp only[cond_true];refine⟨[cb'],.fresh _ _ _ _ _ _ cb' (sh'+off*b.sz) cc ad arr e' es e2 e3 (fun m hm=>⟨(e4 m hm).1,by have:=(e4 m hm).2;omega⟩) (by omega) (fun hc=>by have:=e7 hc;omega) hok.heap ?_ ?_ ?_ ?_ ?_,?_,fun hh=>by cases hh⟩
     ·have h1:=hok.room;have h2:(b.n-off)*b.sz=b.n*b.sz-off*b.sz:=Nat.sub_mul _ _ _;have h3:off*b.sz<=b.n*b.sz:=Nat.mul_le_mul_right _ (by omega);omega
     ·rw[Nat.add_mul] at hroom;omega
     ·intro j hj;cases b.flat with
      |true=>exact hok.len _ (by omega)
      |false=>simp only[cond_false,List.length_map];exact hok.len _ (by omega)
     ·intro j o c hj ho;cases hfl:b.flat with
      |true =>
       rw[hfl] at ho;simp only[cond_true] at ho;obtain⟨u,u1,u2,u3⟩:=hok.cell (off+j) o c (by omega) ho;rw[Nat.add_mul,←Nat.add_assoc] at u1;exact⟨u,u1,u2,kK (hok.flat hfl _ (by omega) _ (List.mem_of_getElem? ho)) u3⟩
      |false =>
       rw[hfl] at ho;simp only[cond_false] at ho;obtain⟨c0,h0,rfl⟩:=zB ho;obtain⟨u,u1,u2,u3⟩:=hok.cell (off+j) o c0 (by omega) h0;rw[Nat.add_mul,←Nat.add_assoc] at u1;exact⟨u,u1,u2,zo hr hreads 3 _ _ u3⟩
     ·intro hf j hj c hcm;rw[hf] at hcm;simp only[cond_true] at hcm;exact hok.flat hf _ (by omega) c hcm
     ·simp[yO,QA,hok.φ]
 |mp i ver =>
  simp only[KZ];cases ok with
  |false=>exact⟨[],.vi _ _ (.undef _),List.nil_sublist _,fun _=>rfl⟩
  |true =>
   simp only[cond_true];cases hb:h[i]? with
   |none=>exact⟨[],.vi _ _ (.undef _),List.nil_sublist _,fun _=>rfl⟩
   |some b =>
    dsimp only;cases hc:(b.ver==ver) with
    |false=>exact⟨[],.vi _ _ (.undef _),List.nil_sublist _,fun _=>rfl⟩
    |true =>
     have hver:b.ver=ver:=by simpa using hc
     simp only[cond_true];cases hmp:b.mp with
     |none=>exact⟨[],.vi _ _ (.undef _),List.nil_sublist _,fun _=>rfl⟩
     |some m =>
      obtain⟨b',hb',_,_,hq⟩:=hx.mp_inv;rw[hb] at hb';obtain rfl:=Option.some.inj hb';obtain⟨cb,e1,rfl⟩:=hq hver;obtain⟨cb',o1,o2,o3⟩:=hr.mp i b m hb hmp;rw[o1] at e1;obtain⟨rfl,_⟩:=Prod.mk.inj (Option.some.inj e1);exact⟨[cb'],.mapr m cb' o3,by simp[yO,QA,o1],fun hh=>by cases hh⟩
 |_=>exact other (fun _ _ _ _ _ hh=>by cases hh) (fun _ _ hh=>by cases hh)
theorem RTL.map{Q:T->Value->List Nat->Prop}{ok:Bool}{f:T->T}{pl:T->List Nat}:∀{l:List T} {vs:List Value},l.length=vs.length →
 (∀(i:Nat) (x:T),l[i]?=some x->∃v,vs[i]?=some v/\∃X,(Q (f x) v X/\(ok=false->X=[]))/\X.Sublist (pl x))->∃X,RTL Q (l.map f) vs X/\X.Sublist (l.flatMap pl)/\(ok=false->X=[])
 |[],[],_,_=>⟨[],.nil,by simp,fun _=>rfl⟩
 |x::l,v::vs,hl,hx=>by
  obtain⟨v',hv',X,⟨hX,h0⟩,hs⟩:=hx 0 x rfl;obtain rfl:v=v':=by simpa using hv'
  obtain⟨Y,hY,hs2,h1⟩:=RTL.map (Q:=Q) (ok:=ok) (f:=f) (pl:=pl) (l:=l) (vs:=vs) (by simpa using hl) (fun i x hi=>hx (i+1) x hi);exact⟨X++Y,.cons _ _ _ _ _ _ hX hY,by simpa using List.Sublist.append hs hs2,fun hh=>by rw[h0 hh,h1 hh];rfl⟩
 |[],_::_,hl,_=>by simp at hl
 |_::_,[],hl,_=>by simp at hl
theorem yx{α β γ:Type}(l:List α)(f:α->List β)(p:β->Option γ):(l.flatMap fun x=>(f x).filterMap p)=(l.flatMap f).filterMap p:=by
 induction l with
 |nil=>rfl
 |cons x l ih=>simp[List.filterMap_append,ih]
theorem qee{U:Nat->Prop}{Q:T->Value->List Nat->Prop}(hQ:∀c u,VI w U c u->Q c u []):∀(l:List T) (us:List Value),l.length=us.length->(∀(i:Nat) (c:T),l[i]?=some c->∃u,us[i]?=some u/\VI w U c u)->RTL Q l us []
 |[],[],_,_=>.nil
 |c::l,u::us,hus,hc=>by
  obtain⟨u',hu',hur⟩:=hc 0 c rfl;obtain rfl:u=u':=by simpa using hu'
  exact .cons _ _ [] _ _ [] (hQ _ _ hur) (qee hQ l us (by simpa using hus) (fun i c hi=>hc (i+1) c hi))
 |[],_::_,hl,_=>by simp at hl
 |_::_,[],hl,_=>by simp at hl
theorem RT0.to1{B:Nat}{U:Nat->Prop}{y:T}{v:Value}{X:List Nat}(hy:RT0 w B U y v X):RT1 w B U y v X:=by
 cases y with
 |agg l =>
  cases hy with|vi _ _ hv =>
  cases hv with|agg _ cs vs hl h1 hc hv =>
  exact⟨cs,rfl,h1,qee (fun c u hu=>.vi c u hu) l cs.toList (by simpa using hl) (fun i c hi=>⟨vs i,by simpa using hc i c hi,hv i c hi⟩)⟩
 |_=>exact hy
theorem RT1.to2{B:Nat}{U:Nat->Prop}{y:T}{v:Value}{X:List Nat}(hy:RT1 w B U y v X):RT2 w B U y v X:=by
 cases y with
 |tup l =>
  cases (show RT0 w B U (.tup l) v X from hy) with|vi _ _ hv =>
  cases hv with|tup _ cs vs hl hc hv =>
  exact⟨cs,rfl,qee (fun c u hu=>(RT0.vi c u hu).to1) l cs.toList (by simpa using hl) (fun i c hi=>⟨vs i,by simpa using hc i c hi,hv i c hi⟩)⟩
 |_=>exact hy
theorem Jw(hr:HR g h w){B:Nat}(hB:B<=g.base){all:List Nat}(hall:∀j,j∈all->∃b,h[j]?=some b){ok:Bool}{x:T}{v:Value}(hx:g.VR h w x v) :
 ∃X,RT1 w B (ZG g w B all) (qbs ok all h x) v X/\X.Sublist ((Jk x).filterMap (QA g))/\(ok=false->X=[]):=by
 cases x with
 |agg l =>
  obtain⟨cs,rfl,hl,h1,hc⟩:=hx.agg_inv;have each:∀(i:Nat) (x:T),l[i]?=some x->∃v,cs.toList[i]?=some v/\∃X,(RT0 w B (ZG g w B all) (KZ ok all h x) v X/\(ok=false->X=[]))/\X.Sublist ((yO x).filterMap (QA g)):=by
   intro i x hi;obtain⟨u,hu,hur⟩:=hc i x hi;obtain⟨X,q1,q2,q3⟩:=Jv hr hB hall (ok:=ok) hur;exact⟨u,by simpa using hu,X,⟨q1,q3⟩,q2⟩
  obtain⟨X,hX,hs,h0⟩:=RTL.map (Q:=RT0 w B (ZG g w B all)) (ok:=ok) (f:=KZ ok all h) (pl:=fun x=>(yO x).filterMap (QA g)) (l:=l) (vs:=cs.toList) (by simpa using hl) each;exact⟨X,⟨cs,rfl,h1,hX⟩,by rw[yx] at hs;exact hs,h0⟩
 |_ =>
  obtain⟨X,q1,q2,q3⟩:=Jv hr hB hall (ok:=ok) hx;exact⟨X,q1.to1,q2,q3⟩
theorem qbG{x:T}{v:Value}(hx:g.VR h w x v):∀j,j∈yO x->∃b,h[j]?=some b:=by
 intro j hj;cases x with
 |own i ver off len cap =>
  obtain rfl:j=i:=by simpa [yO] using hj
  obtain⟨b,hb,_⟩:=hx.own_inv;exact⟨b,hb⟩
 |mp i ver =>
  obtain rfl:j=i:=by simpa [yO] using hj
  obtain⟨b,hb,_⟩:=hx.mp_inv;exact⟨b,hb⟩
 |_=>simp[yO] at hj
theorem qbH{x:T}{v:Value}(hx:g.VR h w x v):∀j,j∈Jk x->∃b,h[j]?=some b:=by
 intro j hj;cases x with
 |agg l =>
  obtain⟨x,hxm,hxj⟩:=List.mem_flatMap.1 (show j∈l.flatMap yO from hj);obtain⟨i,hi⟩:=List.mem_iff_getElem?.1 hxm;obtain⟨cs,rfl,hl,h1,hc⟩:=hx.agg_inv;obtain⟨u,hu,hur⟩:=hc i x hi;exact qbG hur j hxj
 |_=>exact qbG hx j hj
theorem qfR{x:T}{v:Value}(hx:g.VR h w x v):∀j,j∈zP x->∃b,h[j]?=some b:=by
 intro j hj;cases x with
 |tup l =>
  obtain⟨x,hxm,hxj⟩:=List.mem_flatMap.1 (show j∈l.flatMap Jk from hj);obtain⟨i,hi⟩:=List.mem_iff_getElem?.1 hxm;obtain⟨cs,rfl,hl,hc⟩:=hx.tup_inv;obtain⟨u,hu,hur⟩:=hc i x hi;exact qbH hur j hxj
 |_=>exact qbH hx j hj
theorem YH(p:Nat->Option Nat):∀{l:List Nat},l.Nodup->(∀i,i∈l->∀j,j∈l->∀b,p i=some b->p j=some b->i=j)->(l.filterMap p).Nodup
 |[],_,_=>List.nodup_nil
 |a::l,hn,hinj=>by
  have hn:=List.nodup_cons.1 hn;have ih:=YH p hn.2 (fun i hi j hj=>hinj i (by simp[hi]) j (by simp[hj]));rw[List.filterMap_cons];cases ha:p a with
  |none=>exact ih
  |some b =>
   refine List.nodup_cons.2 ⟨fun hm=>?_,ih⟩;obtain⟨j,hj,hjb⟩:=List.mem_filterMap.1 hm;have:=hinj a (by simp) j (by simp[hj]) b ha hjb;subst this;exact hn.1 hj
theorem Yp(hr:HR g h w){B:Nat}(hB:B<=g.base){x:T}{v:Value}(hx:g.VR h w x v) :
 ∃X,RT2 w B (ZG g w B (zP x)) (yP h x) v X/\X.Nodup/\∀b,b∈X->B<=b/\b<w.heap.size/\¬ZG g w B (zP x) b:=by
 have hall:=qfR hx;have gen:(∀l,x≠.tup l)->∃X,RT2 w B (ZG g w B (zP x)) (yP h x) v X/\X.Sublist ((zP x).filterMap (QA g))/\(Q9 (zP x)=false->X=[]):=by
  intro hno;have e1:yP h x=qbs (Q9 (zP x)) (zP x) h x:=by cases x<;>first|rfl|exact absurd rfl (hno _)
  have e2:Jk x=zP x:=by cases x<;>first|rfl|exact absurd rfl (hno _)
  obtain⟨X,q1,q2,q3⟩:=Jw hr hB hall (ok:=Q9 (zP x)) hx;rw[e1];exact⟨X,q1.to2,by rw[←e2];exact q2,q3⟩
 have main:∃X,RT2 w B (ZG g w B (zP x)) (yP h x) v X/\X.Sublist ((zP x).filterMap (QA g))/\(Q9 (zP x)=false->X=[]):=by
  cases x with
  |tup l =>
   obtain⟨cs,rfl,hl,hc⟩:=hx.tup_inv;have each:∀(i:Nat) (y:T),l[i]?=some y->∃v,cs.toList[i]?=some v/\∃X,(RT1 w B (ZG g w B (zP (.tup l))) (qbs (Q9 (zP (.tup l))) (zP (.tup l)) h y) v X/\(Q9 (zP (.tup l))=false->X=[]))/\X.Sublist ((Jk y).filterMap (QA g)):=by
    intro i y hi;obtain⟨u,hu,hur⟩:=hc i y hi;obtain⟨X,q1,q2,q3⟩:=Jw hr hB hall (ok:=Q9 (zP (.tup l))) hur;exact⟨u,by simpa using hu,X,⟨q1,q3⟩,q2⟩
   obtain⟨X,hX,hs,h0⟩:=RTL.map (Q:=RT1 w B (ZG g w B (zP (.tup l)))) (ok:=Q9 (zP (.tup l))) (f:=qbs (Q9 (zP (.tup l))) (zP (.tup l)) h) (pl:=fun x=>(Jk x).filterMap (QA g)) (l:=l) (vs:=cs.toList) (by simpa using hl) each;exact⟨X,⟨cs,rfl,hX⟩,by rw[yx] at hs;exact hs,h0⟩
  |_=>exact gen (fun l hh=>by cases hh)
 obtain⟨X,hX,hs,h0⟩:=main;refine⟨X,hX,?_,fun b hb=>?_⟩
 ·cases hn:Q9 (zP x) with
  |false=>rw[h0 hn];exact List.nodup_nil
  |true =>
   refine hs.nodup (YH _ (js hn) fun i hi j hj b hbi hbj=>?_);obtain⟨x1,hx1⟩:=hall i hi;obtain⟨x2,hx2⟩:=hall j hj;unfold QA at hbi hbj;obtain⟨⟨cb,sh⟩,hokφ,hbi⟩:=Option.map_eq_some_iff.1 hbi;obtain⟨⟨cb',sh'⟩,hokφ',hbj⟩:=Option.map_eq_some_iff.1 hbj;dsimp only at hbi hbj;have hokown:=hr.placed hx1 hokφ;have hokown':=hr.placed hx2 hokφ';have:=hokown;rw[hbi,←hbj,hokown'] at this;simpa using this.symm
 ·have hm:=hs.subset hb;obtain⟨j,hj,hjp⟩:=List.mem_filterMap.1 hm;obtain⟨bj,hbj⟩:=hall j hj;unfold QA at hjp;obtain⟨⟨cb,sh⟩,hokφ,hjp⟩:=Option.map_eq_some_iff.1 hjp;dsimp only at hjp;subst hjp;have hokown:=hr.placed hbj hokφ;have ho:=hr.own _ _ hokown;refine⟨by omega,ho.2,fun hg=>?_⟩;rcases hg with hg|⟨_,_,hg⟩
  ·have:=(hr.u _ hg).2;rw[hokown] at this;cases this
  ·exact hg hm
theorem Kl{safe:Bool}{x:T}(hx:z7 x=true):(Zd safe h x).2=h:=by
 cases x<;>first|rfl|(simp[z7] at hx;done)
theorem Km{safe:Bool}:∀{l:List T} {h:qa},l.all z7=true->(Z4 safe h l).2=h
 |[],_,_=>rfl
 |x::l,h,hl=>by
  simp only[List.all_cons,Bool.and_eq_true] at hl;have h1:=Kl (h:=h) (safe:=safe) hl.1;simp only[Z4];rw[h1];exact Km hl.2
theorem Kn{safe:Bool}{x:T}{h:qa}(hx:z8 x=true):(Zx safe h x).2=h:=by
 cases x with
 |agg l=>exact Km (show l.all z7=true from hx)
 |_=>exact Kl hx
theorem kg{safe:Bool}:∀{l:List T} {h:qa},l.all z8=true->(zQ safe h l).2=h
 |[],_,_=>rfl
 |x::l,h,hl=>by
  simp only[List.all_cons,Bool.and_eq_true] at hl;have h1:=Kn (h:=h) (safe:=safe) hl.1;simp only[zQ];rw[h1];exact kg hl.2
theorem qbi{safe:Bool}{x:T}{h:qa}(hx:Yd x=true):(zG safe h x).2=h:=by
 cases x with
 |tup l=>exact kg (show l.all z8=true from hx)
 |_=>exact Kn hx
end
theorem Tr.get_set:∀(d:Nat) (t:Tr) (i j:Nat) (v:T),i<2 ^ d->j<2 ^ d->Tr.get d (Tr.set d t i v) j=if j=i then v else Tr.get d t j
 |0,t,i,j,v,hi,hj=>by
  have h1:i=0:=by simpa using hi
  have h2:j=0:=by simpa using hj
  subst h1;subst h2;cases t<;>rfl
 |d+1,t,i,j,v,hi,hj=>by
  have hp:2 ^ (d+1)=2*2 ^ d:=by rw[Nat.pow_succ];omega
  have ih:=fun t=>Tr.get_set d t (i/2) (j/2) v (by omega) (by omega);have nilget:∀(d k:Nat),Tr.get d .nil k = .undef:=by intro d k;cases d<;>rfl
  have leafget:∀(x:T) (k:Nat),Tr.get (d+1) (.leaf x) k = .undef:=fun _ _=>rfl;cases hi2:(i%2==0)<;>cases hj2:(j%2==0)
  all_goals
   have e1:i%2=0∨i%2=1:=by omega
   have e2:j%2=0∨j%2=1:=by omega
   simp only[beq_iff_eq,beq_eq_false_iff_ne,ne_eq] at hi2 hj2;cases t with
   |node l r =>
    simp only[Tr.set,Tr.get,beq_iff_eq,Bool.cond_eq_ite,hi2,hj2,if_true,if_false,ih]
    try (by_cases hij:j/2=i/2
         ·rw[if_pos hij,if_pos (by omega)]
         ·rw[if_neg hij,if_neg (by omega)])
    try rw[if_neg (by omega)]
   |nil =>
    simp only[Tr.set,Tr.get,beq_iff_eq,Bool.cond_eq_ite,hi2,hj2,if_true,if_false,ih,nilget]
    try (by_cases hij:j/2=i/2
         ·rw[if_pos hij,if_pos (by omega)]
         ·rw[if_neg hij,if_neg (by omega)])
    try rw[if_neg (by omega)]
   |leaf x =>
    simp only[Tr.set,Tr.get,beq_iff_eq,Bool.cond_eq_ite,hi2,hj2,if_true,if_false,ih,nilget]
    try (by_cases hij:j/2=i/2
         ·rw[if_pos hij,if_pos (by omega)]
         ·rw[if_neg hij,if_neg (by omega)])
    try rw[if_neg (by omega)]
theorem qdp{s:St}{t:Nat}(h:t<1024):s.at t=s.env.get Qt t:=by
 unfold St.at
 rw[show Nat.blt t 1024=true from Nat.ble_eq_true_of_le h];rfl
theorem Jy{s:St}{t:Nat}(h:¬t<1024):s.at t = .undef:=by
 unfold St.at
 cases hb:Nat.blt t 1024 with
 |true=>exact absurd (qU hb) h
 |false=>rfl
theorem jZ{s s':St}{d:Nat}{v:T}(he:s'.env=s.env.set Qt d v)(hd:d<1024)(t:Nat):s'.at t=if t=d then v else s.at t:=by
 by_cases ht:t<1024
 ·rw[qdp ht,qdp ht,he];exact Tr.get_set 10 s.env d t v hd ht
 ·rw[Jy ht,Jy ht,if_neg (by omega)]
structure RegOk(g:Gh)(h:qa)(w:World)(t:Nat)(v:Value)(cells:List T)(cb:Nat)(arr:Array Value)(e:TypeId):Prop where
 ptr:v = .pointer (some ⟨cb,0,none⟩)
 own:g.own cb=some (.inr t)
 heap:w.heap[cb]?=some (.cells arr e (0,0))
 len:cells.length<=arr.size
 cell:∀(o:Nat) (c:T),cells[o]?=some c->∃u:Value,arr[o]?=some u/\u.oneCell'=true/\g.VR h w c u
def ZF(D:Nat):Deferred:={ target:=.collected D,args:=#[] }
def MkIs(g:Gh)(l:List Nat)(ds:List Deferred):Prop:=∃t,ds=l.map ZF++t/\(t=[]∨t=g.dt)/\∀D,ZF D∉t
theorem MkIs.nil{g:Gh}{l:List Nat}{ds:List Deferred}(h:MkIs g l ds)(hd:g.dt=[]):ds=l.map ZF:=by
 obtain⟨t,rfl,h2,_⟩:=h;rcases h2 with rfl|rfl
 ·simp
 ·simp[hd]
theorem MkIs.to{g g':Gh}{l:List Nat}{ds:List Deferred}(h:MkIs g l ds)(hbase:g'.bs=g.bs):MkIs g' l ds:=by
 obtain⟨t,q1,q2,q3⟩:=h;exact⟨t,q1,by rw[show g'.dt=g.dt from congrArg (fun x=>x.2.2) hbase];exact q2,q3⟩
theorem MkIs.mem{g:Gh}{l l0:List Nat}{t0 ds:List Deferred}(h:MkIs g l ds)(hd:ds=l0.map ZF++t0)(ht:∀D,ZF D∉t0){D:Nat}(hD:D∈l):D∈l0:=by
 obtain⟨t,rfl,_⟩:=h;have:ZF D∈l0.map ZF++t0:=by rw[←hd];exact List.mem_append_left _ (List.mem_map_of_mem hD)
 rcases List.mem_append.1 this with q|q
 ·obtain⟨x,hx,e⟩:=List.mem_map.1 q;simp only[ZF,Deferred.mk.injEq,Target.collected.injEq,and_true] at e;exact e▸hx
 ·exact absurd q (ht D)
def Marks(g:Gh)(w:World)(ds:List Deferred):Prop:=g.low<=w.heap.size/\∃l:List Nat,MkIs g l ds/\l.Nodup/\∀D∈l,g.low<=D/\g.own D=none/\¬g.U D/\w.heap[D]?=some (.deferred (some []))
theorem Qy{w:World}{b:Nat}{o:Obj}(h:w.heap[b]?=some o):b<w.heap.size:=(Array.getElem?_eq_some_iff.1 h).1
theorem Marks.nil{g:Gh}{w:World}(h:g.low<=w.heap.size):Marks g w []:=⟨h,[],⟨[],rfl,.inl rfl,fun _ h=>by cases h⟩,.nil,fun D h=>by cases h⟩
theorem Marks.to{g g':Gh}{w w':World}{ds:List Deferred}(h:Marks g w ds)(hsize:w.heap.size<=w'.heap.size)(hown:∀b,b<w.heap.size->g'.own b=g.own b)(hsame:∀b,b<w.heap.size->g.own b=none->w'.heap[b]?=w.heap[b]?)
 (hbase:g'.bs=g.bs) (hu:∀b,g'.U b->g.U b∨w.heap.size<=b):Marks g' w' ds:=by
 obtain⟨h0,l,h1,h2,h3⟩:=h;refine⟨by rw[show g'.low=g.low from congrArg (fun x=>x.2.1) hbase];omega,l,by obtain⟨t,q1,q2,q3⟩:=h1;exact⟨t,q1,by rw[show g'.dt=g.dt from congrArg (fun x=>x.2.2) hbase];exact q2,q3⟩,h2,fun D hD=>?_⟩;obtain⟨q1,q2,q3,q4⟩:=h3 D hD;have hlt:=Qy q4;refine⟨by rw[show g'.low=g.low from congrArg (fun x=>x.2.1) hbase];exact q1,(hown D hlt).trans q2,fun hU=>?_,(hsame D hlt q2).trans q4⟩;rcases hu D hU with h|h
 ·exact q3 h
 ·omega
structure SR(Gl:Nat->Option (List T))(prom:List Nat)(nt:Nat)(g:Gh)(s:St)(a:Act)(w:World):Prop where
 hr:HR g s.h w
 defers:Marks g w a.defers
 size:a.tmps.size=nt
 nt:nt<=1024
 tmps:∀t,t∉prom->g.VR s.h w (s.at t) (a.tmps.getD t undef)
 regs:∀t,t∈prom->∀cells,s.at t = .reg cells->∃cb arr e,RegOk g s.h w t (a.tmps.getD t undef) cells cb arr e
 loc:∀d t o,s.loc d=some (t,o)->t∈prom/\d∉prom/\∃cb,a.tmps.getD t undef = .pointer (some ⟨cb,0,none⟩)/\a.tmps.getD d undef = .pointer (some ⟨cb,o,none⟩)
 glob:∀gl cells,Gl gl=some cells->VI w g.U (.vp cells) (.pointer (some ⟨gl,0,none⟩))
 used:∀d t o,s.loc d=some (t,o)->s.used t=true
structure FrC(g:Gh)(h:qa)(w:World)(g':Gh)(h':qa)(w':World):Prop where
 keep:zx g h w g' h' w'
 size:w.heap.size<=w'.heap.size
 own:∀b,b<w.heap.size->g'.own b=g.own b
 os:w'.os=w.os
 tape:w'.tape=w.tape
 output:OutOk w' w
 same:∀b,b<w.heap.size->g.own b=none->w'.heap[b]?=w.heap[b]?
 bs:g'.bs=g.bs
 u:∀b,g'.U b->g.U b∨w.heap.size<=b
 u':∀b,g.U b->g'.U b
theorem FrC.base{g g':Gh}{h h':qa}{w w':World}(f:FrC g h w g' h' w'):g'.base=g.base:=congrArg Prod.fst f.bs
theorem FrC.low{g g':Gh}{h h':qa}{w w':World}(f:FrC g h w g' h' w'):g'.low=g.low:=congrArg (fun x=>x.2.1) f.bs
theorem FrC.dt{g g':Gh}{h h':qa}{w w':World}(f:FrC g h w g' h' w'):g'.dt=g.dt:=congrArg (fun x=>x.2.2) f.bs
theorem FrC.marks{g g':Gh}{h h':qa}{w w':World}{ds:List Deferred}(f:FrC g h w g' h' w')(m:Marks g w ds):Marks g' w' ds:=m.to f.size f.own f.same f.bs f.u
theorem FrO.marks{g g':Gh}{w w':World}{ds:List Deferred}(f:FrO g w g' w')(m:Marks g w ds):Marks g' w' ds:=m.to f.size f.own (fun b hb hn=>f.same b hb (fun i hi=>by rw[hn] at hi;cases hi)) f.bs f.u
theorem FrC.refl(g:Gh)(h:qa)(w:World):FrC g h w g h w:=⟨.refl _ _ _ _,Nat.le_refl _,fun _ _=>rfl,rfl,rfl,.refl _,fun _ _ _=>rfl,rfl,fun _ h=>.inl h,fun _ h=>h⟩
theorem FrC.trans{g g1 g2:Gh}{h h1 h2:qa}{w w1 w2:World}(a:FrC g h w g1 h1 w1)(b:FrC g1 h1 w1 g2 h2 w2):FrC g h w g2 h2 w2:=by
 refine⟨a.keep.trans b.keep,Nat.le_trans a.size b.size,fun k hk=>(b.own k (by have:=a.size;omega)).trans (a.own k hk),b.os.trans a.os,b.tape.trans a.tape,b.output.trans a.output,fun k hk hn=>?_,b.bs.trans a.bs,fun k hk=>?_,fun k hk=>b.u' k (a.u' k hk)⟩
 ·rw[b.same k (by have:=a.size;omega) (by rw[a.own k hk];exact hn),a.same k hk hn]
 ·rcases b.u k hk with h1|h1
  ·exact a.u k h1
  ·exact .inr (Nat.le_trans a.size h1)
theorem FrO.toC{g g':Gh}{h h':qa}{w w':World}(f:FrO g w g' w')(k:zx g h w g' h' w'):FrC g h w g' h' w' :=
 ⟨k,f.size,f.own,f.os,f.tape,f.output,fun b hb hn=>f.same b hb (fun i hi=>by rw[hn] at hi;cases hi),f.bs,f.u,fun b hb=>(k.u b hb).1⟩
section
variable {P:Program} {Gl:Nat->Option (List T)} {prom:List Nat} {nt:Nat} {g:Gh} {s:St} {a:Act} {w:World}
theorem SR.ev(hs:SR Gl prom nt g s a w)(x:Operand):g.VR s.h w (ev Gl prom s x) (a.eval x):=by
 cases x with
 |tmp t =>
  simp only[Ab.ev,Act.eval];cases hp:prom.contains t with
  |true=>exact .imm _ _ (.undef _)
  |false=>exact hs.tmps t (by simpa using hp)
 |const v =>
  simp only[Ab.ev,Act.eval];cases hf:JU v with
  |true=>exact .imm _ _ (qby v hf)
  |false=>exact .imm _ _ (.undef _)
 |func f=>exact .imm _ _ (.fn f [] #[] (fun _=>undef) rfl (fun i c hi=>by simp at hi) (fun i c hi=>by simp at hi))
 |global gl =>
  simp only[Ab.ev,Act.eval];cases hg:Gl gl with
  |none=>exact .imm _ _ (.undef _)
  |some cells=>exact .imm _ _ (hs.glob gl cells hg)
theorem QL(a:Act)(d:Nat)(v:Value)(hd:d<a.tmps.size)(t:Nat):(a.put (some d) v).tmps.getD t undef=if t=d then v else a.tmps.getD t undef:=by
 simp only[Act.put,Array.getD_eq_getD_getElem?];by_cases ht:t=d
 ·subst ht;simp[hd]
 ·rw[Array.getElem?_setIfInBounds_ne (fun e=>ht e.symm),if_neg ht]
theorem qay(a:Act)(d:Option Nat)(v:Value):(a.put d v).tmps.size=a.tmps.size:=by cases d<;>simp[Act.put]
theorem QB(a:Act)(d:Option Nat)(v:Value):(a.put d v).defers=a.defers:=by cases d<;>rfl
theorem RegOk.keep{h h':qa}{g':Gh}{w':World}{t:Nat}{v:Value}{cells:List T}{cb:Nat}{arr:Array Value}{e:TypeId}(hreg:RegOk g h w t v cells cb arr e)(hk:zx g h w g' h' w')
 (ho:g'.own cb=g.own cb) (hh:w'.heap[cb]?=w.heap[cb]?):RegOk g' h' w' t v cells cb arr e :=
 ⟨hreg.ptr,ho.trans hreg.own,hh.trans hreg.heap,hreg.len,fun o c hoc=>by
  obtain⟨u,h1,h2,h3⟩:=hreg.cell o c hoc;exact⟨u,h1,h2,h3.keep hk⟩⟩
abbrev St.lay(s:St)(d:Nat)(v:T)(h:Option qa):St:=(⟨some (d,v),some (d,none),h⟩:Eff).app s
theorem JY{s:St}{d:Nat}{v:T}{h:Option qa}{e t o:Nat}(hl:(s.lay d v h).loc e=some (t,o)):s.loc e=some (t,o)/\e≠d:=by
 simp only[Eff.app,ZZ,Bool.cond_eq_ite] at hl;split at hl
 ·cases hl
 ·rename_i he;exact⟨hl,by simpa using he⟩
theorem SR.done(hs:SR Gl prom nt g s a w){d:Nat}(hd:d<nt){x:T}{h':qa}{v:Value}{w':World}{g':Gh}(hr:HR g' h' w')(hx:g'.VR h' w' x v)(hk:zx g s.h w g' h' w')(hf:FrO g w g' w'){hp:Option qa}(he:hp.getD s.h=h')(hu:s.used d=false) :
 SR Gl prom nt g' (s.lay d x hp) (a.put (some d) v) w':=by
 subst he;have hdl:d<1024:=by have:=hs.nt;omega
 have hds:d<a.tmps.size:=by rw[hs.size];exact hd
 have hat:=jZ (s:=s) (s':=s.lay d x hp) (d:=d) (v:=x) rfl hdl;refine⟨hr,by rw[QB];exact hf.marks hs.defers,by rw[qay];exact hs.size,hs.nt,fun t ht=>?_,fun t ht cells hc=>?_,fun e t o hl=>?_,fun gl cells hg=>(hs.glob gl cells hg).keep hk.u,fun e t o hl=>hs.used e t o (JY hl).1⟩
 ·rw[hat,QL a d v hds];split
  ·exact hx
  ·exact(hs.tmps t ht).keep hk
 ·rw[hat] at hc;rw[QL a d v hds];split at hc
  ·subst hc;exact absurd hx VR.not_reg
  ·rename_i htd;rw[if_neg htd];obtain⟨cb,arr,e,hreg⟩:=hs.regs t ht cells hc;have hlt:=qu hreg.heap;exact⟨cb,arr,e,hreg.keep hk (hf.own cb hlt) (hf.same cb hlt (fun i hi=>by rw[hreg.own] at hi;cases hi))⟩
 ·obtain⟨h1,h2⟩:=JY hl;have h3:t≠d:=by rintro rfl;rw[hs.used e t o h1] at hu;cases hu
  obtain⟨q1,q2,cb,q3,q4⟩:=hs.loc e t o h1;refine⟨q1,q2,cb,?_,?_⟩
  ·rw[QL a d v hds,if_neg h3];exact q3
  ·rw[QL a d v hds,if_neg h2];exact q4
theorem SR.done0(hs:SR Gl prom nt g s a w){h':qa}{v:Value}{w':World}{g':Gh}(hr:HR g' h' w')(hk:zx g s.h w g' h' w')(hf:FrO g w g' w'){hp:Option qa}(he:hp.getD s.h=h') :
 SR Gl prom nt g' ((⟨none,none,hp⟩:Eff).app s) (a.put none v) w':=by
 subst he;refine⟨hr,hf.marks hs.defers,hs.size,hs.nt,fun t ht=>(hs.tmps t ht).keep hk,fun t ht cells hc=>?_,hs.loc,fun gl cells hg=>(hs.glob gl cells hg).keep hk.u,hs.used⟩;obtain⟨cb,arr,e,hreg⟩:=hs.regs t ht cells hc;have hlt:=qu hreg.heap;exact⟨cb,arr,e,hreg.keep hk (hf.own cb hlt) (hf.same cb hlt (fun i hi=>by rw[hreg.own] at hi;cases hi))⟩
theorem HR.other{h:qa}(hr:HR g h w){w':World}{cb t:Nat}{arr:Array Value}{e:TypeId}(hsize:w.heap.size<=w'.heap.size)(hheap:∀k,k<w.heap.size->k≠cb->w'.heap[k]?=w.heap[k]?)
 (hcb:w'.heap[cb]?=some (.cells arr e (0,0))) (hplace:g.own cb=some (.inr t)∨w.heap.size<=cb) (hrm:∀n,room w cb n->n<=arr.size) (hos:w'.os=w.os) (htape:w'.tape=w.tape) (hout:OutOk w' w) :
 ∃g':Gh,g'.own cb=some (.inr t)/\(∀k,k≠cb->g'.own k=g.own k)/\HR g' h w'/\zx g h w g' h w'/\FrC g h w g' h w':=by
 let g':Gh:={ g with own:=fun k=>if k=cb then some (.inr t) else g.own k }
 have hU:KeepU w g.U w' g.U:=by
  intro k hk;obtain⟨h1,h2⟩:=hr.u k hk;refine⟨hk,hheap k h1 ?_⟩;rintro rfl;rcases hplace with hp|hp
  ·rw[h2] at hp;cases hp
  ·omega
 have hkeep:zx g h w g' h w':=by
  refine⟨hU,fun k x hx=>⟨x,hx,Nat.le_refl _,fun _=>⟨rfl,rfl,rfl⟩⟩,fun k n hkn=>?_⟩;by_cases hk:k=cb
  ·subst hk;exact⟨arr,e,hcb,hrm n hkn⟩
  ·obtain⟨a',e',h1,h2⟩:=hkn;exact⟨a',e',by rw[hheap k (qu h1) hk];exact h1,h2⟩
 refine⟨g',by simp[g'],fun k hk=>by simp[g',hk],?_,hkeep,?_⟩
 ·refine⟨fun k x hx hmx=>?_,fun k hk=>?_,fun k o ho=>?_,Nat.le_trans hr.base hsize,fun k o ho=>?_,fun k j ho=>?_,fun k x m hx hm=>?_⟩
  ·rcases hr.blk0 k x hx hmx with⟨cb2,sh2,arr2,e2,hok⟩|q
   rotate_left
   ·exact .inr q
   refine .inl ?_;have hne:cb2≠cb:=by
    rintro rfl;rcases hplace with hp|hp
    ·rw[hok.own] at hp;cases hp
    ·have:=qu hok.heap;omega
   refine⟨cb2,sh2,arr2,e2,hok.φ,by simp[g',hne,hok.own],by rw[hheap cb2 (qu hok.heap) hne];exact hok.heap,hok.room,hok.len,fun j o c hj hc=>?_,hok.flat⟩;obtain⟨v,h1,h2,h3⟩:=hok.cell j o c hj hc;exact⟨v,h1,h2,h3.keep hkeep⟩
  ·obtain⟨h1,h2⟩:=hr.u k hk;refine⟨by omega,?_⟩;have hne:k≠cb:=by
    rintro rfl;rcases hplace with hp|hp
    ·rw[h2] at hp;cases hp
    ·omega
   simp[g',hne,h2]
  ·by_cases hk:k=cb
   ·subst hk;refine⟨?_,qu hcb⟩;rcases hplace with hp|hp
    ·exact(hr.own k _ hp).1
    ·exact Nat.le_trans hr.base hp
   ·simp only[g',hk,if_false] at ho;exact⟨(hr.own k o ho).1,by have:=(hr.own k o ho).2;omega⟩
  ·by_cases hk:k=cb
   ·subst hk;exact .inl ⟨arr,e,hcb⟩
   ·simp only[g',hk,if_false] at ho;exact hr.cells_of ho (hheap k (hr.own k o ho).2 hk)
  ·by_cases hk:k=cb
   ·subst hk;simp only[g',if_true,Option.some.injEq] at ho;cases ho
   ·simp only[g',hk,if_false] at ho;exact hr.lt k j ho
  ·have hne:∀c,g.own c=some (.inl k)->c≠cb:=by
    rintro c hc rfl;rcases hplace with hp|hp
    ·rw[hc] at hp;cases hp
    ·have:=(hr.own _ _ hc).2;omega
   exact hr.mp_of hx hm rfl (fun c hc=>by simp[g',hne c hc,hc]) fun c hc ho=>hheap c hc (hne c ho)
 ·refine⟨hkeep,hsize,fun k hk=>?_,hos,htape,hout,fun k hk hn=>?_,rfl,fun _ hk=>.inl hk,fun _ hk=>hk⟩
  ·by_cases hkc:k=cb
   ·subst hkc;rcases hplace with hp|hp
    ·simp[g',hp]
    ·omega
   ·simp[g',hkc]
  ·refine hheap k hk ?_;rintro rfl;rcases hplace with hp|hp
   ·rw[hn] at hp;cases hp
   ·omega
theorem SR.box(hs:SR Gl prom nt g s a w){d:Nat}(hd:d<nt)(hp:d∈prom)(hu:s.used d=false){cells:List T}{vs:Array Value}{e:TypeId}(hl:cells.length=vs.size)
 (h1:∀(i:Nat) (u:Value),vs[i]?=some u->u.oneCell'=true) (hc:∀(i:Nat) (c:T),cells[i]?=some c->∃u,vs[i]?=some u/\g.VR s.h w c u) :
 ∃g',SR Gl prom nt g' (s.lay d (.reg cells) none) (a.put (some d) (.pointer (some ⟨w.heap.size,0,none⟩))) (w.alloc (.cells vs e))/\FrC g s.h w g' s.h (w.alloc (.cells vs e)):=by
 obtain⟨g',o1,o2,hr',hk,hf⟩:=hs.hr.other (w':=w.alloc (.cells vs e)) (cb:=w.heap.size) (t:=d) (by simp) (fun k hk _=>RowKit.Below.heap_alloc _ _ _ hk) (QJ w _) (.inr (Nat.le_refl _))
  (fun n hn=>by obtain⟨a',e',q1,_⟩:=hn;have:=qu q1;omega) rfl rfl ⟨rfl,Nat.le_refl _⟩
 refine⟨g',?_,hf⟩;have hdl:d<1024:=by have:=hs.nt;omega
 have hds:d<a.tmps.size:=by rw[hs.size];exact hd
 have hat:=jZ (s:=s) (s':=s.lay d (.reg cells) none) (d:=d) (v:=.reg cells) rfl hdl;refine⟨hr',by rw[QB];exact hf.marks hs.defers,by rw[qay];exact hs.size,hs.nt,fun t ht=>?_,fun t ht cells' hc'=>?_,fun e t o hl=>?_,fun gl cells hg=>(hs.glob gl cells hg).keep hk.u,fun e t o hl=>hs.used e t o (JY hl).1⟩
 ·have hne:t≠d:=by rintro rfl;exact ht hp
  rw[hat,QL a d _ hds,if_neg hne,if_neg hne];exact(hs.tmps t ht).keep hk
 ·rw[hat] at hc';rw[QL a d _ hds];split at hc'
  ·rename_i htd;subst htd;obtain rfl:=T.reg.inj hc';rw[if_pos rfl];exact⟨w.heap.size,vs,e,rfl,o1,QJ w _,by omega,fun o c ho=>by
    obtain⟨u,hu,hur⟩:=hc o c ho;exact⟨u,hu,h1 o u hu,hur.keep hk⟩⟩
  ·rename_i htd;rw[if_neg htd];obtain⟨cb,arr,e',hreg⟩:=hs.regs t ht cells' hc';have hlt:=qu hreg.heap;exact⟨cb,arr,e',hreg.keep hk (o2 cb (by omega)) (RowKit.Below.heap_alloc _ _ _ hlt)⟩
 ·obtain⟨q1,q2⟩:=JY hl;have q3:t≠d:=by rintro rfl;rw[hs.used e t o q1] at hu;cases hu
  obtain⟨q4,q5,cb,q6,q7⟩:=hs.loc e t o q1;refine⟨q4,q5,cb,?_,?_⟩
  ·rw[QL a d _ hds,if_neg q3];exact q6
  ·rw[QL a d _ hds,if_neg q2];exact q7
theorem SR.setReg(hs:SR Gl prom nt g s a w){t:Nat}(hp:t∈prom){cells cells':List T}(hc:s.at t = .reg cells){cb:Nat}{arr arr':Array Value}{e:TypeId}(hreg:RegOk g s.h w t (a.tmps.getD t undef) cells cb arr e)
 (hsz:arr'.size=arr.size) (hlen:cells'.length<=arr.size) (hcell:∀(o:Nat) (c:T),cells'[o]?=some c->∃u:Value,arr'[o]?=some u/\u.oneCell'=true/\g.VR s.h w c u) :
 ∃g',SR Gl prom nt g' ((⟨some (t,.reg cells'),none,none⟩:Eff).app s) (a.put none undef) (w.setRow cb arr')/\FrC g s.h w g' s.h (w.setRow cb arr'):=by
 have hh:=ZV w cb arr arr' e hreg.heap;obtain⟨g',o1,o2,hr',hk,hf⟩:=hs.hr.other (w':=w.setRow cb arr') (cb:=cb) (t:=t) (by simp[World.setRow]) (fun k _ hne=>setRow_other w cb k _ hne) hh (.inl hreg.own)
  (fun n hn=>by rw[hsz];exact Yo hreg.heap hn) rfl rfl ⟨rfl,Nat.le_refl _⟩
 refine⟨g',?_,hf⟩;have htl:t<1024:=by
  rcases Nat.lt_or_ge t 1024 with hq|hq
  ·exact hq
  ·rw[Jy (by omega)] at hc;cases hc
 have hat:=jZ (s:=s) (s':=(⟨some (t,.reg cells'),none,none⟩:Eff).app s) (d:=t) (v:=.reg cells') rfl htl;refine⟨hr',hf.marks hs.defers,hs.size,hs.nt,fun t' ht=>?_,fun t' ht cells2 hc'=>?_,hs.loc,fun gl cells hg=>(hs.glob gl cells hg).keep hk.u,hs.used⟩
 ·have hne:t'≠t:=by rintro rfl;exact ht hp
  rw[hat,if_neg hne];exact(hs.tmps t' ht).keep hk
 ·rw[hat] at hc';split at hc'
  ·rename_i htd;subst htd;obtain rfl:=T.reg.inj hc';exact⟨cb,arr',e,hreg.ptr,o1,hh,by omega,fun o c ho=>by
    obtain⟨u,u1,u2,u3⟩:=hcell o c ho;exact⟨u,u1,u2,u3.keep hk⟩⟩
  ·rename_i htd;obtain⟨cb2,arr2,e2,hreg2⟩:=hs.regs t' ht cells2 hc';have hne:cb2≠cb:=by
    rintro rfl;have:=hreg.own;rw[hreg2.own] at this;exact htd (by simpa using this)
   exact⟨cb2,arr2,e2,hreg2.keep hk (o2 cb2 hne) (setRow_other w cb cb2 _ hne)⟩
theorem SR.putLoc(hs:SR Gl prom nt g s a w){d t o cb:Nat}(hd:d<nt)(hp:t∈prom)(hdp:d∉prom)(ht:a.tmps.getD t undef = .pointer (some ⟨cb,0,none⟩)) :
 SR Gl prom nt g ((⟨some (d,.undef),some (d,some (t,o)),none⟩:Eff).app s) (a.put (some d) (.pointer (some ⟨cb,o,none⟩))) w:=by
 have hdl:d<1024:=by have:=hs.nt;omega
 have hds:d<a.tmps.size:=by rw[hs.size];exact hd
 have hne:t≠d:=by rintro rfl;exact hdp hp
 have hat:=jZ (s:=s) (s':=(⟨some (d,.undef),some (d,some (t,o)),none⟩:Eff).app s) (d:=d) (v:=.undef) rfl hdl;have hloc:∀e t' o',((⟨some (d,.undef),some (d,some (t,o)),none⟩:Eff).app s).loc e=some (t',o')->(e=d/\t'=t/\o'=o)∨(e≠d/\s.loc e=some (t',o')):=by
  intro e t' o' hl;simp only[Eff.app,ZZ,Bool.cond_eq_ite] at hl;split at hl
  ·rename_i he;have he:e=d:=by simpa using he
   simp only[Option.some.injEq,Prod.mk.injEq] at hl;exact .inl ⟨he,hl.1.symm,hl.2.symm⟩
  ·rename_i he;exact .inr ⟨by simpa using he,hl⟩
 refine⟨hs.hr,by rw[QB];exact hs.defers,by rw[qay];exact hs.size,hs.nt,fun t' ht'=>?_,fun t' ht' cells hc=>?_,fun e t' o' hl=>?_,hs.glob,fun e t' o' hl=>?_⟩
 ·rw[hat,QL a d _ hds];split
  ·exact .imm _ _ (.undef _)
  ·exact hs.tmps t' ht'
 ·have hnd:t'≠d:=by rintro rfl;exact hdp ht'
  rw[hat,if_neg hnd] at hc;rw[QL a d _ hds,if_neg hnd];exact hs.regs t' ht' cells hc
 ·rcases hloc e t' o' hl with⟨rfl,rfl,rfl⟩|⟨he,hl⟩
  ·refine⟨hp,hdp,cb,?_,?_⟩
   ·rw[QL a e _ hds,if_neg hne];exact ht
   ·rw[QL a e _ hds,if_pos rfl]
  ·obtain⟨q1,q2,cb',q3,q4⟩:=hs.loc e t' o' hl;refine⟨q1,q2,cb',?_,?_⟩
   ·rw[QL a d _ hds,if_neg (by rintro rfl;exact hdp q1)];exact q3
   ·rw[QL a d _ hds,if_neg he];exact q4
 ·simp only[Eff.app,Zr,Bool.cond_eq_ite];split
  ·rfl
  ·rename_i hx;rcases hloc e t' o' hl with⟨rfl,rfl,rfl⟩|⟨he,hl⟩
   ·exact absurd (beq_self_eq_true _) hx
   ·exact hs.used e t' o' hl
end
section
variable {P:Program} {k:TypeId}
theorem yH{t:TypeId}{d:TypeDesc}(hu:P.underlying t=some d)(ha:zY P t=false){cs:Array Value}{off:Nat}{v:Value}(hv:cs[off]?=some v)(w:World):(part t cs off).run P w = .ok v w:=by
 unfold part;simp only[Sem.run_bind,yV hu,Result.andThen_ok,ha,Bool.false_eq_true,if_false,hv,Sem.run_pure]
def RowFs(P:Program):Nat->List Field->List (Option IntKind)->Prop
 |_,[],[]=>True
 |i,f::fs,x::l=>f.offset=i/\f.name≠"_"/\P.underlying f.type=some (match x with|some q=>.int q|none=>.bool)/\RowFs P (i+1) fs l
 |_,_,_=>False
theorem qaz:∀{fs:List Field} {i:Nat} {l:List (Option IntKind)},qc3 P i fs=some l->RowFs P i fs l
 |[],i,l,h=>by
  simp only[qc3,Option.some.injEq] at h;subst h;trivial
 |f::fs,i,l,h=>by
  simp only[qc3] at h;obtain⟨hc,h⟩:=qc h;simp only[Bool.and_eq_true,beq_iff_eq,Bool.not_eq_true',beq_eq_false_iff_ne,ne_eq] at hc;split at h
  ·rename_i q l' h1 h2;obtain rfl:=Option.some.inj h;exact⟨hc.1.1,hc.1.2,h1,qaz h2⟩
  ·rename_i l' h1 h2;obtain rfl:=Option.some.inj h;exact⟨hc.1.1,hc.1.2,h1,qaz h2⟩
  ·cases h
theorem RowFs.noagg{i:Nat}{f:Field}{fs:List Field}{x:Option IntKind}{l:List (Option IntKind)}(h:RowFs P i (f::fs) (x::l)):zY P f.type=false:=by
 unfold zY;rw[h.2.2.1];cases x<;>rfl
theorem qha(w:World)(d:Nat)(xs ys:Array Value):∀(fs:List Field) (i:Nat) (l:List (Option IntKind)),RowFs P i fs l->Z6 l (xs.toList.drop i)->Z6 l (ys.toList.drop i) →
 ∃r:Bool,(Op.eqFields (d+1) xs ys fs).run P w = .ok r w/\(r=true↔xs.toList.drop i=ys.toList.drop i)
 |[],i,l,h,hx,hy=>by
  cases l with
  |cons=>exact h.elim
  |nil =>
   refine⟨true,by simp[Op.eqFields],?_⟩;cases hx':xs.toList.drop i with
   |cons=>rw[hx'] at hx;exact hx.elim
   |nil =>
    cases hy':ys.toList.drop i with
    |cons=>rw[hy'] at hy;exact hy.elim
    |nil=>simp
 |f::fs,i,l,h,hx,hy=>by
  cases l with
  |nil=>exact h.elim
  |cons x l =>
   have hag:=h.noagg;obtain⟨h1,h2,h3,h4⟩:=h;cases hx':xs.toList.drop i with
   |nil=>rw[hx'] at hx;exact hx.elim
   |cons u us =>
    cases hy':ys.toList.drop i with
    |nil=>rw[hy'] at hy;exact hy.elim
    |cons v vs =>
     rw[hx'] at hx;rw[hy'] at hy;have xi:xs[i]?=some u:=by
      have:=congrArg (fun l=>l[0]?) hx';simpa using this
     have yi:ys[i]?=some v:=by
      have:=congrArg (fun l=>l[0]?) hy';simpa using this
     have xd:xs.toList.drop (i+1)=us:=by rw[←List.drop_drop,hx'];rfl
     have yd:ys.toList.drop (i+1)=vs:=by rw[←List.drop_drop,hy'];rfl
     obtain⟨r,q1,q2⟩:=qha w d xs ys fs (i+1) l h4 (by rw[xd];exact hx.2) (by rw[yd];exact hy.2);rw[xd,yd] at q2;have p1:(part f.type xs f.offset).run P w = .ok u w:=yH h3 hag (by rw[h1];exact xi) w;have p2:(part f.type ys f.offset).run P w = .ok v w:=yH h3 hag (by rw[h1];exact yi) w;have p3:∃c:Bool,(Op.equalIn (d+1) f.type u v).run P w = .ok c w/\(c=true↔u=v):=by
      cases x with
      |some q =>
       obtain⟨a,rfl⟩:=hx.1;obtain⟨b,rfl⟩:=hy.1;exact⟨a==b,by simp[Op.equalIn,qe h3],by simp⟩
      |none =>
       obtain⟨a,rfl⟩:=hx.1;obtain⟨b,rfl⟩:=hy.1;exact⟨a==b,by simp[Op.equalIn,qe h3],by simp⟩
     obtain⟨c,p3,p4⟩:=p3;simp only[Op.eqFields,h2,ne_eq,not_false_eq_true,if_true,Sem.run_bind,p1,p2,p3,Result.andThen_ok];cases c with
     |false=>exact⟨false,by simp,by simp;intro q;exact absurd (p4.2 q) (by simp)⟩
     |true=>exact⟨r,by simpa using q1,by rw[q2];simp[p4.1 rfl]⟩
theorem qfS(w:World)(em:Bool){fs:Array Field}(hu:P.underlying k=some (.struct fs)){l:List (Option IntKind)}(hfs:RowFs P 0 fs.toList l){cs:Array Value}(hk:Z6 l cs.toList):(Instr.checkKey em 10000 k (.agg cs)).run P w = .ok () w:=by
 rw[show 10000=9999+1 from rfl,Instr.checkKey];simp only[Sem.run_bind,run_underlying hu,Result.andThen_ok];rw[←Array.forIn_toList];have hk0:Z6 l (cs.toList.drop 0):=by simpa using hk
 clear hk;generalize fs.toList=L at hfs;generalize 0=i at hfs hk0
 induction L generalizing i l with
 |nil=>simp
 |cons f L ih =>
  cases l with
  |nil=>exact hfs.elim
  |cons x l =>
   have hag:=hfs.noagg;obtain⟨h1,h2,h3,h4⟩:=hfs;cases hx':cs.toList.drop i with
   |nil=>rw[hx'] at hk0;exact hk0.elim
   |cons u us =>
    rw[hx'] at hk0;have xi:cs[i]?=some u:=by
     have:=congrArg (fun l=>l[0]?) hx';simpa using this
    have xd:cs.toList.drop (i+1)=us:=by rw[←List.drop_drop,hx'];rfl
    have p1:(part f.type cs f.offset).run P w = .ok u w:=yH h3 hag (by rw[h1];exact xi) w;have p2:(Instr.checkKey em 9999 f.type u).run P w = .ok () w:=by
     cases x with
     |some q=>obtain⟨a,rfl⟩:=hk0.1;rw[show 9999=9998+1 from rfl,Instr.checkKey];simp[run_underlying h3]
     |none=>obtain⟨a,rfl⟩:=hk0.1;rw[show 9999=9998+1 from rfl,Instr.checkKey];simp[run_underlying h3]
    simp only[List.forIn_cons,Sem.run_bind,h2,ne_eq,not_false_eq_true,if_true,Result.andThen_ok,p1,p2,Sem.run_pure];exact ih (i+1) h4 (by rw[xd];exact hk0.2)
theorem qeT(w:World){fs:Array Field}(hu:P.underlying k=some (.struct fs))(hst:P.stoodInHeld k=false){l:List (Option IntKind)}(hfs:RowFs P 0 fs.toList l){cs:Array Value}(hk:Z6 l cs.toList) :
 ∀(es:List MapEntry) (i:Nat),(∀e∈es,KVS (.row l) e.key) →
  ((Instr.findAsking k (.agg cs) es i).run P w = .ok none w/\∀e∈es,e.key≠.agg cs)∨∃j e,(Instr.findAsking k (.agg cs) es i).run P w = .ok (some (i+j,e.val)) w/\es[j]?=some e/\e.key = .agg cs
 |[],i,_=>.inl ⟨by simp[Instr.findAsking],by simp⟩
 |e::es,i,hall=>by
  obtain⟨ds,hd,hkd⟩:=hall e (by simp);have hf:P.fieldsOf k=fs:=by simp[Program.fieldsOf,hu]
  obtain⟨r,hr,hiff⟩:=qha w 9998 cs ds fs.toList 0 l hfs (by simpa using hk) (by simpa using hkd);have he:(Op.equal k (.agg cs) e.key).run P w = .ok r w:=by
   rw[hd,Op.equal,show Op.maxDepth=9999+1 from rfl,run_equalIn_struct w 9999 k cs ds (by rw[hf];exact hu) hst,hf];exact hr
  have hiff:r=true↔e.key = .agg cs:=by
   rw[hiff,hd];constructor
   ·intro q;have:ds=cs:=Array.ext' (by simpa using q.symm);rw[this]
   ·intro q;cases q;rfl
  cases r with
  |true =>
   exact .inr ⟨0,e,by simp[Instr.findAsking,he],rfl,hiff.1 rfl⟩
  |false =>
   have hne:e.key≠.agg cs:=fun q=>by cases hiff.2 q
   rcases qeT w hu hst hfs hk es (i+1) (fun y hy=>hall y (by simp[hy])) with⟨h1,h2⟩|⟨j,e',h1,h2,h3⟩
   ·refine .inl ⟨by simp[Instr.findAsking,he,h1],fun y hy=>?_⟩;rcases List.mem_cons.1 hy with rfl|hy
    ·exact hne
    ·exact h2 y hy
   ·exact .inr ⟨j+1,e',by simp[Instr.findAsking,he,h1];omega,by simpa using h2,h3⟩
theorem qdq:∀{l:List (Option IntKind)} {us vs:List Value},Z6 l us->Z6 l vs->us.map je=vs.map je->us=vs
 |[],[],[],_,_,_=>rfl
 |x::l,u::us,v::vs,h1,h2,h=>by
  simp only[List.map_cons,List.cons.injEq] at h;have:=qdq h1.2 h2.2 h.2;subst this;cases x with
  |some q =>
   obtain⟨a,rfl⟩:=h1.1;obtain⟨b,rfl⟩:=h2.1;have:a=b:=h.1;rw[this]
  |none =>
   obtain⟨a,rfl⟩:=h1.1;obtain⟨b,rfl⟩:=h2.1;have h:=h.1;cases a<;>cases b<;>simp_all [je]
 |[],_::_,_,h,_,_=>h.elim
 |[],[],_::_,_,h,_=>h.elim
 |_::_,[],_,h,_,_=>h.elim
 |_::_,_::_,[],_,h,_=>h.elim
theorem qeU(n:Nat):∀{l:List (Option IntKind)} {us:List Value},Z6 l us->((us.zip us).all fun p=>Instr.sameBits n p.1 p.2)=true
 |[],[],_=>rfl
 |x::l,u::us,h=>by
  simp only[List.zip_cons_cons,List.all_cons,Bool.and_eq_true];refine⟨?_,qeU n h.2⟩;cases x with
  |some q=>obtain⟨a,rfl⟩:=h.1;cases n<;>simp[Instr.sameBits]
  |none=>obtain⟨a,rfl⟩:=h.1;cases n<;>simp[Instr.sameBits]
 |[],_::_,h=>h.elim
 |_::_,[],h=>h.elim
theorem qfT{fs:Array Field}(hu:P.underlying k=some (.struct fs))(hst:P.stoodInHeld k=false){l:List (Option IntKind)}(hfs:RowFs P 0 fs.toList l):KeyL P k (KVS (.row l)) where
 inj:=by
  rintro a b ⟨xs,rfl,hx⟩ ⟨ys,rfl,hy⟩ h;rw[Array.ext' (qdq hx hy h)]
 check:=by
  rintro w em v ⟨xs,rfl,hx⟩;exact qfS w em hu hfs hx
 find:=by
  rintro w x ⟨xs,rfl,hx⟩ es h;have hn:∀es:List MapEntry,Instr.findNow (.struct fs) (.agg xs) es 0=some none/\es=[]∨Instr.findNow (.struct fs) (.agg xs) es 0=none:=by
   intro es;cases es with
   |nil=>exact .inl ⟨rfl,rfl⟩
   |cons e es=>exact .inr (by unfold Instr.findNow;simp[Instr.sameNow])
  rcases hn es with⟨h1,rfl⟩|h1
  ·exact .inl ⟨by simp[Instr.findKey,run_underlying hu,h1],by simp⟩
  ·have hrun:(Instr.findKey k (.agg xs) es).run P w=(Instr.findAsking k (.agg xs) es 0).run P w:=by simp[Instr.findKey,run_underlying hu,h1]
   rcases qeT w hu hst hfs hx es 0 h with⟨q1,q2⟩|⟨j,e,q1,q2,q3⟩
   ·exact .inl ⟨hrun.trans q1,q2⟩
   ·exact .inr ⟨j,e,by rw[hrun,q1,Nat.zero_add],q2,q3⟩
 stays:=by
  rintro w v ⟨xs,rfl,hx⟩;unfold Instr.keyThatStays;rw[if_pos (by rw[show 10000=9999+1 from rfl,Instr.sameBits];simpa using qeU 9999 hx)];rfl
end
open Go.ChangeMaps (setBlock heap_setBlock_same heap_setBlock_other)
section
variable {P:Program} {R:Type} {g:Gh} {h:qa} {w:World}
theorem qaA{r:R}:∀{fs:List (Option IntKind)} {l:List T} {us:List Value} {k:List Int->Option R},l.length=us.length->(∀(i:Nat) (c:T),l[i]?=some c->∃u,us[i]?=some u/\g.VR h w c u)->QQ fs l k=some r →
 ∃m,k m=some r/\Z6 fs us/\us.map je=m:=by
 intro fs
 induction fs with
 |nil =>
  intro l us k hl hc hk;cases l with
  |nil =>
   cases us with
   |nil=>exact⟨[],hk,trivial,rfl⟩
   |cons u us=>simp at hl
  |cons x l=>simp[QQ] at hk
 |cons f fs ih =>
  intro l us k hl hc hk;cases l with
  |nil=>cases f<;>simp[QQ] at hk
  |cons x l =>
   cases us with
   |nil=>simp at hl
   |cons u us =>
    obtain⟨u',hu',hur⟩:=hc 0 x rfl;obtain rfl:u=u':=by simpa using hu'
    have hl':l.length=us.length:=by simpa using hl
    have hc':∀(i:Nat) (c:T),l[i]?=some c->∃u,us[i]?=some u/\g.VR h w c u:=fun i c hi=>hc (i+1) c (by simpa using hi);cases f with
    |some q' =>
     cases x with
     |int q n =>
      simp only[QQ] at hk;obtain⟨hq,hk2⟩:=qc hk;obtain rfl:q=q':=by simpa using hq
      obtain⟨m,h1,h2,h3⟩:=ih (k:=fun m=>k (n::m)) hl' hc' hk2;obtain rfl:=hur.int;exact⟨n::m,h1,⟨⟨n,rfl⟩,h2⟩,by simp[je,h3]⟩
     |_=>simp[QQ] at hk
    |none =>
     cases x with
     |bool b =>
      simp only[QQ] at hk;obtain⟨m,h1,h2,h3⟩:=ih (k:=fun m=>k ((bif b then 1 else 0)::m)) hl' hc' hk;obtain rfl:=hur.bool;exact⟨_,h1,⟨⟨b,rfl⟩,h2⟩,by simp[je,h3]⟩
     |_=>simp[QQ] at hk
theorem Zu{ks:KS}{x:T}{v:Value}{k:List Int->Option R}{r:R}(hk:kG ks x k=some r)(hx:g.VR h w x v):KVS ks v/\k (qB v)=some r:=by
 unfold kG at hk;split at hk
 ·obtain⟨hq,hk2⟩:=qc hk;rename_i q q' n;obtain rfl:q'=q:=by simpa using hq
  obtain rfl:=hx.int;exact⟨⟨n,rfl⟩,hk2⟩
 ·rename_i fs l;obtain⟨cs,rfl,h1,h2,h3⟩:=hx.agg_inv;obtain⟨m,q1,q2,q3⟩:=qaA (us:=cs.toList) (by simpa using h1) (fun i c hi=>by obtain⟨u,hu,hur⟩:=h3 i c hi;exact⟨u,by simpa using hu,hur⟩) hk;exact⟨⟨cs,rfl,q2⟩,by rw[show qB (.agg cs)=m from q3];exact q1⟩
 ·cases hk
theorem HR.setMap(hr:HR g h w){i:Nat}{b:Blk}(hb:h[i]?=some b){m m':MapD}(hm:b.mp=some m){cb:Nat}(o1:g.φ i=some (cb,0))(o2:g.own cb=some (.inl i)){es:Array MapEntry}{c:Nat}
 (hok:MapOk (setBlock w cb (.map es c)) cb m') (hhb:∃es c,w.heap[cb]?=some (.map es c)) :
 HR g (h.set i { b with mp:=some m' }) (setBlock w cb (.map es c))/\zx g h w g (h.set i { b with mp:=some m' }) (setBlock w cb (.map es c))/\FrO g w g (setBlock w cb (.map es c)):=by
 obtain⟨es0,c0,hhb⟩:=hhb;have hil:=qC hb;have hother:∀k,k≠cb->(setBlock w cb (.map es c)).heap[k]?=w.heap[k]?:=fun k hk=>heap_setBlock_other hhb _ hk;have hsize:(setBlock w cb (.map es c)).heap.size=w.heap.size:=by simp[setBlock]
 have hkeep:zx g h w g (h.set i { b with mp:=some m' }) (setBlock w cb (.map es c)):=by
  refine⟨fun k hk=>⟨hk,hother k ?_⟩,fun k x hx=>?_,fun k n hkn=>?_⟩
  ·rintro rfl;have:=(hr.u _ hk).2;rw[o2] at this;cases this
  ·by_cases hk:k=i
   ·subst hk;rw[hb] at hx;obtain rfl:=Option.some.inj hx;exact⟨_,List.getElem?_set_self hil,Nat.le_refl _,fun _=>⟨rfl,rfl,rfl⟩⟩
   ·exact⟨x,by rw[List.getElem?_set_ne (fun e=>hk e.symm)];exact hx,Nat.le_refl _,fun _=>⟨rfl,rfl,rfl⟩⟩
  ·obtain⟨a',e',h1,h2⟩:=hkn;refine⟨a',e',?_,h2⟩;rw[hother k]
   ·exact h1
   ·rintro rfl;rw[hhb] at h1;cases h1
 refine⟨⟨fun k x hx hmx=>?_,fun k hk=>⟨by rw[hsize];exact(hr.u k hk).1,(hr.u k hk).2⟩,fun k o ho=>⟨(hr.own k o ho).1,by rw[hsize];exact(hr.own k o ho).2⟩,by rw[hsize];exact hr.base,fun k o ho=>?_,fun k j ho=>by rw[List.length_set];exact hr.lt k j ho,fun k x mm hx hmx=>?_⟩,hkeep,?_⟩
 ·by_cases hk:k=i
  ·subst hk;rw[List.getElem?_set_self hil] at hx;obtain rfl:=Option.some.inj hx;cases hmx
  ·rw[List.getElem?_set_ne (fun e=>hk e.symm)] at hx;rcases hr.blk0 k x hx hmx with⟨cb2,sh2,arr2,e2,hok2⟩|q
   rotate_left
   ·exact .inr q
   refine .inl ?_;have hne:cb2≠cb:=by
    rintro rfl;have:=hok2.heap;rw[hhb] at this;cases this
   refine⟨cb2,sh2,arr2,e2,hok2.φ,hok2.own,by rw[hother cb2 hne];exact hok2.heap,hok2.room,hok2.len,fun j o c hj hc=>?_,hok2.flat⟩;obtain⟨v,h1,h2,h3⟩:=hok2.cell j o c hj hc;exact⟨v,h1,h2,h3.keep hkeep⟩
 ·by_cases hk:k=cb
  ·subst hk;rw[o2] at ho;exact .inr ⟨i,es,c,(Option.some.inj ho).symm,heap_setBlock_same hhb _⟩
  ·exact hr.cells_of ho (hother k hk)
 ·by_cases hk:k=i
  ·subst hk;rw[List.getElem?_set_self hil] at hx;obtain rfl:=Option.some.inj hx;obtain rfl:m'=mm:=Option.some.inj hmx;exact⟨cb,o1,o2,hok⟩
  ·rw[List.getElem?_set_ne (fun e=>hk e.symm)] at hx;refine hr.mp_of hx hmx rfl (fun _ hc=>hc) fun c' _ ho'=>hother c' ?_;rintro rfl;rw[o2] at ho';exact hk (by simpa using ho'.symm)
 ·refine⟨by rw[hsize];exact Nat.le_refl _,fun _ _=>rfl,rfl,rfl,⟨rfl,Nat.le_refl _⟩,fun k hk hni=>hother k ?_,rfl,fun _ hk=>.inl hk,fun k hk t ho=>?_⟩
  ·rintro rfl;exact hni i o2
  ·have:=(hr.own k _ ho).2;omega
theorem Zz{t:TypeId}{x:T}{v:Value}{k:Nat->Blk->MapD->Option R}{r:R}(hk:yp P t x h k=some r)(hr:HR g h w)(hx:g.VR h w x v) :
 ∃i b m kt e cb,k i b m=some r/\h[i]?=some b/\b.mp=some m/\g.φ i=some (cb,0)/\g.own cb=some (.inl i)/\MapOk w cb m/\v = .map (some cb)/\K2 P t=some (kt,m.ks,m.q)/\P.underlying t=some (.map kt e)/\P.underlying e=some (.int m.q)/\qeO P kt=some m.ks ∧
  (∀u:World,(zeroValue e).run P u = .ok (.int m.q 0) u)/\(∃ver,x = .mp i ver/\b.ver=ver):=by
 unfold yp at hk;cases x with
 |mp i ver =>
  dsimp only at hk;unfold ZI at hk;cases hb:h[i]? with
  |none=>simp[hb] at hk
  |some b =>
   rw[hb] at hk;dsimp only at hk;obtain⟨hv,hk⟩:=qc hk;have hver:b.ver=ver:=by simpa using hv
   cases hm:b.mp with
   |none=>simp[hm] at hk
   |some m =>
    rw[hm] at hk;dsimp only at hk;cases ht:K2 P t with
    |none=>simp[ht] at hk
    |some p =>
     obtain⟨kt,ks,q⟩:=p;rw[ht] at hk;dsimp only at hk;obtain⟨hq,hk2⟩:=qc hk;simp only[Bool.and_eq_true,decide_eq_true_eq] at hq;obtain⟨q1,q2⟩:=hq;subst q1 q2;clear hk;obtain⟨b',hb',_,_,hq⟩:=hx.mp_inv;rw[hb] at hb';obtain rfl:=Option.some.inj hb';obtain⟨cb,e1,rfl⟩:=hq hver;obtain⟨cb',o1,o2,o3⟩:=hr.mp i b m hb hm;rw[o1] at e1;obtain⟨rfl,_⟩:=Prod.mk.inj (Option.some.inj e1);have ht0:=ht;unfold K2 at ht;split at ht
     ·rename_i k0 e hu;split at ht
      ·rename_i q0 ks0 he hks;obtain⟨hz,ht⟩:=qc ht;simp only[Option.some.injEq,Prod.mk.injEq] at ht;obtain⟨rfl,rfl,rfl⟩:=ht;refine⟨i,b,m,k0,e,cb',hk2,hb,hm,o1,o2,o3,rfl,rfl,hu,he,hks,fun u=>?_,ver,rfl,hver⟩;unfold qeP at hz;cases hi:P.info? e with
       |none=>simp[hi] at hz
       |some inf =>
        rw[hi] at hz;dsimp only at hz;split at hz
        ·rename_i q' z hzz;simp only[Bool.and_eq_true,decide_eq_true_eq] at hz;obtain⟨rfl,rfl⟩:=hz;simp[zeroValue,typeInfo,hi,hzz]
        ·cases hz
      ·cases ht
     ·cases ht
 |_=>simp at hk
theorem jt{k:TypeId}{ks:KS}(h:qeO P k=some ks):KeyL P k (KVS ks):=by
 unfold qeO at h;split at h
 ·rename_i q hu;obtain rfl:=Option.some.inj h;exact qfM hu
 ·rename_i fs hu;obtain⟨hst,h⟩:=qc h;split at h
  ·rename_i l hl;obtain rfl:=Option.some.inj h;exact qfT hu (by simpa using hst) (qaz hl)
  ·cases h
 ·cases h
theorem j0{t:TypeId}{k:qO R}{r:R}(hk:Zj P t h k=some r)(hr:HR g h w) :
 ∃y h',k y h' true=some r/\∃v w',(Instr.makeMap t none).run P w = .ok v w'/\Res g h w y h' v w':=by
 unfold Zj at hk;split at hk
 ·rename_i kt ks q ht;have hheap:∀k,k<w.heap.size->(w.alloc (.map #[] 0)).heap[k]?=w.heap[k]?:=fun k hk=>RowKit.Below.heap_alloc _ _ _ hk;have hsize:(w.alloc (.map #[] 0)).heap.size=w.heap.size+1:=by simp
  refine⟨_,_,hk,.map (some w.heap.size),w.alloc (.map #[] 0),rfl,?_⟩
  let g':Gh:={ g with φ:=fun k=>if k=h.length then some (w.heap.size,0) else g.φ k,own:=fun k=>if k=w.heap.size then some (.inl h.length) else g.own k }
  have hkeep:zx g h w g' (h++[yD 0 (.made ks q)]) (w.alloc (.map #[] 0)):=by
   refine⟨fun k hk=>⟨hk,hheap k (hr.u k hk).1⟩,fun k x hx=>?_,fun k n hkn=>?_⟩
   ·have hk:=qC hx;exact⟨x,by rw[List.getElem?_append_left hk];exact hx,Nat.le_refl _,fun _=>⟨rfl,rfl,by simp[g',Nat.ne_of_lt hk]⟩⟩
   ·obtain⟨a',e',h1,h2⟩:=hkn;exact⟨a',e',by rw[hheap k (qu h1)];exact h1,h2⟩
  have hold:∀c o,g.own c=some o->c≠w.heap.size:=fun c o hc=>by have:=(hr.own c o hc).2;omega
  have hnew:(h++[yD 0 (.made ks q)])[h.length]?=some (yD 0 (.made ks q)):=Z8 h _;have hend:∀{k:Nat} {x:Blk},(h++[yD 0 (.made ks q)])[k]?=some x->¬k<h.length->k=h.length/\x=yD 0 (.made ks q):=by
   intro k x hx hk;have:=qC hx;simp at this;obtain rfl:k=h.length:=by omega
   rw[hnew] at hx;exact⟨rfl,(Option.some.inj hx).symm⟩
  refine⟨g',⟨fun k x hx hmx=>?_,fun k hk=>?_,fun k o ho=>?_,by rw[hsize];exact Nat.le_succ_of_le hr.base,fun k o ho=>?_,fun k j ho=>?_,fun k x m hx hmx=>?_⟩,?_,hkeep,?_⟩
  ·by_cases hk:k<h.length
   ·rw[List.getElem?_append_left hk] at hx;rcases hr.blk0 k x hx hmx with⟨cb2,sh2,arr2,e2,hok⟩|⟨q1,q2⟩
    rotate_left
    ·exact .inr ⟨by simp[g',Nat.ne_of_lt hk,q1],q2⟩
    refine .inl ?_;refine⟨cb2,sh2,arr2,e2,by simp[g',Nat.ne_of_lt hk,hok.φ],by simp[g',hold _ _ hok.own,hok.own],by rw[hheap cb2 (qu hok.heap)];exact hok.heap,hok.room,hok.len,fun j o c hj hc=>?_,hok.flat⟩;obtain⟨v,h1,h2,h3⟩:=hok.cell j o c hj hc;exact⟨v,h1,h2,h3.keep hkeep⟩
   ·obtain⟨_,rfl⟩:=hend hx hk;cases hmx
  ·obtain⟨h1,h2⟩:=hr.u k hk;exact⟨by omega,by simp[g',Nat.ne_of_lt h1,h2]⟩
  ·by_cases hk:k=w.heap.size
   ·subst hk;exact⟨hr.base,by omega⟩
   ·simp only[g',hk,if_false] at ho;exact⟨(hr.own k o ho).1,by have:=(hr.own k o ho).2;omega⟩
  ·by_cases hk:k=w.heap.size
   ·subst hk;simp only[g',if_true,Option.some.injEq] at ho;exact .inr ⟨_,_,_,ho.symm,QJ w _⟩
   ·simp only[g',hk,if_false] at ho;exact hr.cells_of ho (hheap k (hr.own k o ho).2)
  ·rw[List.length_append,List.length_singleton];by_cases hk:k=w.heap.size
   ·subst hk;simp only[g',if_true,Option.some.injEq,Sum.inl.injEq] at ho;omega
   ·simp only[g',hk,if_false] at ho;have:=hr.lt k j ho;omega
  ·by_cases hk:k<h.length
   ·rw[List.getElem?_append_left hk] at hx;exact hr.mp_of hx hmx (by simp[g',Nat.ne_of_lt hk]) (fun c hc=>by simp[g',hold _ _ hc,hc]) fun c hc _=>hheap c hc
   ·obtain⟨rfl,rfl⟩:=hend hx hk;obtain rfl:=Option.some.inj hmx;exact⟨w.heap.size,by simp[g'],by simp[g'],MapIs.made w ks q⟩
  ·exact .mp _ _ _ _ hnew (Nat.le_refl _) rfl fun _=>⟨w.heap.size,by simp[g'],rfl⟩
  ·refine⟨by omega,fun k hk=>by simp[g',Nat.ne_of_lt hk],rfl,rfl,⟨rfl,Nat.le_refl _⟩,fun k hk _=>hheap k hk,rfl,fun _ hk=>.inl hk,fun k hk t=>?_⟩;by_cases hkc:k=w.heap.size
   ·simp[g',hkc]
   ·simp only[g',hkc,if_false];intro ho;have:=(hr.own k _ ho).2;omega
 ·cases hk
theorem VR.pair{x y:T}{u v:Value}(hx:g.VR h w x u)(hy:g.VR h w y v):g.VR h w (.tup [x,y]) (.tuple #[u,v]):=by
 refine VR.mk_tup (by simp) fun i c hi=>?_
 match i with
 |0=>simp at hi;subst hi;exact⟨_,rfl,hx⟩
 |1=>simp at hi;subst hi;exact⟨_,rfl,hy⟩
 |i+2=>simp at hi
theorem JM{t:TypeId}{x key:T}{c:Bool}{vx vk:Value}{k:qO R}{r:R}(hk:Qx P t x key c h k=some r)(hr:HR g h w)(hx:g.VR h w x vx)(hkey:g.VR h w key vk) :
 ∃y,k y h false=some r/\∃u,(Instr.lookup t vx vk c).run P w = .ok u w/\g.VR h w y u:=by
 unfold Qx Ze at hk;obtain⟨i,b,m,kt,e,cb,hk,hb,hm,o1,o2,o3,rfl,ht,hu,he,hks,hz,_⟩:=Zz hk hr hx;obtain⟨hkv,hk⟩:=Zu hk hkey;refine⟨_,hk,_,MapIs.look o3 (jt hks) hu (hz w) hkv c,?_⟩;cases c with
 |true=>exact VR.pair (.imm _ _ (.int _ _)) (.imm _ _ (.bool _))
 |false=>exact .imm _ _ (.int _ _)
theorem Yq(hr:HR g h w){i:Nat}{b:Blk}(hb:h[i]?=some b){m m':MapD}(hm:b.mp=some m){cb:Nat}(o1:g.φ i=some (cb,0))(o2:g.own cb=some (.inl i))(o3:MapOk w cb m){es:Array MapEntry}
 (F:EsOk (KVS m.ks) m.q m' es) (hq:m'.q=m.q) (hks:m'.ks=m.ks) {x:T} {v:Value} (hx:∀(w':World) (h':qa),g.VR h' w' x v) :
 Res g h w x (h.set i { b with mp:=some m' }) v (setBlock w cb (.map es m'.clock)):=by
 obtain⟨p1,p2,p3⟩:=hr.setMap hb hm (m':=m') o1 o2 (es:=es) (c:=m'.clock) (by unfold MapOk;rw[hq,hks];exact MapIs.after o3.heap F) o3.heap;exact⟨g,p1,hx _ _,p2,p3⟩
theorem JN{t:TypeId}{x key z:T}{vx vk vz:Value}{k:qO R}{r:R}(hk:ZT P t x key z h k=some r)(hr:HR g h w)(hx:g.VR h w x vx)(hkey:g.VR h w key vk)(hzv:g.VR h w z vz) :
 ∃h',k .undef h' true=some r/\∃w',(Instr.mapUpdate t vx vk vz).run P w = .ok () w'/\Res g h w .undef h' undef w':=by
 unfold ZT at hk;split at hk
 ·rename_i q' n;obtain rfl:=hzv.int;unfold Ze at hk;obtain⟨i,b,m,kt,e,cb,hk,hb,hm,o1,o2,o3,rfl,ht,hu,he,hks,hz,_⟩:=Zz hk hr hx;obtain⟨hkv,hk⟩:=Zu hk hkey;obtain⟨hq,hk2⟩:=qc hk;have hq:q'=m.q:=by simpa using hq
  subst hq;obtain⟨es,hrun,F⟩:=MapIs.update o3 (jt hks) hu hkv n;exact⟨_,hk2,_,hrun,Yq hr hb hm o1 o2 o3 F rfl rfl fun _ _=>.imm _ _ (.undef _)⟩
 ·cases hk
theorem qaB{t:TypeId}{x key:T}{vx vk:Value}{k:qO R}{r:R}(hk:Zy P t x key h k=some r)(hr:HR g h w)(hx:g.VR h w x vx)(hkey:g.VR h w key vk) :
 ∃y h',k y h' true=some r/\∃v w',(Instr.mapEntry t vx vk).run P w = .ok v w'/\Res g h w y h' v w':=by
 unfold Zy Ze at hk;obtain⟨i,b,m,kt,e,cb,hk,hb,hm,o1,o2,o3,rfl,ht,hu,he,hks,hz,_⟩:=Zz hk hr hx;obtain⟨hkv,hk⟩:=Zu hk hkey;obtain⟨es,hrun,F⟩:=MapIs.entry o3 (jt hks) hu (hz w) hkv;refine⟨_,_,hk,_,_,hrun,Yq hr hb hm o1 o2 o3 F rfl rfl fun _ _=>VR.pair (.imm _ _ (.int _ _)) (.imm _ _ (.int _ _))⟩
theorem kZ{t:TypeId}{x st z:T}{vx vs vz:Value}{k:qO R}{r:R}(hk:Q5 P t x st z h k=some r)(hr:HR g h w)(hx:g.VR h w x vx)(hs:g.VR h w st vs)(hzv:g.VR h w z vz) :
 ∃h',k .undef h' true=some r/\∃w',(Instr.entryStore t vx vs vz).run P w = .ok () w'/\Res g h w .undef h' undef w':=by
 unfold Q5 at hk;split at hk
 ·rename_i ks n q' z';obtain rfl:=hzv.int;obtain rfl:=hs.int;obtain⟨i,b,m,kt,e,cb,hk,hb,hm,o1,o2,o3,rfl,ht,hu,he,hks,hz,_⟩:=Zz hk hr hx;split at hk
  ·rename_i l s hl;obtain⟨hq,hk2⟩:=qc hk;simp only[Bool.and_eq_true,decide_eq_true_eq] at hq;obtain⟨⟨q1,q2⟩,q3⟩:=hq;subst q1 q2 q3;obtain⟨es,hrun,F⟩:=MapIs.store (t:=t) o3 (jt hks) hl z';exact⟨_,hk2,_,hrun,Yq hr hb hm o1 o2 o3 F rfl rfl fun _ _=>.imm _ _ (.undef _)⟩
  ·cases hk
 ·cases hk
theorem JO{t kt ty:TypeId}{x key:T}{vx vk:Value}{k:qO R}{r:R}(hk:yQ P t kt x key h k=some r)(hr:HR g h w)(hx:g.VR h w x vx)(hkey:g.VR h w key vk) :
 ∃y h',k y h' true=some r/\∃v w',(Builtin.delete_ #[t,kt] ty #[vx,vk]).run P w = .ok v w'/\Res g h w y h' v w':=by
 unfold yQ at hk;split at hk
 ·rename_i kt' p hmt;obtain⟨hkt,hk2⟩:=qc hk;obtain rfl:kt'=kt:=by simpa using hkt
  unfold Ze at hk2;obtain⟨i,b,m,kt2,e,cb,hk3,hb,hm,o1,o2,o3,rfl,ht,hu,he,hks,hz,_⟩:=Zz hk2 hr hx;rw[hmt] at ht;obtain⟨rfl,rfl⟩:=Prod.mk.inj (Option.some.inj ht);obtain⟨hkv,hk4⟩:=Zu hk3 hkey;obtain⟨es,hrun,F⟩:=MapIs.drop o3 (jt hks) hu hkv ty;exact⟨_,_,hk4,_,_,hrun,Yq hr hb hm o1 o2 o3 F rfl rfl fun _ _=>VR.mk_tup (l:=[]) (cs:=#[]) rfl fun i c hi=>by simp at hi⟩
 ·cases hk
end
def zE(Gl:Nat->Option (List T))(w:World)(U:Nat->Prop):Prop:=∀gl cells,Gl gl=some cells->VI w U (.vp cells) (.pointer (some ⟨gl,0,none⟩))
def qcv(w:World)(U:Nat->Prop)(args:List T)(cargs:Array Value):Prop:=args.length=cargs.size/\∀(i:Nat) (x:T),args[i]?=some x->∃v,cargs[i]?=some v/\VI w U x v
def ArgsVR(g:Gh)(h:qa)(w:World)(args:List T)(cargs:Array Value):Prop:=args.length=cargs.size/\∀(i:Nat) (x:T),args[i]?=some x->∃v,cargs[i]?=some v/\g.VR h w x v
def KB(g:Gh):Prop:=∀b t,g.own b≠some (.inr t)
structure OrcOk(P:Program)(Gl:Nat->Option (List T))(K:Orc):Prop where
 enters:∀f,(∃args r,K.val f args T some=some r)∨(∃args h r,K.ref f args h (T×qa) (fun v h=>some (v,h))=some r)->∃fn,P.funcs[f]?=some fn/\fn.body.isNone=false/\(fn.name=="runtime.NumGoroutine")=false
 val:∀f args r,K.val f args T some=some r->∀(w:World) (U:Nat->Prop) (cargs:Array Value),(∀b,U b->b<w.heap.size)->zE Gl w U->qcv w U args cargs →
  Calls P f cargs w fun e w'=>∃v,e = .returned v/\RV w U r v w'
 ref:∀f args h r h',K.ref f args h (T×qa) (fun v h=>some (v,h))=some (r,h')->∀(g:Gh) (w:World) (cargs:Array Value),HR g h w->KB g->zE Gl w g.U->ArgsVR g h w args cargs →
  Calls P f cargs w fun e w'=>∃v,e = .returned v/\Res g h w r h' v w'
 ro:∀f,K.ro f=true->∀args h r h',K.ref f args h (T×qa) (fun v h=>some (v,h))=some (r,h')->h'=h
section
variable {P:Program} {Gl:Nat->Option (List T)} {K:Orc} {R:Type} {g:Gh} {h:qa} {w:World}
theorem ArgsVR.append{args caps:List T}{cargs ccaps:Array Value}(ha:ArgsVR g h w args cargs)(hc:ArgsVR g h w caps ccaps):ArgsVR g h w (args++caps) (cargs++ccaps):=by
 refine⟨by simp[ha.1,hc.1],fun i x hi=>?_⟩;rw[List.getElem?_append] at hi;split at hi
 ·rename_i hlt;obtain⟨v,hv,hr⟩:=ha.2 i x hi;exact⟨v,by rw[Array.getElem?_append_left (by rw[←ha.1];exact hlt)];exact hv,hr⟩
 ·rename_i hge;obtain⟨v,hv,hr⟩:=hc.2 _ x hi;exact⟨v,by rw[Array.getElem?_append_right (by rw[←ha.1];omega),←ha.1];exact hv,hr⟩
theorem j1{x:T}{h':qa}{v:Value}{w':World}(hr:HR g h w)(hres:Res { g with own:=fun b=>match g.own b with|some (.inl i)=>some (.inl i)|_=>none } h w x h' v w'):Res g h w x h' v w':=by
 obtain⟨g',hr',hx,hk,hf⟩:=hres
 let g2:Gh:={ g' with own:=fun b=>if b<w.heap.size then g.own b else g'.own b }
 have old:∀b i,b<w.heap.size->g'.own b=some (.inl i)->g.own b=some (.inl i):=by
  intro b i hb ho;rw[hf.own b hb] at ho;dsimp only at ho;split at ho
  ·rename_i j hj;rw[hj];exact ho
  ·cases ho
 refine⟨g2,⟨fun i b hib hmp=>?_,fun b hb=>?_,fun b o ho=>?_,?_,fun b o ho=>?_,fun b j ho=>?_,fun i b m hib hm=>?_⟩,hx,hk,⟨hf.size,fun b hb=>by simp[g2,hb],hf.os,hf.tape,hf.output,fun b hb hn=>hf.same b hb (fun i hi=>?_),hf.bs,hf.u,fun b hb t=>?_⟩⟩
 ·rcases hr'.blk0 i b hib hmp with⟨cb,sh,arr,e,hok⟩|q
  rotate_left
  ·exact .inr q
  refine .inl ⟨cb,sh,arr,e,hok.φ,?_,hok.heap,hok.room,hok.len,hok.cell,hok.flat⟩;by_cases hlt:cb<w.heap.size
  ·simp only[g2,hlt,if_true];exact old cb i hlt hok.own
  ·simp only[g2,hlt,if_false];exact hok.own
 ·obtain⟨h1,h2⟩:=hr'.u b hb;refine⟨h1,?_⟩;by_cases hlt:b<w.heap.size
  ·simp only[g2,hlt,if_true];rcases hf.u b hb with hq|hq
   ·exact(hr.u b hq).2
   ·omega
  ·simp only[g2,hlt,if_false];exact h2
 ·by_cases hlt:b<w.heap.size
  ·simp only[g2,hlt,if_true] at ho;exact⟨by show g'.base<=b;rw[hf.base];exact(hr.own b o ho).1,by have:=hf.size;omega⟩
  ·simp only[g2,hlt,if_false] at ho;exact hr'.own b o ho
 ·exact hr'.base
 ·by_cases hlt:b<w.heap.size
  ·simp only[g2,hlt,if_true] at ho;cases o with
   |inl i=>exact hr'.cells b (.inl i) (by rw[hf.own b hlt];simp[ho])
   |inr t =>
    obtain⟨arr,e,q⟩:=hr.box ho;refine .inl ⟨arr,e,(hf.same b hlt fun i hi=>?_).trans q⟩;dsimp only at hi;rw[ho] at hi;cases hi
  ·simp only[g2,hlt,if_false] at ho;exact hr'.cells b o ho
 ·by_cases hlt:b<w.heap.size
  ·simp only[g2,hlt,if_true] at ho;exact hr'.lt b j (by rw[hf.own b hlt];simp[ho])
  ·simp only[g2,hlt,if_false] at ho;exact hr'.lt b j ho
 ·obtain⟨cb,o1,o2,o3⟩:=hr'.mp i b m hib hm;refine⟨cb,o1,?_,o3⟩;by_cases hlt:cb<w.heap.size
  ·simp only[g2,hlt,if_true];exact old cb i hlt o2
  ·simp only[g2,hlt,if_false];exact o2
 ·dsimp only at hi;split at hi
  ·rename_i j hj;exact hn j hj
  ·cases hi
 ·simp only[g2,Nat.not_lt.2 hb,if_false];exact hf.new b hb t
theorem HR.strip(hr:HR g h w):HR { g with own:=fun b=>match g.own b with|some (.inl i)=>some (.inl i)|_=>none } h w:=by
 refine⟨fun i b hib hmp=>?_,fun b hb=>?_,fun b o ho=>?_,hr.base,fun b o ho=>?_,fun b i ho=>?_,fun i b m hib hm=>hr.mp_of hib hm rfl (fun c hc=>by simp[hc]) fun _ _ _=>rfl⟩
 ·rcases hr.blk0 i b hib hmp with⟨cb,sh,arr,e,hok⟩|q
  rotate_left
  ·exact .inr q
  exact .inl ⟨cb,sh,arr,e,hok.φ,by simp[hok.own],hok.heap,hok.room,hok.len,hok.cell,hok.flat⟩
 ·obtain⟨h1,h2⟩:=hr.u b hb;exact⟨h1,by simp[h2]⟩
 ·dsimp only at ho;split at ho
  ·rename_i j hj;exact hr.own b _ hj
  ·cases ho
 ·dsimp only at ho;split at ho
  ·rename_i j hj;cases ho;exact hr.cells b _ hj
  ·cases ho
 ·dsimp only at ho;split at ho
  ·rename_i j hj;obtain rfl:j=i:=by simpa using ho
   exact hr.lt b j hj
  ·cases ho
theorem ZL{o:Oper}{a:Act}{f:FuncId}{cargs:Array Value}{Φ:Value->World->Prop}(hrun:(execOp a.eval o).run P w = .ok (.enter f cargs) w)
 (hc:Calls P f cargs w fun e w'=>∃v,e = .returned v/\Φ v w'):Yields P o a w Φ:=by
 intro ro n next Q hn
 refine⟨fun _ _=>trivial,?_⟩;rw[ZU hrun (by simp),Oper.uponIn_enter];refine⟨(fun hd=>by simp[Ql] at hd),?_⟩;have hc':CallsIn (Ql ro) (n-1) P f cargs w fun e w'=>∃v,e = .returned v/\Φ v w':=callsIn_wide.2 hc;refine hc'.mono fun e w' hv=>?_;obtain⟨v,rfl,hΦ⟩:=hv;exact hn v w' hΦ
theorem qbj(hK:OrcOk P Gl K){o:Oper}{a:Act}{of:Operand}{oargs:Array Operand}{ts:Array TypeId}(ho:o.op = .call { callee:=.value of,args:=oargs,argTypes:=ts })
 {f:T} {args:List T} {k:qO R} {r:R} (hk:Ye K f args h k=some r) (hr:HR g h w) (hgl:zE Gl w g.U) (hf:g.VR h w f (a.eval of)) (ha:ArgsVR g h w args (oargs.map a.eval)) :
 ∃y h' wr,k y h' wr=some r/\(wr=false->h'=h)/\Yields P o a w (Res g h w y h'):=by
 cases f with
 |fn f caps =>
  obtain⟨cs,hev,hcl,hcc⟩:=hf.fn_inv;have hargs:ArgsVR g h w (args++caps) (oargs.map a.eval++cs):=ha.append ⟨hcl,hcc⟩
  have hrun:(∃fn,P.funcs[f]?=some fn/\fn.body.isNone=false/\(fn.name=="runtime.NumGoroutine")=false)->(execOp a.eval o).run P w = .ok (.enter f (oargs.map a.eval++cs)) w:=by
   rintro⟨fn,h1,h2,h3⟩;unfold execOp;rw[ho]
   have h3':¬fn.name = "runtime.NumGoroutine":=by simpa using h3
   have h2':¬fn.body=none:=by intro hh;rw[hh] at h2;cases h2
   simp[Go.resolve,hev,Deferred.ofValue,invoke,callFunc,h1,h2',h3']
  simp only[Ye] at hk;rcases qk hk with⟨hb,hk⟩|⟨hb,hk⟩
  ·rcases qk hk with⟨ho',hk⟩|⟨_,hk⟩
   ·obtain⟨⟨v,h'⟩,hk,hall⟩:=qq (K.refDet f (args++caps) h) (k:=fun p=>k p.1 h false) hk;have hK':=hall (T×qa) some;obtain rfl:=hK.ro f ho' _ _ v h' hK';refine⟨_,_,_,hk,fun _=>rfl,?_⟩;have hc:=hK.ref f _ _ v _ hK' _ w (oargs.map a.eval++cs) hr.strip (fun b t=>by dsimp only;split<;>simp) hgl hargs;exact ZL (hrun (hK.enters f (.inr ⟨_,_,_,hK'⟩))) (hc.mono fun e w' ⟨v',e1,e2⟩=>⟨v',e1,j1 hr e2⟩)
   ·obtain⟨⟨v,h'⟩,hk,hall⟩:=qq (K.refDet f (args++caps) h) (k:=fun p=>k p.1 p.2 true) hk;have hK':=hall (T×qa) some;refine⟨_,_,_,hk,(fun hh=>by cases hh),?_⟩;have hc:=hK.ref f _ h v h' hK' _ w (oargs.map a.eval++cs) hr.strip (fun b t=>by dsimp only;split<;>simp) hgl hargs;exact ZL (hrun (hK.enters f (.inr ⟨_,_,_,hK'⟩))) (hc.mono fun e w' ⟨v',e1,e2⟩=>⟨v',e1,j1 hr e2⟩)
  ·obtain⟨rr,hk,hall⟩:=qq (K.valDet f ((args++caps).map (zO h))) hk
   ·have hK':=hall T some;refine⟨_,_,_,hk,fun hh=>?_,?_⟩
    ·have:Yd rr=true:=by simpa using hh
     exact qbi this
    ·have hent:=hrun (hK.enters f (.inl ⟨_,_,hK'⟩));cases hs:(args++caps).all imm with
     |true =>
      have hall:=List.all_eq_true.1 hs;have hc:=hK.val f _ rr hK' w g.U (oargs.map a.eval++cs) (fun b hb=>(hr.u b hb).1) hgl ⟨by simpa using hargs.1,fun i x hi=>by
       obtain⟨x0,h0,rfl⟩:=zB hi;obtain⟨v,hv,hvr⟩:=hargs.2 i x0 h0;have hi0:=hall x0 (List.mem_of_getElem? h0);refine⟨v,hv,?_⟩;simp only[zO,hi0,cond_true];exact ka hi0 hvr⟩
      exact ZL hent (hc.mono fun e w' ⟨v',e1,e2⟩=>⟨v',e1,qbF hr e2 (fun _=>rfl)⟩)
     |false =>
      have hc:=hK.val f _ rr hK' w (fun b=>b<w.heap.size) (oargs.map a.eval++cs) (fun b hb=>hb) (fun gl cells hg=>(hgl gl cells hg).keep (jr (jY hr).u)) ⟨by simpa using hargs.1,fun i x hi=>by
       obtain⟨x0,h0,rfl⟩:=zB hi;obtain⟨v,hv,hvr⟩:=hargs.2 i x0 h0;exact⟨v,hv,qbh hr hvr⟩⟩
      exact ZL hent (hc.mono fun e w' ⟨v',e1,e2⟩=>⟨v',e1,qbF hr e2 (fun hh=>by cases hh)⟩)
 |_=>simp[Ye] at hk
theorem QC{o:Oper}{a:Act}{s:Sem Value}{v:Value}{w':World}{y:T}{h':qa}(he:execOp a.eval o=(do pure (.value (←s))))(hrun:s.run P w = .ok v w')(hres:Res g h w y h' v w'):Yields P o a w (Res g h w y h') :=
 zy (by rw[he];simp[hrun]) hres
theorem qfU{ops:List Operand}{e:Operand->T}{ce:Operand->Value}(he:∀x,g.VR h w (e x) (ce x)):∀(i:Nat) (x:T),(ops.map e)[i]?=some x->∃v,(ops.map ce)[i]?=some v/\g.VR h w x v:=by
 intro i x hi;rw[List.getElem?_map] at hi;cases ho:ops[i]? with
 |none=>simp[ho] at hi
 |some o =>
  rw[ho] at hi;obtain rfl:=Option.some.inj hi;exact⟨ce o,by simp[ho],he o⟩
theorem qaC{ops:Array Operand}{e:Operand->T}{ce:Operand->Value}(he:∀x,g.VR h w (e x) (ce x)):ArgsVR g h w (ops.toList.map e) (ops.map ce):=by
 refine⟨by simp,fun i x hi=>?_⟩;obtain⟨v,hv,hr⟩:=qfU (ops:=ops.toList) he i x hi;exact⟨v,by rw[←hv];simp,hr⟩
theorem j3{ps:Array (Nat×Operand)}{e:Operand->T}{ce:Operand->Value}(he:∀x,g.VR h w (e x) (ce x)) :
 ∀(n:Nat) (p:Nat×T),(ps.toList.map fun p=>(p.1,e p.2))[n]?=some p->∃q:Nat×Value,(ps.map fun p=>(p.1,ce p.2)).toList[n]?=some q/\q.1=p.1/\g.VR h w p.2 q.2:=by
 intro n p hn;rw[List.getElem?_map] at hn;cases ho:ps.toList[n]? with
 |none=>simp[ho] at hn
 |some o =>
  rw[ho] at hn;obtain rfl:=Option.some.inj hn;refine⟨(o.1,ce o.2),?_,rfl,he o.2⟩;rw[Array.toList_map,List.getElem?_map,ho];rfl
theorem qcw{x:Option Operand}{e:Operand->T}{ce:Operand->Value}(he:∀x,g.VR h w (e x) (ce x)):qbf g h w (x.map e) (x.map ce):=by
 cases x with
 |none=>exact .inl ⟨rfl,rfl⟩
 |some x=>exact .inr ⟨_,_,rfl,rfl,he x⟩
theorem j4{o:Oper}{a:Act}{b:Builtin}{oargs:Array Operand}{ts:Array TypeId}(ho:o.op = .call { callee:=.builtin b,args:=oargs,argTypes:=ts })
 {args:List T} {k:qO R} {r:R} (hk:zk P b ts.toList args h k=some r) (hr:HR g h w) (ha:ArgsVR g h w args (oargs.map a.eval)) :
 ∃y h' wr,k y h' wr=some r/\(wr=false->h'=h)/\Yields P o a w (Res g h w y h'):=by
 have one:∀{x:T},args=[x]->∃u,oargs.map a.eval = #[u]/\g.VR h w x u:=by
  rintro x rfl;obtain⟨v,hv,hvr⟩:=ha.2 0 x rfl;refine⟨v,?_,hvr⟩;have h1:(oargs.map a.eval).size=1:=ha.1.symm;apply Array.ext (by simp[h1]);intro i hi _;have:i=0:=by omega
  subst this;rw[Array.getElem?_eq_getElem hi] at hv;simpa using Option.some.inj hv
 have two:∀{x y:T},args=[x,y]->∃u v,oargs.map a.eval = #[u,v]/\g.VR h w x u/\g.VR h w y v:=by
  rintro x y rfl;obtain⟨u,hu,hur⟩:=ha.2 0 x rfl;obtain⟨v,hv,hvr⟩:=ha.2 1 y rfl;refine⟨u,v,?_,hur,hvr⟩;have h1:(oargs.map a.eval).size=2:=ha.1.symm;apply Array.ext (by simp[h1]);intro i hi _;have:i=0∨i=1:=by omega
  rcases this with rfl|rfl
  ·rw[Array.getElem?_eq_getElem hi] at hu;simpa using Option.some.inj hu
  ·rw[Array.getElem?_eq_getElem hi] at hv;simpa using Option.some.inj hv
 have hex:∀(s:Sem Value),builtin b ts o.type (oargs.map fun|.const _=>true|_=>false) (oargs.map a.eval)=(do pure (.value (←s)))->execOp a.eval o=(do pure (.value (←s))):=by
  intro s hs;unfold execOp;rw[ho];show(do let d ←Go.resolve a.eval { callee:=.builtin b,args:=oargs,argTypes:=ts } o.type;invoke d.target d.args)=_;exact hs
 have fin:∀{s:Sem Value} {y:T} {h':qa} {v:Value} {w':World},builtin b ts o.type (oargs.map fun|.const _=>true|_=>false) (oargs.map a.eval)=(do pure (.value (←s)))->s.run P w = .ok v w'->Res g h w y h' v w'->Yields P o a w (Res g h w y h') :=
  fun hs hrun hres=>QC (hex _ hs) hrun hres
 have tl:∀{t:TypeId} {l:List TypeId},ts.toList=t::l->ts[0]?=some t:=by
  intro t l he;rw[←Array.getElem?_toList,he];rfl
 unfold zk at hk;split at hk
 ·rename_i t l x hts;obtain⟨u,hu,hur⟩:=one rfl;obtain⟨z,hz,c,hrun,hzr⟩:=jm (ty:=o.type) hk hur (tl hts);exact⟨z,h,false,hz,fun _=>rfl,fin (s:=Builtin.len_ ts o.type (oargs.map a.eval)) rfl (by rw[hu];exact hrun) (.pure hr hzr)⟩
 ·rename_i t l x hts;obtain⟨u,hu,hur⟩:=one rfl;obtain⟨z,hz,c,hrun,hzr⟩:=jn (ty:=o.type) hk hur (tl hts);exact⟨z,h,false,hz,fun _=>rfl,fin (s:=Builtin.cap_ ts o.type (oargs.map a.eval)) rfl (by rw[hu];exact hrun) (.pure hr hzr)⟩
 ·rename_i t tx l s x hts;obtain⟨u,v,hu,hur,hvr⟩:=two rfl;obtain⟨hx,hk⟩:=qc hk;obtain⟨z,h',wr,hz,hwr,c,w',hrun,hres⟩:=JL (tx:=tx) (ty:=o.type) hk hx hr hur hvr;refine⟨z,h',wr,hz,hwr,fin (s:=Builtin.append_ ts o.type (oargs.map a.eval)) rfl ?_ hres⟩;rw[hu];have e:Builtin.append_ ts o.type #[u,v]=Builtin.append_ #[t,tx] o.type #[u,v]:=by
   unfold Builtin.append_;have e0:ts[0]?=(#[t,tx]:Array TypeId)[0]?:=tl hts;have e1:ts[1]?=(#[t,tx]:Array TypeId)[1]?:=by rw[←Array.getElem?_toList,hts];rfl
   rw[e0,e1]
  rw[e];exact hrun
 ·rename_i t l d x hts;obtain⟨u,v,hu,hur,hvr⟩:=two rfl;obtain⟨z,h',wr,hz,hwr,c,w',hrun,hres⟩:=qbg (tx:=t) (ty:=o.type) hk hr hur hvr;refine⟨z,h',wr,hz,hwr,fin (s:=Builtin.copy_ ts o.type (oargs.map a.eval)) rfl ?_ hres⟩;rw[hu];have e:Builtin.copy_ ts o.type #[u,v]=Builtin.copy_ #[t,t] o.type #[u,v]:=by
   unfold Builtin.copy_;have e0:ts[0]?=(#[t,t]:Array TypeId)[0]?:=tl hts;rw[e0]
  rw[e];exact hrun
 ·rename_i t l d hts;obtain⟨u,hu,hur⟩:=one rfl;obtain⟨z,h',wr,hz,hwr,c,w',hrun,hres⟩:=qax (ty:=o.type) hk hr hur;refine⟨z,h',wr,hz,hwr,fin (s:=Builtin.clear_ ts o.type (oargs.map a.eval)) rfl ?_ hres⟩;rw[hu];have e:Builtin.clear_ ts o.type #[u]=Builtin.clear_ #[t] o.type #[u]:=by
   unfold Builtin.clear_;have e0:ts[0]?=(#[t]:Array TypeId)[0]?:=tl hts;rw[e0]
  rw[e];exact hrun
 ·rename_i x y;obtain⟨u,v,hu,hur,hvr⟩:=two rfl;obtain⟨z,hz,c,hrun,hzr⟩:=Zt (ty:=o.type) (ts:=ts) hk hur hvr;exact⟨z,h,false,hz,fun _=>rfl,fin (s:=Builtin.min_ ts o.type (oargs.map a.eval)) rfl (by rw[hu];exact hrun) (.pure hr hzr)⟩
 ·rename_i x y;obtain⟨u,v,hu,hur,hvr⟩:=two rfl;obtain⟨z,hz,c,hrun,hzr⟩:=Zt (ty:=o.type) (ts:=ts) hk hur hvr;exact⟨z,h,false,hz,fun _=>rfl,fin (s:=Builtin.max_ ts o.type (oargs.map a.eval)) rfl (by rw[hu];exact hrun) (.pure hr hzr)⟩
 ·rename_i t kt x y hts;obtain⟨u,v,hu,hur,hvr⟩:=two rfl;obtain⟨z,h',hz,c,w',hrun,hres⟩:=JO (ty:=o.type) hk hr hur hvr;refine⟨z,h',true,hz,(fun hh=>by cases hh),fin (s:=Builtin.delete_ ts o.type (oargs.map a.eval)) rfl ?_ hres⟩;rw[hu];have e:Builtin.delete_ ts o.type #[u,v]=Builtin.delete_ #[t,kt] o.type #[u,v]:=by
   have:ts = #[t,kt]:=by apply Array.ext';rw[hts]
   rw[this]
  rw[e];exact hrun
 ·cases hk
theorem qef{o:Oper}{ρ:Operand->Value}{t:TypeId}{ps:Array (Nat×Operand)}(ho:o.op = .build t ps):execOp ρ o=(do pure (.value (←Instr.build t (ps.map fun p=>(p.1,ρ p.2))))):=by
 unfold execOp;rw[ho]
theorem YI{o:Oper}{ρ:Operand->Value}{t:TypeId}{len:Nat}{ps:Array (Nat×Operand)}(ho:o.op = .buildSlice t len ps):execOp ρ o=(do pure (.value (←Instr.buildSlice t len (ps.map fun p=>(p.1,ρ p.2))))):=by
 unfold execOp;rw[ho]
set_option maxHeartbeats 1000000 in
theorem Jz(hK:OrcOk P Gl K){o:Oper}{a:Act}{e:Operand->T}{k:qO R}{r:R}(hk:qP P K o.op e h k=some r)(hr:HR g h w)(hgl:zE Gl w g.U)(he:∀x,g.VR h w (e x) (a.eval x)) :
 ∃y h' wr,k y h' wr=some r/\(wr=false->h'=h)/\Yields P o a w (Res g h w y h'):=by
 have ofRun:∀{s:Sem Value},execOp a.eval o=(do pure (.value (←s)))->(∃y,k y h false=some r/\∃u,s.run P w = .ok u w/\g.VR h w y u)->∃y h' wr,k y h' wr=some r/\(wr=false->h'=h)/\Yields P o a w (Res g h w y h'):=by
  rintro s hs ⟨y,hy,u,hrun,hyr⟩;exact⟨y,h,false,hy,fun _=>rfl,QC hs hrun (.pure hr hyr)⟩
 have YF:∀(x:Operand),execOp a.eval o=pure (.value (a.eval x))->k (e x) h false=some r->∃y h' wr,k y h' wr=some r/\(wr=false->h'=h)/\Yields P o a w (Res g h w y h') :=
  fun x hs hk=>⟨e x,h,false,hk,fun _=>rfl,zy (by rw[hs];rfl) (.pure hr (he x))⟩
 unfold qP at hk;split at hk
 ·rename_i x ho;exact YF x (by unfold execOp;rw[ho]) hk
 ·rename_i x ho;exact YF x (by unfold execOp;rw[ho]) hk
 ·rename_i c x y ho;cases hc:e c with
  |bool t =>
   rw[hc] at hk;have hce:=he c;rw[hc] at hce;have hce:=hce.bool;rcases qk hk with⟨rfl,hk⟩|⟨rfl,hk⟩
   ·exact⟨e x,h,false,hk,fun _=>rfl,zy (v:=a.eval x) (by unfold execOp;rw[ho];simp[hce,asBool]) (.pure hr (he x))⟩
   ·exact⟨e y,h,false,hk,fun _=>rfl,zy (v:=a.eval y) (by unfold execOp;rw[ho];simp[hce,asBool]) (.pure hr (he y))⟩
  |_=>simp[hc] at hk
 ·rename_i ty ho;obtain⟨hz,hk⟩:=qc hk;obtain⟨z,hz,hkn,hz1,hz2,hz3,hz4⟩:=zH (P:=P) (g:=g) (h:=h) (w:=w) hz;obtain⟨y,h',hy,hres⟩:=JK (e:=ty) hk hr hz1 hz3 hz4;exact⟨y,h',true,hy,(fun hh=>by cases hh),QC (s:=Instr.alloc ty true (.tuple #[])) (by unfold execOp;rw[ho]) (by simp[Instr.alloc,hz,newVar,newRow]) hres⟩
 ·rename_i ty x ho;obtain⟨hc,hk⟩:=qc hk;obtain⟨c1,c2,c3⟩:=(he x).cells_rel hc;obtain⟨y,h',hy,hres⟩:=Y9 (e:=ty) hk hr c1 c2 c3;exact⟨y,h',true,hy,(fun hh=>by cases hh),QC (s:=Instr.box ty (a.eval x)) (by unfold execOp;rw[ho]) (by simp[Instr.box,newVar,newRow]) hres⟩
 ·rename_i t ps ho;exact ofRun (qef ho) (qar hk (by simp) (j3 he))
 ·rename_i t len ps ho;obtain⟨y,h',hy,v,w',hrun,hres⟩:=kY (cparts:=ps.map fun p=>(p.1,a.eval p.2)) hk hr (by simp) (j3 he);exact⟨y,h',true,hy,(fun hh=>by cases hh),QC (YI ho) hrun hres⟩
 ·rename_i t x ho;exact ofRun (s:=Instr.loadAt t (a.eval x)) (by unfold execOp;rw[ho]) (yE hk hr (he x))
 ·rename_i t x v ho;obtain⟨h',hy,w',hrun,hres⟩:=qao hk hr (he x) (he v);refine⟨_,h',true,hy,(fun hh=>by cases hh),Y7 ?_ hres⟩;unfold execOp;rw[ho];simp[hrun]
 ·rename_i x ho;obtain⟨hy,hu⟩:=jo hk (he x);refine⟨_,h,false,hy,fun _=>rfl,zy (v:=a.eval x) ?_ (.pure hr (he x))⟩;unfold execOp;rw[ho];rcases hu with⟨ad,hu⟩|⟨f,cs,hu⟩<;>simp[hu]
 ·rename_i op t x y ty ho;exact ofRun (s:=do eqGuard op t x y (a.eval x) (a.eval y);binOp op t (a.eval x) (a.eval y)) (by unfold execOp;rw[ho]) (jl hk (he x) (he y))
 ·rename_i op t x ho;exact ofRun (s:=Op.unary op (a.eval x)) (by unfold execOp;rw[ho]) (qdk hk (he x))
 ·rename_i src dst x ho;cases hs:P.underlying src with
  |none=>simp[hs] at hk
  |some d =>
   simp only[hs,Option.isSome_some,cond_true] at hk;exact ofRun (s:=convert src dst (a.eval x)) (by unfold execOp;rw[ho]) (yW hk hr (he x) ⟨d,hs⟩)
 ·rename_i f first cap ho
  obtain⟨hf,hk⟩:=qc hk;have hf:first = #[]:=by simpa using hf
  subst hf;obtain⟨q1,q2⟩:=qaC (ops:=cap) he;exact⟨_,h,false,hk,fun _=>rfl,QC (s:=Instr.makeFunc (.func f) ((#[]:Array Operand).map a.eval) (cap.map a.eval)) (by unfold execOp;rw[ho]) (by simp[Instr.makeFunc]) (.pure hr (VR.mk_fn q1 q2))⟩
 ·rename_i t l c ho;obtain⟨y,h',hy,v,w',hrun,hres⟩:=qbe hk hr (he l) (he c);exact⟨y,h',true,hy,(fun hh=>by cases hh),QC (s:=Instr.makeSlice t (a.eval l) (a.eval c)) (by unfold execOp;rw[ho]) hrun hres⟩
 ·rename_i t x lo hi mx ho;exact ofRun (s:=Instr.sliceAt t (a.eval x) (lo.map a.eval) (hi.map a.eval) (mx.map a.eval)) (by unfold execOp;rw[ho]) (ke hk (he x) (qcw he) (qcw he) (qcw he))
 ·rename_i t x f ho;exact ofRun (s:=Instr.fieldAt t (a.eval x) f) (by unfold execOp;rw[ho]) (yb hk (he x))
 ·rename_i t x f ho;exact ofRun (s:=Instr.field t (a.eval x) f) (by unfold execOp;rw[ho]) (qas hk (he x))
 ·rename_i t x i ho;exact ofRun (s:=Instr.indexAt t (a.eval x) (a.eval i)) (by unfold execOp;rw[ho]) (yc hk (he x) (he i))
 ·rename_i t x i ho;exact ofRun (s:=Instr.index t (a.eval x) (a.eval i)) (by unfold execOp;rw[ho]) (qat hk (he x) (he i))
 ·rename_i x i ho;exact ofRun (s:=Instr.extract (a.eval x) i) (by unfold execOp;rw[ho]) (jT hk (he x))
 ·rename_i t ho;obtain⟨y,h',hy,v,w',hrun,hres⟩:=j0 hk hr;exact⟨y,h',true,hy,(fun hh=>by cases hh),QC (s:=Instr.makeMap t none) (by unfold execOp;rw[ho];rfl) hrun hres⟩
 ·rename_i t x i c ho;exact ofRun (s:=Instr.lookup t (a.eval x) (a.eval i) c) (by unfold execOp;rw[ho]) (JM hk hr (he x) (he i))
 ·rename_i t x i v ho;obtain⟨h',hy,w',hrun,hres⟩:=JN hk hr (he x) (he i) (he v);refine⟨_,h',true,hy,(fun hh=>by cases hh),Y7 ?_ hres⟩;unfold execOp;rw[ho];simp[hrun]
 ·rename_i t x i ho;obtain⟨y,h',hy,v,w',hrun,hres⟩:=qaB hk hr (he x) (he i);exact⟨y,h',true,hy,(fun hh=>by cases hh),QC (s:=Instr.mapEntry t (a.eval x) (a.eval i)) (by unfold execOp;rw[ho]) hrun hres⟩
 ·rename_i t x st v ho;obtain⟨h',hy,w',hrun,hres⟩:=kZ hk hr (he x) (he st) (he v);refine⟨_,h',true,hy,(fun hh=>by cases hh),Y7 ?_ hres⟩;unfold execOp;rw[ho];simp[hrun]
 ·rename_i f args ts ho;exact qbj hK ho hk hr hgl (he f) (qaC he)
 ·rename_i b args ts ho;exact j4 ho hk hr (qaC he)
 ·cases hk
theorem qhr{U:Nat->Prop}{φ:Nat->Option (Nat×Nat)}{x:T}{v:Value}(hx:VR w U φ [] x v):VI w U x v:=by
 generalize hh:([]:qa)=h0 at hx
 induction hx with
 |imm x v hv=>exact hv
 |own i ver off len cap b v hb hver h1 hok=>subst hh;simp at hb
 |ptr i ver j o b v hb hver h1 hok=>subst hh;simp at hb
 |mp i ver b v hb hver h1 hok=>subst hh;simp at hb
 |fn f caps cs vs hl hc hv ih=>exact .fn f caps cs vs hl hc (fun i c hi=>ih i c hi)
 |agg l cs vs hl h1 hc hv ih=>exact .agg l cs vs hl h1 hc (fun i c hi=>ih i c hi)
 |tup l cs vs hl hc hv ih=>exact .tup l cs vs hl hc (fun i c hi=>ih i c hi)
 |iface t x v hv ih=>exact .iface t x v ih
theorem HR.empty(hr:HR g h w):HR { g with own:=fun _=>none } [] w:=⟨fun i b hb=>by simp at hb,fun b hb=>⟨(hr.u b hb).1,rfl⟩,fun b o ho=>(by cases ho),hr.base,fun b o ho=>(by cases ho),fun b i ho=>(by cases ho),fun i b m hb=>by simp at hb⟩
theorem qcx{o:Oper}{a:Act}{e:Operand->T}{k:qO R}{r:R}(hb:J8 o.op=true)(hi:(o.op.operands.toList.all fun x=>imm (e x))=true)(hk:qP P K o.op e [] k=some r)(hr:HR g h w)(he:∀x,g.VR h w (e x) (a.eval x)) :
 ∃y wr,k y [] wr=some r/\∃v,(execOp a.eval o).run P w = .ok (.value v) w/\g.VR h w y v:=by
 have hall:=List.all_eq_true.1 hi;have hev:∀x,x∈o.op.operands.toList->g.VR [] w (e x) (a.eval x):=fun x hx=>.imm _ _ (ka (hall x hx) (he x));have ofRun:∀{s:Sem Value},execOp a.eval o=(do pure (.value (←s)))->(∃y,k y [] false=some r/\∃u,s.run P w = .ok u w/\g.VR [] w y u)->∃y wr,k y [] wr=some r/\∃v,(execOp a.eval o).run P w = .ok (.value v) w/\g.VR h w y v:=by
  rintro s hs ⟨y,hy,u,hrun,hyr⟩;exact⟨y,false,hy,u,by rw[hs];simp[hrun],.imm _ _ (qhr hyr)⟩
 have opt:∀{x:Option Operand},(∀y,x=some y->y∈o.op.operands.toList)->qbf g [] w (x.map e) (x.map a.eval):=by
  intro x hx;cases x with
  |none=>exact .inl ⟨rfl,rfl⟩
  |some x=>exact .inr ⟨_,_,rfl,rfl,hev x (hx x rfl)⟩
 unfold qP at hk;split at hk
 all_goals first|(cases hk;done)|(rename_i ho;rw[ho] at hb;simp[J8] at hb;done)|skip
 ·rename_i t x ho;exact ofRun (s:=Instr.loadAt t (a.eval x)) (by unfold execOp;rw[ho]) (yE (g:={ g with own:=fun _=>none }) hk hr.empty (hev x (by rw[ho];simp[Op.operands])))
 ·rename_i x ho;obtain⟨hy,hu⟩:=jo hk (hev x (by rw[ho];simp[Op.operands]));refine⟨_,false,hy,a.eval x,?_,he x⟩;unfold execOp;rw[ho];rcases hu with⟨ad,hu⟩|⟨f,cs,hu⟩<;>simp[hu]
 ·rename_i op t x y ty ho;exact ofRun (s:=do eqGuard op t x y (a.eval x) (a.eval y);binOp op t (a.eval x) (a.eval y)) (by unfold execOp;rw[ho]) (jl hk (hev x (by rw[ho];simp[Op.operands])) (hev y (by rw[ho];simp[Op.operands])))
 ·rename_i src dst x ho;cases hs:P.underlying src with
  |none=>simp[hs] at hk
  |some d =>
   simp only[hs,Option.isSome_some,cond_true] at hk;exact ofRun (s:=convert src dst (a.eval x)) (by unfold execOp;rw[ho]) (yW (g:={ g with own:=fun _=>none }) hk hr.empty (hev x (by rw[ho];simp[Op.operands])) ⟨d,hs⟩)
 ·rename_i t x lo hi mx ho;exact ofRun (s:=Instr.sliceAt t (a.eval x) (lo.map a.eval) (hi.map a.eval) (mx.map a.eval)) (by unfold execOp;rw[ho]) (ke hk (hev x (by rw[ho];simp[Op.operands]))
   (opt (fun y hy=>by rw[ho,hy];simp[Op.operands])) (opt (fun y hy=>by rw[ho,hy];simp[Op.operands])) (opt (fun y hy=>by rw[ho,hy];simp[Op.operands])))
 ·rename_i t x f ho;exact ofRun (s:=Instr.fieldAt t (a.eval x) f) (by unfold execOp;rw[ho]) (yb hk (hev x (by rw[ho];simp[Op.operands])))
 ·rename_i t x i ho;exact ofRun (s:=Instr.indexAt t (a.eval x) (a.eval i)) (by unfold execOp;rw[ho]) (yc hk (hev x (by rw[ho];simp[Op.operands])) (hev i (by rw[ho];simp[Op.operands])))
 ·rename_i b oargs ts ho;have ha:ArgsVR g [] w (oargs.toList.map e) (oargs.map a.eval):=by
   refine⟨by simp,fun i x hi=>?_⟩;rw[List.getElem?_map] at hi;cases hoi:oargs.toList[i]? with
   |none=>simp[hoi] at hi
   |some y =>
    rw[hoi] at hi;obtain rfl:=Option.some.inj hi;refine⟨a.eval y,by rw[Array.getElem?_map,←Array.getElem?_toList,hoi];rfl,hev y ?_⟩;rw[ho];have:=List.mem_of_getElem? hoi;simpa [Op.operands,Call.operands] using this
  have hex:∀(s:Sem Value),builtin b ts o.type (oargs.map fun|.const _=>true|_=>false) (oargs.map a.eval)=(do pure (.value (←s)))->execOp a.eval o=(do pure (.value (←s))):=by
   intro s hs;unfold execOp;rw[ho];show(do let d ←Go.resolve a.eval { callee:=.builtin b,args:=oargs,argTypes:=ts } o.type;invoke d.target d.args)=_;exact hs
  have arr1:∀{x:T},oargs.toList.map e=[x]->∃u,oargs.map a.eval = #[u]/\g.VR [] w x u:=by
   intro x hx;rw[hx] at ha;obtain⟨v,hv,hvr⟩:=ha.2 0 x rfl;refine⟨v,?_,hvr⟩;have h1:(oargs.map a.eval).size=1:=ha.1.symm;apply Array.ext (by simp[h1]);intro i hi _;have:i=0:=by omega
   subst this;rw[Array.getElem?_eq_getElem hi] at hv;simpa using Option.some.inj hv
  have arr2:∀{x y:T},oargs.toList.map e=[x,y]->∃u v,oargs.map a.eval = #[u,v]/\g.VR [] w x u/\g.VR [] w y v:=by
   intro x y hx;rw[hx] at ha;obtain⟨u,hu,hur⟩:=ha.2 0 x rfl;obtain⟨v,hv,hvr⟩:=ha.2 1 y rfl;refine⟨u,v,?_,hur,hvr⟩;have h1:(oargs.map a.eval).size=2:=ha.1.symm;apply Array.ext (by simp[h1]);intro i hi _;have:i=0∨i=1:=by omega
   rcases this with rfl|rfl
   ·rw[Array.getElem?_eq_getElem hi] at hu;simpa using Option.some.inj hu
   ·rw[Array.getElem?_eq_getElem hi] at hv;simpa using Option.some.inj hv
  have tl:∀{t:TypeId} {l:List TypeId},ts.toList=t::l->ts[0]?=some t:=by
   intro t l he;rw[←Array.getElem?_toList,he];rfl
  unfold zk at hk;split at hk
  ·rename_i t l x hts hargs;obtain⟨u,hu,hur⟩:=arr1 hargs;exact ofRun (hex (Builtin.len_ ts o.type (oargs.map a.eval)) rfl) (by rw[hu];exact jm (ty:=o.type) hk hur (tl hts))
  ·rename_i t l x hts hargs;obtain⟨u,hu,hur⟩:=arr1 hargs;exact ofRun (hex (Builtin.cap_ ts o.type (oargs.map a.eval)) rfl) (by rw[hu];exact jn (ty:=o.type) hk hur (tl hts))
  ·rw[ho] at hb;simp[J8] at hb
  ·rw[ho] at hb;simp[J8] at hb
  ·rw[ho] at hb;simp[J8] at hb
  ·rename_i x y hargs;obtain⟨u,v,hu,hur,hvr⟩:=arr2 hargs;exact ofRun (hex (Builtin.min_ ts o.type (oargs.map a.eval)) rfl) (by rw[hu];exact Zt (ty:=o.type) (ts:=ts) hk hur hvr)
  ·rename_i x y hargs;obtain⟨u,v,hu,hur,hvr⟩:=arr2 hargs;exact ofRun (hex (Builtin.max_ ts o.type (oargs.map a.eval)) rfl) (by rw[hu];exact Zt (ty:=o.type) (ts:=ts) hk hur hvr)
  ·rw[ho] at hb;simp[J8] at hb
  ·cases hk
theorem qdr{op:Op}(hv:qd3 op=true)(e:Operand->T)(h h':qa)(k:Bool->T->Option R):qP P K op e h (fun y _ wr=>k wr y)=qP P K op e h' (fun y _ wr=>k wr y):=by
 cases op<;>first|rfl|(simp[qd3] at hv;done)|skip
 case makeFunc fn first cap=>cases fn<;>rfl
end
def qds(P:Program)(Gl:Nat->Option (List T))(prom:List Nat)(nt:Nat)(o:Oper)(a:Act)(w:World)(g:Gh)(h:qa)(s':St):Prop :=
 ∀(ro:Option Nat) (n:Nat) (next:Act->World->Prop) (Q:Exit->Act->World->Prop),(∀a' w' g',SR Gl prom nt g' s' a' w'->FrC g h w g' s'.h w'->a'.defers=a.defers->next a' w')->o.wpIn (Ql ro) n P a w next Q
section
variable {P:Program} {Gl:Nat->Option (List T)} {K:Orc} {R:Type} {prom:List Nat} {nt:Nat} {g:Gh} {s:St} {a:Act} {w:World}
theorem KC{h0:qa}{o:Oper}{v:Value}{w':World}{s':St}{g':Gh}(h:(execOp a.eval o).run P w = .ok (.value v) w')(hs:SR Gl prom nt g' s' (a.put o.dst v) w')(hf:FrC g h0 w g' s'.h w'):qds P Gl prom nt o a w g h0 s':=by
 intro ro n next Q hn
 refine⟨fun _ _=>trivial,?_⟩;rw[ZU h (by simp)];exact hn _ _ g' hs hf (QB _ _ _)
theorem qfl{h0:qa}{o:Oper}{w':World}{s':St}{g':Gh}(h:(execOp a.eval o).run P w = .ok .skip w')(hs:SR Gl prom nt g' s' (a.put o.dst undef) w')(hf:FrC g h0 w g' s'.h w'):qds P Gl prom nt o a w g h0 s':=by
 intro ro n next Q hn
 refine⟨fun _ _=>trivial,?_⟩;rw[ZU h (by simp)];exact hn _ _ g' hs hf (QB _ _ _)
theorem yX{A:Type}{v:T}{k:T->Option A}{r:A}(h:jO v k=some r):k v=some r:=by
 cases v with
 |bool b=>cases b<;>exact h
 |_=>exact h
theorem yY{o:Oper}{v:T}{h':qa}{hp:Option qa}{rs:List Nat}{rd wr:Bool}{k:Eff->FP->Option R}{r:R}(hk:done nt o s v hp rs rd wr k=some r)(hs:SR Gl prom nt g s a w)(he:hp.getD s.h=h')(hy:Yields P o a w (Res g s.h w v h')) :
 ∃f fp,k f fp=some r/\qds P Gl prom nt o a w g s.h (f.app s):=by
 unfold done at hk;cases hd:o.dst with
 |none =>
  rw[hd] at hk;refine⟨_,_,hk,fun ro n next Q hn=>hy ro n next Q fun cv w' hres=>?_⟩;obtain⟨g',hr',hx,hkp,hf⟩:=hres;rw[hd];subst he;exact hn _ _ g' (hs.done0 hr' hkp hf rfl) (hf.toC hkp) rfl
 |some d =>
  rw[hd] at hk;obtain⟨hlt,hk⟩:=qc hk;simp only[Bool.and_eq_true,Bool.not_eq_true'] at hlt;refine⟨_,_,yX hk,fun ro n next Q hn=>hy ro n next Q fun cv w' hres=>?_⟩;obtain⟨g',hr',hx,hkp,hf⟩:=hres;rw[hd];subst he;exact hn _ _ g' (hs.done (qU hlt.1) hr' hx hkp hf rfl hlt.2) (hf.toC hkp) (QB _ _ _)
theorem Qn(hK:OrcOk P Gl K){o:Oper}{k:Eff->FP->Option R}{r:R}(hk:qQ P K Gl prom nt o s k=some r)(hs:SR Gl prom nt g s a w) :
 ∃f fp,k f fp=some r/\qds P Gl prom nt o a w g s.h (f.app s):=by
 unfold qQ at hk;rcases qk hk with⟨hn,hk⟩|⟨_,hk⟩
 ·rcases Bool.or_eq_true _ _▸hn with hv|hm
  ·rw[qdr (P:=P) (K:=K) hv (Ab.ev Gl prom s) [] s.h (fun wr v=>bif wr then none else done nt o s v none (Qf o.op) false false k)] at hk;obtain⟨y,h',wr,hk,hwr,hy⟩:=Jz hK hk hs.hr hs.glob hs.ev;rcases qk hk with⟨_,hk⟩|⟨hw,hk⟩
   ·cases hk
   obtain rfl:=hwr hw;exact yY hk hs rfl hy
  ·simp only[Bool.and_eq_true] at hm;obtain⟨y,wr,hk,v,hrun,hyr⟩:=qcx hm.1 hm.2 hk hs.hr hs.ev;rcases qk hk with⟨_,hk⟩|⟨_,hk⟩
   ·cases hk
   exact yY hk hs rfl (zy hrun (.pure hs.hr hyr))
 ·obtain⟨y,h',wr,hk,hwr,hy⟩:=Jz hK hk hs.hr hs.glob hs.ev;obtain⟨f,fp,h1,h2⟩:=yY hk hs (by
   cases wr with
   |true=>rfl
   |false=>exact(hwr rfl).symm) hy
  exact⟨f,_,h1,h2⟩
theorem Yr{x:Operand}{t off:Nat}(hb:base prom s x=some (t,off))(hs:SR Gl prom nt g s a w){cells:List T}(hc:s.at t = .reg cells) :
 t∈prom/\∃cb arr e,RegOk g s.h w t (a.tmps.getD t undef) cells cb arr e/\a.eval x = .pointer (some ⟨cb,off,none⟩):=by
 cases x with
 |tmp d =>
  simp only[base] at hb;cases hp:prom.contains d with
  |true =>
   rw[hp] at hb;simp only[cond_true,Option.some.injEq,Prod.mk.injEq] at hb;obtain⟨rfl,rfl⟩:=hb;have hm:d∈prom:=by simpa using hp
   obtain⟨cb,arr,e,hreg⟩:=hs.regs d hm cells hc;exact⟨hm,cb,arr,e,hreg,hreg.ptr⟩
  |false =>
   rw[hp] at hb;simp only[cond_false] at hb;obtain⟨hm,_,cb,h1,h2⟩:=hs.loc d t off hb;obtain⟨cb',arr,e,hreg⟩:=hs.regs t hm cells hc;have:=hreg.ptr;rw[h1] at this;simp only[Value.pointer.injEq,Option.some.injEq,Addr.mk.injEq,and_true] at this;subst this;exact⟨hm,cb,arr,e,hreg,h2⟩
 |_=>cases hb
theorem qeg{x:Operand}{t off:Nat}(hb:base prom s x=some (t,off))(hs:SR Gl prom nt g s a w){cells:List T}(hc:s.at t = .reg cells) :
 t∈prom/\∃cb,a.tmps.getD t undef = .pointer (some ⟨cb,0,none⟩)/\a.eval x = .pointer (some ⟨cb,off,none⟩):=by
 obtain⟨hm,cb,arr,e,hreg,hev⟩:=Yr hb hs hc;exact⟨hm,cb,hreg.ptr,hev⟩
theorem RegOk.cellsAt{h:qa}{t:Nat}{v:Value}{cells:List T}{cb:Nat}{arr:Array Value}{e:TypeId}(hreg:RegOk g h w t v cells cb arr e):CellsAt g h w cb 0 cells:=by
 intro o c ho;obtain⟨u,h1,h2,h3⟩:=hreg.cell o c ho;exact⟨u,⟨by simp[World.cell?,hreg.heap,h1],h2⟩,h3⟩
theorem Ys{o:Oper}{x:Operand}{t off off':Nat}{rs:List Nat}{k:Eff->FP->Option R}{r:R}{cells:List T}(hc:s.at t = .reg cells)(hk:ze prom nt o t off' rs k=some r)(hb:base prom s x=some (t,off))(hs:SR Gl prom nt g s a w)
 (hrun:∀cb,a.eval x = .pointer (some ⟨cb,off,none⟩)->(execOp a.eval o).run P w = .ok (.value (.pointer (some ⟨cb,off',none⟩))) w):∃f fp,k f fp=some r/\qds P Gl prom nt o a w g s.h (f.app s):=by
 unfold ze at hk;cases hd:o.dst with
 |none=>rw[hd] at hk;cases hk
 |some d =>
  rw[hd] at hk;obtain⟨hc',hk⟩:=qc hk;simp only[Bool.and_eq_true,Bool.not_eq_true'] at hc';obtain⟨hm,cb,h1,h2⟩:=qeg hb hs hc;refine⟨_,_,hk,KC (g':=g) (hrun cb h2) ?_ (FrC.refl _ _ _)⟩;rw[hd];exact hs.putLoc (qU hc'.1) hm (by simpa using hc'.2) h1
theorem JA(hK:OrcOk P Gl K){o:Oper}{k:Eff->FP->Option R}{r:R}(hk:zb P K Gl prom nt o s k=some r)(hs:SR Gl prom nt g s a w) :
 ∃f fp,k f fp=some r/\qds P Gl prom nt o a w g s.h (f.app s):=by
 unfold zb at hk;split at hk
 ·rename_i ty x ho;cases hd:o.dst with
  |none=>rw[hd] at hk;cases hk
  |some d =>
   rw[hd] at hk;rcases qk hk with⟨hp,hk⟩|⟨hp,hk⟩
   ·obtain⟨hc,hk⟩:=qc hk;obtain⟨c1,c2,c3⟩:=(hs.ev x).cells_rel hc;unfold done at hk;rw[hd] at hk;obtain⟨hlt,hk⟩:=qc hk;simp only[Bool.and_eq_true,Bool.not_eq_true'] at hlt;obtain⟨g',hs',hf⟩:=hs.box (e:=ty) (qU hlt.1) (by simpa using hp) hlt.2 c1 c2 c3;refine⟨_,_,yX hk,KC (g':=g') ?_ (by rw[hd];exact hs') hf⟩;unfold execOp;rw[ho];simp[Instr.box,newVar,newRow]
   ·exact Qn hK hk hs
 ·rename_i ty ho;cases hd:o.dst with
  |none=>rw[hd] at hk;cases hk
  |some d =>
   rw[hd] at hk;rcases qk hk with⟨hp,hk⟩|⟨hp,hk⟩
   ·obtain⟨hz,hk⟩:=qc hk;obtain⟨z,hz,hkn,hz1,hz2,hz3,hz4⟩:=zH (P:=P) (g:=g) (h:=s.h) (w:=w) hz;unfold done at hk;rw[hd] at hk;obtain⟨hlt,hk⟩:=qc hk;simp only[Bool.and_eq_true,Bool.not_eq_true'] at hlt;obtain⟨g',hs',hf⟩:=hs.box (e:=ty) (qU hlt.1) (by simpa using hp) hlt.2 hz1 hz3 hz4;refine⟨_,_,yX hk,KC (g':=g') ?_ (by rw[hd];exact hs') hf⟩;unfold execOp;rw[ho];simp[Instr.alloc,hz,newVar,newRow]
   ·exact Qn hK hk hs
 ·rename_i ty x ho;cases hb:base prom s x with
  |none=>rw[hb] at hk;exact Qn hK hk hs
  |some p =>
   obtain⟨t,off⟩:=p;rw[hb] at hk;dsimp only at hk;cases hc:s.at t with
   |reg cells =>
    rw[hc] at hk;obtain⟨hm,cb,arr,e,hreg,hev⟩:=Yr hb hs hc;obtain⟨y,hk,u,hrun,hyr⟩:=jf hk (hreg.cellsAt.drop off);rw[Nat.zero_add] at hrun;refine yY hk hs rfl (QC (s:=Instr.loadAt ty (a.eval x)) (by unfold execOp;rw[ho]) ?_ (.pure hs.hr hyr));rw[hev];simp[Instr.loadAt,Instr.sureAddr,hrun]
   |_=>rw[hc] at hk;cases hk
 ·rename_i ty x v ho;cases hb:base prom s x with
  |none=>rw[hb] at hk;exact Qn hK hk hs
  |some p =>
   obtain⟨t,off⟩:=p;rw[hb] at hk;dsimp only at hk;cases hc:s.at t with
   |reg cells =>
    rw[hc] at hk;cases hd:o.dst with
    |some d=>rw[hd] at hk;cases hk
    |none =>
     rw[hd] at hk;obtain⟨hcd,hk⟩:=qc hk;simp only[Bool.and_eq_true,beq_iff_eq] at hcd;obtain⟨⟨⟨hkn,hsz⟩,hok⟩,hle⟩:=hcd;have hle:=qT hle;obtain⟨hm,cb,arr,e,hreg,hev⟩:=Yr hb hs hc;obtain⟨c1,c2,c3⟩:=(hs.ev v).cells_rel hok;have hlen:=hreg.len;have hfit:off+(a.eval v).cells.size<=arr.size:=by rw[←c1,hsz];omega
     have hfit':off+(a.eval v).cells.toList.length<=arr.size:=by simpa using hfit
     have hrun:=jg (P:=P) (w:=w) (v:=a.eval v) hkn (by rw[←c1,hsz]) hreg.heap hfit c2;have hsp:off+(Ab.ev Gl prom s v).cells.length<=cells.length:=by rw[hsz];exact hle
     obtain⟨g',hs',hf⟩:=hs.setReg hm hc hreg (arr':=(arr.toList.take off++(a.eval v).cells.toList++arr.toList.drop (off+(a.eval v).cells.toList.length)).toArray) (cells':=ZE cells off (Ab.ev Gl prom s v).cells)
      (zz arr _ _ hfit') (by rw[yF _ _ _ hsp];exact hlen) (fun i c hi=>by
       rw[Kx _ _ _ _ hsp] at hi;rw[JW arr _ _ _ hfit'];by_cases hin:off<=i/\i<off+(Ab.ev Gl prom s v).cells.length
       ·rw[if_pos hin] at hi;rw[if_pos (by simp only[Array.length_toList,←c1];exact hin)];obtain⟨u,hu,hur⟩:=c3 _ c hi;exact⟨u,by simpa using hu,c2 _ _ hu,hur⟩
       ·rw[if_neg hin] at hi;rw[if_neg (by simp only[Array.length_toList,←c1];exact hin)];exact hreg.cell i c hi)
     refine⟨_,_,hk,qfl (g':=g') ?_ (by rw[hd];exact hs') hf⟩;unfold execOp;rw[ho];simp only[hev,Instr.storeAt,Instr.sureAddr,Sem.run_bind,Sem.run_pure,Result.andThen_ok,hrun]
   |_=>rw[hc] at hk;cases hk
 ·rename_i ty x f ho;cases hb:base prom s x with
  |none=>rw[hb] at hk;exact Qn hK hk hs
  |some p =>
   obtain⟨t,off⟩:=p;rw[hb] at hk;dsimp only at hk;cases hc:s.at t with
   |reg cells =>
    rw[hc] at hk;dsimp only at hk;cases hf:zs P ty f with
    |none=>rw[hf] at hk;cases hk
    |some q =>
     obtain⟨fo,fty⟩:=q;rw[hf] at hk;obtain⟨fs,x',hu,hx',rfl,rfl,hkn,hnz⟩:=Ky hf;refine Ys hc hk hb hs (fun cb hev=>?_);unfold execOp;rw[ho];have hrun:∀ad:Addr,(fieldPlace ad x').run P w = .ok (ad.add x'.offset) w:=by
      intro ad;simp[fieldPlace,qR hkn,hnz]
     simp[hev,Instr.fieldAt,Instr.sureAddr,qe hu,hx',hrun,Qs]
   |_=>rw[hc] at hk;cases hk
 ·rename_i ty x i ho;cases hb:base prom s x with
  |none=>rw[hb] at hk;exact Qn hK hk hs
  |some p =>
   obtain⟨t,off⟩:=p;rw[hb] at hk;dsimp only at hk;cases hc:s.at t with
   |reg cells =>
    rw[hc] at hk;dsimp only at hk;cases hi:Ab.ev Gl prom s i with
    |int ki i' =>
     rw[hi] at hk;cases ha:Qu P ty with
     |none=>rw[ha] at hk;cases hk
     |some q =>
      obtain⟨n,e⟩:=q;rw[ha] at hk;obtain⟨hcd,hk⟩:=qc hk;simp only[Bool.and_eq_true,decide_eq_true_eq] at hcd;obtain⟨⟨hkn,h0⟩,hlt⟩:=hcd;have hie:=hs.ev i;rw[hi] at hie;have hie:=hie.int;have hk:=zj (by omega) hk;refine Ys hc hk hb hs (fun cb hev=>?_);unfold execOp;rw[ho];simp[hev,hie,Instr.indexAt,Instr.sureAddr,asIntOf,qe (Zn ha),h0,hlt,qR hkn,Qs]
    |_=>rw[hi] at hk;cases hk
   |_=>rw[hc] at hk;cases hk
 ·rename_i x ho;cases hb:base prom s x with
  |none=>rw[hb] at hk;exact Qn hK hk hs
  |some p =>
   obtain⟨t,off⟩:=p;rw[hb] at hk;dsimp only at hk;cases hc:s.at t with
   |reg cells =>
    rw[hc] at hk;refine Ys hc hk hb hs (fun cb hev=>?_);unfold execOp;rw[ho];simp[hev]
   |_=>rw[hc] at hk;cases hk
 ·exact Qn hK hk hs
end
section
variable {P:Program} {Gl:Nat->Option (List T)} {K:Orc} {R:Type} {prom:List Nat} {nt:Nat} {g:Gh} {s:St} {a:Act} {w:World}
def qfV(P:Program)(Gl:Nat->Option (List T))(prom:List Nat)(nt:Nat)(ops:Array Oper)(o:Oper)(a:Act)(w:World)(g:Gh)(h:qa)(s':St):Prop :=
 ∀(ro:Option Nat) (n:Nat) (next:Act->World->Prop) (Q:Exit->Act->World->Prop),(∀a' w' g',SR Gl prom nt g' s' a' w'->FrC g h w g' s'.h w'->a'.defers=a.defers->next a' w') →
  if Region.wanted o (yielded ops a.tmps) then o.wpIn (Ql ro) n P a w next Q else next (a.put o.dst undef) w
theorem qcy{o:Oper}{k:Eff->FP->Option R}{r:R}(hk:zv P Gl prom nt o s k=some r)(hs:SR Gl prom nt g s a w) :
 ∃f fp,k f fp=some r/\qds P Gl prom nt o a w g s.h (f.app s):=by
 unfold zv at hk;split at hk
 ·rename_i t len ps ho;obtain⟨y,hy,v,w',hrun,hres⟩:=jh (cparts:=ps.map fun p=>(p.1,a.eval p.2)) hk hs.hr (by simp) (j3 hs.ev);exact yY hy hs rfl (QC (YI ho) hrun hres)
 ·cases hk
theorem qcz(hK:OrcOk P Gl K){ops:Array Oper}{o:Oper}{k:Eff->FP->Option R}{r:R}(hk:QW P K Gl prom nt ops.toList o s k=some r)(hs:SR Gl prom nt g s a w) :
 ∃f fp,k f fp=some r/\qfV P Gl prom nt ops o a w g s.h (f.app s):=by
 unfold QW at hk;cases hg:o.guard with
 |none =>
  rw[hg] at hk;obtain⟨s',fp,h1,h2⟩:∃f fp,k f fp=some r/\qds P Gl prom nt o a w g s.h (f.app s):=by
   rcases qk hk with⟨_,hk⟩|⟨_,hk⟩
   ·exact qcy hk hs
   ·exact JA hK hk hs
  exact⟨s',fp,h1,fun ro n next Q hn=>by rw[if_pos (by simp[Region.wanted,hg])];exact h2 ro n next Q hn⟩
 |some p =>
  obtain⟨j,want⟩:=p;rw[hg] at hk;dsimp only at hk;cases hgs:zZ ops.toList j with
  |none=>rw[hgs] at hk;cases hk
  |some gd =>
   rw[hgs] at hk;dsimp only at hk;cases hat:s.at gd with
   |bool b =>
    rw[hat] at hk;dsimp only at hk;rcases qk hk with⟨_,hk⟩|⟨hp,hk⟩
    ·cases hk
    have hv:=hs.tmps gd (by simpa using hp);rw[hat] at hv;have hv:=hv.bool;have hy:yielded ops a.tmps j=some b:=by
     have hd:(ops[j]?).bind (·.dst)=some gd:=by
      unfold zZ at hgs;rw[Array.getElem?_toList] at hgs;cases ho:ops[j]? with
      |none=>rw[ho] at hgs;cases hgs
      |some o'=>rw[ho] at hgs;exact hgs
     unfold yielded;rw[hd];simp only[Option.bind_some];have hlt:gd<a.tmps.size:=by
      rcases Nat.lt_or_ge gd a.tmps.size with hq|hq
      ·exact hq
      ·rw[Array.getD_eq_getD_getElem?,Array.getElem?_eq_none hq] at hv;cases hv
     rw[Array.getD_eq_getD_getElem?,Array.getElem?_eq_getElem hlt] at hv;rw[Array.getElem?_eq_getElem hlt];simp only[Option.getD_some] at hv;rw[hv]
    have hw:Region.wanted o (yielded ops a.tmps)=(b==want):=by simp[Region.wanted,hg,hy]
    have hb:(bif b then want else !want)=(b==want):=qau b want;rw[hb] at hk;rcases qk hk with⟨hbw,hk⟩|⟨hbw,hk⟩
    ·obtain⟨s',fp,h1,h2⟩:=JA hK hk hs;exact⟨s',_,h1,fun ro n next Q hn=>by rw[if_pos (by rw[hw];exact hbw)];exact h2 ro n next Q hn⟩
    ·unfold done at hk;have hneg:¬Region.wanted o (yielded ops a.tmps)=true:=by rw[hw,hbw];simp
     cases hd:o.dst with
     |none =>
      rw[hd] at hk;refine⟨_,_,hk,fun _ _ next Q hn=>?_⟩;rw[if_neg hneg];refine hn _ _ g ?_ (FrC.refl _ _ _) (QB _ _ _);rw[hd];exact hs.done0 hs.hr (.refl _ _ _ _) (.refl _ _ fun b o e=>(hs.hr.own b o e).2) rfl
     |some d =>
      rw[hd] at hk;obtain⟨hlt,hk⟩:=qc hk;refine⟨_,_,yX hk,fun _ _ next Q hn=>?_⟩;rw[if_neg hneg];refine hn _ _ g ?_ (FrC.refl _ _ _) (QB _ _ _);rw[hd];simp only[Bool.and_eq_true,Bool.not_eq_true'] at hlt;exact hs.done (qU hlt.1) hs.hr (.imm _ _ (.gone _ (fun b h=>by cases h))) (.refl _ _ _ _) (.refl _ _ fun b o e=>(hs.hr.own b o e).2) rfl hlt.2
   |gone =>
    rw[hat] at hk;dsimp only at hk;rcases qk hk with⟨_,hk⟩|⟨hp,hk⟩
    ·cases hk
    have hv:=hs.tmps gd (by simpa using hp);rw[hat] at hv;have hy:yielded ops a.tmps j=none:=by
     have hd:(ops[j]?).bind (·.dst)=some gd:=by
      unfold zZ at hgs;rw[Array.getElem?_toList] at hgs;cases ho:ops[j]? with
      |none=>rw[ho] at hgs;cases hgs
      |some o'=>rw[ho] at hgs;exact hgs
     unfold yielded;rw[hd];simp only[Option.bind_some];rcases Nat.lt_or_ge gd a.tmps.size with hq|hq
     ·rw[Array.getD_eq_getD_getElem?,Array.getElem?_eq_getElem hq] at hv;rw[Array.getElem?_eq_getElem hq];simp only[Option.getD_some] at hv;have hnb:=hv.gone;generalize a.tmps[gd]=x at hnb;cases x<;>first|rfl|exact absurd rfl (hnb _)
     ·rw[Array.getElem?_eq_none hq]
    have hw:Region.wanted o (yielded ops a.tmps)=false:=by simp[Region.wanted,hg,hy]
    have hneg:¬Region.wanted o (yielded ops a.tmps)=true:=by rw[hw];simp
    unfold done at hk;cases hd:o.dst with
    |none =>
     rw[hd] at hk;refine⟨_,_,hk,fun _ _ next Q hn=>?_⟩;rw[if_neg hneg];refine hn _ _ g ?_ (FrC.refl _ _ _) (QB _ _ _);rw[hd];exact hs.done0 hs.hr (.refl _ _ _ _) (.refl _ _ fun b o e=>(hs.hr.own b o e).2) rfl
    |some d =>
     rw[hd] at hk;obtain⟨hlt,hk⟩:=qc hk;refine⟨_,_,yX hk,fun _ _ next Q hn=>?_⟩;rw[if_neg hneg];refine hn _ _ g ?_ (FrC.refl _ _ _) (QB _ _ _);rw[hd];simp only[Bool.and_eq_true,Bool.not_eq_true'] at hlt;exact hs.done (qU hlt.1) hs.hr (.imm _ _ (.gone _ (fun b h=>by cases h))) (.refl _ _ _ _) (.refl _ _ fun b o e=>(hs.hr.own b o e).2) rfl hlt.2
   |_=>rw[hat] at hk;cases hk
def StepIs(P:Program)(K:Orc)(Gl:Nat->Option (List T))(prom:List Nat)(nt:Nat)(ops:List Oper)(o:Oper)(s:St)(f:Eff)(fp:FP):Prop :=
 ∀(R:Type) (k:Eff->FP->Option R),QW P K Gl prom nt ops o s k=k f fp
theorem qaD{ops:List Oper}{o:Oper}{k:Eff->FP->Option R}{r:R}(hk:QW P K Gl prom nt ops o s k=some r):∃f fp,k f fp=some r/\StepIs P K Gl prom nt ops o s f fp:=by
 obtain⟨⟨f,fp⟩,h1,h2⟩:=qq (Jo P K Gl prom nt ops o s) (k:=fun p=>k p.1 p.2) hk;exact⟨f,fp,h1,fun R k=>h2 R fun p=>k p.1 p.2⟩
theorem StepIs.goes(hK:OrcOk P Gl K){ops:Array Oper}{o:Oper}{f:Eff}{fp:FP}(h:StepIs P K Gl prom nt ops.toList o s f fp)(hs:SR Gl prom nt g s a w):qfV P Gl prom nt ops o a w g s.h (f.app s):=by
 obtain⟨f',fp',h1,h2⟩:=qcz hK (h (Eff×FP) fun f fp=>some (f,fp)) hs;simp only[Option.some.injEq,Prod.mk.injEq] at h1;obtain⟨rfl,rfl⟩:=h1;exact h2
inductive RunIs(P:Program)(K:Orc)(Gl:Nat->Option (List T))(prom:List Nat)(nt:Nat)(ops:List Oper):List Oper->St->St->List FP->Prop where
 |nil (s:St):RunIs P K Gl prom nt ops [] s s []
 |cons {o:Oper} {l:List Oper} {s s':St} {f:Eff} {fp:FP} {fps:List FP} (h:StepIs P K Gl prom nt ops o s f fp) (t:RunIs P K Gl prom nt ops l (f.app s) s' fps):RunIs P K Gl prom nt ops (o::l) s s' (fp::fps)
theorem ZX{ops:List Oper}:∀(l:List Oper) {s:St} {k:St->List FP->Option R} {r:R},Zk P K Gl prom nt ops l s k=some r->∃s' fps,k s' fps=some r/\RunIs P K Gl prom nt ops l s s' fps
 |[],s,k,r,hk=>⟨s,[],hk,.nil s⟩
 |o::l,s,k,r,hk=>by
  simp only[Zk] at hk;obtain⟨f,fp,hk,h1⟩:=qaD hk;obtain⟨s',fps,hk,h2⟩:=ZX l hk;exact⟨s',fp::fps,hk,.cons h1 h2⟩
theorem RunIs.goes(hK:OrcOk P Gl K){ops:Array Oper}{l:List Oper}{s s':St}{fps:List FP}(h:RunIs P K Gl prom nt ops.toList l s s' fps):∀{g:Gh} {a:Act} {w:World},SR Gl prom nt g s a w →
 ∀(ro:Option Nat) (n:Nat) (Q:Exit->Act->World->Prop),(∀a' w' g',SR Gl prom nt g' s' a' w'->FrC g s.h w g' s'.h w'->a'.defers=a.defers->Q .normal a' w')->wpListIn (Ql ro) n P ops Q l a w:=by
 induction h with
 |nil s=>exact fun hs ro n Q hn=>hn _ _ _ hs (FrC.refl _ _ _) rfl
 |cons h1 h2 ih =>
  intro g a w hs ro n Q hn;unfold wpListIn;have:=h1.goes hK hs ro n (wpListIn (Ql ro) n P ops Q _) Q (fun a' w' g' hs' hf' hd'=>ih hs' ro n Q fun a2 w2 g2 hs2 hf2 hd2=>hn a2 w2 g2 hs2 (hf'.trans hf2) (hd2.trans hd'));split at this
  ·rename_i hw;rw[if_pos hw];exact this
  ·rename_i hw;rw[if_neg hw];exact⟨fun _ _=>trivial,this⟩
end
section
variable {P:Program} {K:Orc} {Gl:Nat->Option (List T)} {prom:List Nat} {nt:Nat} {s s1 s':St} {f:Eff} {fp:FP}
theorem qbk{o:Oper}(hk:zv P Gl prom nt o s two=some (f,fp))(ha:Agree s s1 fp):zv P Gl prom nt o s1 two=some (f,fp):=by
 unfold zv at hk ⊢;split at hk
 ·rename_i t len ps ho;rw[ho];obtain⟨y,hk1,hall⟩:=qq (zL P t len (ps.toList.map fun p=>(p.1,ev Gl prom s p.2))) (k:=fun v=>done nt o s v none (Qf o.op) false false two) hk;obtain⟨h1,h2,h3,h4⟩:=zl (s1:=s1) hk1;have he:(ps.toList.map fun p=>(p.1,ev Gl prom s1 p.2))=ps.toList.map fun p=>(p.1,ev Gl prom s p.2):=List.map_congr_left fun p hp=>by
   rw[yU fun t ht=>ha.at' t ?_];rw[h1];refine List.mem_flatMap.2 ⟨p.2,?_,ht⟩;rw[ho];simp only[Op.operands]
   first
    |(simp only[Array.toList_map,List.mem_map];exact⟨p,hp,rfl⟩)
    |(simp;exact⟨p.1,by simpa using hp⟩)
  rw[he];have:=hall _ fun v=>done nt o s1 v none (Qf o.op) false false two;rw[ho] at this h4;rw[this];exact h4 ha.used
 ·cases hk
theorem ju{o:Oper}(hsub:∀t∈Qf o.op,t∈fp.rs)(ha:Agree s s1 fp):YY Gl prom s1 o=YY Gl prom s o:=by
 unfold YY;cases ho:o.op with
 |buildSlice t len ps =>
  dsimp only;have he:∀p∈ps.toList,ev Gl prom s1 p.2=ev Gl prom s p.2:=fun p hp=>by
   refine yU fun t ht=>ha.at' t (hsub t (List.mem_flatMap.2 ⟨p.2,?_,ht⟩));rw[ho];simp only[Op.operands]
   first
    |(simp only[Array.toList_map,List.mem_map];exact⟨p,hp,rfl⟩)
    |(simp;exact⟨p.1,by simpa using hp⟩)
  rw[Bool.eq_iff_iff,List.all_eq_true,List.all_eq_true];exact⟨fun h p hp=>by rw[←he p hp];exact h p hp,fun h p hp=>by rw[he p hp];exact h p hp⟩
 |_=>rfl
theorem qeh{o:Oper}(hk:zv P Gl prom nt o s two=some (f,fp)):∀t∈Qf o.op,t∈fp.rs:=by
 unfold zv at hk;split at hk
 ·rename_i t len ps ho;obtain⟨y,hk1,hall⟩:=qq (zL P t len (ps.toList.map fun p=>(p.1,ev Gl prom s p.2))) (k:=fun v=>done nt o s v none (Qf o.op) false false two) hk;obtain⟨h1,h2,h3,h4⟩:=zl (s1:=s) hk1;exact fun t ht=>h1▸ht
 ·cases hk
theorem qei{o:Oper}(hk:zb P K Gl prom nt o s two=some (f,fp))(ha:Agree s s1 fp):YY Gl prom s1 o=YY Gl prom s o:=by
 cases ho:o.op with
 |buildSlice t len ps =>
  unfold zb at hk;rw[ho] at hk;dsimp only at hk;exact ju (q8 (s1:=s1) hk).1 ha
 |_=>simp only[YY,ho]
theorem qbl{ops:List Oper}{o:Oper}(hk:QW P K Gl prom nt ops o s two=some (f,fp))(ha:Agree s s1 fp):QW P K Gl prom nt ops o s1 two=some (f,fp):=by
 unfold QW at hk ⊢;cases hg:o.guard with
 |none =>
  rw[hg] at hk;dsimp only at hk ⊢;cases hz:(qg7 K.byRef ops o&&YY Gl prom s o) with
  |true =>
   rw[hz] at hk;rw[ju (qeh hk) ha,hz];exact qbk hk ha
  |false =>
   rw[hz] at hk;rw[qei hk ha,hz];exact jd hk ha
 |some p =>
  obtain⟨j,want⟩:=p;rw[hg] at hk;dsimp only at hk ⊢;cases hgs:zZ ops j with
  |none=>rw[hgs] at hk;cases hk
  |some gd =>
   rw[hgs] at hk;dsimp only at hk ⊢;cases hat:s.at gd with
   |bool b =>
    rw[hat] at hk;dsimp only at hk;cases hp:prom.contains gd with
    |true=>rw[hp] at hk;cases hk
    |false =>
     rw[hp] at hk;simp only[cond_false] at hk;cases hw:(bif b then want else !want) with
     |true =>
      rw[hw] at hk;simp only[cond_true] at hk;obtain⟨⟨f1,fp1⟩,h1,h2⟩:=qq (Zm P K Gl prom nt o s) (k:=fun p=>two p.1 { p.2 with rs:=gd::p.2.rs }) hk;simp only[Option.some.injEq,Prod.mk.injEq] at h1;obtain⟨rfl,rfl⟩:=h1;have ha1:Agree s s1 fp1:=⟨fun e he=>ha.at' e (List.mem_cons_of_mem _ he),fun e he=>ha.loc e (List.mem_cons_of_mem _ he),ha.used,ha.heap,ha.heapR⟩;have h3:=jd (h2 _ fun p=>two p.1 p.2) ha1;rw[ha.at' gd List.mem_cons_self,hat];simp only[cond_false,cond_true,hw];obtain⟨q,q1,q2⟩:=qq (Zm P K Gl prom nt o s1) (k:=fun p=>two p.1 p.2) h3;obtain⟨f2,fp2⟩:=q;simp only[Option.some.injEq,Prod.mk.injEq] at q1;obtain⟨rfl,rfl⟩:=q1;exact q2 _ fun p=>two p.1 { p.2 with rs:=gd::p.2.rs }
     |false =>
      rw[hw] at hk;simp only[cond_false] at hk;obtain⟨h1,_,_,h4⟩:=zl (s1:=s1) hk;rw[ha.at' gd (h1▸List.mem_cons_self),hat];simp only[cond_false,hw];exact h4 ha.used
   |gone =>
    rw[hat] at hk;dsimp only at hk;cases hp:prom.contains gd with
    |true=>rw[hp] at hk;cases hk
    |false =>
     rw[hp] at hk;simp only[cond_false] at hk;obtain⟨h1,_,_,h4⟩:=zl (s1:=s1) hk;rw[ha.at' gd (h1▸List.mem_cons_self),hat];simp only[cond_false];exact h4 ha.used
   |_=>rw[hat] at hk;cases hk
theorem StepIs.congr{ops:List Oper}{o:Oper}(h:StepIs P K Gl prom nt ops o s f fp)(ha:Agree s s1 fp):StepIs P K Gl prom nt ops o s1 f fp:=by
 obtain⟨f',fp',h1,h2⟩:=qaD (qbl (h _ two) ha);simp only[Option.some.injEq,Prod.mk.injEq] at h1;obtain⟨rfl,rfl⟩:=h1;exact h2
structure Fits(f:Eff)(fp:FP):Prop where
 slot:∀d v,f.slot=some (d,v)->d∈fp.ws/\d<1024
 place:∀d p,f.place=some (d,p)->d∈fp.ws/\∀t o,p=some (t,o)->t∈fp.rs
 heap:∀h,f.heap=some h->fp.wr=true
theorem z1(hnt:nt<=1024){o:Oper}{v:T}{hp:Option qa}{rs:List Nat}{rd wr:Bool}(hw:∀h,hp=some h->wr=true)(hk:done nt o s v hp rs rd wr two=some (f,fp)):Fits f fp:=by
 unfold done at hk;cases hd:o.dst with
 |none =>
  rw[hd] at hk;simp only[Option.some.injEq,Prod.mk.injEq] at hk;obtain⟨rfl,rfl⟩:=hk;exact⟨fun d v h=>(by cases h),fun d v h=>(by cases h),hw⟩
 |some d =>
  rw[hd] at hk;dsimp only at hk;cases hb:(Nat.blt d nt&&!s.used d) with
  |false=>rw[hb] at hk;cases hk
  |true =>
   rw[hb] at hk;simp only[cond_true,QU,Option.some.injEq,Prod.mk.injEq] at hk;obtain⟨rfl,rfl⟩:=hk;simp only[Bool.and_eq_true] at hb;have:=qU hb.1;refine⟨fun d' v' h=>?_,fun d' p h=>?_,hw⟩
   ·simp only[Option.some.injEq,Prod.mk.injEq] at h;obtain⟨rfl,_⟩:=h;exact⟨by simp,by omega⟩
   ·simp only[Option.some.injEq,Prod.mk.injEq] at h;obtain⟨rfl,rfl⟩:=h;exact⟨by simp,fun t o h=>by cases h⟩
theorem qaE(hnt:nt<=1024){o:Oper}{v:T}{hp:Option qa}{rs:List Nat}{rd wr:Bool}{rb wb:Option Nat×Bool}(hw:∀h,hp=some h->wr=true)(hk:done nt o s v hp rs rd wr (fun f fp=>two f { fp with rb:=rb,wb:=wb })=some (f,fp)) :
 Fits f fp/\f.heap=hp/\fp.wb=wb:=by
 obtain⟨⟨f1,fp1⟩,h1,h2⟩:=qq (Za nt o s v hp rs rd wr) (k:=fun p=>two p.1 { p.2 with rb:=rb,wb:=wb }) hk;simp only[Option.some.injEq,Prod.mk.injEq] at h1;obtain⟨rfl,rfl⟩:=h1;have h3:=h2 _ fun p=>two p.1 p.2;have hf:=z1 hnt hw h3;refine⟨⟨hf.slot,hf.place,hf.heap⟩,?_,rfl⟩;unfold done at h3;cases hd:o.dst with
 |none =>
  rw[hd] at h3;simp only[Option.some.injEq,Prod.mk.injEq] at h3;rw[←h3.1]
 |some d =>
  rw[hd] at h3;dsimp only at h3;cases hb:(Nat.blt d nt&&!s.used d) with
  |false=>rw[hb] at h3;cases h3
  |true =>
   rw[hb] at h3;simp only[cond_true,QU,Option.some.injEq,Prod.mk.injEq] at h3;rw[←h3.1]
def WOnly(s:St)(f:Eff)(fp:FP):Prop:=(∀h i,f.heap=some h->fp.wb.1=some i->∀j:Nat,j≠i->h[j]?=s.h[j]?)/\(∀h,f.heap=some h->fp.wb.2=true->∀j,mvw h j=mvw s.h j)
theorem WOnly.no{s:St}{f:Eff}{fp:FP}(h:fp.wb=(none,false)):WOnly s f fp:=⟨fun _ i _ hw=>(by rw[h] at hw;cases hw),fun _ _ hw=>(by rw[h] at hw;cases hw)⟩
theorem WOnly.no'{s:St}{f:Eff}{fp:FP}(h:f.heap=none):WOnly s f fp:=⟨fun _ i hh=>(by rw[h] at hh;cases hh),fun _ hh=>(by rw[h] at hh;cases hh)⟩
theorem yI{h:qa}{b:Blk}{j:Nat}(hj:j≠h.length):(h++[b])[j]?=h[j]?:=by
 rcases Nat.lt_or_ge j h.length with q|q
 ·rw[List.getElem?_append_left q]
 ·rw[List.getElem?_eq_none (by simp;omega),List.getElem?_eq_none (by omega)]
theorem KD{h:qa}{b:Blk}{i j:Nat}(hj:j≠i):(h.set i b)[j]?=h[j]?:=List.getElem?_set_ne (fun q=>hj q.symm)
theorem k3{y y2:T}{h h2:qa}{w w2:Bool}(h0:some (y,h,w)=some (y2,h2,w2)):y=y2/\h=h2:=by
 simp only[Option.some.injEq,Prod.mk.injEq] at h0;exact⟨h0.1,h0.2.1⟩
theorem JP{t:TypeId}{s0 x:T}{h:qa}{y:T}{h':qa}{wr:Bool}{i:Nat}(hk:Zi P t s0 x h (fun y h w=>some (y,h,w))=some (y,h',wr))(ho:jN y=some i):∀j:Nat,j≠i->h'[j]?=h[j]?:=by
 intro j hj;have own_i:∀{i' v o l:Nat} {c:Option Nat},T.own i' v o l c=y->i'=i:=fun e=>by subst e;simpa [jN] using ho
 unfold Zi at hk;cases he:qD P t with
 |none=>rw[he] at hk;cases hk
 |some e =>
  rw[he] at hk;dsimp only at hk;obtain⟨_,hk⟩:=qI hk;obtain⟨⟨m,gx,fl⟩,hk,_⟩:=qq (f:=fun R k=>yo (R:=R) ((qS P e).all qw) (qz P e) x h fun a b c=>k (a,b,c)) (Y4 _ _ _ x) (k:=fun p=>match s0 with
  |.nils=>bif p.1==0 then some (T.nils,h,false)
   else bif Yg P e p.1 then some (T.own h.length 0 0 p.1 none,h++[⟨0,qz P e,p.1,p.2.1,qK p.1 p.2.1 p.2.2,false,none⟩],true) else none
  |.view sz n g cap=>bif sz==qz P e then bif p.1==0 then some (s0,h,false) else match cap with
   |some c=>bif Nat.blt c (n+p.1)&&Yg P e (n+p.1) then
    some (.own h.length 0 0 (n+p.1) none,h++[qgs ((qS P e).all qw) sz n p.1 g p.2.1 (qK p.1 p.2.1 p.2.2)],true) else none
   |none=>none
   else none
  |.own i ver off len cap=>qM h i ver fun b=>bif (b.sz==qz P e)&&Nat.ble (off+len) b.n then
   bif p.1==0 then some (s0,h,false) else
   bif Yg P e (len+p.1) then
    match cap with
    |some c=>bif Nat.ble (len+p.1) c then
     bif Nat.ble (off+len+p.1) b.n then
      some (.own i ver off (len+p.1) cap,h.set i { b with get:=fun j=>bif Nat.ble (off+len) j&&Nat.blt j (off+len+p.1) then p.2.1 (j-(off+len)) else b.get j,flat:=b.flat&&qK p.1 p.2.1 p.2.2 },true)
     else none
     else some (.own h.length 0 0 (len+p.1) none,h++[Qg 0 b.sz len p.1 (fun j=>b.get (off+j)) p.2.1 (b.flat&&qK p.1 p.2.1 p.2.2)],true)
    |none=>bif Nat.ble (off+len+p.1) b.n then
     some (.own i ver off (len+p.1) none,h.set i { b with get:=fun j=>bif Nat.ble (off+len) j&&Nat.blt j (off+len+p.1) then p.2.1 (j-(off+len)) else b.get j,flat:=b.flat&&qK p.1 p.2.1 p.2.2 },true)
     else some (.own i (ver+1) 0 (len+p.1) none,h.set i (Qg (ver+1) b.sz len p.1 (fun j=>b.get (off+j)) p.2.1 (b.flat&&qK p.1 p.2.1 p.2.2)),true)
   else none
   else none
  |_=>none) hk
  dsimp only at hk;cases s0 with
  |nils =>
   dsimp only at hk;rcases qk hk with⟨_,hk⟩|⟨_,hk⟩
   ·obtain⟨_,rfl⟩:=k3 hk;rfl
   ·obtain⟨_,hk⟩:=qI hk;obtain⟨q,rfl⟩:=k3 hk;have:=own_i q;exact yI (by omega)
  |view sz n g cap =>
   dsimp only at hk;obtain⟨_,hk⟩:=qI hk;rcases qk hk with⟨_,hk⟩|⟨_,hk⟩
   ·obtain⟨_,rfl⟩:=k3 hk;rfl
   ·cases cap with
    |none=>cases hk
    |some c =>
     obtain⟨_,hk⟩:=qI hk;obtain⟨q,rfl⟩:=k3 hk;have:=own_i q;exact yI (by omega)
  |own i' ver off len cap =>
   dsimp only at hk;obtain⟨b,hb,hmp,hver,hk⟩:=yv hk;obtain⟨_,hk⟩:=qI hk;rcases qk hk with⟨_,hk⟩|⟨_,hk⟩
   ·obtain⟨_,rfl⟩:=k3 hk;rfl
   ·obtain⟨_,hk⟩:=qI hk;cases cap with
    |some c =>
     dsimp only at hk;rcases qk hk with⟨_,hk⟩|⟨_,hk⟩
     ·obtain⟨_,hk⟩:=qI hk;obtain⟨q,rfl⟩:=k3 hk;have:=own_i q;exact KD (by omega)
     ·obtain⟨q,rfl⟩:=k3 hk;have:=own_i q;exact yI (by omega)
    |none =>
     dsimp only at hk;rcases qk hk with⟨_,hk⟩|⟨_,hk⟩
     ·obtain⟨q,rfl⟩:=k3 hk;have:=own_i q;exact KD (by omega)
     ·obtain⟨q,rfl⟩:=k3 hk;have:=own_i q;exact KD (by omega)
  |_=>cases hk
theorem qdt{R:Type}{t:TypeId}{x:T}{h:qa}{k:Nat->Blk->MapD->Option R}{r:R}(hk:yp P t x h k=some r):∃i b m,k i b m=some r/\Kb x=some i:=by
 unfold yp at hk;cases x with
 |mp i ver =>
  dsimp only at hk;unfold ZI at hk;cases hb:h[i]? with
  |none=>rw[hb] at hk;cases hk
  |some b =>
   rw[hb] at hk;dsimp only at hk;obtain⟨_,hk⟩:=qI hk;cases hm:b.mp with
   |none=>rw[hm] at hk;cases hk
   |some m =>
    rw[hm] at hk;dsimp only at hk;cases ht:K2 P t with
    |none=>rw[ht] at hk;cases hk
    |some p =>
     obtain⟨kt,ks,q⟩:=p;rw[ht] at hk;dsimp only at hk;obtain⟨_,hk⟩:=qI hk;exact⟨i,b,m,hk,rfl⟩
 |_=>cases hk
theorem qdu{R:Type}{t:TypeId}{x key:T}{h:qa}{k:Nat->Blk->MapD->List Int->Option R}{r:R}(hk:Ze P t x key h k=some r):∃i b m l,k i b m l=some r/\Kb x=some i:=by
 unfold Ze at hk;obtain⟨i,b,m,hk,hi⟩:=qdt hk;obtain⟨l,hk,_⟩:=qq (yt m.ks key) hk;exact⟨i,b,m,l,hk,hi⟩
theorem kj{op:Op}{e:Operand->T}{h:qa}{y:T}{h':qa}{wr:Bool}{i:Nat}(hk:qP P K op e h (fun y h w=>some (y,h,w))=some (y,h',wr))(ho:yR op e h y=some i):∀j:Nat,j≠i->h'[j]?=h[j]?:=by
 intro j hj;cases op with
 |store t a v =>
  simp only[yR] at ho;cases hx:e a with
  |ptr i' ver jj o =>
   rw[hx] at ho;obtain rfl:i'=i:=by simpa [YX] using ho
   simp only[qP,YO,hx] at hk;obtain⟨b,hb,hmp,hver,hk⟩:=zm hk;obtain⟨_,hk⟩:=qc hk;obtain⟨_,rfl⟩:=k3 hk;exact KD hj
  |_=>rw[hx] at ho;cases ho
 |buildSlice t len parts =>
  obtain rfl:h.length=i:=by simpa [yR] using ho
  simp only[qP,Q4] at hk;cases he:qD P t with
  |none=>rw[he] at hk;cases hk
  |some ee =>
   rw[he] at hk;dsimp only at hk;obtain⟨_,hk⟩:=qI hk;obtain⟨els,hk,_⟩:=qq (ZJ _ _ _) (k:=fun els=>some (T.own h.length 0 0 len (some len),h++[⟨0,qz P ee,len,fun j=>els.getD j [],els.all (·.all qw),Nat.ble len 8,none⟩],true)) hk;obtain⟨_,rfl⟩:=k3 hk;exact yI hj
 |alloc ty =>
  obtain rfl:h.length=i:=by simpa [yR] using ho
  simp only[qP] at hk;obtain⟨_,hk⟩:=qI hk;unfold ZS at hk;split at hk
  ·obtain⟨_,rfl⟩:=k3 hk;exact yI hj
  ·obtain⟨_,rfl⟩:=k3 hk;exact yI hj
 |box ty x =>
  obtain rfl:h.length=i:=by simpa [yR] using ho
  simp only[qP] at hk;obtain⟨_,hk⟩:=qI hk;obtain⟨_,rfl⟩:=k3 hk;exact yI hj
 |makeMap t rr =>
  obtain rfl:h.length=i:=by simpa [yR] using ho
  cases rr with
  |some x=>cases hk
  |none =>
   simp only[qP,Zj] at hk;split at hk
   ·obtain⟨_,rfl⟩:=k3 hk;exact yI hj
   ·cases hk
 |mapUpdate t x key v =>
  have ho:Kb (e x)=some i:=ho;simp only[qP,ZT] at hk;split at hk
  ·obtain⟨i',b,m,l,hk,hi⟩:=qdu hk;obtain⟨_,hk⟩:=qI hk;obtain⟨_,rfl⟩:=k3 hk;rw[hi] at ho;obtain rfl:=Option.some.inj ho;exact KD hj
  ·cases hk
 |mapEntry t x key =>
  have ho:Kb (e x)=some i:=ho;simp only[qP,Zy] at hk;obtain⟨i',b,m,l,hk,hi⟩:=qdu hk;obtain⟨_,rfl⟩:=k3 hk;rw[hi] at ho;obtain rfl:=Option.some.inj ho;exact KD hj
 |entryStore t x st v =>
  have ho:Kb (e x)=some i:=ho;simp only[qP,Q5] at hk;split at hk
  ·obtain⟨i',b,m,hk,hi⟩:=qdt hk;split at hk
   ·obtain⟨_,hk⟩:=qI hk;obtain⟨_,rfl⟩:=k3 hk;rw[hi] at ho;obtain rfl:=Option.some.inj ho;exact KD hj
   ·cases hk
  ·cases hk
 |call c =>
  obtain⟨callee,args,types⟩:=c;cases callee with
  |builtin b =>
   cases b with
   |append =>
    have ho:jN y=some i:=ho;simp only[qP,zk] at hk;split at hk
    all_goals first
     |contradiction
     |(cases hk;done)
     |(obtain⟨_,hk⟩:=qI hk;exact JP hk ho j hj)
   |_=>cases ho
  |_=>cases ho
 |_=>cases ho
theorem qfW{A:Type}{c:Bool}{x y z:A}(h:(bif c then x else y)=z):x=z∨y=z:=by
 cases c
 ·exact .inr h
 ·exact .inl h
theorem qdv{safe:Bool}{h:qa}{x:T}{i ver off len:Nat}{cap:Option Nat}{h':qa}(hk:Zx safe h x=(.own i ver off len cap,h')):∀j:Nat,j≠h.length->h'[j]?=h[j]?:=by
 intro j hj;cases x with
 |agg l=>simp only[Zx,Prod.mk.injEq] at hk;cases hk.1
 |fresh flat sz n g len cap =>
  simp only[Zx,Zd] at hk;rcases qfW hk with hk|hk
  ·rw[←(Prod.mk.inj hk).2];exact yI hj
  ·rw[←(Prod.mk.inj hk).2];exact yI hj
 |freshm m=>simp only[Zx,Zd,Prod.mk.injEq] at hk;cases hk.1
 |_=>simp only[Zx,Zd,Prod.mk.injEq] at hk;rw[←hk.2]
theorem qdw{safe:Bool}{h:qa}{x:T}{i ver off len:Nat}{cap:Option Nat}{h':qa}(hk:zG safe h x=(.own i ver off len cap,h')):∀j:Nat,j≠h.length->h'[j]?=h[j]?:=by
 cases x with
 |tup l=>simp only[zG,Prod.mk.injEq] at hk;cases hk.1
 |_=>simp only[zG] at hk;exact qdv hk
theorem qcA{op:Op}{e:Operand->T}{h:qa}{y:T}{h':qa}{wr:Bool}{i:Nat}(hk:qP P K op e h (fun y h w=>some (y,h,w))=some (y,h',wr))(ho:za K op e h y wr=some i):∀j:Nat,j≠i->h'[j]?=h[j]?:=by
 cases op with
 |call c =>
  obtain⟨callee,args,types⟩:=c;cases callee with
  |value f =>
   simp only[za] at ho;simp only[qP] at hk;cases hf:e f with
   |fn g caps =>
    rw[hf] at ho hk;dsimp only at ho;rcases qk ho with⟨_,ho⟩|⟨hb,ho⟩
    ·cases ho
    ·simp only[Bool.or_eq_false_iff] at hb;simp only[Ye,hb.1,cond_false] at hk;obtain⟨rr,hk,_⟩:=qq (K.valDet g _) (k:=fun r=>some ((zG ((args.toList.map e++caps).all imm) h r).1,(zG ((args.toList.map e++caps).all imm) h r).2,!(Yd r))) hk;simp only[Option.some.injEq,Prod.mk.injEq] at hk;obtain⟨q1,q2,_⟩:=hk;split at ho
     ·obtain⟨q3,q4⟩:=qI ho;have q3:=beq_iff_eq.1 q3;obtain rfl:=Option.some.inj q4;subst q3;exact qdw (Prod.ext q1 q2)
     ·cases ho
   |_=>rw[hf] at ho;cases ho
  |builtin b=>exact kj hk ho
  |invoke r m=>exact kj hk ho
 |_=>exact kj hk ho
theorem Yt(hnt:nt<=1024){o:Oper}{t off:Nat}{rs:List Nat}(hk:ze prom nt o t off rs two=some (f,fp)):Fits f fp:=by
 unfold ze at hk;cases hd:o.dst with
 |none=>rw[hd] at hk;cases hk
 |some d =>
  rw[hd] at hk;dsimp only at hk;cases hb:(Nat.blt d nt&&!prom.contains d) with
  |false=>rw[hb] at hk;cases hk
  |true =>
   rw[hb] at hk;simp only[cond_true,Option.some.injEq,Prod.mk.injEq] at hk;obtain⟨rfl,rfl⟩:=hk;simp only[Bool.and_eq_true] at hb;have:=qU hb.1;refine⟨fun d' v' h=>?_,fun d' p h=>?_,fun h e=>by cases e⟩
   ·simp only[Option.some.injEq,Prod.mk.injEq] at h;obtain⟨rfl,_⟩:=h;exact⟨by simp,by omega⟩
   ·simp only[Option.some.injEq,Prod.mk.injEq] at h;obtain⟨rfl,rfl⟩:=h;refine⟨by simp,fun t' o' h=>?_⟩;simp only[Option.some.injEq,Prod.mk.injEq] at h;obtain⟨rfl,_⟩:=h;exact List.mem_cons_self
theorem Qo(hnt:nt<=1024){o:Oper}(hk:qQ P K Gl prom nt o s two=some (f,fp)):Fits f fp:=by
 unfold qQ at hk;cases hn:Ks o.op (ev Gl prom s) with
 |true =>
  rw[hn] at hk;simp only[cond_true] at hk;obtain⟨⟨y,h',wr⟩,hk1,_⟩:=qq (zw P K o.op (ev Gl prom s) []) (k:=fun p=>bif p.2.2 then none else done nt o s p.1 none (Qf o.op) false false two) hk;cases wr with
  |true=>cases hk1
  |false=>exact z1 hnt (fun h e=>by cases e) hk1
 |false =>
  rw[hn] at hk;simp only[cond_false] at hk;obtain⟨⟨y,h',wr⟩,hk1,_⟩:=qq (zw P K o.op (ev Gl prom s) s.h) (k:=fun p=>done nt o s p.1 (bif p.2.2 then some p.2.1 else none) (Qf o.op) (Qq K o.op (ev Gl prom s)) p.2.2 fun f fp=>two f { fp with rb:=(Q0 o.op (ev Gl prom s),Kc o.op),wb:=(za K o.op (ev Gl prom s) s.h p.1 p.2.2,qc4 o.op) }) hk;refine(qaE hnt (fun h e=>?_) hk1).1;cases wr with
  |true=>rfl
  |false=>cases e
theorem yg(hnt:nt<=1024){o:Oper}{v:T}{hp:Option qa}{rs:List Nat}{rd wr:Bool}(hk:done nt o s v hp rs rd wr two=some (f,fp)):fp.wb=(none,false):=by
 unfold done at hk;cases hd:o.dst with
 |none =>
  rw[hd] at hk;simp only[Option.some.injEq,Prod.mk.injEq] at hk;rw[←hk.2]
 |some d =>
  rw[hd] at hk;dsimp only at hk;cases hb:(Nat.blt d nt&&!s.used d) with
  |false=>rw[hb] at hk;cases hk
  |true =>
   rw[hb] at hk;simp only[cond_true,QU,Option.some.injEq,Prod.mk.injEq] at hk;rw[←hk.2]
theorem qfm{op:Op}{e:Operand->T}{h:qa}{y:T}{h':qa}{wr:Bool}(hk:qP P K op e h (fun y h w=>some (y,h,w))=some (y,h',wr))(ho:qc4 op=true):∀j:Nat,mvw h' j=mvw h j:=by
 intro j;cases op with
 |mapEntry t x i =>
  cases hx:e x with
  |mp ii ver =>
   simp only[qP,hx,Zy,Ze,yp,ZI] at hk;cases hb:h[ii]? with
   |none=>rw[hb] at hk;cases hk
   |some b =>
    rw[hb] at hk;dsimp only at hk;obtain⟨_,hk⟩:=qI hk;cases hm:b.mp with
    |none=>rw[hm] at hk;cases hk
    |some m =>
     rw[hm] at hk;dsimp only at hk;cases ht:K2 P t with
     |none=>rw[ht] at hk;cases hk
     |some p =>
      obtain⟨kt,ks,q⟩:=p;rw[ht] at hk;dsimp only at hk;obtain⟨_,hk⟩:=qI hk;obtain⟨l,hk,_⟩:=qq (yt m.ks (e i)) hk;obtain⟨_,rfl⟩:=k3 hk;have hlt:ii<h.length:=(List.getElem?_eq_some_iff.1 hb).1;unfold mvw;by_cases hij:j=ii
      ·subst hij;rw[List.getElem?_set_self hlt,hb];simp only[Option.map_some,hm,MapD.entry,MapD.put,Option.some.injEq,Prod.mk.injEq,true_and];funext z;cases hq:keq z l with
       |true=>rw[kE.1 hq];rfl
       |false=>rfl
      ·rw[List.getElem?_set_ne (fun q=>hij q.symm)]
  |_=>(simp only[qP,hx,Zy,Ze,yp] at hk;cases hk)
 |_=>cases ho
theorem Qj(hnt:nt<=1024){o:Oper}(hk:qQ P K Gl prom nt o s two=some (f,fp)):WOnly s f fp:=by
 unfold qQ at hk;cases hn:Ks o.op (ev Gl prom s) with
 |true =>
  rw[hn] at hk;simp only[cond_true] at hk;obtain⟨⟨y,h',wr⟩,hk1,_⟩:=qq (zw P K o.op (ev Gl prom s) []) (k:=fun p=>bif p.2.2 then none else done nt o s p.1 none (Qf o.op) false false two) hk;cases wr with
  |true=>cases hk1
  |false=>exact .no (yg hnt hk1)
 |false =>
  rw[hn] at hk;simp only[cond_false] at hk;obtain⟨⟨y,h',wr⟩,hk1,hall⟩:=qq (zw P K o.op (ev Gl prom s) s.h) (k:=fun p=>done nt o s p.1 (bif p.2.2 then some p.2.1 else none) (Qf o.op) (Qq K o.op (ev Gl prom s)) p.2.2 fun f fp=>two f { fp with rb:=(Q0 o.op (ev Gl prom s),Kc o.op),wb:=(za K o.op (ev Gl prom s) s.h p.1 p.2.2,qc4 o.op) }) hk;obtain⟨_,q1,q2⟩:=qaE hnt (fun h e=>by cases wr with|true=>rfl|false=>cases e) hk1;refine⟨fun h i hh hw j hj=>?_,fun h hh hw j=>?_⟩
  ·rw[q2] at hw;have:=qcA (P:=P) (K:=K) (hall _ some) hw j hj;rw[q1] at hh;cases wr with
   |false=>cases hh
   |true =>
    obtain rfl:h'=h:=by simpa using hh
    exact this
  ·rw[q2] at hw;have:=qfm (P:=P) (K:=K) (hall _ some) hw j;rw[q1] at hh;cases wr with
   |false=>cases hh
   |true =>
    obtain rfl:h'=h:=by simpa using hh
    exact this
theorem JB(hnt:nt<=1024){o:Oper}(hk:zb P K Gl prom nt o s two=some (f,fp)):Fits f fp:=by
 have noH:∀h,(none:Option qa)=some h->false=true:=fun h e=>by cases e
 unfold zb at hk;split at hk
 ·cases hd:o.dst with
  |none=>rw[hd] at hk;cases hk
  |some d =>
   rw[hd] at hk;rcases qk hk with⟨_,hk⟩|⟨_,hk⟩
   ·exact z1 hnt noH (qc hk).2
   ·exact Qo hnt hk
 ·cases hd:o.dst with
  |none=>rw[hd] at hk;cases hk
  |some d =>
   rw[hd] at hk;rcases qk hk with⟨_,hk⟩|⟨_,hk⟩
   ·exact z1 hnt noH (qc hk).2
   ·exact Qo hnt hk
 ·split at hk
  ·split at hk
   ·obtain⟨v,hk1,_⟩:=qq (z9 P _ _) hk;exact z1 hnt noH hk1
   ·cases hk
  ·exact Qo hnt hk
 ·split at hk
  ·rename_i t off _;split at hk
   ·rename_i cells hc hd;have hk:=(qc hk).2;simp only[Option.some.injEq,Prod.mk.injEq] at hk;obtain⟨rfl,rfl⟩:=hk;refine⟨fun d' v' h=>?_,fun d' p h=>(by cases h),fun h e=>by cases e⟩;simp only[Option.some.injEq,Prod.mk.injEq] at h;obtain⟨rfl,_⟩:=h;refine⟨by simp,?_⟩;rcases Nat.lt_or_ge t 1024 with hq|hq
    ·exact hq
    ·rw[Jy (by omega)] at hc;cases hc
   ·cases hk
  ·exact Qo hnt hk
 ·split at hk
  ·split at hk
   ·split at hk
    ·exact Yt hnt hk
    ·cases hk
   ·cases hk
  ·exact Qo hnt hk
 ·split at hk
  ·split at hk
   ·split at hk
    ·split at hk
     ·obtain⟨hc,hk⟩:=qc hk;simp only[Bool.and_eq_true,decide_eq_true_eq] at hc;exact Yt hnt (zj (by omega) hk)
     ·cases hk
    ·cases hk
   ·cases hk
  ·exact Qo hnt hk
 ·split at hk
  ·split at hk
   ·exact Yt hnt hk
   ·cases hk
  ·exact Qo hnt hk
 ·exact Qo hnt hk
theorem jv(hnt:nt<=1024){o:Oper}(hk:zb P K Gl prom nt o s two=some (f,fp)):WOnly s f fp:=by
 have loc:∀{t off:Nat} {rs:List Nat},ze prom nt o t off rs two=some (f,fp)->WOnly s f fp:=fun {t off rs} hk=>by
  refine .no' ?_;unfold ze at hk;cases hd:o.dst with
  |none=>rw[hd] at hk;cases hk
  |some d =>
   rw[hd] at hk;obtain⟨_,hk⟩:=qc hk;simp only[Option.some.injEq,Prod.mk.injEq] at hk;rw[←hk.1]
 have dn:∀{v:T} {rs:List Nat},done nt o s v none rs false false two=some (f,fp)->WOnly s f fp:=fun {v rs} hk=>.no (yg hnt hk);unfold zb at hk;split at hk
 ·cases hd:o.dst with
  |none=>rw[hd] at hk;cases hk
  |some d =>
   rw[hd] at hk;rcases qk hk with⟨_,hk⟩|⟨_,hk⟩
   ·exact dn (qc hk).2
   ·exact Qj hnt hk
 ·cases hd:o.dst with
  |none=>rw[hd] at hk;cases hk
  |some d =>
   rw[hd] at hk;rcases qk hk with⟨_,hk⟩|⟨_,hk⟩
   ·exact dn (qc hk).2
   ·exact Qj hnt hk
 ·split at hk
  ·split at hk
   ·obtain⟨v,hk1,_⟩:=qq (z9 P _ _) hk;exact dn hk1
   ·cases hk
  ·exact Qj hnt hk
 ·split at hk
  ·rename_i t off _;split at hk
   ·rename_i cells hc hd;have hk:=(qc hk).2;simp only[Option.some.injEq,Prod.mk.injEq] at hk;obtain⟨rfl,rfl⟩:=hk;exact .no' rfl
   ·cases hk
  ·exact Qj hnt hk
 ·split at hk
  ·split at hk
   ·split at hk
    ·exact loc hk
    ·cases hk
   ·cases hk
  ·exact Qj hnt hk
 ·split at hk
  ·split at hk
   ·split at hk
    ·split at hk
     ·obtain⟨hc,hk⟩:=qc hk;simp only[Bool.and_eq_true,decide_eq_true_eq] at hc;exact loc (zj (by omega) hk)
     ·cases hk
    ·cases hk
   ·cases hk
  ·exact Qj hnt hk
 ·split at hk
  ·split at hk
   ·exact loc hk
   ·cases hk
  ·exact Qj hnt hk
 ·exact Qj hnt hk
theorem jw(hnt:nt<=1024){o:Oper}(hk:zv P Gl prom nt o s two=some (f,fp)):Fits f fp/\fp.wb=(none,false):=by
 unfold zv at hk;split at hk
 ·obtain⟨y,hk1,_⟩:=qq (zL P _ _ _) (k:=fun v=>done nt o s v none (Qf o.op) false false two) hk;exact⟨z1 hnt (fun h e=>by cases e) hk1,yg hnt hk1⟩
 ·cases hk
theorem StepIs.fits(hnt:nt<=1024){ops:List Oper}{o:Oper}(h:StepIs P K Gl prom nt ops o s f fp):Fits f fp:=by
 have hk:=h _ two;unfold QW at hk;split at hk
 ·rcases qk hk with⟨_,hk⟩|⟨_,hk⟩
  ·exact(jw hnt hk).1
  ·exact JB hnt hk
 ·split at hk
  ·cases hk
  ·split at hk
   ·rcases qk hk with⟨_,hk⟩|⟨_,hk⟩
    ·cases hk
    ·rcases qk hk with⟨_,hk⟩|⟨_,hk⟩
     ·obtain⟨⟨f1,fp1⟩,h1,h2⟩:=qq (Zm P K Gl prom nt o s) (k:=fun p=>two p.1 { p.2 with rs:=_::p.2.rs }) hk;simp only[Option.some.injEq,Prod.mk.injEq] at h1;obtain⟨rfl,rfl⟩:=h1;have hf:=JB hnt (h2 _ fun p=>two p.1 p.2);exact⟨hf.slot,fun d p e=>⟨(hf.place d p e).1,fun t o ho=>List.mem_cons_of_mem _ ((hf.place d p e).2 t o ho)⟩,hf.heap⟩
     ·exact z1 hnt (fun h e=>by cases e) hk
   ·rcases qk hk with⟨_,hk⟩|⟨_,hk⟩
    ·cases hk
    ·exact z1 hnt (fun h e=>by cases e) hk
   ·cases hk
theorem StepIs.wonly(hnt:nt<=1024){ops:List Oper}{o:Oper}(h:StepIs P K Gl prom nt ops o s f fp):WOnly s f fp:=by
 have hk:=h _ two;unfold QW at hk;split at hk
 ·rcases qk hk with⟨_,hk⟩|⟨_,hk⟩
  ·exact .no (jw hnt hk).2
  ·exact jv hnt hk
 ·split at hk
  ·cases hk
  ·split at hk
   ·rcases qk hk with⟨_,hk⟩|⟨_,hk⟩
    ·cases hk
    ·rcases qk hk with⟨_,hk⟩|⟨_,hk⟩
     ·obtain⟨⟨f1,fp1⟩,h1,h2⟩:=qq (Zm P K Gl prom nt o s) (k:=fun p=>two p.1 { p.2 with rs:=_::p.2.rs }) hk;simp only[Option.some.injEq,Prod.mk.injEq] at h1;obtain⟨rfl,rfl⟩:=h1;have hf:=jv hnt (h2 _ fun p=>two p.1 p.2);exact hf
     ·exact .no (yg hnt hk)
   ·rcases qk hk with⟨_,hk⟩|⟨_,hk⟩
    ·cases hk
    ·exact .no (yg hnt hk)
   ·cases hk
structure Same(s s1:St):Prop where
 at':∀e,s1.at e=s.at e
 loc:∀e,s1.loc e=s.loc e
 used:∀e,s1.used e=s.used e
 h:s1.h=s.h
theorem Same.refl(s:St):Same s s:=⟨fun _=>rfl,fun _=>rfl,fun _=>rfl,rfl⟩
theorem Same.trans{a b c:St}(x:Same a b)(y:Same b c):Same a c:=⟨fun e=>(y.at' e).trans (x.at' e),fun e=>(y.loc e).trans (x.loc e),fun e=>(y.used e).trans (x.used e),y.h.trans x.h⟩
theorem Same.symm{a b:St}(x:Same a b):Same b a:=⟨fun e=>(x.at' e).symm,fun e=>(x.loc e).symm,fun e=>(x.used e).symm,x.h.symm⟩
theorem Same.agree{s s1:St}(x:Same s s1)(fp:FP):Agree s s1 fp:=⟨fun e _=>x.at' e,fun e _=>x.loc e,fun e _=>x.used e,fun _=>x.h,fun _=>.inl x.h⟩
theorem KE(f:Eff)(s:St)(hf:∀d v,f.slot=some (d,v)->d<1024)(t:Nat):(f.app s).at t=match f.slot with|some (d,v)=>if t=d then v else s.at t|none=>s.at t:=by
 cases hs:f.slot with
 |none=>simp[St.at,Eff.app,qb3,hs]
 |some p =>
  obtain⟨d,v⟩:=p;exact jZ (s:=s) (s':=f.app s) (by simp[Eff.app,qb3,hs]) (hf d v hs) t
theorem Same.app{s s1:St}(x:Same s s1){f:Eff}(hf:∀d v,f.slot=some (d,v)->d<1024):Same (f.app s) (f.app s1):=by
 refine⟨fun e=>?_,fun e=>?_,fun e=>?_,?_⟩
 ·rw[KE f s hf,KE f s1 hf];cases f.slot with
  |none=>exact x.at' e
  |some p=>simp only[x.at' e]
 ·simp only[Eff.app];cases f.place with
  |none=>exact x.loc e
  |some p=>simp only[ZZ,x.loc e]
 ·simp only[Eff.app];cases f.place with
  |none=>exact x.used e
  |some p =>
   obtain⟨d,q⟩:=p;cases q with
   |none=>exact x.used e
   |some q=>simp only[Zr,x.used e]
 ·simp only[Eff.app,x.h]
theorem kn{a b:List Nat}(h:Kd a b=false):∀x∈a,x∉b:=by
 intro x hx hb;unfold Kd at h;rw[List.any_eq_false] at h;exact h x hx (by simpa using hb)
def Far(w r:Option Nat×Bool):Prop:=(∃i j:Nat,w.1=some i/\r.1=some j/\i≠j)∨(w.2=true/\r.2=true)
theorem Fits.agree{f:Eff}{fp q:FP}(hf:Fits f fp)(h1:Kd fp.ws q.rs=false)(h2:Kd q.ws fp.rs=false)(h3:fp.wr=true->q.wr=false/\(q.rd=true->Far fp.wb q.rb))(s:St)(hw:WOnly s f fp):Agree s (f.app s) q:=by
 have w:=kn h1;have u:=kn h2;refine⟨fun e he=>?_,fun e he=>?_,fun d hd=>?_,fun hh=>?_,fun hh=>?_⟩
 ·rw[KE f s fun d v h=>(hf.slot d v h).2];cases hs:f.slot with
  |none=>rfl
  |some p =>
   obtain⟨d,v⟩:=p;have:=(hf.slot d v hs).1;have hne:e≠d:=by rintro rfl;exact w e this he
   simp only[if_neg hne]
 ·simp only[Eff.app];cases hp:f.place with
  |none=>rfl
  |some p =>
   obtain⟨d,v⟩:=p;have:=(hf.place d v hp).1;have hne:e≠d:=by rintro rfl;exact w e this he
   simp only[ZZ,Bool.cond_eq_ite,beq_iff_eq,if_neg hne]
 ·simp only[Eff.app];cases hp:f.place with
  |none=>rfl
  |some p =>
   obtain⟨d',v⟩:=p;cases v with
   |none=>rfl
   |some v =>
    obtain⟨t,o⟩:=v;have:=(hf.place d' _ hp).2 t o rfl;have hne:d≠t:=by rintro rfl;exact u d hd this
    simp only[Zr,Bool.cond_eq_ite,beq_iff_eq,if_neg hne]
 ·simp only[Eff.app];cases hx:f.heap with
  |none=>rfl
  |some x =>
   rw[(h3 (hf.heap x hx)).1] at hh;cases hh
 ·cases hx:f.heap with
  |none=>left;simp only[Eff.app,hx];rfl
  |some x =>
   rcases (h3 (hf.heap x hx)).2 hh with⟨i,j,e1,e2,e3⟩|⟨e1,e2⟩
   ·right;left;refine⟨j,e2,?_⟩;simp only[Eff.app,hx];exact hw.1 x i hx e1 j (fun q=>e3 q.symm)
   ·right;right;refine⟨e2,?_⟩;simp only[Eff.app,hx];exact hw.2 x hx e1
theorem qbI{w r:Option Nat×Bool}(h:qgu w r=true):Far w r:=by
 obtain⟨w,wv⟩:=w;obtain⟨r,rv⟩:=r;unfold qgu at h;rw[Bool.or_eq_true] at h;rcases h with h|h
 ·split at h
  ·rename_i i j e1 e2;exact .inl ⟨i,j,e1,e2,by simpa using h⟩
  ·cases h
 ·rw[Bool.and_eq_true] at h;exact .inr h
theorem JC{a b:FP}(h:K3 a b=false):Kd a.ws b.rs=false/\Kd a.ws b.ws=false/\Kd b.ws a.rs=false/\(a.wr=true->b.wr=false/\(b.rd=true->Far a.wb b.rb))/\(b.wr=true->a.wr=false/\(a.rd=true->Far b.wb a.rb)):=by
 simp only[K3,Bool.or_eq_false_iff] at h;obtain⟨⟨⟨⟨h1,h2⟩,h3⟩,h4⟩,h5⟩:=h;refine⟨h1,h2,h3,fun ha=>?_,fun hb=>?_⟩
 ·rw[ha] at h4;simp only[Bool.true_and,Bool.or_eq_false_iff] at h4;refine⟨h4.1,fun hr=>?_⟩;have:=h4.2;rw[hr] at this;exact qbI (by simpa using this)
 ·rw[hb] at h5 h4;simp only[Bool.true_and,Bool.true_or,Bool.and_true] at h5 h4;refine⟨h4,fun hr=>?_⟩;rw[hr] at h5;exact qbI (by simpa using h5)
theorem qfX{f1 f2:Eff}{p1 p2:FP}(h1:Fits f1 p1)(h2:Fits f2 p2)(hc:K3 p1 p2=false)(s:St):Same (f2.app (f1.app s)) (f1.app (f2.app s)):=by
 obtain⟨c1,c2,c3,c4,c5⟩:=JC hc;have w:=kn c2;refine⟨fun e=>?_,fun e=>?_,fun e=>?_,?_⟩
 ·rw[KE f1 _ fun d v h=>(h1.slot d v h).2,KE f2 _ fun d v h=>(h2.slot d v h).2,KE f2 _ fun d v h=>(h2.slot d v h).2,KE f1 _ fun d v h=>(h1.slot d v h).2];cases e1:f1.slot with
  |none=>rfl
  |some q1 =>
   cases e2:f2.slot with
   |none=>rfl
   |some q2 =>
    obtain⟨d1,v1⟩:=q1;obtain⟨d2,v2⟩:=q2;have a1:=(h1.slot d1 v1 e1).1;have a2:=(h2.slot d2 v2 e2).1;have hne:d1≠d2:=by rintro rfl;exact w d1 a1 a2
    dsimp only;by_cases x1:e=d1
    ·rw[if_pos x1,if_neg (by omega),if_pos x1]
    ·rw[if_neg x1];by_cases x2:e=d2
     ·rw[if_pos x2,if_pos x2]
     ·rw[if_neg x2,if_neg x2,if_neg x1]
 ·simp only[Eff.app];cases e1:f1.place with
  |none=>rfl
  |some q1 =>
   cases e2:f2.place with
   |none=>rfl
   |some q2 =>
    obtain⟨d1,v1⟩:=q1;obtain⟨d2,v2⟩:=q2;have a1:=(h1.place d1 v1 e1).1;have a2:=(h2.place d2 v2 e2).1;have hne:d1≠d2:=by rintro rfl;exact w d1 a1 a2
    simp only[ZZ,Bool.cond_eq_ite,beq_iff_eq];by_cases x1:e=d1
    ·rw[if_pos x1,if_neg (by omega),if_pos x1]
    ·rw[if_neg x1];by_cases x2:e=d2
     ·rw[if_pos x2,if_pos x2]
     ·rw[if_neg x2,if_neg x2,if_neg x1]
 ·simp only[Eff.app];have key:∀(u:Nat->Bool) (p q:Option (Nat×Option (Nat×Nat))),Zr (Zr u p) q e=Zr (Zr u q) p e:=by
   intro u p q;rcases p with _|⟨d1,_|⟨t1,o1⟩⟩<;>rcases q with _|⟨d2,_|⟨t2,o2⟩⟩<;>simp only[Zr]
   cases (e==t1)<;>cases (e==t2)<;>rfl
  exact(key _ _ _).symm
 ·simp only[Eff.app];cases e1:f1.heap with
  |none=>rfl
  |some x1 =>
   cases e2:f2.heap with
   |none=>rfl
   |some x2 =>
    have:=(c4 (h1.heap x1 e1)).1;rw[h2.heap x2 e2] at this;cases this
theorem RunIs.same(hnt:nt<=1024){ops l:List Oper}{s s':St}{fps:List FP}(h:RunIs P K Gl prom nt ops l s s' fps):∀{s1:St},Same s s1->∃s1',RunIs P K Gl prom nt ops l s1 s1' fps/\Same s' s1':=by
 induction h with
 |nil s=>exact fun x=>⟨_,.nil _,x⟩
 |cons h1 h2 ih =>
  intro s1 x;obtain⟨s1',q1,q2⟩:=ih (x.app fun d v e=>((h1.fits hnt).slot d v e).2);exact⟨s1',.cons (h1.congr (x.agree _)) q1,q2⟩
theorem RunIs.pull(hnt:nt<=1024){ops:List Oper}{o:Oper}{post:List Oper}{fp:FP}{fpost:List FP}:∀{pre:List Oper} {fpre:List FP} {s s':St},pre.length=fpre.length->(∀q∈fpre,K3 q fp=false) →
 RunIs P K Gl prom nt ops (pre++o::post) s s' (fpre++fp::fpost)->∃f s1,StepIs P K Gl prom nt ops o s f fp/\RunIs P K Gl prom nt ops (pre++post) (f.app s) s1 (fpre++fpost)/\Same s' s1
 |[],[],s,s',_,_,h=>by
  cases h with
  |cons h1 h2=>exact⟨_,_,h1,h2,.refl _⟩
 |p::pre,q::fpre,s,s',hl,hc,h=>by
  cases h with
  |@cons _ _ _ _ fq _ _ h1 h2 =>
   have hcq:=hc q (by simp);obtain⟨c1,c2,c3,c4,c5⟩:=JC hcq;obtain⟨f,s1,g1,g2,g3⟩:=RunIs.pull hnt (by simpa using hl) (fun q hq=>hc q (by simp[hq])) h2;have fitq:=h1.fits hnt;have fitf:=g1.fits hnt;have a1:=fitq.agree c1 c3 c4 s (h1.wonly hnt);have a1':Agree (fq.app s) s fp:=⟨fun e he=>(a1.at' e he).symm,fun e he=>(a1.loc e he).symm,fun e he=>(a1.used e he).symm,fun hh=>(a1.heap hh).symm,fun hh=>(a1.heapR hh).elim (fun h=>.inl h.symm) fun h=>.inr (h.elim (fun ⟨j,h1,h2⟩=>.inl ⟨j,h1,h2.symm⟩) fun ⟨h1,h2⟩=>.inr ⟨h1,fun j=>(h2 j).symm⟩)⟩;have hq0:∀h,f.heap=some h->(fq.app s).h=s.h:=fun h hh=>by
    have hq0:fq.heap=none:=by
     cases hx:fq.heap with
     |none=>rfl
     |some x =>
      have:=(c5 (fitf.heap h hh)).1;rw[fitq.heap x hx] at this;cases this
    simp only[Eff.app,hq0];rfl
   have g1w:=g1.wonly hnt;have a2:=fitf.agree c3 c1 c5 s ⟨fun h i hh hw j hj=>by
    have q:=g1w.1 h i hh hw j hj;rw[q,hq0 h hh],fun h hh hw j=>by
    have q:=g1w.2 h hh hw j;rw[q,hq0 h hh]⟩
   obtain⟨s2,q1,q2⟩:=g2.same hnt (qfX fitq fitf hcq s);exact⟨f,s2,g1.congr a1',.cons (h1.congr a2) q1,g3.trans q2⟩
 |[],_::_,_,_,hl,_,_=>by cases hl
 |_::_,[],_,_,hl,_,_=>by cases hl
end
end Go.Ab

