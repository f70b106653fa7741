/- A part of the proof: nothing is assumed. -/
import Derived.Test.YteoamlekamflbaaP9
import Derived.Test.YteoamlekamflbaaP10
import Derived.Test.YteoamlekamflbaaP6
set_option linter.all false
namespace Go.Ab
open Go.Proofs
def v70 (n:Nat) (a b lim:Nat) (bal par:Bool):List T:=[.own 0 0 0 n none,.int .i64 a,.int .i64 b,.int .i64 lim,.bool bal,.bool par]
def w70 (n:Nat) (a b lim:Nat) (bal par:Bool) (L:Nat):List T:=v70 n a b lim bal par ++ [.int .i64 L]
def x70 (n:Nat) (a b lim:Nat) (bal par:Bool) (L p:Nat) (hint:Int):List T:=w70 n a b lim bal par L ++ [.int .i64 p,.int .i64 hint]
def ch70 (k:Nat) (c:Code):Code:=match k with
 | 0=>inB (inB (inB (sq2 (sq2 c))))
 | k+1=>sq2 (ch70 k c)
def pk70 (k:Nat) (c:Code):Code:=sq1 (ch70 k c)
noncomputable def KR (f:FuncId) (p:List T->Heap->T->Heap->Prop) (r:T) (h:Heap):Orc:=K82.addRef f (refF p fun _ _=>some (r,h))
noncomputable def KR2 (p84 p70:List T->Heap->T->Heap->Prop) (n m:Nat) (d:Bool) (yp yg:Nat->Int):Orc:=(K82.addRef 84 (refF p84 fun _ _=>some (.tup [.int .i64 m,.bool d],[ub 0 n yp]))).addRef 70 (refF p70 fun _ _=>some (.tup [],[ub 0 n yg]))
structure I70 (x:Nat->Int) (n a b lim:Nat) (y:Nat->Int):Prop where
 pr:Pr x y 0 n
 out:Out y n a b
 ab:a<=b
 bn:b<=n
 limB:12<b - a->b - a<=lim+12
 limC:lim<=10
noncomputable def c70:Code:=match P18.funcs[70]? with | some fn=>fn.body.getD .skip | none=>.skip
def lT:List Nat:=[0,1,2,3,8,9]
def lW:List Nat:=[0,1,2,3,8,9,10]
def lX:List Nat:=[0,1,2,3,8,9,10,11,12]
def Pc (k:Nat) (l:List Nat) (vs:List T) (h:Heap) (e:Ex) (l':List Nat) (vs':List T) (h':Heap):Prop:=CodeGoes P18 G18 (A18 70).prom Try.f70.ntmps (pk70 k c70) (mkSt l vs h) e (mkSt l' vs' h')
def Ch (k:Nat) (l:List Nat) (vs:List T) (h:Heap) (e:Ex) (l':List Nat) (vs':List T) (h':Heap):Prop:=CodeGoes P18 G18 (A18 70).prom Try.f70.ntmps (ch70 k c70) (mkSt l vs h) e (mkSt l' vs' h')
theorem b70:Try.f70.body = some c70:=by kernel_rfl
theorem loops_ch (c:Code):∀ k,∀ b ∈ loopsOf (ch70 k c),b ∈ loopsOf c
 | 0=>fun b hb=>loops_sq2 _ _ (loops_sq2 _ _ (loops_inB _ _ (loops_inB _ _ (loops_inB _ _ hb))))
 | k+1=>fun b hb=>loops_ch c k b (loops_sq2 _ _ hb)
theorem pc {K:Orc} (hK:OrcOk P18 G18 K) (k:Nat) {l l':List Nat} {vs vs':List T} {h h':Heap} {e:Ex} (hk:codeL P18 G18 A18 K 0 70 [] (pk70 k) l vs h l' = some (e,vs',h')):Pc k l vs h e l' vs' h' :=
 goes_codeL hm18 hK Try.func70 b70 (Nat.le_of_ble_eq_true (by kernel_rfl)) (by kernel_rfl) loops0 (pk70 k) rfl (fun b hb=>loops_ch _ k b (loops_sq1 _ _ hb)) hk
theorem pc8 {K:Orc} (hK:OrcOk P18 G18 K) {l l':List Nat} {vs vs':List T} {h h':Heap} {e:Ex} (hk:codeL P18 G18 A18 K 0 70 [] (ch70 8) l vs h l' = some (e,vs',h')):Ch 8 l vs h e l' vs' h' :=
 goes_codeL hm18 hK Try.func70 b70 (Nat.le_of_ble_eq_true (by kernel_rfl)) (by kernel_rfl) loops0 (ch70 8) rfl (fun b hb=>loops_ch _ 8 b hb) hk
theorem ch_eq:(∀ k,k<8->ch70 k c70 = .seq (pk70 k c70) (ch70 (k+1) c70)):=by
 intro k hk
 obtain rfl | rfl | rfl | rfl | rfl | rfl | rfl | rfl:k = 0 ∨ k = 1 ∨ k = 2 ∨ k = 3 ∨ k = 4 ∨ k = 5 ∨ k = 6 ∨ k = 7:=by omega
 all_goals kernel_rfl
theorem ch_next {k:Nat} (hk:k<8) {l l1 l2:List Nat} {vs v1 v2:List T} {h h1 h2:Heap} {e:Ex} (p:Pc k l vs h .normal l1 v1 h1) (q:Ch (k+1) l1 v1 h1 e l2 v2 h2):Ch k l vs h e l2 v2 h2:=by
 unfold Ch
 rw [ch_eq k hk]
 exact goes_seq p q
theorem ch_ret {k:Nat} (hk:k<8) {l l1:List Nat} {vs v1:List T} {h h1:Heap} (p:Pc k l vs h .ret l1 v1 h1):Ch k l vs h .ret l1 v1 h1:=by
 unfold Ch
 rw [ch_eq k hk]
 exact goes_seq_ret p
theorem ch_exit {k i:Nat} (hk:k<8) {l l1:List Nat} {vs v1:List T} {h h1:Heap} (p:Pc k l vs h (.exit i) l1 v1 h1):Ch k l vs h (.exit i) l1 v1 h1:=by
 unfold Ch
 rw [ch_eq k hk]
 exact goes_seq_exit p
theorem refK {f:FuncId} {p:List T->Heap->T->Heap->Prop} (hp:p = ToldRef P18 G18 f) (r:T) (h:Heap):OrcOk P18 G18 (KR f p r h):=told_addRef ok82 (refF_told hp)
theorem pq12T (n a b:Nat) (x:Nat->Int) (lim:Int) (hn:n<=1000) (hb:b<=n) (hab:a<=b) (h12:b - a<=12) :
 ∃ z,(Pr x z a b/\Asc z a b)/\ToldRef P18 G18 70 [.own 0 0 0 n none,.int .i64 a,.int .i64 b,.int .i64 lim] [ub 0 n x] (.tup []) [ub 0 n z]:=by
 obtain ⟨z,hz,ht⟩:=insT n a b x hn hb hab
 obtain ⟨p,hp⟩:=is_ref P18 G18 76
 refine ⟨z,hz,?_⟩
 refine stepR_told hm18 hn18 (K:=K70 p n z) (told_addRef none_ok (refF_told hp)) (A:=A18) (m:=1) (by kernel_rfl) (l:=[]) loops0 ?_
 rw [(show stepR P18 G18 A18 (K70 p n z) 1 70 [] [.own 0 0 0 n none,.int .i64 a,.int .i64 b,.int .i64 lim] [ub 0 n x] =
(
 bif decide (IntKind.i64.wrap (Int.ofNat b - Int.ofNat a)<=(12:Int)) then
 bif decF (p (v80 n (Int.ofNat a) (Int.ofNat b)) [ub (0:Nat) n x] (.tup []) [ub (0:Nat) n z]) then
 some ((.tup [],[ub (0:Nat) n z]))
 else none else
 bif decide (lim = 0) then none else
 none) from by kernel_rfl)]
 rw [ofNatE b,ofNatE a,wr64 (x:=(b:Int) - a) (by omega) (by omega)]
 refine BT ?_
 exact bift (refF_yes hp ht) rfl
section
variable {n a b lim:Nat} {bal par:Bool} {y:Nat->Int}
theorem q0 (hb:b<=1000) (hab:a<=b):Pc 0 lT (v70 n a b lim bal par) [ub 0 n y] .normal lW (w70 n a b lim bal par (b - a)) [ub 0 n y]:=by
 refine pc none_ok 0 ?_
 show codeL P18 G18 A18 noneO 0 70 [] (pk70 0) [0,1,2,3,8,9] (v70 n a b lim bal par) [ub 0 n y] [0,1,2,3,8,9,10] = _
 rw [(show codeL P18 G18 A18 noneO 0 70 [] (pk70 0) [0,1,2,3,8,9] (v70 n a b lim bal par) [ub 0 n y] [0,1,2,3,8,9,10] =
(
 some ((.normal,[.own 0 0 0 n
 none,.int .i64 (.ofNat a),.int .i64 (.ofNat b),.int .i64 (.ofNat lim),.bool bal,.bool par,.int .i64 (IntKind.i64.wrap (Int.ofNat b - Int.ofNat a))],[ub (0:Nat) n y]))) from by kernel_rfl)]
 rw [ofNatE b,ofNatE a,show IntKind.i64.wrap ((b:Int) - a) = ((b - a:Nat):Int) by rw [wr64 (by omega) (by omega)]; omega]
 rfl
theorem q1r {L:Nat} (hL:L<=12) {z:Nat->Int} (t:ToldRef P18 G18 76 [.own 0 0 0 n none,.int .i64 a,.int .i64 b] [ub 0 n y] (.tup []) [ub 0 n z]):Pc 1 lW (w70 n a b lim bal par L) [ub 0 n y] .ret [] [] [ub 0 n z]:=by
 obtain ⟨q,hq⟩:=is_ref P18 G18 76
 refine pc (K:=KR 76 q (.tup []) [ub 0 n z]) (refK hq _ _) 1 ?_
 show codeL P18 G18 A18 (KR 76 q (.tup []) [ub 0 n z]) 0 70 [] (pk70 1) [0,1,2,3,8,9,10] (w70 n a b lim bal par L) [ub 0 n y] [] = _
 rw [(show codeL P18 G18 A18 (KR 76 q (.tup []) [ub 0 n z]) 0 70 [] (pk70 1) [0,1,2,3,8,9,10] (w70 n a b lim bal par L) [ub 0 n y] [] =
(
 bif decide (Int.ofNat L<=12) then
 bif decF (q (v80 n (Int.ofNat a) (Int.ofNat b)) [ub (0:Nat) n y] (.tup []) [ub (0:Nat) n z]) then
 some ((.ret,[],[ub (0:Nat) n z]))
 else none else
 some ((.normal,[],[ub (0:Nat) n y]))) from by kernel_rfl)]
 refine BT ?_
 exact bift (refF_yes hq t) rfl
theorem q1n {L:Nat} (hL:12<L):Pc 1 lW (w70 n a b lim bal par L) [ub 0 n y] .normal lW (w70 n a b lim bal par L) [ub 0 n y]:=by
 refine pc none_ok 1 ?_
 show codeL P18 G18 A18 noneO 0 70 [] (pk70 1) [0,1,2,3,8,9,10] (w70 n a b lim bal par L) [ub 0 n y] [0,1,2,3,8,9,10] = _
 rw [(show codeL P18 G18 A18 noneO 0 70 [] (pk70 1) [0,1,2,3,8,9,10] (w70 n a b lim bal par L) [ub 0 n y] [0,1,2,3,8,9,10] =
(
 bif decide (Int.ofNat L<=12) then none else
 some ((.normal,w70 n a b lim bal par L,[ub (0:Nat) n y]))) from by kernel_rfl)]
 refine BF ?_
 rfl
theorem q2 {L:Nat} (hl:1<=lim):Pc 2 lW (w70 n a b lim bal par L) [ub 0 n y] .normal lW (w70 n a b lim bal par L) [ub 0 n y]:=by
 refine pc none_ok 2 ?_
 show codeL P18 G18 A18 noneO 0 70 [] (pk70 2) [0,1,2,3,8,9,10] (w70 n a b lim bal par L) [ub 0 n y] [0,1,2,3,8,9,10] = _
 rw [(show codeL P18 G18 A18 noneO 0 70 [] (pk70 2) [0,1,2,3,8,9,10] (w70 n a b lim bal par L) [ub 0 n y] [0,1,2,3,8,9,10] =
(
 bif decide (Int.ofNat lim = 0) then none else
 some ((.normal,w70 n a b lim bal par L,[ub (0:Nat) n y]))) from by kernel_rfl)]
 refine BF ?_
 rfl
theorem q3t {L:Nat}:Pc 3 lW (w70 n a b lim true par L) [ub 0 n y] .normal lW (w70 n a b lim true par L) [ub 0 n y]:=by
 refine pc none_ok 3 ?_
 show codeL P18 G18 A18 noneO 0 70 [] (pk70 3) [0,1,2,3,8,9,10] (w70 n a b lim true par L) [ub 0 n y] [0,1,2,3,8,9,10] = _
 rw [(show codeL P18 G18 A18 noneO 0 70 [] (pk70 3) [0,1,2,3,8,9,10] (w70 n a b lim true par L) [ub 0 n y] [0,1,2,3,8,9,10] =
(
 some ((.normal,w70 n a b lim true par L,[ub (0:Nat) n y]))) from by kernel_rfl)]
 try rfl
theorem q3f {L:Nat} (hl:1<=lim) (hl2:lim<=10) {z:Nat->Int} (t:ToldRef P18 G18 78 [.own 0 0 0 n none,.int .i64 a,.int .i64 b] [ub 0 n y] (.tup []) [ub 0 n z]):Pc 3 lW (w70 n a b lim false par L) [ub 0 n y] .normal lW (w70 n a b (lim - 1) false par L) [ub 0 n z]:=by
 obtain ⟨q,hq⟩:=is_ref P18 G18 78
 refine pc (K:=KR 78 q (.tup []) [ub 0 n z]) (refK hq _ _) 3 ?_
 show codeL P18 G18 A18 (KR 78 q (.tup []) [ub 0 n z]) 0 70 [] (pk70 3) [0,1,2,3,8,9,10] (w70 n a b lim false par L) [ub 0 n y] [0,1,2,3,8,9,10] = _
 rw [(show codeL P18 G18 A18 (KR 78 q (.tup []) [ub 0 n z]) 0 70 [] (pk70 3) [0,1,2,3,8,9,10] (w70 n a b lim false par L) [ub 0 n y] [0,1,2,3,8,9,10] =
(
 bif decF (q (v80 n (Int.ofNat a) (Int.ofNat b)) [ub (0:Nat) n y] (.tup []) [ub (0:Nat) n z]) then
 some ((.normal,[.own 0 0 0 n
 none,.int .i64 (.ofNat a),.int .i64 (.ofNat b),.int .i64 (IntKind.i64.wrap (Int.ofNat lim - 1)),.bool false,.bool par,.int .i64 (.ofNat L)],[ub (0:Nat) n z]))
 else
 none) from by kernel_rfl)]
 refine bift (refF_yes hq t) ?_
 rw [ofNatE lim,show IntKind.i64.wrap ((lim:Int) - 1) = ((lim - 1:Nat):Int) by rw [wr64 (by omega) (by omega)]; omega]
 rfl
theorem q4 {L p:Nat} {hint:Int} (t:ToldRef P18 G18 79 [.own 0 0 0 n none,.int .i64 a,.int .i64 b] [ub 0 n y] (.tup [.int .i64 p,.int .i64 hint]) [ub 0 n y]):Pc 4 lW (w70 n a b lim bal par L) [ub 0 n y] .normal lX (x70 n a b lim bal par L p hint) [ub 0 n y]:=by
 obtain ⟨q,hq⟩:=is_ref P18 G18 79
 refine pc (K:=KR 79 q (.tup [.int .i64 p,.int .i64 hint]) [ub 0 n y]) (refK hq _ _) 4 ?_
 show codeL P18 G18 A18 (KR 79 q (.tup [.int .i64 p,.int .i64 hint]) [ub 0 n y]) 0 70 [] (pk70 4) [0,1,2,3,8,9,10] (w70 n a b lim bal par L) [ub 0 n y] [0,1,2,3,8,9,10,11,12] = _
 rw [(show codeL P18 G18 A18 (KR 79 q (.tup [.int .i64 p,.int .i64 hint]) [ub 0 n y]) 0 70 [] (pk70 4) [0,1,2,3,8,9,10] (w70 n a b lim bal par L) [ub 0 n y] [0,1,2,3,8,9,10,11,12] =
(
 bif decF (q (v80 n (Int.ofNat a) (Int.ofNat b)) [ub (0:Nat) n y] (.tup [.int .i64 (.ofNat p),.int .i64 hint]) [ub (0:Nat) n y]) then
 some ((.normal,x70 n a b lim bal par L p hint,[ub (0:Nat) n y]))
 else
 none) from by kernel_rfl)]
 exact bift (refF_yes hq t) rfl
theorem q5t {L p:Nat} {z:Nat->Int} (hb:b<=1000) (hp:a<=p) (hp2:p<b) (t:ToldRef P18 G18 80 [.own 0 0 0 n none,.int .i64 a,.int .i64 b] [ub 0 n y] (.tup []) [ub 0 n z]):Pc 5 lX (x70 n a b lim bal par L p 2) [ub 0 n y] .normal lX (x70 n a b lim bal par L (b - 1 - (p - a)) 1) [ub 0 n z]:=by
 obtain ⟨q,hq⟩:=is_ref P18 G18 80
 refine pc (K:=KR 80 q (.tup []) [ub 0 n z]) (refK hq _ _) 5 ?_
 show codeL P18 G18 A18 (KR 80 q (.tup []) [ub 0 n z]) 0 70 [] (pk70 5) [0,1,2,3,8,9,10,11,12] (x70 n a b lim bal par L p 2) [ub 0 n y] [0,1,2,3,8,9,10,11,12] = _
 rw [(show codeL P18 G18 A18 (KR 80 q (.tup []) [ub 0 n z]) 0 70 [] (pk70 5) [0,1,2,3,8,9,10,11,12] (x70 n a b lim bal par L p 2) [ub 0 n y] [0,1,2,3,8,9,10,11,12] =
(
 bif decF (q (v80 n (Int.ofNat a) (Int.ofNat b)) [ub (0:Nat) n y] (.tup []) [ub (0:Nat) n z]) then
 some ((.normal,[.own 0 0 0 n
 none,.int .i64 (.ofNat a),.int .i64 (.ofNat b),.int .i64 (.ofNat lim),.bool bal,.bool par,.int .i64 (.ofNat L),.int .i64 (IntKind.i64.wrap (IntKind.i64.wrap (Int.ofNat b - 1) - IntKind.i64.wrap (Int.ofNat p - Int.ofNat a))),.int .i64 1],[ub (0:Nat) n z]))
 else
 none) from by kernel_rfl)]
 refine bift (refF_yes hq t) ?_
 rw [ofNatE b,ofNatE p,ofNatE a,wr64 (x:=(b:Int) - 1) (by omega) (by omega),wr64 (x:=(p:Int) - a) (by omega) (by omega),show IntKind.i64.wrap ((b:Int) - 1 - ((p:Int) - a)) = ((b - 1 - (p - a):Nat):Int) by rw [wr64 (by omega) (by omega)]; omega]
 rfl
theorem q5f {L p:Nat} {hint:Int} (hh:hint ≠ 2):Pc 5 lX (x70 n a b lim bal par L p hint) [ub 0 n y] .normal lX (x70 n a b lim bal par L p hint) [ub 0 n y]:=by
 refine pc none_ok 5 ?_
 show codeL P18 G18 A18 noneO 0 70 [] (pk70 5) [0,1,2,3,8,9,10,11,12] (x70 n a b lim bal par L p hint) [ub 0 n y] [0,1,2,3,8,9,10,11,12] = _
 rw [(show codeL P18 G18 A18 noneO 0 70 [] (pk70 5) [0,1,2,3,8,9,10,11,12] (x70 n a b lim bal par L p hint) [ub 0 n y] [0,1,2,3,8,9,10,11,12] =
(
 bif decide (hint = 2) then none else
 some ((.normal,x70 n a b lim bal par L p hint,[ub (0:Nat) n y]))) from by kernel_rfl)]
 rw [dF hh]
 rfl
end
open Go.Proofs
section
variable {n a b lim L p:Nat} {hint:Int} {bal par:Bool} {y:Nat->Int}
theorem q6n (hf:(bal&&(par&&decide (hint = 1))) = false):Pc 6 lX (x70 n a b lim bal par L p hint) [ub 0 n y] .normal lX (x70 n a b lim bal par L p hint) [ub 0 n y]:=by
 refine pc none_ok 6 ?_
 show codeL P18 G18 A18 noneO 0 70 [] (pk70 6) [0,1,2,3,8,9,10,11,12] (x70 n a b lim bal par L p hint) [ub 0 n y] [0,1,2,3,8,9,10,11,12] = _
 rw [(show codeL P18 G18 A18 noneO 0 70 [] (pk70 6) [0,1,2,3,8,9,10,11,12] (x70 n a b lim bal par L p hint) [ub 0 n y] [0,1,2,3,8,9,10,11,12] =
(
 bif bal then
 bif par then
 bif decide (hint = 1) then none else
 some ((.normal,x70 n a b lim bal par L p hint,[ub (0:Nat) n y]))
 else
 some ((.normal,x70 n a b lim bal par L p hint,[ub (0:Nat) n y]))
 else
 some ((.normal,x70 n a b lim bal par L p hint,[ub (0:Nat) n y]))) from by kernel_rfl)]
 cases bal
 ·rfl
 ·cases par
  ·rfl
  ·rw [Bool.true_and,Bool.true_and] at hf
   rw [hf]
   rfl
theorem q6c {ins:Bool} (t:ToldRef P18 G18 81 [.own 0 0 0 n none,.int .i64 a,.int .i64 b] [ub 0 n y] (.bool ins) [ub 0 n y]) :
 (ins = true->Pc 6 lX (x70 n a b lim true true L p 1) [ub 0 n y] .ret [] [] [ub 0 n y])/\(ins = false->Pc 6 lX (x70 n a b lim true true L p 1) [ub 0 n y] .normal lX (x70 n a b lim true true L p 1) [ub 0 n y]):=by
 obtain ⟨q,hq⟩:=is_ref P18 G18 81
 constructor
 ·rintro rfl
  refine pc (K:=KR 81 q (.bool true) [ub 0 n y]) (refK hq _ _) 6 ?_
  show codeL P18 G18 A18 (KR 81 q (.bool true) [ub 0 n y]) 0 70 [] (pk70 6) [0,1,2,3,8,9,10,11,12] (x70 n a b lim true true L p 1) [ub 0 n y] [] = _
  rw [(show codeL P18 G18 A18 (KR 81 q (.bool true) [ub 0 n y]) 0 70 [] (pk70 6) [0,1,2,3,8,9,10,11,12] (x70 n a b lim true true L p 1) [ub 0 n y] [] =
(
 bif decF (q [.own 0 0 0 n
 none,.int .i64 (.ofNat a),.int .i64 (.ofNat b)] [.mk 0 1 n (fun j=>[.int .u8 (y j)]) true false
 none] (.bool true) [.mk 0 1 n (fun j=>[.int .u8 (y j)]) true false
 none]) then
 some ((.ret,[],[ub (0:Nat) n y]))
 else
 none) from by kernel_rfl)]
  exact bift (refF_yes hq t) rfl
 ·rintro rfl
  refine pc (K:=KR 81 q (.bool false) [ub 0 n y]) (refK hq _ _) 6 ?_
  show codeL P18 G18 A18 (KR 81 q (.bool false) [ub 0 n y]) 0 70 [] (pk70 6) [0,1,2,3,8,9,10,11,12] (x70 n a b lim true true L p 1) [ub 0 n y] [0,1,2,3,8,9,10,11,12] = _
  rw [(show codeL P18 G18 A18 (KR 81 q (.bool false) [ub 0 n y]) 0 70 [] (pk70 6) [0,1,2,3,8,9,10,11,12] (x70 n a b lim true true L p 1) [ub 0 n y] [0,1,2,3,8,9,10,11,12] =
(
 bif decF (q [.own 0 0 0 n
 none,.int .i64 (.ofNat a),.int .i64 (.ofNat b)] [.mk 0 1 n (fun j=>[.int .u8 (y j)]) true false
 none] (.bool false) [.mk 0 1 n (fun j=>[.int .u8 (y j)]) true false
 none]) then
 some ((.normal,x70 n a b lim true true L p (1:Int),[ub (0:Nat) n y]))
 else
 none) from by kernel_rfl)]
  exact bift (refF_yes hq t) rfl
theorem q7n (hn:n<=1000) (hp:p<n) (ha:a<=n) (hc:a = 0 ∨ y (a - 1)<y p):Pc 7 lX (x70 n a b lim bal par L p hint) [ub 0 n y] .normal lX (x70 n a b lim bal par L p hint) [ub 0 n y]:=by
 refine pc ok82 7 ?_
 show codeL P18 G18 A18 K82 0 70 [] (pk70 7) [0,1,2,3,8,9,10,11,12] (x70 n a b lim bal par L p hint) [ub 0 n y] [0,1,2,3,8,9,10,11,12] = _
 rw [(show codeL P18 G18 A18 K82 0 70 [] (pk70 7) [0,1,2,3,8,9,10,11,12] (x70 n a b lim bal par L p hint) [ub 0 n y] [0,1,2,3,8,9,10,11,12] =
(
 bif decide (0<Int.ofNat a) then
 bif decide (0<=IntKind.i64.wrap (Int.ofNat a - 1))&&decide (IntKind.i64.wrap (Int.ofNat a - 1)<Int.ofNat n) then
 bif ((0:Nat)+(IntKind.i64.wrap (Int.ofNat a - (1:Int))).toNat).blt n then
 bif decide (0<=Int.ofNat p)&&decide (Int.ofNat p<Int.ofNat n) then
 bif ((0:Nat)+p).blt n then
 bif decide (y ((0:Nat)+(IntKind.i64.wrap (Int.ofNat a - (1:Int))).toNat)<y (0+p)) then
 some ((.normal,x70 n a b lim bal par L p hint,[ub (0:Nat) n y]))
 else none else none else none else none else none else
 some ((.normal,x70 n a b lim bal par L p hint,[ub (0:Nat) n y]))) from by kernel_rfl)]
 rcases Nat.eq_zero_or_pos a with q | q
 ·subst q
  refine BF ?_
  rfl
 ·have h:=hc.resolve_left (by omega)
  rw [ofNatE a,show IntKind.i64.wrap ((a:Int) - 1) = ((a - 1:Nat):Int) by rw [wr64 (by omega) (by omega)]; omega,toNatE]
  refine BT ?_
  refine BT ?_
  refine BT ?_
  refine BT ?_
  refine BT ?_
  refine BT ?_
  rfl
theorem q7e (hn:n<=1000) (hp:p<n) (ha:a<=n) (h0:0<a) (hc:¬ y (a - 1)<y p) {m:Nat} {z:Nat->Int} (t:ToldRef P18 G18 83 [.own 0 0 0 n none,.int .i64 a,.int .i64 b,.int .i64 p] [ub 0 n y] (.int .i64 m) [ub 0 n z]):Pc 7 lX (x70 n a b lim bal par L p hint) [ub 0 n y] (.exit 1) lT (v70 n m b lim bal par) [ub 0 n z]:=by
 obtain ⟨q,hq⟩:=is_ref P18 G18 83
 refine pc (K:=KR 83 q (.int .i64 m) [ub 0 n z]) (refK hq _ _) 7 ?_
 show codeL P18 G18 A18 (KR 83 q (.int .i64 m) [ub 0 n z]) 0 70 [] (pk70 7) [0,1,2,3,8,9,10,11,12] (x70 n a b lim bal par L p hint) [ub 0 n y] [0,1,2,3,8,9] = _
 rw [(show codeL P18 G18 A18 (KR 83 q (.int .i64 m) [ub 0 n z]) 0 70 [] (pk70 7) [0,1,2,3,8,9,10,11,12] (x70 n a b lim bal par L p hint) [ub 0 n y] [0,1,2,3,8,9] =
(
 bif decide (0<Int.ofNat a) then
 bif decide (0<=IntKind.i64.wrap (Int.ofNat a - 1))&&decide (IntKind.i64.wrap (Int.ofNat a - 1)<Int.ofNat n) then
 bif ((0:Nat)+(IntKind.i64.wrap (Int.ofNat a - (1:Int))).toNat).blt n then
 bif decide (0<=Int.ofNat p)&&decide (Int.ofNat p<Int.ofNat n) then
 bif ((0:Nat)+p).blt n then
 bif decide (y ((0:Nat)+(IntKind.i64.wrap (Int.ofNat a - (1:Int))).toNat)<y (0+p)) then
 some ((.normal,v70 n a b lim bal par,[ub (0:Nat) n y]))
 else
 bif decF (q [.own 0 0 0 n
 none,.int .i64 (.ofNat a),.int .i64 (.ofNat b),.int .i64 (.ofNat p)] [.mk 0 1 n (fun j=>[.int .u8 (y j)]) true false
 none] (.int .i64 (.ofNat m)) [.mk 0 1 n (fun j=>[.int .u8 (z j)]) true false
 none]) then
 some ((.exit 1,v70 n m b lim bal par,[ub (0:Nat) n z]))
 else none else none else none else none else none else
 some ((.normal,v70 n a b lim bal par,[ub (0:Nat) n y]))) from by kernel_rfl)]
 rw [ofNatE a,show IntKind.i64.wrap ((a:Int) - 1) = ((a - 1:Nat):Int) by rw [wr64 (by omega) (by omega)]; omega,toNatE]
 refine BT ?_
 refine BT ?_
 refine BT ?_
 refine BT ?_
 refine BT ?_
 refine BF ?_
 exact bift (refF_yes hq t) rfl
theorem q8 (hn:n<=1000) (hb:b<=n) {m:Nat} {d:Bool} {yp:Nat->Int} (hm1:a<=m) (hm2:m<b) (t:ToldRef P18 G18 84 [.own 0 0 0 n none,.int .i64 a,.int .i64 b,.int .i64 p] [ub 0 n y] (.tup [.int .i64 m,.bool d]) [ub 0 n yp]) :
 (m - a<b - m->∀ yg,ToldRef P18 G18 70 [.own 0 0 0 n none,.int .i64 a,.int .i64 m,.int .i64 lim] [ub 0 n yp] (.tup []) [ub 0 n yg]->∃ bal2 par2,Ch 8 lX (x70 n a b lim bal par L p hint) [ub 0 n y] .normal lT (v70 n (m+1) b lim bal2 par2) [ub 0 n yg]) ∧
 (¬ m - a<b - m->∀ yg,ToldRef P18 G18 70 [.own 0 0 0 n none,.int .i64 (m+1:Nat),.int .i64 b,.int .i64 lim] [ub 0 n yp] (.tup []) [ub 0 n yg]->∃ bal2 par2,Ch 8 lX (x70 n a b lim bal par L p hint) [ub 0 n y] .normal lT (v70 n a m lim bal2 par2) [ub 0 n yg]):=by
 obtain ⟨q,hq⟩:=is_ref P18 G18 84
 obtain ⟨q2,hq2⟩:=is_ref P18 G18 70
 have e1:IntKind.i64.wrap (Int.ofNat m - Int.ofNat a) = ((m - a:Nat):Int):=by rw [ofNatE,ofNatE,wr64 (by omega) (by omega)]; omega
 have e2:IntKind.i64.wrap (Int.ofNat b - Int.ofNat m) = ((b - m:Nat):Int):=by rw [ofNatE,ofNatE,wr64 (by omega) (by omega)]; omega
 have e3:IntKind.i64.wrap (Int.ofNat m+1) = ((m+1:Nat):Int):=by rw [ofNatE,wr64 (by omega) (by omega)]; omega
 have tree:=fun yg=>(show codeL P18 G18 A18 (KR2 q q2 n m d yp yg) 0 70 [] (ch70 8) [0,1,2,3,8,9,10,11,12] (x70 n a b lim bal par L p hint) [ub 0 n y] [0,1,2,3,8,9] =
(
 bif decF (q [.own 0 0 0 n
 none,.int .i64 (.ofNat a),.int .i64 (.ofNat b),.int .i64 (.ofNat p)] [.mk 0 1 n (fun j=>[.int .u8 (y j)]) true false
 none] (.tup [.int .i64 (.ofNat m),.bool d]) [.mk 0 1 n (fun j=>[.int .u8 (yp j)]) true false
 none]) then
 bif d then
 bif decide (IntKind.i64.wrap (Int.ofNat m - Int.ofNat a)<IntKind.i64.wrap (Int.ofNat b - Int.ofNat m)) then
 bif decide (IntKind.i64.wrap ((Int.ofNat L).tdiv 8)<=IntKind.i64.wrap (Int.ofNat m - Int.ofNat a)) then
 bif decF (q2 [.own 0 0 0 n
 none,.int .i64 (.ofNat a),.int .i64 (.ofNat m),.int .i64 (.ofNat lim)] [.mk 0 1 n (fun j=>[.int .u8 (yp j)]) true false
 none] (.tup []) [.mk 0 1 n (fun j=>[.int .u8 (yg j)]) true false
 none]) then
 some ((.normal,[.own 0 0 0 n
 none,.int .i64 (IntKind.i64.wrap (Int.ofNat m+1)),.int .i64 (.ofNat b),.int .i64 (.ofNat lim),.bool true,.bool true],[ub (0:Nat) n yg]))
 else none else
 bif decF (q2 [.own 0 0 0 n
 none,.int .i64 (.ofNat a),.int .i64 (.ofNat m),.int .i64 (.ofNat lim)] [.mk 0 1 n (fun j=>[.int .u8 (yp j)]) true false
 none] (.tup []) [.mk 0 1 n (fun j=>[.int .u8 (yg j)]) true false
 none]) then
 some ((.normal,[.own 0 0 0 n
 none,.int .i64 (IntKind.i64.wrap (Int.ofNat m+1)),.int .i64 (.ofNat b),.int .i64 (.ofNat lim),.bool false,.bool true],[ub (0:Nat) n yg]))
 else none else
 bif decide (IntKind.i64.wrap ((Int.ofNat L).tdiv 8)<=IntKind.i64.wrap (Int.ofNat b - Int.ofNat m)) then
 bif decF (q2 [.own 0 0 0 n
 none,.int .i64 (IntKind.i64.wrap (Int.ofNat m+1)),.int .i64 (.ofNat b),.int .i64 (.ofNat lim)] [.mk 0 1 n (fun j=>[.int .u8 (yp j)]) true false
 none] (.tup []) [.mk 0 1 n (fun j=>[.int .u8 (yg j)]) true false
 none]) then
 some ((.normal,v70 n a m lim true true,[ub (0:Nat) n yg]))
 else none else
 bif decF (q2 [.own 0 0 0 n
 none,.int .i64 (IntKind.i64.wrap (Int.ofNat m+1)),.int .i64 (.ofNat b),.int .i64 (.ofNat lim)] [.mk 0 1 n (fun j=>[.int .u8 (yp j)]) true false
 none] (.tup []) [.mk 0 1 n (fun j=>[.int .u8 (yg j)]) true false
 none]) then
 some ((.normal,v70 n a m lim false true,[ub (0:Nat) n yg]))
 else none else
 bif decide (IntKind.i64.wrap (Int.ofNat m - Int.ofNat a)<IntKind.i64.wrap (Int.ofNat b - Int.ofNat m)) then
 bif decide (IntKind.i64.wrap ((Int.ofNat L).tdiv 8)<=IntKind.i64.wrap (Int.ofNat m - Int.ofNat a)) then
 bif decF (q2 [.own 0 0 0 n
 none,.int .i64 (.ofNat a),.int .i64 (.ofNat m),.int .i64 (.ofNat lim)] [.mk 0 1 n (fun j=>[.int .u8 (yp j)]) true false
 none] (.tup []) [.mk 0 1 n (fun j=>[.int .u8 (yg j)]) true false
 none]) then
 some ((.normal,[.own 0 0 0 n
 none,.int .i64 (IntKind.i64.wrap (Int.ofNat m+1)),.int .i64 (.ofNat b),.int .i64 (.ofNat lim),.bool true,.bool false],[ub (0:Nat) n yg]))
 else none else
 bif decF (q2 [.own 0 0 0 n
 none,.int .i64 (.ofNat a),.int .i64 (.ofNat m),.int .i64 (.ofNat lim)] [.mk 0 1 n (fun j=>[.int .u8 (yp j)]) true false
 none] (.tup []) [.mk 0 1 n (fun j=>[.int .u8 (yg j)]) true false
 none]) then
 some ((.normal,[.own 0 0 0 n
 none,.int .i64 (IntKind.i64.wrap (Int.ofNat m+1)),.int .i64 (.ofNat b),.int .i64 (.ofNat lim),.bool false,.bool false],[ub (0:Nat) n yg]))
 else none else
 bif decide (IntKind.i64.wrap ((Int.ofNat L).tdiv 8)<=IntKind.i64.wrap (Int.ofNat b - Int.ofNat m)) then
 bif decF (q2 [.own 0 0 0 n
 none,.int .i64 (IntKind.i64.wrap (Int.ofNat m+1)),.int .i64 (.ofNat b),.int .i64 (.ofNat lim)] [.mk 0 1 n (fun j=>[.int .u8 (yp j)]) true false
 none] (.tup []) [.mk 0 1 n (fun j=>[.int .u8 (yg j)]) true false
 none]) then
 some ((.normal,v70 n a m lim true false,[ub (0:Nat) n yg]))
 else none else
 bif decF (q2 [.own 0 0 0 n
 none,.int .i64 (IntKind.i64.wrap (Int.ofNat m+1)),.int .i64 (.ofNat b),.int .i64 (.ofNat lim)] [.mk 0 1 n (fun j=>[.int .u8 (yp j)]) true false
 none] (.tup []) [.mk 0 1 n (fun j=>[.int .u8 (yg j)]) true false
 none]) then
 some ((.normal,v70 n a m lim false false,[ub (0:Nat) n yg]))
 else none else
 none) from by kernel_rfl)
 simp only [e1,e2,e3] at tree
 have hK:∀ yg,OrcOk P18 G18 (KR2 q q2 n m d yp yg):=fun yg=>told_addRef (told_addRef ok82 (refF_told hq)) (refF_told hq2)
 constructor
 ·intro hlt yg t2
  have c1:decide (((m - a:Nat):Int)<((b - m:Nat):Int)) = true:=dT (by omega)
  have tr:=tree yg
  rw [c1] at tr
  simp only [cond_true] at tr
  cases hc:decide (IntKind.i64.wrap ((Int.ofNat L).tdiv 8)<=((m - a:Nat):Int)) <;> rw [hc] at tr <;> cases d
  ·exact ⟨false,false,pc8 (hK yg) (tr.trans (bift (refF_yes hq t) (biff (by decide) (biff (by decide) (bift (refF_yes hq2 t2) rfl)))))⟩
  ·exact ⟨false,true,pc8 (hK yg) (tr.trans (bift (refF_yes hq t) (bift rfl (biff (by decide) (bift (refF_yes hq2 t2) rfl)))))⟩
  ·exact ⟨true,false,pc8 (hK yg) (tr.trans (bift (refF_yes hq t) (biff (by decide) (bift rfl (bift (refF_yes hq2 t2) rfl)))))⟩
  ·exact ⟨true,true,pc8 (hK yg) (tr.trans (bift (refF_yes hq t) (bift rfl (bift rfl (bift (refF_yes hq2 t2) rfl)))))⟩
 ·intro hlt yg t2
  have c1:decide (((m - a:Nat):Int)<((b - m:Nat):Int)) = false:=dF (by omega)
  have tr:=tree yg
  rw [c1] at tr
  simp only [cond_false] at tr
  cases hc:decide (IntKind.i64.wrap ((Int.ofNat L).tdiv 8)<=((b - m:Nat):Int)) <;> rw [hc] at tr <;> cases d
  ·exact ⟨false,false,pc8 (hK yg) (tr.trans (bift (refF_yes hq t) (biff (by decide) (biff (by decide) (bift (refF_yes hq2 t2) rfl)))))⟩
  ·exact ⟨false,true,pc8 (hK yg) (tr.trans (bift (refF_yes hq t) (bift rfl (biff (by decide) (bift (refF_yes hq2 t2) rfl)))))⟩
  ·exact ⟨true,false,pc8 (hK yg) (tr.trans (bift (refF_yes hq t) (biff (by decide) (bift rfl (bift (refF_yes hq2 t2) rfl)))))⟩
  ·exact ⟨true,true,pc8 (hK yg) (tr.trans (bift (refF_yes hq t) (bift rfl (bift rfl (bift (refF_yes hq2 t2) rfl)))))⟩
end
theorem ch_of_loop {e:Ex} {l:List Nat} {vs v1:List T} {h h1:Heap}:CodeGoes P18 G18 (A18 70).prom Try.f70.ntmps (.block 1 (ch70 0 c70)) (mkSt lT vs h) e (mkSt l v1 h1)->CodeGoes P18 G18 (A18 70).prom Try.f70.ntmps (bodyAt P18 70 2) (mkSt lT vs h) e (mkSt l v1 h1):=fun hh=>by
 have e:bodyAt P18 70 2 = .block 1 (ch70 0 c70):=by kernel_rfl
 rw [e]
 exact hh
theorem r70 (x:Nat->Int) (n a b lim:Nat) (bal par:Bool) (y:Nat->Int) (hn:n<=16) (hI:I70 x n a b lim y) :
 (∃ a2 b2 lim2 bal2 par2 y2,b2 - a2<b - a/\I70 x n a2 b2 lim2 y2/\CodeGoes P18 G18 (A18 70).prom Try.f70.ntmps (bodyAt P18 70 2) (mkSt lT (v70 n a b lim bal par) [ub 0 n y]) .normal (mkSt lT (v70 n a2 b2 lim2 bal2 par2) [ub 0 n y2])) ∨
 ∃ z,(Pr x z 0 n/\Asc z 0 n)/\CodeGoes P18 G18 (A18 70).prom Try.f70.ntmps (bodyAt P18 70 2) (mkSt lT (v70 n a b lim bal par) [ub 0 n y]) .ret (mkSt [] [] [ub 0 n z]):=by
 have hab:=hI.ab
 have hbn:=hI.bn
 have hlb:=hI.limB
 have hlc:=hI.limC
 have s0:=q0 (n:=n) (lim:=lim) (bal:=bal) (par:=par) (y:=y) (show b<=1000 by omega) hab
 rcases Nat.lt_or_ge 12 (b - a) with q | q
 ·have hlb:=hlb q
  have s1:=q1n (n:=n) (a:=a) (b:=b) (lim:=lim) (bal:=bal) (par:=par) (y:=y) q
  have s2:=q2 (n:=n) (a:=a) (b:=b) (bal:=bal) (par:=par) (y:=y) (L:=b - a) (show 1<=lim by omega)
  have st3:∃ lim1 y1,lim<=lim1+1/\lim1<=10/\Pr y y1 a b/\Pc 3 lW (w70 n a b lim bal par (b - a)) [ub 0 n y] .normal lW (w70 n a b lim1 bal par (b - a)) [ub 0 n y1]:=by
   cases bal
   ·obtain ⟨z,B,hz,t⟩:=brkT n a b y (by omega) hbn (by omega) (by omega)
    have t2:=t.trim (k:=1) (Nat.le_refl _) rfl rfl
    exact ⟨lim - 1,z,by omega,by omega,hz,q3f (by omega) hlc t2⟩
   ·exact ⟨lim,y,by omega,hlc,.refl _ _ _,q3t⟩
  obtain ⟨lim1,y1,k1,k2,hp1,s3⟩:=st3
  have ho1:=hI.out.move hp1 hbn
  have hx1:Pr x y1 0 n:=hI.pr.trans (hp1.wider (Nat.zero_le _) hbn)
  obtain ⟨p,hint,B,⟨hpa,hpb⟩,t4⟩:=pivT n a b y1 (by omega) hbn (by omega) (by omega)
  have t4:=t4.trim (k:=1) (Nat.le_refl _) rfl rfl
  have s4:=q4 (lim:=lim1) (bal:=bal) (par:=par) (L:=b - a) t4
  have st5:∃ p2 hint2 y2,a<=p2/\p2<b/\Pr y1 y2 a b/\Pc 5 lX (x70 n a b lim1 bal par (b - a) p hint) [ub 0 n y1] .normal lX (x70 n a b lim1 bal par (b - a) p2 hint2) [ub 0 n y2]:=by
   by_cases hh:hint = 2
   ·subst hh
    obtain ⟨z,hz,t⟩:=revT n a b y1 (by omega) hbn (by omega)
    exact ⟨b - 1 - (p - a),1,z,by omega,by omega,hz,q5t (by omega) hpa hpb t⟩
   ·exact ⟨p,hint,y1,hpa,hpb,.refl _ _ _,q5f hh⟩
  obtain ⟨p2,hint2,y2,hp2a,hp2b,hp2,s5⟩:=st5
  have ho2:=ho1.move hp2 hbn
  have hx2:Pr x y2 0 n:=hx1.trans (hp2.wider (Nat.zero_le _) hbn)
  have pre:∀ {e:Ex} {l:List Nat} {vs:List T} {h:Heap},Ch 6 lX (x70 n a b lim1 bal par (b - a) p2 hint2) [ub 0 n y2] e l vs h->Ch 0 lT (v70 n a b lim bal par) [ub 0 n y] e l vs h:=fun hc =>
   ch_next (by omega) s0 (ch_next (by omega) s1 (ch_next (by omega) s2 (ch_next (by omega) s3 (ch_next (by omega) s4 (ch_next (by omega) s5 hc)))))
  have st6:(∃ _:Asc y2 a b,Pc 6 lX (x70 n a b lim1 bal par (b - a) p2 hint2) [ub 0 n y2] .ret [] [] [ub 0 n y2]) ∨ Pc 6 lX (x70 n a b lim1 bal par (b - a) p2 hint2) [ub 0 n y2] .normal lX (x70 n a b lim1 bal par (b - a) p2 hint2) [ub 0 n y2]:=by
   cases hf:(bal&&(par&&decide (hint2 = 1)))
   ·exact .inr (q6n hf)
   ·simp only [Bool.and_eq_true,decide_eq_true_eq] at hf
    obtain ⟨rfl,rfl,rfl⟩:=hf
    obtain ⟨ins,h1,t⟩:=pinsT n a b y2 (by omega) hbn (by omega) (by omega)
    cases ins
    ·exact .inr ((q6c t).2 rfl)
    ·exact .inl ⟨h1 rfl,(q6c t).1 rfl⟩
  rcases st6 with ⟨hs,s6⟩ | s6
  ·refine .inr ⟨y2,⟨hx2,ho2.asc hs⟩,ch_of_loop (goes_block_ret (pre (ch_ret (by omega) s6)))⟩
  ·left
   by_cases he:0<a/\¬ y2 (a - 1)<y2 p2
   ·
    have hmin:∀ e,a<=e->e<b->y2 p2<=y2 e:=fun e g1 g2=>Int.le_trans (Int.not_lt.1 he.2) (ho2 (a - 1) e (by omega) (by omega) (.inl (by omega)))
    obtain ⟨z,m,z1,z2,z3,z4,t⟩:=peqT n a b p2 y2 (by omega) hbn hp2a hp2b (by omega) hmin
    have s7:=q7e (lim:=lim1) (bal:=bal) (par:=par) (L:=b - a) (hint:=hint2) (by omega) (by omega) (by omega) he.1 he.2 t
    refine ⟨m,b,lim1,bal,par,z,by omega,⟨hx2.trans (z1.wider (Nat.zero_le _) hbn),(ho2.move z1 hbn).equal (by omega) z3 z4,z3,hbn,fun _=>by omega,k2⟩,?_⟩
    exact ch_of_loop (goes_block_exit (pre (ch_next (by omega) s6 (ch_exit (by omega) s7))))
   ·have hc:a = 0 ∨ y2 (a - 1)<y2 p2:=by
     rcases Nat.eq_zero_or_pos a with g | g
     ·exact .inl g
     ·right
      by_cases g2:y2 (a - 1)<y2 p2
      ·exact g2
      ·exact absurd ⟨g,g2⟩ he
    have s7:=q7n (a:=a) (b:=b) (lim:=lim1) (bal:=bal) (par:=par) (L:=b - a) (hint:=hint2) (y:=y2) (p:=p2) (show n<=1000 by omega) (by omega) (by omega) hc
    obtain ⟨yp,m,d,z1,z2,t⟩:=partT n a b p2 y2 (by omega) hbn hp2a hp2b (by omega)
    have hlo:=z2.lo
    have hhi:=z2.hi
    have ho3:=ho2.move z1 hbn
    have hx3:Pr x yp 0 n:=hx2.trans (z1.wider (Nat.zero_le _) hbn)
    obtain ⟨w1,w2⟩:=q8 (lim:=lim1) (bal:=bal) (par:=par) (L:=b - a) (hint:=hint2) (by omega) hbn hlo hhi t
    by_cases hlt:m - a<b - m
    ·obtain ⟨yg,⟨g1,g2⟩,tg⟩:=pq12T n a m yp lim1 (by omega) (by omega) hlo (by omega)
     obtain ⟨bal2,par2,s8⟩:=w1 hlt yg tg
     refine ⟨m+1,b,lim1,bal2,par2,yg,by omega,⟨hx3.trans (g1.wider (Nat.zero_le _) (by omega)),z2.goRight ho3 g1 g2 hbn,by omega,hbn,fun _=>by omega,k2⟩,?_⟩
     exact ch_of_loop (goes_block (pre (ch_next (by omega) s6 (ch_next (by omega) s7 s8))))
    ·obtain ⟨yg,⟨g1,g2⟩,tg⟩:=pq12T n (m+1) b yp lim1 (by omega) hbn (by omega) (by omega)
     obtain ⟨bal2,par2,s8⟩:=w2 hlt yg tg
     refine ⟨a,m,lim1,bal2,par2,yg,by omega,⟨hx3.trans (g1.wider (Nat.zero_le _) hbn),z2.goLeft ho3 g1 g2 hbn,hlo,by omega,fun _=>by omega,k2⟩,?_⟩
     exact ch_of_loop (goes_block (pre (ch_next (by omega) s6 (ch_next (by omega) s7 s8))))
 ·obtain ⟨z,⟨h1,h2⟩,t⟩:=insT n a b y (by omega) hbn hab
  refine .inr ⟨z,⟨hI.pr.trans (h1.wider (Nat.zero_le _) hbn),(hI.out.move h1 hbn).asc h2⟩,?_⟩
  exact ch_of_loop (goes_block_ret (ch_next (by omega) s0 (ch_ret (by omega) (q1r q t))))
theorem l70 (x:Nat->Int) (n lim:Nat) (hn:n<=16) (hl:12<n->n<=lim+12) (hl2:lim<=10) :
 ∃ z,(Pr x z 0 n/\Asc z 0 n)/\LoopOk P18 G18 (A18 70) 70 2 (litS (v70 n 0 n lim true true) [ub 0 n x] .ret [] [ub 0 n z]):=by
 refine Exists.elim (goes_loop (P:=P18) (Gl:=G18) (prom:=(A18 70).prom) (nt:=Try.f70.ntmps) (b:=bodyAt P18 70 2) (lin:=lT) (lout:=[])
  (fun m vs h=>∃ a b lim bal par y,m = b - a/\vs = v70 n a b lim bal par/\h = [ub 0 n y]/\I70 x n a b lim y)
  (fun e vs h=>∃ z,e = .ret/\vs = []/\h = [ub 0 n z]/\(Pr x z 0 n/\Asc z 0 n))
  (fun m vs h ⟨a,b,lim,bal,par,y,hm,hv,hh,hI⟩=>?_) (n:=n - 0) (vs:=v70 n 0 n lim true true) (h:=[ub 0 n x]) ⟨0,n,lim,true,true,x,rfl,rfl,rfl,⟨.refl _ _ _,.start _ _,Nat.zero_le _,Nat.le_refl _,fun h=>hl (by omega),hl2⟩⟩) ?_
 ·subst hm hv hh
  rcases r70 x n a b lim bal par y hn hI with ⟨a2,b2,lim2,bal2,par2,y2,g1,g2,g3⟩ | ⟨z,hz,g3⟩
  ·exact .inl ⟨b2 - a2,_,_,g1,g3,a2,b2,lim2,bal2,par2,y2,rfl,rfl,rfl,g2⟩
  ·exact .inr ⟨.ret,_,_,by simp,g3,z,rfl,rfl,rfl,hz⟩
 ·rintro e ⟨vs1,h1,⟨z,rfl,rfl,rfl,hz⟩,hg⟩
  refine ⟨z,hz,.lit fun fn hf hnt=>?_⟩
  rw [Try.func70] at hf
  obtain rfl:=Option.some.inj hf
  have e:asLoop (bodyAt P18 70 2) = .loop (bodyAt P18 70 2):=by kernel_rfl
  rw [e]
  exact hg
theorem pdq16T (n lim:Nat) (x:Nat->Int) (hn:n<=16) (hl:12<n->n<=lim+12) (hl2:lim<=10) :
 ∃ z,(Pr x z 0 n/\Asc z 0 n)/\ToldRef P18 G18 70 [.own 0 0 0 n none,.int .i64 0,.int .i64 n,.int .i64 lim] [ub 0 n x] (.tup []) [ub 0 n z]:=by
 obtain ⟨z,hz,hl⟩:=l70 x n lim hn hl hl2
 refine ⟨z,hz,?_⟩
 refine stepR_told hm18 hn18 none_ok (A:=A18) (m:=0) (by kernel_rfl) (loops1 hl) ?_
 rw [(show stepR P18 G18 A18 noneO 0 70 [(2,litS (v70 n 0 n lim true true) [ub 0 n x] .ret [] [ub 0 n z])] [.own 0 0 0 n none,.int .i64 0,.int .i64 n,.int .i64 lim] [ub 0 n x] =
(
 bif weakF (v70 n (nat_lit 0) n lim true true) [ub (0:Nat) n x] (v70 n (nat_lit 0) n lim true true) [ub (0:Nat) n x] then
 some ((.tup [],[ub (0:Nat) n z]))
 else
 none) from by kernel_rfl)]
 exact bift (weakF_of ⟨rfl,.refl _⟩) rfl
open Go.Proofs
def nmax:Nat:=16
theorem sortT (n:Nat) (x:Nat->Int) (hn:n<=nmax) :
 ∃ z,(Pr x z 0 n/\Asc z 0 n)/\ToldRef P18 G18 61 [.own 0 0 0 n none] [ub 0 n x] (.tup []) [ub 0 n z]:=by
 have hn2:=hn
 unfold nmax at hn2
 obtain ⟨lim0,c1,c2,h71⟩:=lenT n (by omega)
 obtain ⟨z,hz,ht⟩:=pdq16T n lim0 x (by omega) c2 c1
 generalize ((lim0:Nat):Int) = lim at *
 obtain ⟨p,hp⟩:=is_ref P18 G18 70
 obtain ⟨p71,hp71⟩:=is_val P18 G18 71
 refine ⟨z,hz,?_⟩
 refine stepR_told hm18 hn18 (K:=K61 p71 lim p n z) (told_addRef (told_add none_ok (callF_told hp71)) (refF_told hp)) (A:=A18) (m:=0) (by kernel_rfl) (l:=[]) loops0 ?_
 refine Eq.trans (show stepR P18 G18 A18 (K61 p71 lim p n z) 0 61 [] [.own 0 0 0 n none] [ub 0 n x] =
(
 bif decF (p71 [.int .u64 (IntKind.u64.wrap (Int.ofNat n))] (.int .i64 lim)) then
 bif decF (p [.own 0 0 0 n
 none,.int .i64 0,.int .i64 (.ofNat n),.int .i64 lim] [.mk 0 1 n (fun j=>[.int .u8 (x j)]) true false
 none] (.tup []) [.mk 0 1 n (fun j=>[.int .u8 (z j)]) true false
 none]) then
 some ((.tup [],[.mk 0 1 n (fun j=>[.int .u8 (z j)]) true false
 none]))
 else none else
 none) from by kernel_rfl) ?_
 have e:IntKind.u64.wrap (Int.ofNat n) = (n:Int):=by
  show IntKind.u64.wrap (n:Int) = n
  exact wru64 (by omega) (by omega)
 rw [e]
 refine bift (callF_yes hp71 h71) ?_
 exact bift (refF_yes hp ht) rfl
open Go.Proofs
noncomputable def K47 (p60:List T->T->Prop) (p61 p62:List T->Heap->T->Heap->Prop) (n:Nat) (x y z:Nat->Int) (k:Nat):Orc :=
 ((noneO.add 60 (callF p60 fun _=>some (.fresh true 1 n (fun j=>[.int .u8 (x j)]) n none))).addRef 61 (refF p61 fun _ _=>some (.tup [],[ub 0 n y]))).addRef 62 (refF p62 fun _ _=>some (.own 0 0 0 k none,[ub 0 n z]))
def kindL (x:Nat->Int) (n:Nat):List Int:=((List.range 256).map Int.ofNat).filter fun v=>(List.range n).any fun j=>decide (x j = v)
def csK (x:Nat->Int) (n j:Nat):Int:=(kindL x n).getD j 0
def kK (x:Nat->Int) (n:Nat):Nat:=(kindL x n).length
theorem kindL_mem {x:Nat->Int} {n:Nat} (hx:∀ j,j<n->0<=x j/\x j<256) (v:Int):v ∈ kindL x n ↔ Mem x 0 n v:=by
 unfold kindL Mem
 simp only [List.mem_filter,List.mem_map,List.mem_range,List.any_eq_true,decide_eq_true_eq]
 constructor
 ·rintro ⟨_,j,h1,h2⟩; exact ⟨j,Nat.zero_le _,h1,h2⟩
 ·rintro ⟨j,_,h1,h2⟩
  have:=hx j h1
  exact ⟨⟨v.toNat,by omega,by show ((v.toNat:Nat):Int) = v; omega⟩,j,h1,h2⟩
theorem kindL_asc (x:Nat->Int) (n:Nat):(kindL x n).Pairwise (·<·):=by
 unfold kindL
 refine List.Pairwise.filter _ ?_
 rw [List.pairwise_map]
 exact List.pairwise_lt_range.imp (fun {a b} h=>by show (a:Int)<(b:Int); omega)
theorem csK_mem {x:Nat->Int} {n:Nat} (hx:∀ j,j<n->0<=x j/\x j<256) (v:Int):Mem (csK x n) 0 (kK x n) v ↔ Mem x 0 n v:=by
 rw [← kindL_mem hx,List.mem_iff_getElem]
 unfold Mem csK kK
 constructor
 ·rintro ⟨j,_,h1,h2⟩
  refine ⟨j,h1,?_⟩
  rw [List.getD_eq_getElem?_getD,List.getElem?_eq_getElem h1] at h2
  exact h2
 ·rintro ⟨j,h1,h2⟩
  exact ⟨j,Nat.zero_le _,h1,by rw [List.getD_eq_getElem?_getD,List.getElem?_eq_getElem h1]; exact h2⟩
theorem csK_asc (x:Nat->Int) (n:Nat):SAsc (csK x n) (kK x n):=by
 intro p q h1 h2
 unfold kK at h2
 have:=List.pairwise_iff_getElem.1 (kindL_asc x n) p q (by omega) h2 h1
 unfold csK
 rw [List.getD_eq_getElem?_getD,List.getElem?_eq_getElem (by omega),List.getD_eq_getElem?_getD,List.getElem?_eq_getElem h2]
 exact this
theorem cloneT (x:Nat->Int) (n:Nat) (c:Option Nat) (h1:1<=n) (hn:n<=1000):ToldOk P18 G18 60 [rowV x n c] (.fresh true 1 n (fun j=>[.int .u8 (x j)]) n none):=by
 refine stepV_told hm18 hn18 none_ok (K:=noneO) (A:=A18) (m:=0) ?_
 refine Eq.trans (show stepV P18 G18 A18 noneO 0 60 [rowV x n c] =
(
 bif Nat.blt 0 (match c with | some x=>x | none=>(0:Nat)) || Nat.blt 0 n then
 bif n==(0:Nat) then
 some (.fresh true (1:Nat) (0:Nat) (fun j=>[]) (0:Nat) (some 0))
 else
 bif (((0:Nat)+n) * (2:Nat)).ble 70368744177664 then
 bif ((0:Nat)+n).ble 0 then
 bif ((0:Nat)+n).ble 0 then
 some (bif ((0:Nat)+((0:Nat)+n)).ble 0 then .fresh true (1:Nat) (0:Nat) (fun j =>
 bif Nat.ble 0 (0+j)&&((0:Nat)+j).blt (0+n) then [.int .u8 (x (0+j - 0))]
 else []) (0+n) (some 0)
 else .undef)
 else none else
 some (bif ((0:Nat)+((0:Nat)+n)).ble (0+n) then .fresh true (1:Nat) (0+n - 0) (fun j=>[.int .u8 (x (0+j - 0))]) (0+n) none else .undef)
 else none else
 none) from by kernel_rfl) ?_
 refine bift (by rw [Bool.or_eq_true]; exact .inr (bltT (by omega))) ?_
 simp only [Nat.zero_add,Nat.sub_zero]
 refine biff (by simp; omega) ?_
 refine bift (bleT (by omega)) ?_
 rw [bleF (show 0<n by omega),cond_false,bleT (Nat.le_refl _),cond_true]
theorem kindsT (x:Nat->Int) (n:Nat) (c:Option Nat) (h1:1<=n) (hn:n<=nmax) (hx:∀ j,j<n->0<=x j/\x j<256):ToldOk P18 G18 47 [rowV x n c] (.new (rowV (csK x n) (kK x n) none)):=by
 have hn2:=hn
 unfold nmax at hn2
 have h60:=cloneT x n c h1 (by omega)
 obtain ⟨y,⟨hy1,hy2⟩,h61⟩:=sortT n x hn
 obtain ⟨z,k,hz,h62⟩:=compT n y (by omega) h1 hy2
 obtain ⟨p60,hp60⟩:=is_val P18 G18 60
 obtain ⟨p61,hp61⟩:=is_ref P18 G18 61
 obtain ⟨p62,hp62⟩:=is_ref P18 G18 62
 have hu:=SAsc.unique hz.asc (csK_asc x n) fun v=>(hz.mem v).trans ((hy1.mem v).trans (csK_mem hx v).symm)
 refine ToldOk.resTo (r:=.new (.view 1 k (fun j=>[.int .u8 (z j)]) none)) ?_ (.new (by
  rw [← hu.1]
  refine .view (.inl rfl) fun j hj=>?_
  show Sims [T.int .u8 (z j)] [.int .u8 (csK x n j)]
  rw [hu.2 j hj]
  exact Sims.refl _))
 refine ToldOk.frz (r:=.fresh true 1 n (fun j=>[.int .u8 (z j)]) k none) ?_
 refine stepV_told hm18 hn18 (K:=K47 p60 p61 p62 n x y z k) (told_addRef (told_addRef (told_add none_ok (callF_told hp60)) (refF_told hp61)) (refF_told hp62)) (A:=A18) (m:=0) ?_
 have hk:=hz.kn
 refine Eq.trans (show stepV P18 G18 A18 (K47 p60 p61 p62 n x y z k) 0 47 [rowV x n c] =
(
 bif decF (p60 [rowV x n c] (.fresh true (1:Nat) n (fun j=>[.int .u8 (x j)]) n
 none)) then
 bif decF (p61 [.own 0 0 0 n
 none] [.mk 0 1 n (fun j=>[.int .u8 (x j)]) true false
 none] (.tup []) [.mk 0 1 n (fun j=>[.int .u8 (y j)]) true false
 none]) then
 bif decF (p62 [.own 0 0 0 n
 none] [.mk 0 1 n (fun j=>[.int .u8 (y j)]) true false
 none] (.own 0 0 0 k
 none) [.mk 0 1 n (fun j=>[.int .u8 (z j)]) true false
 none]) then
 some (bif ((0:Nat)+k).ble n then .fresh true (1:Nat) (n - 0) (fun j=>[.int .u8 (z (0+j))]) k none else .undef)
 else none else none else
 none) from by kernel_rfl) ?_
 refine bift (callF_yes hp60 h60) ?_
 refine bift (refF_yes hp61 h61) ?_
 refine bift (refF_yes hp62 h62) ?_
 simp only [Nat.zero_add,Nat.sub_zero]
 rw [bleT hk,cond_true]
open Go.Proofs
def mnF (r:Nat->Int):Nat->Int
 | 0=>r 0
 | i+1=>bif decide (r (i+1)<mnF r i) then r (i+1) else mnF r i
def mxF (r:Nat->Int):Nat->Int
 | 0=>r 0
 | i+1=>bif decide (mxF r i<r (i+1)) then r (i+1) else mxF r i
def v45 (r:Nat->Int) (n:Nat) (c:Option Nat) (a:Int) (i:Int):List T:=[rowV r n c,.int .u8 a,.int .i64 i]
def picV (R:Nat->Nat->Int) (n h:Nat) (rc c:Option Nat):T:=.view 1 h (fun i=>[rowV (R i) n rc]) c
def v29 (R:Nat->Nat->Int) (n h:Nat) (rc c:Option Nat) (i:Int):List T:=[picV R n h rc c,picV R n h rc c,.int .i64 h,.int .i64 i]
def v29d (R:Nat->Nat->Int) (n h:Nat) (rc c:Option Nat) (i:Int):List T:=[picV R n h rc c,.int .i64 h,.int .i64 i]
structure PicOk (R:Nat->Nat->Int) (n h:Nat):Prop where
 n1:1<=n
 nm:n<=nmax
 h1:h<=31
 odd:h % 2 = 1
 col:∀ i,i<h->∀ j,j<n->1<=R i j/\R i j<=6
 two:∀ i,i<h->kK (R i) n<=2
noncomputable def K29 (p q:List T->T->Prop) (a b:Int):Orc:=(noneO.add 45 (callF p fun _=>some (.int .u8 a))).add 46 (callF q fun _=>some (.int .u8 b))
noncomputable def K29k (p:List T->T->Prop) (r:T):Orc:=noneO.add 47 (callF p fun _=>some r)
theorem mnF_ge (r:Nat->Int) (lo:Int):∀ i,(∀ j,j<=i->lo<=r j)->lo<=mnF r i
 | 0,h=>h 0 (Nat.le_refl _)
 | i+1,h=>by
  have h1:=mnF_ge r lo i (fun j hj=>h j (by omega))
  have h2:=h (i+1) (Nat.le_refl _)
  unfold mnF
  cases decide (r (i+1)<mnF r i)
  ·exact h1
  ·exact h2
theorem mxF_le (r:Nat->Int) (hi:Int):∀ i,(∀ j,j<=i->r j<=hi)->mxF r i<=hi
 | 0,h=>h 0 (Nat.le_refl _)
 | i+1,h=>by
  have h1:=mxF_le r hi i (fun j hj=>h j (by omega))
  have h2:=h (i+1) (Nat.le_refl _)
  unfold mxF
  cases decide (mxF r i<r (i+1))
  ·exact h1
  ·exact h2
theorem minT (r:Nat->Int) (n:Nat) (c:Option Nat) (h1:1<=n) (hn:n<=1000):ToldOk P18 G18 45 [rowV r n c] (.int .u8 (mnF r (n - 1))):=by
 have hl:LoopOk P18 G18 (A18 45) 45 5 (litS (v45 r n c (r 0) 1) [] (.exit 0) [.int .u8 (mnF r (n - 1))] []):=by
  refine loop_steps hm18 (by kernel_rfl) (fun i=>v45 r n c (mnF r i) (i+1:Nat)) (fun _=>[]) (n:=n - 1) (fun i hi=>?_) ?_
  ·refine Step.mk0 (A:=A18) (m:=0) none_ok rfl rfl loops0 (h1:=[]) ?_ .nil
   have e:mnF r (i+1) = bif decide (r (i+1)<mnF r i) then r (i+1) else mnF r i:=rfl
   rw [e]
   generalize mnF r i = a
   refine Eq.trans (show iterR P18 G18 A18 noneO 0 45 [] 5 (v45 r n c a (i+1:Nat)) [] =
(
 bif decide (Int.ofNat (i+1)<Int.ofNat n) then
 bif decide (0<=Int.ofNat (i+1))&&decide (Int.ofNat (i+1)<Int.ofNat n) then
 some ((.normal,v45 r n c (bif decide (r (i+1)<a) then r (i+1)
 else a) (IntKind.i64.wrap (Int.ofNat (i+1)+(1:Int))),[]))
 else none else
 some ((.exit 0,[.int .u8 a],[]))) from by kernel_rfl) ?_
   (repeat (first | refine BT ?_ | refine BG ?_))
   rw [ofNatE (i+1),wr64 (x:=((i+1:Nat):Int)+1) (by omega) (by omega)]
   rfl
  ·generalize mnF r (n - 1) = a
   rw [show n - 1+1 = n by omega]
   refine Last.mk0 (A:=A18) (m:=0) none_ok rfl rfl loops0 (h1:=[]) (by simp) ?_ .nil
   refine Eq.trans (show iterR P18 G18 A18 noneO 0 45 [] 5 (v45 r n c a (n:Nat)) [] =
(
 bif decide (Int.ofNat n<Int.ofNat n) then
 bif decide (0<=Int.ofNat n)&&decide (Int.ofNat n<Int.ofNat n) then
 some ((.normal,v45 r n c (bif decide (r n<a) then r n
 else a) (IntKind.i64.wrap (Int.ofNat n+1)),[]))
 else none else
 some ((.exit 0,[.int .u8 a],[]))) from by kernel_rfl) ?_
   (repeat (first | refine BT ?_ | refine BG ?_))
   rfl
 generalize mnF r (n - 1) = a at *
 refine stepL_told hm18 hn18 none_ok (A:=A18) (m:=0) (by kernel_rfl) (loops1 hl) ?_
 refine Eq.trans (show stepL P18 G18 A18 noneO 0 45 [(5,litS (v45 r n c (r 0) 1) [] (.exit 0) [.int .u8 a] [])] [rowV r n c] =
(
 bif decide (Int.ofNat n<1) then none else
 bif decide (0<Int.ofNat n) then
 bif weakF (v45 r n c (r (0:Nat)) (1:Int)) [] (v45 r n c (r (0:Nat)) (1:Int)) [] then
 some (.int .u8 a)
 else none else
 none) from by kernel_rfl) ?_
 (repeat (first | refine BT ?_ | refine BG ?_))
 exact bift (weakF_of ⟨rfl,.refl _⟩) rfl
theorem maxT (r:Nat->Int) (n:Nat) (c:Option Nat) (h1:1<=n) (hn:n<=1000):ToldOk P18 G18 46 [rowV r n c] (.int .u8 (mxF r (n - 1))):=by
 have hl:LoopOk P18 G18 (A18 46) 46 5 (litS (v45 r n c (r 0) 1) [] (.exit 0) [.int .u8 (mxF r (n - 1))] []):=by
  refine loop_steps hm18 (by kernel_rfl) (fun i=>v45 r n c (mxF r i) (i+1:Nat)) (fun _=>[]) (n:=n - 1) (fun i hi=>?_) ?_
  ·refine Step.mk0 (A:=A18) (m:=0) none_ok rfl rfl loops0 (h1:=[]) ?_ .nil
   have e:mxF r (i+1) = bif decide (mxF r i<r (i+1)) then r (i+1) else mxF r i:=rfl
   rw [e]
   generalize mxF r i = a
   refine Eq.trans (show iterR P18 G18 A18 noneO 0 46 [] 5 (v45 r n c a (i+1:Nat)) [] =
(
 bif decide (Int.ofNat (i+1)<Int.ofNat n) then
 bif decide (0<=Int.ofNat (i+1))&&decide (Int.ofNat (i+1)<Int.ofNat n) then
 some ((.normal,v45 r n c (bif decide (a<r (i+1)) then r (i+1)
 else a) (IntKind.i64.wrap (Int.ofNat (i+1)+(1:Int))),[]))
 else none else
 some ((.exit 0,[.int .u8 a],[]))) from by kernel_rfl) ?_
   (repeat (first | refine BT ?_ | refine BG ?_))
   rw [ofNatE (i+1),wr64 (x:=((i+1:Nat):Int)+1) (by omega) (by omega)]
   rfl
  ·generalize mxF r (n - 1) = a
   rw [show n - 1+1 = n by omega]
   refine Last.mk0 (A:=A18) (m:=0) none_ok rfl rfl loops0 (h1:=[]) (by simp) ?_ .nil
   refine Eq.trans (show iterR P18 G18 A18 noneO 0 46 [] 5 (v45 r n c a (n:Nat)) [] =
(
 bif decide (Int.ofNat n<Int.ofNat n) then
 bif decide (0<=Int.ofNat n)&&decide (Int.ofNat n<Int.ofNat n) then
 some ((.normal,v45 r n c (bif decide (a<r n) then r n
 else a) (IntKind.i64.wrap (Int.ofNat n+1)),[]))
 else none else
 some ((.exit 0,[.int .u8 a],[]))) from by kernel_rfl) ?_
   (repeat (first | refine BT ?_ | refine BG ?_))
   rfl
 generalize mxF r (n - 1) = a at *
 refine stepL_told hm18 hn18 none_ok (A:=A18) (m:=0) (by kernel_rfl) (loops1 hl) ?_
 refine Eq.trans (show stepL P18 G18 A18 noneO 0 46 [(5,litS (v45 r n c (r 0) 1) [] (.exit 0) [.int .u8 a] [])] [rowV r n c] =
(
 bif decide (Int.ofNat n<1) then none else
 bif decide (0<Int.ofNat n) then
 bif weakF (v45 r n c (r (0:Nat)) (1:Int)) [] (v45 r n c (r (0:Nat)) (1:Int)) [] then
 some (.int .u8 a)
 else none else
 none) from by kernel_rfl) ?_
 (repeat (first | refine BT ?_ | refine BG ?_))
 exact bift (weakF_of ⟨rfl,.refl _⟩) rfl
section
variable (R:Nat->Nat->Int) (n h:Nat) (rc c:Option Nat)
theorem l29a (hn:n<=16) (hh:h<=31):LoopOk P18 G18 (A18 29) 29 4 (litS (v29 R n h rc c 0) [] (.exit 0) [picV R n h rc c,.undef] []):=by
 refine loop_steps hm18 (by kernel_rfl) (fun i=>v29 R n h rc c (i:Nat)) (fun _=>[]) (n:=h) (fun i hi=>?_) ?_
 ·refine Step.mk0 (A:=A18) (m:=0) none_ok rfl rfl loops0 (h1:=[]) ?_ .nil
  refine Eq.trans (show iterR P18 G18 A18 noneO 0 29 [] 4 (v29 R n h rc c i) [] =
(
 bif decide (Int.ofNat i<Int.ofNat h) then
 bif decide (0<=Int.ofNat i)&&decide (Int.ofNat i<Int.ofNat h) then
 bif decide (16<Int.ofNat n) then
 some ((.ret,[picV R n h rc c,.int .i64 3],[]))
 else
 some ((.normal,v29 R n h rc c (IntKind.i64.wrap (Int.ofNat i+1)),[]))
 else none else
 some ((.exit 0,[picV R n h rc c,.undef],[]))) from by kernel_rfl) ?_
  (repeat (first | refine BT ?_ | refine BG ?_))
  rw [ofNatE i,wr64 (x:=(i:Int)+1) (by omega) (by omega)]
  rfl
 ·refine Last.mk0 (A:=A18) (m:=0) none_ok rfl rfl loops0 (h1:=[]) (by simp) ?_ .nil
  refine Eq.trans (show iterR P18 G18 A18 noneO 0 29 [] 4 (v29 R n h rc c h) [] =
(
 bif decide (Int.ofNat h<Int.ofNat h) then
 bif decide (0<=Int.ofNat h)&&decide (Int.ofNat h<Int.ofNat h) then
 bif decide (16<Int.ofNat n) then
 some ((.ret,[picV R n h rc c,.int .i64 3],[]))
 else
 some ((.normal,v29 R n h rc c (IntKind.i64.wrap (Int.ofNat h+1)),[]))
 else none else
 some ((.exit 0,[picV R n h rc c,.undef],[]))) from by kernel_rfl) ?_
  (repeat (first | refine BT ?_ | refine BG ?_))
  rfl
theorem l29b (hn1:1<=n) (hn:n<=16) (hh:h<=31) (hc:∀ i,i<h->∀ j,j<n->1<=R i j/\R i j<=6):LoopOk P18 G18 (A18 29) 29 12 (litS (v29 R n h rc c 0) [] (.exit 2) [picV R n h rc c,.undef] []):=by
 obtain ⟨p,hp⟩:=is_val P18 G18 45
 obtain ⟨q,hq⟩:=is_val P18 G18 46
 refine loop_steps hm18 (by kernel_rfl) (fun i=>v29 R n h rc c (i:Nat)) (fun _=>[]) (n:=h) (fun i hi=>?_) ?_
 ·have t1:=minT (R i) n rc hn1 (by omega)
  have t2:=maxT (R i) n rc hn1 (by omega)
  have g1:=mnF_ge (R i) 1 (n - 1) fun j hj=>(hc i hi j (by omega)).1
  have g2:=mxF_le (R i) 6 (n - 1) fun j hj=>(hc i hi j (by omega)).2
  clear hc
  generalize mnF (R i) (n - 1) = a at *
  generalize mxF (R i) (n - 1) = b at *
  refine Step.mk0 (A:=A18) (K:=K29 p q a b) (m:=0) (told_add (told_add none_ok (callF_told hp)) (callF_told hq)) rfl rfl loops0 (h1:=[]) ?_ .nil
  refine Eq.trans (show iterR P18 G18 A18 (K29 p q a b) 0 29 [] 12 (v29 R n h rc c i) [] =
(
 bif decide (Int.ofNat i<Int.ofNat h) then
 bif decide (0<=Int.ofNat i)&&decide (Int.ofNat i<Int.ofNat h) then
 bif decide (Int.ofNat n = 0) then
 some ((.ret,[picV R n h rc c,.int .i64 1],[]))
 else
 bif decF (p [.view 1 n (fun j=>[.int .u8 (R i j)]) rc] (.int .u8 a)) then
 bif decide (a<1) then
 some ((.ret,[picV R n h rc c,.int .i64 1],[]))
 else
 bif decF (q [.view 1 n (fun j=>[.int .u8 (R i j)]) rc] (.int .u8 b)) then
 bif decide (6<b) then
 some ((.ret,[picV R n h rc c,.int .i64 1],[]))
 else
 some ((.normal,v29 R n h rc c (IntKind.i64.wrap (Int.ofNat i+1)),[]))
 else none else none else none else
 some ((.exit 2,[picV R n h rc c,.undef],[]))) from by kernel_rfl) ?_
  refine BT ?_
  refine BT ?_
  refine BF ?_
  refine bift (callF_yes hp t1) ?_
  refine BF ?_
  refine bift (callF_yes hq t2) ?_
  refine BF ?_
  rw [ofNatE i,wr64 (x:=(i:Int)+1) (by omega) (by omega)]
  rfl
 ·clear hc
  refine Last.mk0 (A:=A18) (m:=0) none_ok rfl rfl loops0 (h1:=[]) (by simp) ?_ .nil
  refine Eq.trans (show iterR P18 G18 A18 noneO 0 29 [] 12 (v29 R n h rc c h) [] =
(
 bif decide (Int.ofNat h<Int.ofNat h) then
 bif decide (0<=Int.ofNat h)&&decide (Int.ofNat h<Int.ofNat h) then
 bif decide (Int.ofNat n = 0) then
 some ((.ret,[picV R n h rc c,.int .i64 1],[]))
 else none else none else
 some ((.exit 2,[picV R n h rc c,.undef],[]))) from by kernel_rfl) ?_
  (repeat (first | refine BT ?_ | refine BG ?_))
  rfl
theorem l29c (hh:h<=31):LoopOk P18 G18 (A18 29) 29 18 (litS (v29 R n h rc c 0) [] (.exit 4) [picV R n h rc c,.undef] []):=by
 refine loop_steps hm18 (by kernel_rfl) (fun i=>v29 R n h rc c (i:Nat)) (fun _=>[]) (n:=h) (fun i hi=>?_) ?_
 ·refine Step.mk0 (A:=A18) (m:=0) none_ok rfl rfl loops0 (h1:=[]) ?_ .nil
  refine Eq.trans (show iterR P18 G18 A18 noneO 0 29 [] 18 (v29 R n h rc c i) [] =
(
 bif decide (Int.ofNat i<Int.ofNat h) then
 bif decide (0<=Int.ofNat i)&&decide (Int.ofNat i<Int.ofNat h) then
 bif decide (0<Int.ofNat h) then
 bif !decide (Int.ofNat n = Int.ofNat n) then
 some ((.ret,[picV R n h rc c,.int .i64 5],[]))
 else
 some ((.normal,v29 R n h rc c (IntKind.i64.wrap (Int.ofNat i+1)),[]))
 else none else none else
 some ((.exit 4,[picV R n h rc c,.undef],[]))) from by kernel_rfl) ?_
  (repeat (first | refine BT ?_ | refine BG ?_))
  refine biff (by simp) ?_
  rw [ofNatE i,wr64 (x:=(i:Int)+1) (by omega) (by omega)]
  rfl
 ·refine Last.mk0 (A:=A18) (m:=0) none_ok rfl rfl loops0 (h1:=[]) (by simp) ?_ .nil
  refine Eq.trans (show iterR P18 G18 A18 noneO 0 29 [] 18 (v29 R n h rc c h) [] =
(
 bif decide (Int.ofNat h<Int.ofNat h) then
 bif decide (0<=Int.ofNat h)&&decide (Int.ofNat h<Int.ofNat h) then
 bif decide (0<Int.ofNat h) then
 bif !decide (Int.ofNat n = Int.ofNat n) then
 some ((.ret,[picV R n h rc c,.int .i64 5],[]))
 else
 some ((.normal,v29 R n h rc c (IntKind.i64.wrap (Int.ofNat h+1)),[]))
 else none else none else
 some ((.exit 4,[picV R n h rc c,.undef],[]))) from by kernel_rfl) ?_
  (repeat (first | refine BT ?_ | refine BG ?_))
  rfl
theorem l29d (hn1:1<=n) (hn:n<=nmax) (hh:h<=31) (hc:∀ i,i<h->∀ j,j<n->1<=R i j/\R i j<=6) (h2:∀ i,i<h->kK (R i) n<=2):LoopOk P18 G18 (A18 29) 29 24 (litS (v29d R n h rc c 0) [] (.exit 6) [.undef] []):=by
 obtain ⟨p,hp⟩:=is_val P18 G18 47
 refine loop_steps hm18 (by kernel_rfl) (fun i=>v29d R n h rc c (i:Nat)) (fun _=>[]) (n:=h) (fun i hi=>?_) ?_
 ·have t1:=kindsT (R i) n rc hn1 hn fun j hj=>by have:=hc i hi j hj; omega
  have g1:=h2 i hi
  clear hc h2
  generalize kK (R i) n = k at *
  generalize csK (R i) n = cs at *
  refine Step.mk0 (A:=A18) (K:=K29k p (.new (rowV cs k none))) (m:=0) (told_add none_ok (callF_told hp)) rfl rfl loops0 (h1:=[]) ?_ .nil
  refine Eq.trans (show iterR P18 G18 A18 (K29k p (.new (rowV cs k none))) 0 29 [] 24 (v29d R n h rc c i) [] =
(
 bif decide (Int.ofNat i<Int.ofNat h) then
 bif decide (0<=Int.ofNat i)&&decide (Int.ofNat i<Int.ofNat h) then
 bif decF (p [.view 1 n (fun j=>[.int .u8 (R i j)]) rc] (rowV cs k
 none).new) then
 bif decide (2<Int.ofNat k) then
 some ((.ret,[.int .i64 14],[]))
 else
 some ((.normal,v29d R n h rc c (IntKind.i64.wrap (Int.ofNat i+1)),[]))
 else none else none else
 some ((.exit 6,[.undef],[]))) from by kernel_rfl) ?_
  refine BT ?_
  refine BT ?_
  refine bift (callF_yes hp t1) ?_
  refine BF ?_
  rw [ofNatE i,wr64 (x:=(i:Int)+1) (by omega) (by omega)]
  rfl
 ·clear hc h2
  refine Last.mk0 (A:=A18) (m:=0) none_ok rfl rfl loops0 (h1:=[]) (by simp) ?_ .nil
  refine Eq.trans (show iterR P18 G18 A18 noneO 0 29 [] 24 (v29d R n h rc c h) [] =
(
 bif decide (Int.ofNat h<Int.ofNat h) then
 bif decide (0<=Int.ofNat h)&&decide (Int.ofNat h<Int.ofNat h) then none else none else
 some ((.exit 6,[.undef],[]))) from by kernel_rfl) ?_
  (repeat (first | refine BT ?_ | refine BG ?_))
  rfl
theorem checkT (ok:PicOk R n h):ToldOk P18 G18 29 [picV R n h rc c] (.int .i64 0):=by
 have hn2:=ok.nm
 unfold nmax at hn2
 have h1:=ok.h1
 have h2:=ok.odd
 refine stepL_told hm18 hn18 none_ok (A:=A18) (m:=0) (by kernel_rfl) (loopsC (l29a R n h rc c (by omega) h1) (loopsC (l29b R n h rc c ok.n1 (by omega) h1 ok.col) (loopsC (l29c R n h rc c h1) (loops1 (l29d R n h rc c ok.n1 ok.nm h1 ok.col ok.two))))) ?_
 refine Eq.trans (show stepL P18 G18 A18 noneO 0 29 [(4,litS (v29 R n h rc c 0) [] (.exit 0) [picV R n h rc c,.undef] []),(12,litS (v29 R n h rc c 0) [] (.exit 2) [picV R n h rc c,.undef] []),(18,litS (v29 R n h rc c 0) [] (.exit 4) [picV R n h rc c,.undef] []),(24,litS (v29d R n h rc c 0) [] (.exit 6) [.undef] [])] [picV R n h rc c] =
(
 bif decide (31<Int.ofNat h) then
 some (.int .i64 3)
 else
 bif weakF (v29 R n h rc c (0:Int)) [] (v29 R n h rc c (0:Int)) [] then
 bif decide ((Int.ofNat h).tmod 2 = 0) then
 some (.int .i64 1)
 else
 bif weakF (v29 R n h rc c (0:Int)) [] (v29 R n h rc c (0:Int)) [] then
 bif weakF (v29 R n h rc c (0:Int)) [] (v29 R n h rc c (0:Int)) [] then
 bif weakF (v29d R n h rc c (0:Int)) [] (v29d R n h rc c (0:Int)) [] then
 some (.int .i64 0)
 else none else none else none else
 none) from by kernel_rfl) ?_
 refine BF ?_
 refine bift (weakF_of ⟨rfl,.refl _⟩) ?_
 refine biff (by
  have e:(Int.ofNat h).tmod 2 = ((h % 2:Nat):Int):=rfl
  rw [e,h2]
  simp) ?_
 refine bift (weakF_of ⟨rfl,.refl _⟩) ?_
 refine bift (weakF_of ⟨rfl,.refl _⟩) ?_
 exact bift (weakF_of ⟨rfl,.refl _⟩) rfl
end
open Go.Proofs
def sumN (N:Nat->Int):Nat->Int
 | 0=>0
 | i+1=>sumN N i+N i
def h14 (h:Nat) (w:Nat->T):Heap:=[⟨0,1,h,fun e=>[w e],false,false,none⟩]
def v14 (R:Nat->Nat->Int) (n h:Nat) (rc c:Option Nat) (most tot i:Int):List T:=[.int .i64 most,.own 0 0 0 h (some h),.int .i64 tot,picV R n h rc c,.int .i64 h,.int .i64 i]
def wrow (n:Nat) (W:Nat->Int):T:=.view 1 n (fun j=>[.int .u8 (W j)]) (some n)
noncomputable def K14 (p:List T->T->Prop) (r:T):Orc:=noneO.add 30 (callF p fun _=>some r)
noncomputable def K14c (p:List T->T->Prop):Orc:=noneO.add 29 (callF p fun _=>some (.int .i64 0))
theorem sumN_bd {N:Nat->Int} {h:Nat} (hN:∀ i,i<h->0<=N i/\N i<=1001):∀ i,i<=h->0<=sumN N i/\sumN N i<=1001 * i
 | 0,_=>by unfold sumN; omega
 | i+1,hi=>by
  have h1:=sumN_bd hN i (by omega)
  have h2:=hN i (by omega)
  unfold sumN
  omega
theorem l14 (R:Nat->Nat->Int) (n h:Nat) (rc c:Option Nat) (most:Int) (W:Nat->Nat->Int) (N:Nat->Int) (hh:h<=31) (hN:∀ i,i<h->0<=N i/\N i<=1001)
 (hW:∀ i,i<h->ToldOk P18 G18 30 [rowV (R i) n rc,.int .i64 most] (.tup [.new (wrow n (W i)),.int .i64 (N i)])) :
 LoopOk P18 G18 (A18 14) 14 9 (litS (v14 R n h rc c most 0 0) (h14 h fun _=>.nils) (.exit 0) [.own 0 0 0 h (some h),.int .i64 (sumN N h)] (h14 h fun e=>wrow n (W e))):=by
 obtain ⟨p,hp⟩:=is_val P18 G18 30
 refine loop_steps hm18 (by kernel_rfl) (fun i=>v14 R n h rc c most (sumN N i) (i:Nat)) (fun i=>h14 h fun e=>bif Nat.blt e i then wrow n (W e) else .nils) (n:=h) (fun i hi=>?_) ?_
 ·have t1:=hW i hi
  have hb:=sumN_bd hN i (by omega)
  have hb2:=hN i hi
  have e:sumN N (i+1) = sumN N i+N i:=rfl
  rw [e]
  obtain ⟨w,hw⟩:∃ w:Nat->T,w = fun e=>bif Nat.blt e i then wrow n (W e) else .nils:=⟨_,rfl⟩
  have ew:(fun e=>bif Nat.blt e (i+1) then wrow n (W e) else .nils) = fun e=>bif e==0+i then wrow n (W i) else w e:=by
   subst hw
   funext e
   show _ = bif e==0+i then wrow n (W i) else (bif Nat.blt e i then wrow n (W e) else .nils)
   rw [Nat.zero_add]
   by_cases q:e = i
   ·subst q; rw [beq_self_eq_true,cond_true,bltT (by omega),cond_true]
   ·rw [show (e==i) = false by simpa using q,cond_false]
    by_cases q2:e<i
    ·rw [bltT q2,bltT (by omega)]
    ·rw [bltF (by omega),bltF (by omega)]
  rw [ew,← hw]
  clear hN hW ew hw
  generalize W i = Wi at *
  generalize sumN N i = tot at *
  generalize N i = a at *
  refine Step.mk0 (A:=A18) (K:=K14 p (.tup [.new (wrow n Wi),.int .i64 a])) (m:=0) (told_add none_ok (callF_told hp)) rfl rfl loops0 (h1:=h14 h fun e=>bif e==0+i then wrow n Wi else w e) ?_ (.refl _)
  refine Eq.trans (show iterR P18 G18 A18 (K14 p (.tup [.new (wrow n Wi),.int .i64 a])) 0 14 [] 9 (v14 R n h rc c most tot i) (h14 h w) =
(
 bif decide (Int.ofNat i<Int.ofNat h) then
 bif decide (0<=Int.ofNat i)&&decide (Int.ofNat i<Int.ofNat h) then
 bif decF (p [rowV (R i) n rc,.int .i64 most] (.tup [(wrow n Wi).new,.int .i64 a])) then
 bif decide (0<=Int.ofNat i)&&decide (Int.ofNat i<Int.ofNat h) then
 bif ((0:Nat)+i).blt h&&[wrow n Wi].length==(1:Nat)&&true&&true then
 some ((.normal,v14 R n h rc c most (IntKind.i64.wrap (tot+a)) (IntKind.i64.wrap (Int.ofNat i+1)),h14 h fun e =>
 bif e==0+i then wrow n Wi
 else w e))
 else none else none else none else none else
 some ((.exit 0,[.own 0 0 0 h (some h),.int .i64 tot],h14 h w))) from by kernel_rfl) ?_
  refine BT ?_
  refine BT ?_
  refine bift (callF_yes hp t1) ?_
  refine BT ?_
  refine BT ?_
  rw [ofNatE i,wr64 (x:=(i:Int)+1) (by omega) (by omega),wr64 (x:=tot+a) (by omega) (by omega)]
  rfl
 ·generalize sumN N h = tot at *
  refine Last.mk0 (A:=A18) (m:=0) none_ok rfl rfl loops0 (h1:=h14 h fun e=>bif Nat.blt e h then wrow n (W e) else .nils) (by simp) ?_ (.cons ⟨rfl,rfl,rfl,id,fun j hj=>?_⟩ .nil)
  ·generalize (fun e=>bif Nat.blt e h then wrow n (W e) else .nils) = w at *
   refine Eq.trans (show iterR P18 G18 A18 noneO 0 14 [] 9 (v14 R n h rc c most tot h) (h14 h w) =
(
 bif decide (Int.ofNat h<Int.ofNat h) then
 bif decide (0<=Int.ofNat h)&&decide (Int.ofNat h<Int.ofNat h) then none else none else
 some ((.exit 0,[.own 0 0 0 h (some h),.int .i64 tot],h14 h w))) from by kernel_rfl) ?_
   (repeat (first | refine BT ?_ | refine BG ?_))
   rfl
  ·show [wrow n (W j)] = [bif Nat.blt j h then wrow n (W j) else .nils]
   rw [bltT hj,cond_true]
theorem WeaveT (R:Nat->Nat->Int) (n h:Nat) (rc c:Option Nat) (most:Int) (W:Nat->Nat->Int) (N:Nat->Int) (ok:PicOk R n h) (hm:1<=most/\most<=16) (hN:∀ i,i<h->0<=N i/\N i<=1001)
 (hW:∀ i,i<h->ToldOk P18 G18 30 [rowV (R i) n rc,.int .i64 most] (.tup [.new (wrow n (W i)),.int .i64 (N i)])) :
 ToldOk P18 G18 14 [picV R n h rc c,.int .i64 most] (.tup [.fresh false 1 h (fun i=>[wrow n (W i)]) h (some h),.int .i64 (sumN N h),.int .i64 0]):=by
 obtain ⟨p,hp⟩:=is_val P18 G18 29
 have h1:=ok.h1
 have t1:=checkT R n h rc c ok
 have hl:=l14 R n h rc c most W N h1 hN hW
 generalize sumN N h = tot at *
 clear hW hN
 refine stepL_told hm18 hn18 (K:=K14c p) (told_add none_ok (callF_told hp)) (A:=A18) (m:=0) (by kernel_rfl) (loops1 hl) ?_
 refine Eq.trans (show stepL P18 G18 A18 (K14c p) 0 14 [(9,litS (v14 R n h rc c most 0 0) (h14 h fun _=>.nils) (.exit 0) [.own 0 0 0 h (some h),.int .i64 tot] (h14 h fun e=>wrow n (W e)))] [picV R n h rc c,.int .i64 most] =
(
 bif decF (p [picV R n h rc c] (.int .i64 0)) then
 bif decide (most<1) then
 some (.tup [.nils,.int .i64 0,.int .i64 1])
 else
 bif decide (16<most) then
 some (.tup [.nils,.int .i64 0,.int .i64 1])
 else
 bif decide (0<=Int.ofNat h)&&decide (Int.ofNat h<=Int.ofNat h)&&decide (Int.ofNat h * 24<=140737488355328)&&decide (Int.ofNat h<=9223372036854775807) then
 bif weakF (v14 R n h rc c most (0:Int) (0:Int)) (h14 h fun e=>.nils) (v14 R n h rc c most (0:Int) (0:Int)) (h14 h fun e=>.nils) then
 some (.tup [bif ((0:Nat)+h).ble h then .fresh false (1:Nat) (h - 0) (fun j=>[wrow n (W (0+j))]) h (some h)
 else .undef,.int .i64 tot,.int .i64 0])
 else none else none else
 none) from by kernel_rfl) ?_
 refine bift (callF_yes hp t1) ?_
 refine BF ?_
 refine BF ?_
 refine BT ?_
 refine bift (weakF_of ⟨rfl,.refl _⟩) ?_
 simp only [Nat.zero_add,Nat.sub_zero,bleT (Nat.le_refl _),cond_true]
 try rfl
open Go.Proofs
section
variable (r:Nat->Int) (n:Nat) (cs:Nat->Int) (k:Nat) (most:Int)
def lkB (f:PS->Int) (a:Nat) (s:PS):Nat->Int
 | 0=>(n:Int)+1
 | i+1=>bif s.ok most (cs i) then (bif decide (f (s.nx (cs i))+chg (r a) (cs i)<lkB f a s i) then f (s.nx (cs i))+chg (r a) (cs i) else lkB f a s i) else lkB f a s i
def lk:Nat->PS->Int
 | 0,_=>0
 | m+1,s=>lkB r n cs most (lk m) (n - (m+1)) s k
end
def Good (r:Nat->Int) (n:Nat) (cs:Nat->Int) (k:Nat) (most:Int) (m:MapD) (a:Nat) (s:PS):Prop:=m.val (s.key a) = lk r n cs k most (n - a) s
theorem b2i_inj {a b:Bool} (h:b2i a = b2i b):a = b:=by
 cases a <;> cases b <;> first | rfl | (simp [b2i] at h)
theorem key_inj {s t:PS} {a b:Int} (h:s.key a = t.key b):a = b/\s = t:=by
 obtain ⟨c,ru,i⟩:=s
 obtain ⟨c2,ru2,i2⟩:=t
 simp only [PS.key,List.cons.injEq,and_true] at h
 obtain ⟨h1,h2,h3,h4⟩:=h
 obtain rfl:=b2i_inj h4
 subst h1 h2 h3
 exact ⟨rfl,rfl⟩
section
variable {r:Nat->Int} {n:Nat} {cs:Nat->Int} {k:Nat} {most:Int}
theorem bestF_lk (val:List Int->Int) (f:PS->Int) (a:Nat) (s:PS):∀ i,(∀ j,j<i->val ((s.nx (cs j)).key ((a:Int)+1)) = f (s.nx (cs j)))->bestF r n cs most val a s.c s.run s.inn i = lkB r n cs most f a s i
 | 0,_=>rfl
 | i+1,h=>by
  have ih:=bestF_lk val f a s i fun j hj=>h j (by omega)
  have hi:=h i (by omega)
  unfold bestF lkB
  rw [ih]
  have e:tryF r most val a s.c s.run s.inn (cs i) = f (s.nx (cs i))+chg (r a) (cs i):=by
   rw [← hi]; rfl
  rw [e]
  rfl
theorem fillM_val (a:Nat) (s:PS) (m:MapD) (l:List Int):(fillM r n cs k most a s.c s.run s.inn m).val l = if l = s.key a then fillZ r n cs k most m.val a s.c s.run s.inn else m.val l:=by
 show (bif keq l [(a:Int),s.c,s.run,b2i s.inn] then fillZ r n cs k most m.val ((a:Int)).toNat s.c s.run s.inn else m.val l) = _
 by_cases q:l = s.key a
 ·rw [if_pos q,q]
  show (bif keq [(a:Int),s.c,s.run,b2i s.inn] [(a:Int),s.c,s.run,b2i s.inn] then _ else _) = _
  rw [keq_self,cond_true]
  rfl
 ·rw [if_neg q,show keq l [(a:Int),s.c,s.run,b2i s.inn] = false from keq_ne q,cond_false]
theorem Good.fill {m:MapD} {a b:Nat} {s t:PS} (ha:a<=n) (h:Good r n cs k most m b t ∨ (b = a/\t = s)) (hs:a<n->∀ j,j<k->Good r n cs k most m (a+1) (s.nx (cs j))):Good r n cs k most (fillM r n cs k most a s.c s.run s.inn m) b t:=by
 unfold Good
 rw [fillM_val]
 by_cases q:t.key b = s.key a
 ·rw [if_pos q]
  obtain ⟨q1,rfl⟩:=key_inj q
  obtain rfl:b = a:=by omega
  unfold fillZ
  by_cases q2:b = n
  ·subst q2
   rw [if_pos rfl,Nat.sub_self]
   rfl
  ·rw [if_neg q2]
   obtain ⟨m',hm'⟩:∃ m',n - b = m'+1:=⟨n - b - 1,by omega⟩
   rw [hm',bestF_lk (f:=lk r n cs k most m') m.val b t k fun j hj=>?_]
   ·show _ = lkB r n cs most (lk r n cs k most m') (n - (m'+1)) t k
    rw [show n - (m'+1) = b by omega]
   ·have:=hs (by omega) j hj
    unfold Good at this
    rw [show n - (b+1) = m' by omega] at this
    rw [← this]
    rfl
 ·rw [if_neg q]
  rcases h with h | ⟨rfl,rfl⟩
  ·exact h
  ·exact absurd rfl q
def Pl (cs:Nat->Int) (k a:Nat) (s:PS):Prop:=∃ i j,i<k/\1<=j/\j<=a/\s.c = cs i/\s.run = ((j:Nat):Int)
theorem fold1_good {m:MapD} {a j:Nat} (ha:a<=n) (hs:a<n->∀ i b,i<k->∀ e,e<k->Good r n cs k most m (a+1) (PS.nx ⟨cs i,(j:Nat),b⟩ (cs e))):∀ i,i<=k->(∀ b t,Good r n cs k most m b t->Good r n cs k most (fold1 (fillM r n cs k most) cs a j m i) b t)/\∀ i',i'<i->∀ b,Good r n cs k most (fold1 (fillM r n cs k most) cs a j m i) a ⟨cs i',(j:Nat),b⟩
 | 0,_=>⟨fun _ _ h=>h,fun i' h=>by omega⟩
 | i+1,hi=>by
  obtain ⟨h1,h2⟩:=fold1_good ha hs i (by omega)
  have s1:a<n->∀ e,e<k->Good r n cs k most (fold1 (fillM r n cs k most) cs a j m i) (a+1) (PS.nx ⟨cs i,(j:Nat),false⟩ (cs e)):=fun q e he=>h1 _ _ (hs q i false (by omega) e he)
  have f1:∀ b t,(Good r n cs k most (fold1 (fillM r n cs k most) cs a j m i) b t ∨ (b = a/\t = ⟨cs i,(j:Nat),false⟩))->Good r n cs k most (fillM r n cs k most a (cs i) (j:Nat) false (fold1 (fillM r n cs k most) cs a j m i)) b t:=fun b t h=>Good.fill (s:=⟨cs i,(j:Nat),false⟩) ha h s1
  have s2:a<n->∀ e,e<k->Good r n cs k most (fillM r n cs k most a (cs i) (j:Nat) false (fold1 (fillM r n cs k most) cs a j m i)) (a+1) (PS.nx ⟨cs i,(j:Nat),true⟩ (cs e)):=fun q e he=>f1 _ _ (.inl (h1 _ _ (hs q i true (by omega) e he)))
  have f2:∀ b t,(Good r n cs k most (fold1 (fillM r n cs k most) cs a j m i) b t ∨ (b = a/\t = ⟨cs i,(j:Nat),false⟩) ∨ (b = a/\t = ⟨cs i,(j:Nat),true⟩))->Good r n cs k most (fold1 (fillM r n cs k most) cs a j m (i+1)) b t:=fun b t h =>
   Good.fill (s:=⟨cs i,(j:Nat),true⟩) ha (h.elim (fun h=>.inl (f1 b t (.inl h))) fun h=>h.elim (fun h=>.inl (f1 b t (.inr h))) .inr) s2
  refine ⟨fun b t h=>f2 b t (.inl (h1 b t h)),fun i' hi' b=>?_⟩
  by_cases q:i' = i
  ·subst q
   cases b
   ·exact f2 _ _ (.inr (.inl ⟨rfl,rfl⟩))
   ·exact f2 _ _ (.inr (.inr ⟨rfl,rfl⟩))
  ·exact f2 _ _ (.inl (h2 i' (by omega) b))
theorem nx_pl {a i j e:Nat} (hi:i<k) (he:e<k) (h1:1<=j) (hj:j<=a) (b:Bool):Pl cs k (a+1) (PS.nx ⟨cs i,(j:Nat),b⟩ (cs e)):=by
 unfold PS.nx
 dsimp only
 unfold nK
 rw [decide_eq_false (show ¬ ((j:Int) = 0) by omega),cond_false]
 by_cases q:cs i = cs e
 ·rw [decide_eq_true q,cond_true]
  exact ⟨e,j+1,he,by omega,by omega,rfl,by show (j:Int)+1 = ((j+1:Nat):Int); omega⟩
 ·rw [decide_eq_false q,cond_false]
  exact ⟨e,1,he,by omega,by omega,rfl,rfl⟩
theorem fold2_good {m:MapD} {a:Nat} (ha:a<=n) (hs:a<n->∀ s,Pl cs k (a+1) s->Good r n cs k most m (a+1) s):∀ j,j<=a->(∀ b t,Good r n cs k most m b t->Good r n cs k most (fold2 (fillM r n cs k most) cs k a m j) b t)/\∀ j',1<=j'->j'<=j->∀ i,i<k->∀ b,Good r n cs k most (fold2 (fillM r n cs k most) cs k a m j) a ⟨cs i,(j':Nat),b⟩
 | 0,_=>⟨fun _ _ h=>h,fun j' h1 h2=>by omega⟩
 | j+1,hj=>by
  obtain ⟨h1,h2⟩:=fold2_good ha hs j (by omega)
  obtain ⟨g1,g2⟩:=fold1_good (m:=fold2 (fillM r n cs k most) cs k a m j) (j:=j+1) ha (fun q i b hi e he=>h1 _ _ (hs q _ (nx_pl hi he (by omega) (by omega) b))) k (Nat.le_refl _)
  refine ⟨fun b t h=>g1 b t (h1 b t h),fun j' q1 q2 i hi b=>?_⟩
  by_cases q:j' = j+1
  ·subst q; exact g2 i hi b
  ·exact g1 _ _ (h2 j' q1 (by omega) i hi b)
theorem fold3_good:∀ i,i<=n->∀ a,n - i<a->a<=n->∀ s,Pl cs k a s->Good r n cs k most (fold3 (fillM r n cs k most) cs k n i) a s
 | 0,_,a,h1,h2,s,_=>by omega
 | i+1,hi,a,h1,h2,s,hp=>by
  have ih:=fold3_good i (by omega)
  obtain ⟨g1,g2⟩:=fold2_good (m:=fold3 (fillM r n cs k most) cs k n i) (a:=n - i) (by omega) (fun q s hp=>ih (n - i+1) (by omega) (by omega) s hp) (n - i) (Nat.le_refl _)
  by_cases q:a = n - i
  ·obtain ⟨c,j,hc,hj1,hj2,e1,e2⟩:=hp
   obtain ⟨sc,sr,sb⟩:=s
   dsimp only at e1 e2
   subst e1 e2
   rw [q]
   exact g2 j hj1 (by omega) c hc sb
  ·exact g1 _ _ (ih a (by omega) h2 s hp)
theorem least_good {a:Nat} {s:PS} (h1:1<=n) (ha:a<=n) (h:Pl cs k a s ∨ (a = 0/\s = ⟨0,0,false⟩)):Good r n cs k most (leastM r n cs k most) a s:=by
 have g:=fold3_good (r:=r) (n:=n) (cs:=cs) (k:=k) (most:=most) n (Nat.le_refl _)
 refine Good.fill (a:=0) (s:=⟨0,0,false⟩) (Nat.zero_le _) ?_ fun _ j hj=>?_
 ·rcases h with h | h
  ·obtain ⟨c,j,hc,hj1,hj2,e1,e2⟩:=h
   exact .inl (g a (by omega) ha s ⟨c,j,hc,hj1,hj2,e1,e2⟩)
  ·exact .inr h
 ·refine g 1 (by omega) h1 _ ⟨j,1,hj,Nat.le_refl _,Nat.le_refl _,rfl,?_⟩
  rfl
end
open Go.Proofs
def PlS (cs:Nat->Int) (k a:Nat) (s:PS):Prop:=Pl cs k a s ∨ (a = 0/\s = ⟨0,0,false⟩)
section
variable (r:Nat->Int) (n:Nat) (cs:Nat->Int) (k:Nat) (most:Int)
def tstL (i:Nat) (s:PS) (d:Int):Bool:=s.ok most d&&decide (lk r n cs k most (n - (i+1)) (s.nx d)+chg (r i) d = lk r n cs k most (n - i) s)
def psCL (i:Nat) (s:PS):Nat:=fnd (fun j=>tstL r n cs k most i s (cs j)) k 0
def psL:Nat->PS
 | 0=>⟨0,0,false⟩
 | i+1=>(psL i).nx (cs (psCL r n cs k most i (psL i)))
def wvL (i:Nat):Int:=(psL r n cs k most (i+1)).c
end
section
variable {r:Nat->Int} {n:Nat} {cs:Nat->Int} {k:Nat} {most:Int}
theorem PlS.ok {a:Nat} {s:PS} (hk:1<=k) (h:PlS cs k a s):∃ j,j<k/\s.ok most (cs j) = true:=by
 rcases h with ⟨i,j,hi,hj1,hj2,e1,e2⟩ | ⟨rfl,rfl⟩
 ·refine ⟨i,hi,?_⟩
  unfold PS.ok nO
  rw [e2,decide_eq_false (show ¬ ((j:Int) = 0) by omega),cond_false,decide_eq_true e1,cond_true]
 ·exact ⟨0,hk,rfl⟩
theorem PlS.nx {a e:Nat} {s:PS} (he:e<k) (h:PlS cs k a s):Pl cs k (a+1) (s.nx (cs e)):=by
 rcases h with ⟨i,j,hi,hj1,hj2,e1,e2⟩ | ⟨rfl,rfl⟩
 ·obtain ⟨c,ru,b⟩:=s
  dsimp only at e1 e2
  subst e1 e2
  exact nx_pl hi he hj1 hj2 b
 ·exact ⟨e,1,he,Nat.le_refl _,Nat.le_refl _,rfl,rfl⟩
theorem lkB_le (f:PS->Int) (a:Nat) (s:PS):∀ i j,j<i->s.ok most (cs j) = true->lkB r n cs most f a s i<=f (s.nx (cs j))+chg (r a) (cs j)
 | i+1,j,hj,ho=>by
  unfold lkB
  have ih:=lkB_le f a s i
  by_cases q:j = i
  ·subst q
   rw [ho,cond_true]
   by_cases q2:f (s.nx (cs j))+chg (r a) (cs j)<lkB r n cs most f a s j
   ·rw [decide_eq_true q2,cond_true]; exact Int.le_refl _
   ·rw [decide_eq_false q2,cond_false]; omega
  ·have:=ih j (by omega) ho
   cases s.ok most (cs i)
   ·exact this
   ·rw [cond_true]
    by_cases q2:f (s.nx (cs i))+chg (r a) (cs i)<lkB r n cs most f a s i
    ·rw [decide_eq_true q2,cond_true]; omega
    ·rw [decide_eq_false q2,cond_false]; exact this
theorem lkB_at (f:PS->Int) (a:Nat) (s:PS):∀ i,lkB r n cs most f a s i = (n:Int)+1 ∨ ∃ j,j<i/\s.ok most (cs j) = true/\f (s.nx (cs j))+chg (r a) (cs j) = lkB r n cs most f a s i
 | 0=>.inl rfl
 | i+1=>by
  have ih:=lkB_at f a s i
  have key:lkB r n cs most f a s i = (n:Int)+1 ∨ ∃ j,j<i+1/\s.ok most (cs j) = true/\f (s.nx (cs j))+chg (r a) (cs j) = lkB r n cs most f a s i:=by
   rcases ih with h | ⟨j,h1,h2,h3⟩
   ·exact .inl h
   ·exact .inr ⟨j,by omega,h2,h3⟩
  unfold lkB
  cases q:s.ok most (cs i)
  ·exact key
  ·rw [cond_true]
   by_cases q2:f (s.nx (cs i))+chg (r a) (cs i)<lkB r n cs most f a s i
   ·rw [decide_eq_true q2,cond_true]; exact .inr ⟨i,by omega,q,rfl⟩
   ·rw [decide_eq_false q2,cond_false]; exact key
theorem lk_le (hk:1<=k):∀ m a s,a+m = n->PlS cs k a s->lk r n cs k most m s<=m
 | 0,_,_,_,_=>Int.le_refl _
 | m+1,a,s,ha,h=>by
  obtain ⟨j,hj,ho⟩:=h.ok (most:=most) hk
  have h1:=lk_le hk m (a+1) (s.nx (cs j)) (by omega) (.inl (h.nx hj))
  have h2:=lkB_le (r:=r) (n:=n) (lk r n cs k most m) (n - (m+1)) s k j hj ho
  have h3:=chg_bd (r (n - (m+1))) (cs j)
  show lkB r n cs most (lk r n cs k most m) (n - (m+1)) s k<=_
  omega
theorem lk_at (hk:1<=k) {m a:Nat} {s:PS} (ha:a+(m+1) = n) (h:PlS cs k a s):∃ j,j<k/\s.ok most (cs j) = true/\lk r n cs k most m (s.nx (cs j))+chg (r a) (cs j) = lk r n cs k most (m+1) s:=by
 have h1:=lk_le (r:=r) (most:=most) hk (m+1) a s ha h
 have h2:=lkB_at (r:=r) (n:=n) (cs:=cs) (most:=most) (lk r n cs k most m) a s k
 have e:n - (m+1) = a:=by omega
 show ∃ j,j<k/\s.ok most (cs j) = true/\lk r n cs k most m (s.nx (cs j))+chg (r a) (cs j) = lkB r n cs most (lk r n cs k most m) (n - (m+1)) s k
 rw [e]
 rcases h2 with h2 | h2
 ·exfalso
  change lkB r n cs most (lk r n cs k most m) (n - (m+1)) s k<=_ at h1
  rw [e,h2] at h1
  omega
 ·exact h2
theorem fnd_lt {t:Nat->Bool} {m j:Nat} (h:∃ i,j<=i/\i<j+m/\t i = true):fnd t m j<j+m:=by
 obtain ⟨i,h1,h2,h3⟩:=h
 have:=fnd_ge t m j
 rcases Nat.lt_or_ge (fnd t m j) (j+m) with q | q
 ·exact q
 ·have:=fnd_ne t m j i h1 (by omega)
  rw [h3] at this; cases this
theorem psCL_lt (hk:1<=k) {i:Nat} {s:PS} (hi:i<n) (h:PlS cs k i s):psCL r n cs k most i s<k:=by
 obtain ⟨m,hm⟩:∃ m,n = i+(m+1):=⟨n - i - 1,by omega⟩
 obtain ⟨j,hj,ho,he⟩:=lk_at (r:=r) (most:=most) hk hm.symm h
 have:=@fnd_lt (fun j=>tstL r n cs k most i s (cs j)) k 0 ⟨j,Nat.zero_le _,by omega,by
  unfold tstL
  rw [ho,Bool.true_and,decide_eq_true_eq,show n - (i+1) = m by omega,show n - i = m+1 by omega]
  exact he⟩
 unfold psCL
 omega
theorem psL_pl (hk:1<=k):∀ i,i<=n->PlS cs k i (psL r n cs k most i)
 | 0,_=>.inr ⟨rfl,rfl⟩
 | i+1,hi=>by
  have ih:=psL_pl hk i (by omega)
  exact .inl (ih.nx (psCL_lt hk (by omega) ih))
theorem tst_L (h1:1<=n) (hk:1<=k) {i j:Nat} {s:PS} (hi:i<n) (hj:j<k) (h:PlS cs k i s):tst r most (leastM r n cs k most).val i s (cs j) = tstL r n cs k most i s (cs j):=by
 have g1:=least_good (r:=r) (most:=most) h1 (Nat.le_of_lt hi) h
 have g2:=least_good (r:=r) (most:=most) (a:=i+1) h1 hi (.inl (h.nx hj))
 unfold Good at g1 g2
 unfold tst tstL
 rw [show ((i:Int)+1) = ((i+1:Nat):Int) by omega,g1,g2]
theorem fnd_congr {t u:Nat->Bool}:∀ {m j:Nat},(∀ i,j<=i->i<j+m->t i = u i)->fnd t m j = fnd u m j
 | 0,_,_=>rfl
 | m+1,j,h=>by
  unfold fnd
  rw [h j (Nat.le_refl _) (by omega),fnd_congr (fun i h1 h2=>h i (by omega) (by omega))]
theorem psC_L (h1:1<=n) (hk:1<=k) {i:Nat} {s:PS} (hi:i<n) (h:PlS cs k i s):psC r cs k most (leastM r n cs k most).val i s = psCL r n cs k most i s:=by
 unfold psC psCL
 exact fnd_congr fun j _ hj=>tst_L h1 hk hi (by omega) h
theorem psT_L (h1:1<=n) (hk:1<=k):∀ i,i<=n->psT r cs k most (leastM r n cs k most).val i = psL r n cs k most i
 | 0,_=>rfl
 | i+1,hi=>by
  have ih:=psT_L h1 hk i (by omega)
  unfold psT psL
  rw [ih,psC_L h1 hk (by omega) (psL_pl hk i (by omega))]
theorem wvn_L (h1:1<=n) (hk:1<=k) {i:Nat} (hi:i<n):wvn r cs k most (leastM r n cs k most).val i = wvL r n cs k most i:=by
 unfold wvn wvL
 rw [psT_L h1 hk (i+1) (by omega)]
theorem least_L (h1:1<=n):(leastM r n cs k most).val [0,0,0,0] = lk r n cs k most n ⟨0,0,false⟩:=least_good (r:=r) (most:=most) (a:=0) h1 (Nat.zero_le _) (.inr ⟨rfl,rfl⟩)
theorem found_L (h1:1<=n) (hk:1<=k) (i:Nat) (hi:i<n):psC r cs k most (leastM r n cs k most).val i (psT r cs k most (leastM r n cs k most).val i)<k:=by
 rw [psT_L h1 hk i (by omega),psC_L h1 hk hi (psL_pl hk i (by omega))]
 exact psCL_lt hk hi (psL_pl hk i (by omega))
end
theorem weaveT (r:Nat->Int) (n:Nat) (c:Option Nat) (most:Int) (h1:1<=n) (hn:n<=nmax) (hr:∀ j,j<n->0<=r j/\r j<256) :
 ToldOk P18 G18 30 [rowV r n c,.int .i64 most] (.tup [.new (wrow n (wvL r n (csK r n) (kK r n) most)),.int .i64 (lk r n (csK r n) (kK r n) most n ⟨0,0,false⟩)]):=by
 have hn2:=hn
 unfold nmax at hn2
 have hk:1<=kK r n:=by
  obtain ⟨j,_,h2,_⟩:=(csK_mem hr (r 0)).2 ⟨0,Nat.le_refl _,h1,rfl⟩
  omega
 have hk2:kK r n<=256:=by
  unfold kK kindL
  refine Nat.le_trans (List.length_filter_le _ _) ?_
  simp
 have t:=(weave1T r n c (csK r n) (kK r n) none most (by omega) (by omega) (kindsT r n c h1 hn hr) (found_L h1 hk)).frz
 rw [least_L h1] at t
 refine ToldOk.tupTo t (.cons (.new (.view (.inl rfl) fun j hj=>?_)) (.cons (.refl _) .nil))
 show Sims [T.int .u8 (wvn r (csK r n) (kK r n) most (leastM r n (csK r n) (kK r n) most).val j)] [T.int .u8 (wvL r n (csK r n) (kK r n) most j)]
 rw [wvn_L h1 hk hj]
 exact .refl _
open Go.Proofs
def wb (lo hi:Int) (n b j:Nat):Int:=if b.testBit (n - 1 - j) = true then hi else lo
section
variable {r:Nat->Int} {n:Nat} {cs:Nat->Int} {most:Int}
def Fol (r:Nat->Int) (n:Nat) (cs:Nat->Int) (most:Int) (w:Nat->Int):Nat->Nat->PS->Prop
 | 0,_,_=>True
 | m+1,a,s=>w a = cs (psCL r n cs 2 most a s)/\Fol r n cs most w m (a+1) (s.nx (w a))
theorem Fol.congr {w v:Nat->Int}:∀ {m a:Nat} {s:PS},(∀ j,a<=j->j<a+m->w j = v j)->Fol r n cs most v m a s->Fol r n cs most w m a s
 | 0,_,_,_,_=>trivial
 | m+1,a,s,h,hf=>by
  have e:=h a (Nat.le_refl _) (by omega)
  refine ⟨e.trans hf.1,?_⟩
  rw [e]
  exact Fol.congr (fun j h1 h2=>h j (by omega) (by omega)) hf.2
end
open Go.Proofs
def stW (w:Nat->Int):Nat->PS
 | 0=>⟨0,0,false⟩
 | p+1=>(stW w p).nx (w p)
structure StI (w:Nat->Int) (p:Nat) (R:Nat):Prop where
 c:(stW w p).c = w (p - 1)
 run:(stW w p).run = R
 r1:1<=R
 rp:R<=p
 same:∀ j,p - R<=j->j<p->w j = w (p - 1)
 inn:(R = p/\(stW w p).inn = false) ∨ (R<p/\w (p - R - 1) ≠ w (p - 1)/\(stW w p).inn = true)
open Go.Proofs
def litR (l:List Int) (j:Nat):Int:=l.getD j 0
def flT (l:List (List T)):T:=.new (.view 3 l.length (fun j=>l.getD j []) (some l.length))
def cellIs (x:List T) (v:Int):Bool:=match x with
 | [.int .u8 y]=>decide (y = v)
 | _=>false
def chkRow (g:Nat->List T) (l:List Int):Bool:=(List.range l.length).all fun j=>cellIs (g j) (litR l j)
def exA:List (List T):=[[.int .u8 1,.int .i64 1,.int .i64 2],[.int .u8 2,.int .i64 3,.int .i64 2]]
def exB:List (List T):=[[.int .u8 1,.int .i64 1,.int .i64 2]]
def floS:List T->Tree
 | [.view 1 6 g _]=>.ite (chkRow g [1,2,2,1,1,2]) (.ret (flT exA)) .none
 | [.view 1 4 g _]=>.ite (chkRow g [1,2,3,1]) (.ret (flT exB)) (.ite (chkRow g [1,1,2,2]) (.ret (flT [])) .none)
 | _=>.none
def weaveR (n:Nat) (l:List Int) (tot:Int):T:=.tup [.fresh false 1 1 (fun _=>[wrow n (litR l)]) 1 (some 1),.int .i64 tot,.int .i64 0]
def wevS:List T->Tree
 | [.view 1 1 G _,.int .i64 m]=>match G 0 with
  | [.view 1 5 g _]=>.ite (chkRow g [1,2,2,2,1]&&decide (m = 2)) (.ret (weaveR 5 [1,1,2,2,1] 1)) .none
  | [.view 1 7 g _]=>.ite (chkRow g [1,2,2,2,2,2,1]&&decide (m = 2)) (.ret (weaveR 7 [1,2,2,1,2,2,1] 1)) .none
  | [.view 1 4 g _]=>.ite (chkRow g [1,2,2,2]&&decide (m = 1)) (.ret (weaveR 4 [1,2,2,2] 0)) .none
  | _=>.none
 | _=>.none
noncomputable def K12:Orc:=(noneO.add 10 floS).add 14 wevS
theorem lives_run:stepV P18 G18 A18 K12 4 12 [] = some (.bool true):=by kernel_rfl
theorem chk_row {g:Nat->List T} {l:List Int} (h:chkRow g l = true) {j:Nat} (hj:j<l.length):g j = [.int .u8 (litR l j)]:=by
 have:=List.all_eq_true.1 h j (List.mem_range.2 hj)
 revert this
 generalize g j = x
 intro this
 unfold cellIs at this
 split at this
 ·rw [of_decide_eq_true this]
 ·cases this
theorem row_sim {g:Nat->List T} {l:List Int} {n:Nat} {c:Option Nat} (h:chkRow g l = true) (hn:n = l.length):Sim (.view 1 n g c) (rowV (litR l) n c):=by
 subst hn
 refine .view (.inl rfl) fun j hj=>?_
 rw [chk_row h hj]
 exact .refl _
theorem flo1 {g:Nat->List T} {n:Nat} {c:Option Nat} (l:List Int) (e:List (List T)) (hl:n = l.length) (hn:n<=60) (hr:∀ j,j<n->0<=litR l j/\litR l j<256) (he:(fl (litR l) n n).length = e.length) (hg:∀ j,j<e.length->flG (litR l) n j = e.getD j [])
 (h:chkRow g l = true):ToldOk P18 G18 10 [.view 1 n g c] (flT e):=by
 have t:=(floatsT (litR l) n c (by omega) hr).sim (args:=[.view 1 n g c]) (.cons (row_sim h hl) .nil)
 rw [he] at t
 refine t.resTo (.new (.view (.inl rfl) fun j hj=>?_))
 rw [hg j hj]
 exact .refl _
theorem lit_ok {l:List Int} {n:Nat} (h:(List.range n).all (fun j=>decide (1<=litR l j)&&decide (litR l j<=6)) = true) {j:Nat} (hj:j<n):1<=litR l j/\litR l j<=6:=by
 have:=List.all_eq_true.1 h j (List.mem_range.2 hj)
 simp only [Bool.and_eq_true,decide_eq_true_eq] at this
 exact this
theorem all_lt {p:Nat->Prop} {n:Nat} [DecidablePred p] (h:(List.range n).all (fun j=>decide (p j)) = true) (j:Nat) (hj:j<n):p j:=of_decide_eq_true (List.all_eq_true.1 h j (List.mem_range.2 hj))
theorem floT {args:List T} {r:T} (h:(floS args).run some = some r):ToldOk P18 G18 10 args r:=by
 unfold floS at h
 split at h
 ·simp only [Tree.run] at h
  obtain ⟨h1,h⟩:=bif_none h
  obtain rfl:=Option.some.inj h
  refine flo1 [1,2,2,1,1,2] exA rfl (by omega) (fun j hj=>?_) (by decide +kernel) (fun j hj=>?_) h1
  ·have:=lit_ok (l:=[1,2,2,1,1,2]) (n:=6) (by decide +kernel) hj
   omega
  ·have:j<2:=hj
   obtain rfl | rfl:j = 0 ∨ j = 1:=by omega
   ·exact (show flG (litR [1,2,2,1,1,2]) 6 0 = exA.getD 0 [] from by kernel_rfl)
   ·exact (show flG (litR [1,2,2,1,1,2]) 6 1 = exA.getD 1 [] from by kernel_rfl)
 ·simp only [Tree.run] at h
  rename_i g c
  cases q:chkRow g [1,2,3,1]
  ·rw [q] at h
   obtain ⟨h1,h⟩:=bif_none h
   obtain rfl:=Option.some.inj h
   refine flo1 [1,1,2,2] [] rfl (by omega) (fun j hj=>?_) (by decide +kernel) (fun j hj=>by cases hj) h1
   have:=lit_ok (l:=[1,1,2,2]) (n:=4) (by decide +kernel) hj
   omega
  ·rw [q] at h
   obtain rfl:=Option.some.inj h
   refine flo1 [1,2,3,1] exB rfl (by omega) (fun j hj=>?_) (by decide +kernel) (fun j hj=>?_) q
   ·have:=lit_ok (l:=[1,2,3,1]) (n:=4) (by decide +kernel) hj
    omega
   ·have:j<1:=hj
    obtain rfl:j = 0:=by omega
    exact (show flG (litR [1,2,3,1]) 4 0 = exB.getD 0 [] from by kernel_rfl)
 ·cases h
theorem wev1 {G:Nat->List T} {g:Nat->List T} {n:Nat} {rc c:Option Nat} (l e cl:List Int) (most tot:Int) (hG:G 0 = [.view 1 n g rc]) (hl:n = l.length) (hn1:1<=n) (hn:n<=nmax) (hm:1<=most/\most<=16)
 (hr:∀ j,j<n->1<=litR l j/\litR l j<=6) (hk:kindL (litR l) n = cl) (hk2:cl.length<=2) (hw:∀ j,j<n->wvL (litR l) n (fun j=>cl.getD j 0) cl.length most j = litR e j) (ht:lk (litR l) n (fun j=>cl.getD j 0) cl.length most n ⟨0,0,false⟩ = tot) (htb:0<=tot/\tot<=1000)
 (h:chkRow g l = true):ToldOk P18 G18 14 [.view 1 1 G c,.int .i64 most] (weaveR n e tot):=by
 have hk3:kK (litR l) n = cl.length:=by unfold kK; rw [hk]
 have hc3:csK (litR l) n = fun j=>cl.getD j 0:=by funext j; unfold csK; rw [hk]
 have t:=weaveT (litR l) n rc most hn1 hn fun j hj=>by have:=hr j hj; omega
 rw [hk3,hc3,ht] at t
 have t2:ToldOk P18 G18 30 [rowV (litR l) n rc,.int .i64 most] (.tup [.new (wrow n (litR e)),.int .i64 tot]):=by
  refine ToldOk.tupTo t (.cons (.new (.view (.inl rfl) fun j hj=>?_)) (.cons (.refl _) .nil))
  rw [hw j hj]
  exact .refl _
 have ok:PicOk (fun _=>litR l) n 1:=⟨hn1,hn,by omega,rfl,fun i _=>hr,fun i _=>by rw [hk3]; exact hk2⟩
 have t3:=WeaveT (fun _=>litR l) n 1 rc c most (fun _=>litR e) (fun _=>tot) ok hm (fun i _=>by omega) fun i _=>t2
 rw [show sumN (fun _=>tot) 1 = tot by simp [sumN]] at t3
 refine t3.sim (.cons (.view (.inl rfl) fun j hj=>?_) (.cons (.refl _) .nil))
 have hj:j<1:=hj
 obtain rfl:j = 0:=by omega
 rw [hG]
 exact .cons (row_sim h hl) .nil
theorem wevT {args:List T} {r:T} (h:(wevS args).run some = some r):ToldOk P18 G18 14 args r:=by
 unfold wevS at h
 split at h
 ·split at h
  ·rename_i hG
   simp only [Tree.run] at h
   obtain ⟨h1,h⟩:=bif_none h
   obtain rfl:=Option.some.inj h
   simp only [Bool.and_eq_true,decide_eq_true_eq] at h1
   obtain ⟨h1,rfl⟩:=h1
   exact wev1 [1,2,2,2,1] [1,1,2,2,1] [1,2] 2 1 hG rfl (by omega) (by unfold nmax; omega) (by omega) (fun j hj=>lit_ok (n:=5) (by decide +kernel) hj) (by decide +kernel) (by decide) (all_lt (by decide +kernel)) (by decide +kernel) (by omega) h1
  ·rename_i hG
   simp only [Tree.run] at h
   obtain ⟨h1,h⟩:=bif_none h
   obtain rfl:=Option.some.inj h
   simp only [Bool.and_eq_true,decide_eq_true_eq] at h1
   obtain ⟨h1,rfl⟩:=h1
   exact wev1 [1,2,2,2,2,2,1] [1,2,2,1,2,2,1] [1,2] 2 1 hG rfl (by omega) (by unfold nmax; omega) (by omega) (fun j hj=>lit_ok (n:=7) (by decide +kernel) hj) (by decide +kernel) (by decide) (all_lt (by decide +kernel)) (by decide +kernel) (by omega) h1
  ·rename_i hG
   simp only [Tree.run] at h
   obtain ⟨h1,h⟩:=bif_none h
   obtain rfl:=Option.some.inj h
   simp only [Bool.and_eq_true,decide_eq_true_eq] at h1
   obtain ⟨h1,rfl⟩:=h1
   exact wev1 [1,2,2,2] [1,2,2,2] [1,2] 1 0 hG rfl (by omega) (by unfold nmax; omega) (by omega) (fun j hj=>lit_ok (n:=4) (by decide +kernel) hj) (by decide +kernel) (by decide) (all_lt (by decide +kernel)) (by decide +kernel) (by omega) h1
  ·cases h
 ·cases h
theorem livesT:ToldOk P18 G18 12 [] (.bool true):=stepV_told hm18 hn18 (told_add (told_add none_ok fun _ _=>floT) fun _ _=>wevT) lives_run
open Go.Proofs
def v3 (a b d:Nat->Int) (m:Nat) (i:Int):List T:=[.view 3 m (fun j=>[.int .u8 (a j),.int .i64 (b j),.int .i64 (d j)]) (some m),.view 3 m (fun j=>[.int .u8 (a j),.int .i64 (b j),.int .i64 (d j)]) none,.int .i64 i]
open Go.Proofs
structure IR where
 wd:Int
 m:Nat
 ln:Nat->Nat
 x:Nat->Nat->Int
def IR.rows (D:IR) (c:Option Nat):T:=.view 1 D.m (fun i=>[rowV (D.x i) (D.ln i) none]) c
def IR.w (D:IR):Nat:=1+(D.wd % 10).toNat
def pairA (v:Int):Int:=if v<64 then 1 else if v<128 then 1 else if v<192 then 2 else 5
def pairB (v:Int):Int:=if v<64 then 2 else if v<128 then 3 else if v<192 then 3 else 4
def IR.pA (D:IR) (i:Nat):Int:=if i<D.m/\0<D.ln i then pairA (D.x i 0) else 1
def IR.pB (D:IR) (i:Nat):Int:=if i<D.m/\0<D.ln i then pairB (D.x i 0) else 2
def IR.r (D:IR) (i k:Nat):Int:=if i<D.m/\k<D.ln i then (if D.x i k % 2 = 0 then D.pA i else D.pB i) else D.pA i
def v13 (D:IR) (w n:Nat) (p:T) (i:Nat) (a b:Int) (row:T) (k:Int):List T:=[.reg [.int .u8 D.wd,D.rows none],.int .i64 w,.int .i64 n,p,.int .i64 i,.reg [.int .u8 a,.int .u8 b],row,.int .i64 k]
def w13 (D:IR) (w n:Nat) (p:T) (i:Nat):List T:=[.reg [.int .u8 D.wd,D.rows none],.int .i64 w,.int .i64 n,p,.int .i64 i]
def rbk (w:Nat) (y:Nat->Int):Blk:=⟨0,1,w,fun e=>[.int .u8 (y e)],true,false,none⟩
def tabB:Blk:=⟨0,2,4,fun j=>[[.int .u8 1,.int .u8 2],[.int .u8 1,.int .u8 3],[.int .u8 2,.int .u8 3],[.int .u8 5,.int .u8 4]].getD j [],true,true,none⟩
def pbR (w j:Nat) (R:Nat->Nat->Int):Blk:=⟨j,1,j+1,fun e=>[wrow w (R e)],false,false,none⟩
def pO (j:Nat):T:=.own 0 j 0 (j+1) none
def rowF (D:IR) (i:Nat) (a b:Int) (k:Nat):Int:=if i<D.m/\k<D.ln i then (if D.x i k % 2 = 0 then a else b) else a
structure IR.Ok (D:IR):Prop where
 wd:0<=D.wd/\D.wd<256
 x:∀ i k,0<=D.x i k/\D.x i k<256
theorem rowF_t {D:IR} {i k:Nat} (a b:Int) (h1:i<D.m) (h2:k<D.ln i) (h3:D.x i k % 2 = 1):rowF D i a b k = b:=by
 unfold rowF
 rw [if_pos ⟨h1,h2⟩,if_neg (by omega)]
theorem rowF_e {D:IR} {i k:Nat} (a b:Int) (h1:i<D.m) (h2:k<D.ln i) (h3:D.x i k % 2 = 0):rowF D i a b k = a:=by
 unfold rowF
 rw [if_pos ⟨h1,h2⟩,if_pos h3]
theorem rowF_n {D:IR} {i k:Nat} (a b:Int) (h:¬ (i<D.m/\k<D.ln i)):rowF D i a b k = a:=by
 unfold rowF
 rw [if_neg h]
theorem rbk_ok {w k:Nat} {f:Nat->Int} {y:Nat->Int} {v:Int} (hf:f k = v) (hy:∀ e,y e = bif e==k then v else bif Nat.blt e k then f e else 0) (j:Nat):(rbk w fun e=>bif Nat.blt e (k+1) then f e else 0).get j = (rbk w y).get j:=by
 show [T.int .u8 (bif Nat.blt j (k+1) then f j else 0)] = [.int .u8 (y j)]
 rw [hy j]
 by_cases q:j = k
 ·subst q; rw [beq_self_eq_true,cond_true,bltT (by omega),cond_true,hf]
 ·rw [show (j==k) = false by simpa using q,cond_false]
  by_cases q2:j<k
  ·rw [bltT q2,bltT (by omega)]
  ·rw [bltF (by omega),bltF (by omega)]
theorem l13k0 (D:IR) (w n:Nat) (p:T) (i:Nat) (a b:Int) (hD:D.Ok) (hw:w<=1000) :
 LoopOk P18 G18 (A18 13) 13 14 (litS (v13 D w n p i a b (.own 0 0 0 w (some w)) 0) [rbk w fun _=>0] (.exit 2) (w13 D w n p i ++ [.own 0 0 0 w (some w)]) [rbk w (rowF D i a b)]):=by
 refine loop_steps hm18 (by kernel_rfl) (fun k=>v13 D w n p i a b (.own 0 0 0 w (some w)) (k:Nat)) (fun k=>[rbk w fun e=>bif Nat.blt e k then rowF D i a b e else 0]) (n:=w) (fun k hk=>?_) ?_
 ·obtain ⟨y,hy2⟩:∃ y:Nat->Int,∀ e,y e = bif Nat.blt e k then rowF D i a b e else 0:=⟨_,fun _=>rfl⟩
  have hy3:(fun e=>bif Nat.blt e k then rowF D i a b e else 0) = y:=by funext e; rw [hy2]
  have hx:=hD.x i k
  have hkk:IntKind.i64.wrap ((k:Int)+1) = ((k+1:Nat):Int):=by rw [wr64 (by omega) (by omega)]; omega
  show Step P18 G18 (A18 13) 13 14 _ _ [rbk w fun e=>bif Nat.blt e k then rowF D i a b e else 0] _ _
  rw [hy3]
  by_cases q:i<D.m/\k<D.ln i
  ·have e1:(D.x i k).tmod 2 = D.x i k % 2:=by rw [Int.tmod_eq_emod_of_nonneg hx.1]
   by_cases q2:D.x i k % 2 = 1
   ·refine Step.mk0 (A:=A18) (m:=0) none_ok rfl rfl loops0 (h1:=[rbk w fun e=>bif e==0+k then b else bif e==0+k then a else y e]) ?_ (.cons ⟨rfl,rfl,rfl,id,fun j _=>rbk_ok (rowF_t a b q.1 q.2 q2) (fun e=>by rw [Nat.zero_add,hy2] <;> cases e==k <;> rfl) j⟩ .nil)
    refine Eq.trans (show iterR P18 G18 A18 noneO 0 13 [] 14 (v13 D w n p i a b (.own 0 0 0 w (some w)) k) [rbk w y] =
(
 bif decide (Int.ofNat k<Int.ofNat w) then
 bif decide (0<=Int.ofNat k)&&decide (Int.ofNat k<Int.ofNat w) then
 bif ((0:Nat)+k).blt w&&[T.int .u8 a].length==(1:Nat)&&true&&true then
 bif decide (Int.ofNat i<Int.ofNat D.m) then
 bif decide (0<=Int.ofNat i)&&decide (Int.ofNat i<Int.ofNat D.m) then
 bif decide (Int.ofNat k<Int.ofNat (D.ln i)) then
 bif decide (0<=Int.ofNat i)&&decide (Int.ofNat i<Int.ofNat D.m) then
 bif decide (0<=Int.ofNat k)&&decide (Int.ofNat k<Int.ofNat (D.ln i)) then
 bif decide ((0:Int)<=(D.x i k).tmod 2)&&decide ((D.x i k).tmod 2<2) then
 bif ((D.x i k).tmod (2:Int)).toNat==(1:Nat) then
 bif decide (0<=Int.ofNat k)&&decide (Int.ofNat k<Int.ofNat w) then
 bif ((0:Nat)+k).blt w&&[T.int .u8 b].length==(1:Nat)&&true&&true then
 some ((.normal,[.reg [.int .u8 D.wd,D.rows
 none],.int .i64 (.ofNat w),.int .i64 (.ofNat n),p,.int .i64 (.ofNat i),.reg [.int .u8 a,.int .u8 b],.own 0 0 0 w (some w),.int .i64 (IntKind.i64.wrap (Int.ofNat k+1))],[rbk w fun e =>
 bif e==0+k then b
 else
 bif e==0+k then a
 else y e]))
 else none else none else
 bif decide (0<=Int.ofNat k)&&decide (Int.ofNat k<Int.ofNat w) then
 bif ((0:Nat)+k).blt w&&[T.int .u8 a].length==(1:Nat)&&true&&true then
 some ((.normal,[.reg [.int .u8 D.wd,D.rows
 none],.int .i64 (.ofNat w),.int .i64 (.ofNat n),p,.int .i64 (.ofNat i),.reg [.int .u8 a,.int .u8 b],.own 0 0 0 w (some w),.int .i64 (IntKind.i64.wrap (Int.ofNat k+1))],[rbk w fun e =>
 bif e==0+k then a
 else
 bif e==0+k then a
 else y e]))
 else none else none else none else none else none else
 some ((.normal,[.reg [.int .u8 D.wd,D.rows
 none],.int .i64 (.ofNat w),.int .i64 (.ofNat n),p,.int .i64 (.ofNat i),.reg [.int .u8 a,.int .u8 b],.own 0 0 0 w (some w),.int .i64 (IntKind.i64.wrap (Int.ofNat k+1))],[rbk w fun e =>
 bif e==0+k then a
 else y e]))
 else none else
 some ((.normal,[.reg [.int .u8 D.wd,D.rows
 none],.int .i64 (.ofNat w),.int .i64 (.ofNat n),p,.int .i64 (.ofNat i),.reg [.int .u8 a,.int .u8 b],.own 0 0 0 w (some w),.int .i64 (IntKind.i64.wrap (Int.ofNat k+1))],[rbk w fun e =>
 bif e==0+k then a
 else y e]))
 else none else none else
 some ((.exit 2,[.reg [.int .u8 D.wd,D.rows
 none],.int .i64 (.ofNat w),.int .i64 (.ofNat n),p,.int .i64 (.ofNat i),.own 0 0 0 w (some w)],[rbk w y]))) from by kernel_rfl) ?_
    rw [e1,q2,ofNatE k,hkk]
    clear hy2 hy3
    (repeat (first | refine BT ?_ | refine BG ?_))
    rfl
   ·have q3:D.x i k % 2 = 0:=by omega
    refine Step.mk0 (A:=A18) (m:=0) none_ok rfl rfl loops0 (h1:=[rbk w fun e=>bif e==0+k then a else bif e==0+k then a else y e]) ?_ (.cons ⟨rfl,rfl,rfl,id,fun j _=>rbk_ok (rowF_e a b q.1 q.2 q3) (fun e=>by rw [Nat.zero_add,hy2] <;> cases e==k <;> rfl) j⟩ .nil)
    refine Eq.trans (show iterR P18 G18 A18 noneO 0 13 [] 14 (v13 D w n p i a b (.own 0 0 0 w (some w)) k) [rbk w y] =
(
 bif decide (Int.ofNat k<Int.ofNat w) then
 bif decide (0<=Int.ofNat k)&&decide (Int.ofNat k<Int.ofNat w) then
 bif ((0:Nat)+k).blt w&&[T.int .u8 a].length==(1:Nat)&&true&&true then
 bif decide (Int.ofNat i<Int.ofNat D.m) then
 bif decide (0<=Int.ofNat i)&&decide (Int.ofNat i<Int.ofNat D.m) then
 bif decide (Int.ofNat k<Int.ofNat (D.ln i)) then
 bif decide (0<=Int.ofNat i)&&decide (Int.ofNat i<Int.ofNat D.m) then
 bif decide (0<=Int.ofNat k)&&decide (Int.ofNat k<Int.ofNat (D.ln i)) then
 bif decide ((0:Int)<=(D.x i k).tmod 2)&&decide ((D.x i k).tmod 2<2) then
 bif ((D.x i k).tmod (2:Int)).toNat==(1:Nat) then
 bif decide (0<=Int.ofNat k)&&decide (Int.ofNat k<Int.ofNat w) then
 bif ((0:Nat)+k).blt w&&[T.int .u8 b].length==(1:Nat)&&true&&true then
 some ((.normal,[.reg [.int .u8 D.wd,D.rows
 none],.int .i64 (.ofNat w),.int .i64 (.ofNat n),p,.int .i64 (.ofNat i),.reg [.int .u8 a,.int .u8 b],.own 0 0 0 w (some w),.int .i64 (IntKind.i64.wrap (Int.ofNat k+1))],[rbk w fun e =>
 bif e==0+k then b
 else
 bif e==0+k then a
 else y e]))
 else none else none else
 bif decide (0<=Int.ofNat k)&&decide (Int.ofNat k<Int.ofNat w) then
 bif ((0:Nat)+k).blt w&&[T.int .u8 a].length==(1:Nat)&&true&&true then
 some ((.normal,[.reg [.int .u8 D.wd,D.rows
 none],.int .i64 (.ofNat w),.int .i64 (.ofNat n),p,.int .i64 (.ofNat i),.reg [.int .u8 a,.int .u8 b],.own 0 0 0 w (some w),.int .i64 (IntKind.i64.wrap (Int.ofNat k+1))],[rbk w fun e =>
 bif e==0+k then a
 else
 bif e==0+k then a
 else y e]))
 else none else none else none else none else none else
 some ((.normal,[.reg [.int .u8 D.wd,D.rows
 none],.int .i64 (.ofNat w),.int .i64 (.ofNat n),p,.int .i64 (.ofNat i),.reg [.int .u8 a,.int .u8 b],.own 0 0 0 w (some w),.int .i64 (IntKind.i64.wrap (Int.ofNat k+1))],[rbk w fun e =>
 bif e==0+k then a
 else y e]))
 else none else
 some ((.normal,[.reg [.int .u8 D.wd,D.rows
 none],.int .i64 (.ofNat w),.int .i64 (.ofNat n),p,.int .i64 (.ofNat i),.reg [.int .u8 a,.int .u8 b],.own 0 0 0 w (some w),.int .i64 (IntKind.i64.wrap (Int.ofNat k+1))],[rbk w fun e =>
 bif e==0+k then a
 else y e]))
 else none else none else
 some ((.exit 2,[.reg [.int .u8 D.wd,D.rows
 none],.int .i64 (.ofNat w),.int .i64 (.ofNat n),p,.int .i64 (.ofNat i),.own 0 0 0 w (some w)],[rbk w y]))) from by kernel_rfl) ?_
    rw [e1,q3,ofNatE k,hkk]
    clear hy2 hy3
    (repeat (first | refine BT ?_ | refine BG ?_))
    rfl
  ·refine Step.mk0 (A:=A18) (m:=0) none_ok rfl rfl loops0 (h1:=[rbk w fun e=>bif e==0+k then a else y e]) ?_ (.cons ⟨rfl,rfl,rfl,id,fun j _=>rbk_ok (rowF_n a b q) (fun e=>by rw [Nat.zero_add,hy2] <;> cases e==k <;> rfl) j⟩ .nil)
   refine Eq.trans (show iterR P18 G18 A18 noneO 0 13 [] 14 (v13 D w n p i a b (.own 0 0 0 w (some w)) k) [rbk w y] =
(
 bif decide (Int.ofNat k<Int.ofNat w) then
 bif decide (0<=Int.ofNat k)&&decide (Int.ofNat k<Int.ofNat w) then
 bif ((0:Nat)+k).blt w&&[T.int .u8 a].length==(1:Nat)&&true&&true then
 bif decide (Int.ofNat i<Int.ofNat D.m) then
 bif decide (0<=Int.ofNat i)&&decide (Int.ofNat i<Int.ofNat D.m) then
 bif decide (Int.ofNat k<Int.ofNat (D.ln i)) then
 bif decide (0<=Int.ofNat i)&&decide (Int.ofNat i<Int.ofNat D.m) then
 bif decide (0<=Int.ofNat k)&&decide (Int.ofNat k<Int.ofNat (D.ln i)) then
 bif decide ((0:Int)<=(D.x i k).tmod 2)&&decide ((D.x i k).tmod 2<2) then
 bif ((D.x i k).tmod (2:Int)).toNat==(1:Nat) then
 bif decide (0<=Int.ofNat k)&&decide (Int.ofNat k<Int.ofNat w) then
 bif ((0:Nat)+k).blt w&&[T.int .u8 b].length==(1:Nat)&&true&&true then
 some ((.normal,[.reg [.int .u8 D.wd,D.rows
 none],.int .i64 (.ofNat w),.int .i64 (.ofNat n),p,.int .i64 (.ofNat i),.reg [.int .u8 a,.int .u8 b],.own 0 0 0 w (some w),.int .i64 (IntKind.i64.wrap (Int.ofNat k+1))],[rbk w fun e =>
 bif e==0+k then b
 else
 bif e==0+k then a
 else y e]))
 else none else none else
 bif decide (0<=Int.ofNat k)&&decide (Int.ofNat k<Int.ofNat w) then
 bif ((0:Nat)+k).blt w&&[T.int .u8 a].length==(1:Nat)&&true&&true then
 some ((.normal,[.reg [.int .u8 D.wd,D.rows
 none],.int .i64 (.ofNat w),.int .i64 (.ofNat n),p,.int .i64 (.ofNat i),.reg [.int .u8 a,.int .u8 b],.own 0 0 0 w (some w),.int .i64 (IntKind.i64.wrap (Int.ofNat k+1))],[rbk w fun e =>
 bif e==0+k then a
 else
 bif e==0+k then a
 else y e]))
 else none else none else none else none else none else
 some ((.normal,[.reg [.int .u8 D.wd,D.rows
 none],.int .i64 (.ofNat w),.int .i64 (.ofNat n),p,.int .i64 (.ofNat i),.reg [.int .u8 a,.int .u8 b],.own 0 0 0 w (some w),.int .i64 (IntKind.i64.wrap (Int.ofNat k+1))],[rbk w fun e =>
 bif e==0+k then a
 else y e]))
 else none else
 some ((.normal,[.reg [.int .u8 D.wd,D.rows
 none],.int .i64 (.ofNat w),.int .i64 (.ofNat n),p,.int .i64 (.ofNat i),.reg [.int .u8 a,.int .u8 b],.own 0 0 0 w (some w),.int .i64 (IntKind.i64.wrap (Int.ofNat k+1))],[rbk w fun e =>
 bif e==0+k then a
 else y e]))
 else none else none else
 some ((.exit 2,[.reg [.int .u8 D.wd,D.rows
 none],.int .i64 (.ofNat w),.int .i64 (.ofNat n),p,.int .i64 (.ofNat i),.own 0 0 0 w (some w)],[rbk w y]))) from by kernel_rfl) ?_
   rw [ofNatE k,hkk]
   clear hy2 hy3
   by_cases q3:i<D.m
   ·have q4:¬ k<D.ln i:=fun h=>q ⟨q3,h⟩
    clear q
    (repeat (first | refine BT ?_ | refine BG ?_))
    rfl
   ·clear q
    (repeat (first | refine BT ?_ | refine BG ?_))
    rfl
 ·obtain ⟨y,hy⟩:∃ y:Nat->Int,y = fun e=>bif Nat.blt e w then rowF D i a b e else 0:=⟨_,rfl⟩
  show Last P18 G18 (A18 13) 13 14 _ _ [rbk w fun e=>bif Nat.blt e w then rowF D i a b e else 0] _ _ _
  rw [← hy]
  refine Last.mk0 (A:=A18) (m:=0) none_ok rfl rfl loops0 (h1:=[rbk w y]) (by simp) ?_ (.cons ⟨rfl,rfl,rfl,id,fun j hj=>?_⟩ .nil)
  ·clear hy
   refine Eq.trans (show iterR P18 G18 A18 noneO 0 13 [] 14 (v13 D w n p i a b (.own 0 0 0 w (some w)) (w:Nat)) [rbk w y] =
(
 bif decide (Int.ofNat w<Int.ofNat w) then
 bif decide (0<=Int.ofNat w)&&decide (Int.ofNat w<Int.ofNat w) then
 bif ((0:Nat)+w).blt w&&[T.int .u8 a].length==(1:Nat)&&true&&true then
 bif decide (Int.ofNat i<Int.ofNat D.m) then
 bif decide (0<=Int.ofNat i)&&decide (Int.ofNat i<Int.ofNat D.m) then
 bif decide (Int.ofNat w<Int.ofNat (D.ln i)) then
 bif decide (0<=Int.ofNat i)&&decide (Int.ofNat i<Int.ofNat D.m) then
 bif decide (0<=Int.ofNat w)&&decide (Int.ofNat w<Int.ofNat (D.ln i)) then
 bif decide ((0:Int)<=(D.x i w).tmod 2)&&decide ((D.x i w).tmod 2<2) then
 bif ((D.x i w).tmod (2:Int)).toNat==(1:Nat) then
 bif decide (0<=Int.ofNat w)&&decide (Int.ofNat w<Int.ofNat w) then
 bif ((0:Nat)+w).blt w&&[T.int .u8 b].length==(1:Nat)&&true&&true then
 some ((.normal,[.reg [.int .u8 D.wd,D.rows
 none],.int .i64 (.ofNat w),.int .i64 (.ofNat n),p,.int .i64 (.ofNat i),.reg [.int .u8 a,.int .u8 b],.own 0 0 0 w (some w),.int .i64 (IntKind.i64.wrap (Int.ofNat w+1))],[rbk w fun e =>
 bif e==0+w then b
 else
 bif e==0+w then a
 else y e]))
 else none else none else
 bif decide (0<=Int.ofNat w)&&decide (Int.ofNat w<Int.ofNat w) then
 bif ((0:Nat)+w).blt w&&[T.int .u8 a].length==(1:Nat)&&true&&true then
 some ((.normal,[.reg [.int .u8 D.wd,D.rows
 none],.int .i64 (.ofNat w),.int .i64 (.ofNat n),p,.int .i64 (.ofNat i),.reg [.int .u8 a,.int .u8 b],.own 0 0 0 w (some w),.int .i64 (IntKind.i64.wrap (Int.ofNat w+1))],[rbk w fun e =>
 bif e==0+w then a
 else
 bif e==0+w then a
 else y e]))
 else none else none else none else none else none else
 some ((.normal,[.reg [.int .u8 D.wd,D.rows
 none],.int .i64 (.ofNat w),.int .i64 (.ofNat n),p,.int .i64 (.ofNat i),.reg [.int .u8 a,.int .u8 b],.own 0 0 0 w (some w),.int .i64 (IntKind.i64.wrap (Int.ofNat w+1))],[rbk w fun e =>
 bif e==0+w then a
 else y e]))
 else none else
 some ((.normal,[.reg [.int .u8 D.wd,D.rows
 none],.int .i64 (.ofNat w),.int .i64 (.ofNat n),p,.int .i64 (.ofNat i),.reg [.int .u8 a,.int .u8 b],.own 0 0 0 w (some w),.int .i64 (IntKind.i64.wrap (Int.ofNat w+1))],[rbk w fun e =>
 bif e==0+w then a
 else y e]))
 else none else none else
 some ((.exit 2,[.reg [.int .u8 D.wd,D.rows
 none],.int .i64 (.ofNat w),.int .i64 (.ofNat n),p,.int .i64 (.ofNat i),.own 0 0 0 w (some w)],[rbk w y]))) from by kernel_rfl) ?_
   (repeat (first | refine BT ?_ | refine BG ?_))
   rfl
  ·show [T.int .u8 (rowF D i a b j)] = [.int .u8 (y j)]
   rw [hy]
   show _ = [T.int .u8 (bif Nat.blt j w then rowF D i a b j else 0)]
   rw [bltT (show j<w from hj),cond_true]
theorem l13k1 (D:IR) (w n:Nat) (p:T) (i:Nat) (a b:Int) (B0:Blk) (hD:D.Ok) (hw:w<=1000) :
 LoopOk P18 G18 (A18 13) 13 14 (litS (v13 D w n p i a b (.own 1 0 0 w (some w)) 0) [B0,rbk w fun _=>0] (.exit 2) (w13 D w n p i ++ [.own 1 0 0 w (some w)]) [B0,rbk w (rowF D i a b)]):=by
 refine loop_steps hm18 (by kernel_rfl) (fun k=>v13 D w n p i a b (.own 1 0 0 w (some w)) (k:Nat)) (fun k=>[B0,rbk w fun e=>bif Nat.blt e k then rowF D i a b e else 0]) (n:=w) (fun k hk=>?_) ?_
 ·obtain ⟨y,hy2⟩:∃ y:Nat->Int,∀ e,y e = bif Nat.blt e k then rowF D i a b e else 0:=⟨_,fun _=>rfl⟩
  have hy3:(fun e=>bif Nat.blt e k then rowF D i a b e else 0) = y:=by funext e; rw [hy2]
  have hx:=hD.x i k
  have hkk:IntKind.i64.wrap ((k:Int)+1) = ((k+1:Nat):Int):=by rw [wr64 (by omega) (by omega)]; omega
  show Step P18 G18 (A18 13) 13 14 _ _ [B0,rbk w fun e=>bif Nat.blt e k then rowF D i a b e else 0] _ _
  rw [hy3]
  by_cases q:i<D.m/\k<D.ln i
  ·have e1:(D.x i k).tmod 2 = D.x i k % 2:=by rw [Int.tmod_eq_emod_of_nonneg hx.1]
   by_cases q2:D.x i k % 2 = 1
   ·refine Step.mk0 (A:=A18) (m:=0) none_ok rfl rfl loops0 (h1:=[B0,rbk w fun e=>bif e==0+k then b else bif e==0+k then a else y e]) ?_ (.cons ⟨rfl,rfl,rfl,id,fun _ _=>rfl⟩ (.cons ⟨rfl,rfl,rfl,id,fun j _=>rbk_ok (rowF_t a b q.1 q.2 q2) (fun e=>by rw [Nat.zero_add,hy2] <;> cases e==k <;> rfl) j⟩ .nil))
    refine Eq.trans (show iterR P18 G18 A18 noneO 0 13 [] 14 (v13 D w n p i a b (.own 1 0 0 w (some w)) k) [B0,rbk w y] =
(
 bif decide (Int.ofNat k<Int.ofNat w) then
 bif decide (0<=Int.ofNat k)&&decide (Int.ofNat k<Int.ofNat w) then
 bif ((0:Nat)+k).blt w&&[T.int .u8 a].length==(1:Nat)&&true&&true then
 bif decide (Int.ofNat i<Int.ofNat D.m) then
 bif decide (0<=Int.ofNat i)&&decide (Int.ofNat i<Int.ofNat D.m) then
 bif decide (Int.ofNat k<Int.ofNat (D.ln i)) then
 bif decide (0<=Int.ofNat i)&&decide (Int.ofNat i<Int.ofNat D.m) then
 bif decide (0<=Int.ofNat k)&&decide (Int.ofNat k<Int.ofNat (D.ln i)) then
 bif decide ((0:Int)<=(D.x i k).tmod 2)&&decide ((D.x i k).tmod 2<2) then
 bif ((D.x i k).tmod (2:Int)).toNat==(1:Nat) then
 bif decide (0<=Int.ofNat k)&&decide (Int.ofNat k<Int.ofNat w) then
 bif ((0:Nat)+k).blt w&&[T.int .u8 b].length==(1:Nat)&&true&&true then
 some ((.normal,[.reg [.int .u8 D.wd,D.rows
 none],.int .i64 (.ofNat w),.int .i64 (.ofNat n),p,.int .i64 (.ofNat i),.reg [.int .u8 a,.int .u8 b],.own 1 0 0 w (some w),.int .i64 (IntKind.i64.wrap (Int.ofNat k+1))],[B0,rbk w fun e =>
 bif e==0+k then b
 else
 bif e==0+k then a
 else y e]))
 else none else none else
 bif decide (0<=Int.ofNat k)&&decide (Int.ofNat k<Int.ofNat w) then
 bif ((0:Nat)+k).blt w&&[T.int .u8 a].length==(1:Nat)&&true&&true then
 some ((.normal,[.reg [.int .u8 D.wd,D.rows
 none],.int .i64 (.ofNat w),.int .i64 (.ofNat n),p,.int .i64 (.ofNat i),.reg [.int .u8 a,.int .u8 b],.own 1 0 0 w (some w),.int .i64 (IntKind.i64.wrap (Int.ofNat k+1))],[B0,rbk w fun e =>
 bif e==0+k then a
 else
 bif e==0+k then a
 else y e]))
 else none else none else none else none else none else
 some ((.normal,[.reg [.int .u8 D.wd,D.rows
 none],.int .i64 (.ofNat w),.int .i64 (.ofNat n),p,.int .i64 (.ofNat i),.reg [.int .u8 a,.int .u8 b],.own 1 0 0 w (some w),.int .i64 (IntKind.i64.wrap (Int.ofNat k+1))],[B0,rbk w fun e =>
 bif e==0+k then a
 else y e]))
 else none else
 some ((.normal,[.reg [.int .u8 D.wd,D.rows
 none],.int .i64 (.ofNat w),.int .i64 (.ofNat n),p,.int .i64 (.ofNat i),.reg [.int .u8 a,.int .u8 b],.own 1 0 0 w (some w),.int .i64 (IntKind.i64.wrap (Int.ofNat k+1))],[B0,rbk w fun e =>
 bif e==0+k then a
 else y e]))
 else none else none else
 some ((.exit 2,[.reg [.int .u8 D.wd,D.rows
 none],.int .i64 (.ofNat w),.int .i64 (.ofNat n),p,.int .i64 (.ofNat i),.own 1 0 0 w (some w)],[B0,rbk w y]))) from by kernel_rfl) ?_
    rw [e1,q2,ofNatE k,hkk]
    clear hy2 hy3
    (repeat (first | refine BT ?_ | refine BG ?_))
    rfl
   ·have q3:D.x i k % 2 = 0:=by omega
    refine Step.mk0 (A:=A18) (m:=0) none_ok rfl rfl loops0 (h1:=[B0,rbk w fun e=>bif e==0+k then a else bif e==0+k then a else y e]) ?_ (.cons ⟨rfl,rfl,rfl,id,fun _ _=>rfl⟩ (.cons ⟨rfl,rfl,rfl,id,fun j _=>rbk_ok (rowF_e a b q.1 q.2 q3) (fun e=>by rw [Nat.zero_add,hy2] <;> cases e==k <;> rfl) j⟩ .nil))
    refine Eq.trans (show iterR P18 G18 A18 noneO 0 13 [] 14 (v13 D w n p i a b (.own 1 0 0 w (some w)) k) [B0,rbk w y] =
(
 bif decide (Int.ofNat k<Int.ofNat w) then
 bif decide (0<=Int.ofNat k)&&decide (Int.ofNat k<Int.ofNat w) then
 bif ((0:Nat)+k).blt w&&[T.int .u8 a].length==(1:Nat)&&true&&true then
 bif decide (Int.ofNat i<Int.ofNat D.m) then
 bif decide (0<=Int.ofNat i)&&decide (Int.ofNat i<Int.ofNat D.m) then
 bif decide (Int.ofNat k<Int.ofNat (D.ln i)) then
 bif decide (0<=Int.ofNat i)&&decide (Int.ofNat i<Int.ofNat D.m) then
 bif decide (0<=Int.ofNat k)&&decide (Int.ofNat k<Int.ofNat (D.ln i)) then
 bif decide ((0:Int)<=(D.x i k).tmod 2)&&decide ((D.x i k).tmod 2<2) then
 bif ((D.x i k).tmod (2:Int)).toNat==(1:Nat) then
 bif decide (0<=Int.ofNat k)&&decide (Int.ofNat k<Int.ofNat w) then
 bif ((0:Nat)+k).blt w&&[T.int .u8 b].length==(1:Nat)&&true&&true then
 some ((.normal,[.reg [.int .u8 D.wd,D.rows
 none],.int .i64 (.ofNat w),.int .i64 (.ofNat n),p,.int .i64 (.ofNat i),.reg [.int .u8 a,.int .u8 b],.own 1 0 0 w (some w),.int .i64 (IntKind.i64.wrap (Int.ofNat k+1))],[B0,rbk w fun e =>
 bif e==0+k then b
 else
 bif e==0+k then a
 else y e]))
 else none else none else
 bif decide (0<=Int.ofNat k)&&decide (Int.ofNat k<Int.ofNat w) then
 bif ((0:Nat)+k).blt w&&[T.int .u8 a].length==(1:Nat)&&true&&true then
 some ((.normal,[.reg [.int .u8 D.wd,D.rows
 none],.int .i64 (.ofNat w),.int .i64 (.ofNat n),p,.int .i64 (.ofNat i),.reg [.int .u8 a,.int .u8 b],.own 1 0 0 w (some w),.int .i64 (IntKind.i64.wrap (Int.ofNat k+1))],[B0,rbk w fun e =>
 bif e==0+k then a
 else
 bif e==0+k then a
 else y e]))
 else none else none else none else none else none else
 some ((.normal,[.reg [.int .u8 D.wd,D.rows
 none],.int .i64 (.ofNat w),.int .i64 (.ofNat n),p,.int .i64 (.ofNat i),.reg [.int .u8 a,.int .u8 b],.own 1 0 0 w (some w),.int .i64 (IntKind.i64.wrap (Int.ofNat k+1))],[B0,rbk w fun e =>
 bif e==0+k then a
 else y e]))
 else none else
 some ((.normal,[.reg [.int .u8 D.wd,D.rows
 none],.int .i64 (.ofNat w),.int .i64 (.ofNat n),p,.int .i64 (.ofNat i),.reg [.int .u8 a,.int .u8 b],.own 1 0 0 w (some w),.int .i64 (IntKind.i64.wrap (Int.ofNat k+1))],[B0,rbk w fun e =>
 bif e==0+k then a
 else y e]))
 else none else none else
 some ((.exit 2,[.reg [.int .u8 D.wd,D.rows
 none],.int .i64 (.ofNat w),.int .i64 (.ofNat n),p,.int .i64 (.ofNat i),.own 1 0 0 w (some w)],[B0,rbk w y]))) from by kernel_rfl) ?_
    rw [e1,q3,ofNatE k,hkk]
    clear hy2 hy3
    (repeat (first | refine BT ?_ | refine BG ?_))
    rfl
  ·refine Step.mk0 (A:=A18) (m:=0) none_ok rfl rfl loops0 (h1:=[B0,rbk w fun e=>bif e==0+k then a else y e]) ?_ (.cons ⟨rfl,rfl,rfl,id,fun _ _=>rfl⟩ (.cons ⟨rfl,rfl,rfl,id,fun j _=>rbk_ok (rowF_n a b q) (fun e=>by rw [Nat.zero_add,hy2] <;> cases e==k <;> rfl) j⟩ .nil))
   refine Eq.trans (show iterR P18 G18 A18 noneO 0 13 [] 14 (v13 D w n p i a b (.own 1 0 0 w (some w)) k) [B0,rbk w y] =
(
 bif decide (Int.ofNat k<Int.ofNat w) then
 bif decide (0<=Int.ofNat k)&&decide (Int.ofNat k<Int.ofNat w) then
 bif ((0:Nat)+k).blt w&&[T.int .u8 a].length==(1:Nat)&&true&&true then
 bif decide (Int.ofNat i<Int.ofNat D.m) then
 bif decide (0<=Int.ofNat i)&&decide (Int.ofNat i<Int.ofNat D.m) then
 bif decide (Int.ofNat k<Int.ofNat (D.ln i)) then
 bif decide (0<=Int.ofNat i)&&decide (Int.ofNat i<Int.ofNat D.m) then
 bif decide (0<=Int.ofNat k)&&decide (Int.ofNat k<Int.ofNat (D.ln i)) then
 bif decide ((0:Int)<=(D.x i k).tmod 2)&&decide ((D.x i k).tmod 2<2) then
 bif ((D.x i k).tmod (2:Int)).toNat==(1:Nat) then
 bif decide (0<=Int.ofNat k)&&decide (Int.ofNat k<Int.ofNat w) then
 bif ((0:Nat)+k).blt w&&[T.int .u8 b].length==(1:Nat)&&true&&true then
 some ((.normal,[.reg [.int .u8 D.wd,D.rows
 none],.int .i64 (.ofNat w),.int .i64 (.ofNat n),p,.int .i64 (.ofNat i),.reg [.int .u8 a,.int .u8 b],.own 1 0 0 w (some w),.int .i64 (IntKind.i64.wrap (Int.ofNat k+1))],[B0,rbk w fun e =>
 bif e==0+k then b
 else
 bif e==0+k then a
 else y e]))
 else none else none else
 bif decide (0<=Int.ofNat k)&&decide (Int.ofNat k<Int.ofNat w) then
 bif ((0:Nat)+k).blt w&&[T.int .u8 a].length==(1:Nat)&&true&&true then
 some ((.normal,[.reg [.int .u8 D.wd,D.rows
 none],.int .i64 (.ofNat w),.int .i64 (.ofNat n),p,.int .i64 (.ofNat i),.reg [.int .u8 a,.int .u8 b],.own 1 0 0 w (some w),.int .i64 (IntKind.i64.wrap (Int.ofNat k+1))],[B0,rbk w fun e =>
 bif e==0+k then a
 else
 bif e==0+k then a
 else y e]))
 else none else none else none else none else none else
 some ((.normal,[.reg [.int .u8 D.wd,D.rows
 none],.int .i64 (.ofNat w),.int .i64 (.ofNat n),p,.int .i64 (.ofNat i),.reg [.int .u8 a,.int .u8 b],.own 1 0 0 w (some w),.int .i64 (IntKind.i64.wrap (Int.ofNat k+1))],[B0,rbk w fun e =>
 bif e==0+k then a
 else y e]))
 else none else
 some ((.normal,[.reg [.int .u8 D.wd,D.rows
 none],.int .i64 (.ofNat w),.int .i64 (.ofNat n),p,.int .i64 (.ofNat i),.reg [.int .u8 a,.int .u8 b],.own 1 0 0 w (some w),.int .i64 (IntKind.i64.wrap (Int.ofNat k+1))],[B0,rbk w fun e =>
 bif e==0+k then a
 else y e]))
 else none else none else
 some ((.exit 2,[.reg [.int .u8 D.wd,D.rows
 none],.int .i64 (.ofNat w),.int .i64 (.ofNat n),p,.int .i64 (.ofNat i),.own 1 0 0 w (some w)],[B0,rbk w y]))) from by kernel_rfl) ?_
   rw [ofNatE k,hkk]
   clear hy2 hy3
   by_cases q3:i<D.m
   ·have q4:¬ k<D.ln i:=fun h=>q ⟨q3,h⟩
    clear q
    (repeat (first | refine BT ?_ | refine BG ?_))
    rfl
   ·clear q
    (repeat (first | refine BT ?_ | refine BG ?_))
    rfl
 ·obtain ⟨y,hy⟩:∃ y:Nat->Int,y = fun e=>bif Nat.blt e w then rowF D i a b e else 0:=⟨_,rfl⟩
  show Last P18 G18 (A18 13) 13 14 _ _ [B0,rbk w fun e=>bif Nat.blt e w then rowF D i a b e else 0] _ _ _
  rw [← hy]
  refine Last.mk0 (A:=A18) (m:=0) none_ok rfl rfl loops0 (h1:=[B0,rbk w y]) (by simp) ?_ (.cons ⟨rfl,rfl,rfl,id,fun _ _=>rfl⟩ (.cons ⟨rfl,rfl,rfl,id,fun j hj=>?_⟩ .nil))
  ·clear hy
   refine Eq.trans (show iterR P18 G18 A18 noneO 0 13 [] 14 (v13 D w n p i a b (.own 1 0 0 w (some w)) (w:Nat)) [B0,rbk w y] =
(
 bif decide (Int.ofNat w<Int.ofNat w) then
 bif decide (0<=Int.ofNat w)&&decide (Int.ofNat w<Int.ofNat w) then
 bif ((0:Nat)+w).blt w&&[T.int .u8 a].length==(1:Nat)&&true&&true then
 bif decide (Int.ofNat i<Int.ofNat D.m) then
 bif decide (0<=Int.ofNat i)&&decide (Int.ofNat i<Int.ofNat D.m) then
 bif decide (Int.ofNat w<Int.ofNat (D.ln i)) then
 bif decide (0<=Int.ofNat i)&&decide (Int.ofNat i<Int.ofNat D.m) then
 bif decide (0<=Int.ofNat w)&&decide (Int.ofNat w<Int.ofNat (D.ln i)) then
 bif decide ((0:Int)<=(D.x i w).tmod 2)&&decide ((D.x i w).tmod 2<2) then
 bif ((D.x i w).tmod (2:Int)).toNat==(1:Nat) then
 bif decide (0<=Int.ofNat w)&&decide (Int.ofNat w<Int.ofNat w) then
 bif ((0:Nat)+w).blt w&&[T.int .u8 b].length==(1:Nat)&&true&&true then
 some ((.normal,[.reg [.int .u8 D.wd,D.rows
 none],.int .i64 (.ofNat w),.int .i64 (.ofNat n),p,.int .i64 (.ofNat i),.reg [.int .u8 a,.int .u8 b],.own 1 0 0 w (some w),.int .i64 (IntKind.i64.wrap (Int.ofNat w+1))],[B0,rbk w fun e =>
 bif e==0+w then b
 else
 bif e==0+w then a
 else y e]))
 else none else none else
 bif decide (0<=Int.ofNat w)&&decide (Int.ofNat w<Int.ofNat w) then
 bif ((0:Nat)+w).blt w&&[T.int .u8 a].length==(1:Nat)&&true&&true then
 some ((.normal,[.reg [.int .u8 D.wd,D.rows
 none],.int .i64 (.ofNat w),.int .i64 (.ofNat n),p,.int .i64 (.ofNat i),.reg [.int .u8 a,.int .u8 b],.own 1 0 0 w (some w),.int .i64 (IntKind.i64.wrap (Int.ofNat w+1))],[B0,rbk w fun e =>
 bif e==0+w then a
 else
 bif e==0+w then a
 else y e]))
 else none else none else none else none else none else
 some ((.normal,[.reg [.int .u8 D.wd,D.rows
 none],.int .i64 (.ofNat w),.int .i64 (.ofNat n),p,.int .i64 (.ofNat i),.reg [.int .u8 a,.int .u8 b],.own 1 0 0 w (some w),.int .i64 (IntKind.i64.wrap (Int.ofNat w+1))],[B0,rbk w fun e =>
 bif e==0+w then a
 else y e]))
 else none else
 some ((.normal,[.reg [.int .u8 D.wd,D.rows
 none],.int .i64 (.ofNat w),.int .i64 (.ofNat n),p,.int .i64 (.ofNat i),.reg [.int .u8 a,.int .u8 b],.own 1 0 0 w (some w),.int .i64 (IntKind.i64.wrap (Int.ofNat w+1))],[B0,rbk w fun e =>
 bif e==0+w then a
 else y e]))
 else none else none else
 some ((.exit 2,[.reg [.int .u8 D.wd,D.rows
 none],.int .i64 (.ofNat w),.int .i64 (.ofNat n),p,.int .i64 (.ofNat i),.own 1 0 0 w (some w)],[B0,rbk w y]))) from by kernel_rfl) ?_
   (repeat (first | refine BT ?_ | refine BG ?_))
   rfl
  ·show [T.int .u8 (rowF D i a b j)] = [.int .u8 (y j)]
   rw [hy]
   show _ = [T.int .u8 (bif Nat.blt j w then rowF D i a b j else 0)]
   rw [bltT (show j<w from hj),cond_true]
theorem l13k2 (D:IR) (w n:Nat) (p:T) (i:Nat) (a b:Int) (B0 B1:Blk) (hD:D.Ok) (hw:w<=1000) :
 LoopOk P18 G18 (A18 13) 13 14 (litS (v13 D w n p i a b (.own 2 0 0 w (some w)) 0) [B0,B1,rbk w fun _=>0] (.exit 2) (w13 D w n p i ++ [.own 2 0 0 w (some w)]) [B0,B1,rbk w (rowF D i a b)]):=by
 refine loop_steps hm18 (by kernel_rfl) (fun k=>v13 D w n p i a b (.own 2 0 0 w (some w)) (k:Nat)) (fun k=>[B0,B1,rbk w fun e=>bif Nat.blt e k then rowF D i a b e else 0]) (n:=w) (fun k hk=>?_) ?_
 ·obtain ⟨y,hy2⟩:∃ y:Nat->Int,∀ e,y e = bif Nat.blt e k then rowF D i a b e else 0:=⟨_,fun _=>rfl⟩
  have hy3:(fun e=>bif Nat.blt e k then rowF D i a b e else 0) = y:=by funext e; rw [hy2]
  have hx:=hD.x i k
  have hkk:IntKind.i64.wrap ((k:Int)+1) = ((k+1:Nat):Int):=by rw [wr64 (by omega) (by omega)]; omega
  show Step P18 G18 (A18 13) 13 14 _ _ [B0,B1,rbk w fun e=>bif Nat.blt e k then rowF D i a b e else 0] _ _
  rw [hy3]
  by_cases q:i<D.m/\k<D.ln i
  ·have e1:(D.x i k).tmod 2 = D.x i k % 2:=by rw [Int.tmod_eq_emod_of_nonneg hx.1]
   by_cases q2:D.x i k % 2 = 1
   ·refine Step.mk0 (A:=A18) (m:=0) none_ok rfl rfl loops0 (h1:=[B0,B1,rbk w fun e=>bif e==0+k then b else bif e==0+k then a else y e]) ?_ (.cons ⟨rfl,rfl,rfl,id,fun _ _=>rfl⟩ (.cons ⟨rfl,rfl,rfl,id,fun _ _=>rfl⟩ (.cons ⟨rfl,rfl,rfl,id,fun j _=>rbk_ok (rowF_t a b q.1 q.2 q2) (fun e=>by rw [Nat.zero_add,hy2] <;> cases e==k <;> rfl) j⟩ .nil)))
    refine Eq.trans (show iterR P18 G18 A18 noneO 0 13 [] 14 (v13 D w n p i a b (.own 2 0 0 w (some w)) k) [B0,B1,rbk w y] =
(
 bif decide (Int.ofNat k<Int.ofNat w) then
 bif decide (0<=Int.ofNat k)&&decide (Int.ofNat k<Int.ofNat w) then
 bif ((0:Nat)+k).blt w&&[T.int .u8 a].length==(1:Nat)&&true&&true then
 bif decide (Int.ofNat i<Int.ofNat D.m) then
 bif decide (0<=Int.ofNat i)&&decide (Int.ofNat i<Int.ofNat D.m) then
 bif decide (Int.ofNat k<Int.ofNat (D.ln i)) then
 bif decide (0<=Int.ofNat i)&&decide (Int.ofNat i<Int.ofNat D.m) then
 bif decide (0<=Int.ofNat k)&&decide (Int.ofNat k<Int.ofNat (D.ln i)) then
 bif decide ((0:Int)<=(D.x i k).tmod 2)&&decide ((D.x i k).tmod 2<2) then
 bif ((D.x i k).tmod (2:Int)).toNat==(1:Nat) then
 bif decide (0<=Int.ofNat k)&&decide (Int.ofNat k<Int.ofNat w) then
 bif ((0:Nat)+k).blt w&&[T.int .u8 b].length==(1:Nat)&&true&&true then
 some ((.normal,[.reg [.int .u8 D.wd,D.rows
 none],.int .i64 (.ofNat w),.int .i64 (.ofNat n),p,.int .i64 (.ofNat i),.reg [.int .u8 a,.int .u8 b],.own 2 0 0 w (some w),.int .i64 (IntKind.i64.wrap (Int.ofNat k+1))],[B0,B1,rbk w fun e =>
 bif e==0+k then b
 else
 bif e==0+k then a
 else y e]))
 else none else none else
 bif decide (0<=Int.ofNat k)&&decide (Int.ofNat k<Int.ofNat w) then
 bif ((0:Nat)+k).blt w&&[T.int .u8 a].length==(1:Nat)&&true&&true then
 some ((.normal,[.reg [.int .u8 D.wd,D.rows
 none],.int .i64 (.ofNat w),.int .i64 (.ofNat n),p,.int .i64 (.ofNat i),.reg [.int .u8 a,.int .u8 b],.own 2 0 0 w (some w),.int .i64 (IntKind.i64.wrap (Int.ofNat k+1))],[B0,B1,rbk w fun e =>
 bif e==0+k then a
 else
 bif e==0+k then a
 else y e]))
 else none else none else none else none else none else
 some ((.normal,[.reg [.int .u8 D.wd,D.rows
 none],.int .i64 (.ofNat w),.int .i64 (.ofNat n),p,.int .i64 (.ofNat i),.reg [.int .u8 a,.int .u8 b],.own 2 0 0 w (some w),.int .i64 (IntKind.i64.wrap (Int.ofNat k+1))],[B0,B1,rbk w fun e =>
 bif e==0+k then a
 else y e]))
 else none else
 some ((.normal,[.reg [.int .u8 D.wd,D.rows
 none],.int .i64 (.ofNat w),.int .i64 (.ofNat n),p,.int .i64 (.ofNat i),.reg [.int .u8 a,.int .u8 b],.own 2 0 0 w (some w),.int .i64 (IntKind.i64.wrap (Int.ofNat k+1))],[B0,B1,rbk w fun e =>
 bif e==0+k then a
 else y e]))
 else none else none else
 some ((.exit 2,[.reg [.int .u8 D.wd,D.rows
 none],.int .i64 (.ofNat w),.int .i64 (.ofNat n),p,.int .i64 (.ofNat i),.own 2 0 0 w (some w)],[B0,B1,rbk w y]))) from by kernel_rfl) ?_
    rw [e1,q2,ofNatE k,hkk]
    clear hy2 hy3
    (repeat (first | refine BT ?_ | refine BG ?_))
    rfl
   ·have q3:D.x i k % 2 = 0:=by omega
    refine Step.mk0 (A:=A18) (m:=0) none_ok rfl rfl loops0 (h1:=[B0,B1,rbk w fun e=>bif e==0+k then a else bif e==0+k then a else y e]) ?_ (.cons ⟨rfl,rfl,rfl,id,fun _ _=>rfl⟩ (.cons ⟨rfl,rfl,rfl,id,fun _ _=>rfl⟩ (.cons ⟨rfl,rfl,rfl,id,fun j _=>rbk_ok (rowF_e a b q.1 q.2 q3) (fun e=>by rw [Nat.zero_add,hy2] <;> cases e==k <;> rfl) j⟩ .nil)))
    refine Eq.trans (show iterR P18 G18 A18 noneO 0 13 [] 14 (v13 D w n p i a b (.own 2 0 0 w (some w)) k) [B0,B1,rbk w y] =
(
 bif decide (Int.ofNat k<Int.ofNat w) then
 bif decide (0<=Int.ofNat k)&&decide (Int.ofNat k<Int.ofNat w) then
 bif ((0:Nat)+k).blt w&&[T.int .u8 a].length==(1:Nat)&&true&&true then
 bif decide (Int.ofNat i<Int.ofNat D.m) then
 bif decide (0<=Int.ofNat i)&&decide (Int.ofNat i<Int.ofNat D.m) then
 bif decide (Int.ofNat k<Int.ofNat (D.ln i)) then
 bif decide (0<=Int.ofNat i)&&decide (Int.ofNat i<Int.ofNat D.m) then
 bif decide (0<=Int.ofNat k)&&decide (Int.ofNat k<Int.ofNat (D.ln i)) then
 bif decide ((0:Int)<=(D.x i k).tmod 2)&&decide ((D.x i k).tmod 2<2) then
 bif ((D.x i k).tmod (2:Int)).toNat==(1:Nat) then
 bif decide (0<=Int.ofNat k)&&decide (Int.ofNat k<Int.ofNat w) then
 bif ((0:Nat)+k).blt w&&[T.int .u8 b].length==(1:Nat)&&true&&true then
 some ((.normal,[.reg [.int .u8 D.wd,D.rows
 none],.int .i64 (.ofNat w),.int .i64 (.ofNat n),p,.int .i64 (.ofNat i),.reg [.int .u8 a,.int .u8 b],.own 2 0 0 w (some w),.int .i64 (IntKind.i64.wrap (Int.ofNat k+1))],[B0,B1,rbk w fun e =>
 bif e==0+k then b
 else
 bif e==0+k then a
 else y e]))
 else none else none else
 bif decide (0<=Int.ofNat k)&&decide (Int.ofNat k<Int.ofNat w) then
 bif ((0:Nat)+k).blt w&&[T.int .u8 a].length==(1:Nat)&&true&&true then
 some ((.normal,[.reg [.int .u8 D.wd,D.rows
 none],.int .i64 (.ofNat w),.int .i64 (.ofNat n),p,.int .i64 (.ofNat i),.reg [.int .u8 a,.int .u8 b],.own 2 0 0 w (some w),.int .i64 (IntKind.i64.wrap (Int.ofNat k+1))],[B0,B1,rbk w fun e =>
 bif e==0+k then a
 else
 bif e==0+k then a
 else y e]))
 else none else none else none else none else none else
 some ((.normal,[.reg [.int .u8 D.wd,D.rows
 none],.int .i64 (.ofNat w),.int .i64 (.ofNat n),p,.int .i64 (.ofNat i),.reg [.int .u8 a,.int .u8 b],.own 2 0 0 w (some w),.int .i64 (IntKind.i64.wrap (Int.ofNat k+1))],[B0,B1,rbk w fun e =>
 bif e==0+k then a
 else y e]))
 else none else
 some ((.normal,[.reg [.int .u8 D.wd,D.rows
 none],.int .i64 (.ofNat w),.int .i64 (.ofNat n),p,.int .i64 (.ofNat i),.reg [.int .u8 a,.int .u8 b],.own 2 0 0 w (some w),.int .i64 (IntKind.i64.wrap (Int.ofNat k+1))],[B0,B1,rbk w fun e =>
 bif e==0+k then a
 else y e]))
 else none else none else
 some ((.exit 2,[.reg [.int .u8 D.wd,D.rows
 none],.int .i64 (.ofNat w),.int .i64 (.ofNat n),p,.int .i64 (.ofNat i),.own 2 0 0 w (some w)],[B0,B1,rbk w y]))) from by kernel_rfl) ?_
    rw [e1,q3,ofNatE k,hkk]
    clear hy2 hy3
    (repeat (first | refine BT ?_ | refine BG ?_))
    rfl
  ·refine Step.mk0 (A:=A18) (m:=0) none_ok rfl rfl loops0 (h1:=[B0,B1,rbk w fun e=>bif e==0+k then a else y e]) ?_ (.cons ⟨rfl,rfl,rfl,id,fun _ _=>rfl⟩ (.cons ⟨rfl,rfl,rfl,id,fun _ _=>rfl⟩ (.cons ⟨rfl,rfl,rfl,id,fun j _=>rbk_ok (rowF_n a b q) (fun e=>by rw [Nat.zero_add,hy2] <;> cases e==k <;> rfl) j⟩ .nil)))
   refine Eq.trans (show iterR P18 G18 A18 noneO 0 13 [] 14 (v13 D w n p i a b (.own 2 0 0 w (some w)) k) [B0,B1,rbk w y] =
(
 bif decide (Int.ofNat k<Int.ofNat w) then
 bif decide (0<=Int.ofNat k)&&decide (Int.ofNat k<Int.ofNat w) then
 bif ((0:Nat)+k).blt w&&[T.int .u8 a].length==(1:Nat)&&true&&true then
 bif decide (Int.ofNat i<Int.ofNat D.m) then
 bif decide (0<=Int.ofNat i)&&decide (Int.ofNat i<Int.ofNat D.m) then
 bif decide (Int.ofNat k<Int.ofNat (D.ln i)) then
 bif decide (0<=Int.ofNat i)&&decide (Int.ofNat i<Int.ofNat D.m) then
 bif decide (0<=Int.ofNat k)&&decide (Int.ofNat k<Int.ofNat (D.ln i)) then
 bif decide ((0:Int)<=(D.x i k).tmod 2)&&decide ((D.x i k).tmod 2<2) then
 bif ((D.x i k).tmod (2:Int)).toNat==(1:Nat) then
 bif decide (0<=Int.ofNat k)&&decide (Int.ofNat k<Int.ofNat w) then
 bif ((0:Nat)+k).blt w&&[T.int .u8 b].length==(1:Nat)&&true&&true then
 some ((.normal,[.reg [.int .u8 D.wd,D.rows
 none],.int .i64 (.ofNat w),.int .i64 (.ofNat n),p,.int .i64 (.ofNat i),.reg [.int .u8 a,.int .u8 b],.own 2 0 0 w (some w),.int .i64 (IntKind.i64.wrap (Int.ofNat k+1))],[B0,B1,rbk w fun e =>
 bif e==0+k then b
 else
 bif e==0+k then a
 else y e]))
 else none else none else
 bif decide (0<=Int.ofNat k)&&decide (Int.ofNat k<Int.ofNat w) then
 bif ((0:Nat)+k).blt w&&[T.int .u8 a].length==(1:Nat)&&true&&true then
 some ((.normal,[.reg [.int .u8 D.wd,D.rows
 none],.int .i64 (.ofNat w),.int .i64 (.ofNat n),p,.int .i64 (.ofNat i),.reg [.int .u8 a,.int .u8 b],.own 2 0 0 w (some w),.int .i64 (IntKind.i64.wrap (Int.ofNat k+1))],[B0,B1,rbk w fun e =>
 bif e==0+k then a
 else
 bif e==0+k then a
 else y e]))
 else none else none else none else none else none else
 some ((.normal,[.reg [.int .u8 D.wd,D.rows
 none],.int .i64 (.ofNat w),.int .i64 (.ofNat n),p,.int .i64 (.ofNat i),.reg [.int .u8 a,.int .u8 b],.own 2 0 0 w (some w),.int .i64 (IntKind.i64.wrap (Int.ofNat k+1))],[B0,B1,rbk w fun e =>
 bif e==0+k then a
 else y e]))
 else none else
 some ((.normal,[.reg [.int .u8 D.wd,D.rows
 none],.int .i64 (.ofNat w),.int .i64 (.ofNat n),p,.int .i64 (.ofNat i),.reg [.int .u8 a,.int .u8 b],.own 2 0 0 w (some w),.int .i64 (IntKind.i64.wrap (Int.ofNat k+1))],[B0,B1,rbk w fun e =>
 bif e==0+k then a
 else y e]))
 else none else none else
 some ((.exit 2,[.reg [.int .u8 D.wd,D.rows
 none],.int .i64 (.ofNat w),.int .i64 (.ofNat n),p,.int .i64 (.ofNat i),.own 2 0 0 w (some w)],[B0,B1,rbk w y]))) from by kernel_rfl) ?_
   rw [ofNatE k,hkk]
   clear hy2 hy3
   by_cases q3:i<D.m
   ·have q4:¬ k<D.ln i:=fun h=>q ⟨q3,h⟩
    clear q
    (repeat (first | refine BT ?_ | refine BG ?_))
    rfl
   ·clear q
    (repeat (first | refine BT ?_ | refine BG ?_))
    rfl
 ·obtain ⟨y,hy⟩:∃ y:Nat->Int,y = fun e=>bif Nat.blt e w then rowF D i a b e else 0:=⟨_,rfl⟩
  show Last P18 G18 (A18 13) 13 14 _ _ [B0,B1,rbk w fun e=>bif Nat.blt e w then rowF D i a b e else 0] _ _ _
  rw [← hy]
  refine Last.mk0 (A:=A18) (m:=0) none_ok rfl rfl loops0 (h1:=[B0,B1,rbk w y]) (by simp) ?_ (.cons ⟨rfl,rfl,rfl,id,fun _ _=>rfl⟩ (.cons ⟨rfl,rfl,rfl,id,fun _ _=>rfl⟩ (.cons ⟨rfl,rfl,rfl,id,fun j hj=>?_⟩ .nil)))
  ·clear hy
   refine Eq.trans (show iterR P18 G18 A18 noneO 0 13 [] 14 (v13 D w n p i a b (.own 2 0 0 w (some w)) (w:Nat)) [B0,B1,rbk w y] =
(
 bif decide (Int.ofNat w<Int.ofNat w) then
 bif decide (0<=Int.ofNat w)&&decide (Int.ofNat w<Int.ofNat w) then
 bif ((0:Nat)+w).blt w&&[T.int .u8 a].length==(1:Nat)&&true&&true then
 bif decide (Int.ofNat i<Int.ofNat D.m) then
 bif decide (0<=Int.ofNat i)&&decide (Int.ofNat i<Int.ofNat D.m) then
 bif decide (Int.ofNat w<Int.ofNat (D.ln i)) then
 bif decide (0<=Int.ofNat i)&&decide (Int.ofNat i<Int.ofNat D.m) then
 bif decide (0<=Int.ofNat w)&&decide (Int.ofNat w<Int.ofNat (D.ln i)) then
 bif decide ((0:Int)<=(D.x i w).tmod 2)&&decide ((D.x i w).tmod 2<2) then
 bif ((D.x i w).tmod (2:Int)).toNat==(1:Nat) then
 bif decide (0<=Int.ofNat w)&&decide (Int.ofNat w<Int.ofNat w) then
 bif ((0:Nat)+w).blt w&&[T.int .u8 b].length==(1:Nat)&&true&&true then
 some ((.normal,[.reg [.int .u8 D.wd,D.rows
 none],.int .i64 (.ofNat w),.int .i64 (.ofNat n),p,.int .i64 (.ofNat i),.reg [.int .u8 a,.int .u8 b],.own 2 0 0 w (some w),.int .i64 (IntKind.i64.wrap (Int.ofNat w+1))],[B0,B1,rbk w fun e =>
 bif e==0+w then b
 else
 bif e==0+w then a
 else y e]))
 else none else none else
 bif decide (0<=Int.ofNat w)&&decide (Int.ofNat w<Int.ofNat w) then
 bif ((0:Nat)+w).blt w&&[T.int .u8 a].length==(1:Nat)&&true&&true then
 some ((.normal,[.reg [.int .u8 D.wd,D.rows
 none],.int .i64 (.ofNat w),.int .i64 (.ofNat n),p,.int .i64 (.ofNat i),.reg [.int .u8 a,.int .u8 b],.own 2 0 0 w (some w),.int .i64 (IntKind.i64.wrap (Int.ofNat w+1))],[B0,B1,rbk w fun e =>
 bif e==0+w then a
 else
 bif e==0+w then a
 else y e]))
 else none else none else none else none else none else
 some ((.normal,[.reg [.int .u8 D.wd,D.rows
 none],.int .i64 (.ofNat w),.int .i64 (.ofNat n),p,.int .i64 (.ofNat i),.reg [.int .u8 a,.int .u8 b],.own 2 0 0 w (some w),.int .i64 (IntKind.i64.wrap (Int.ofNat w+1))],[B0,B1,rbk w fun e =>
 bif e==0+w then a
 else y e]))
 else none else
 some ((.normal,[.reg [.int .u8 D.wd,D.rows
 none],.int .i64 (.ofNat w),.int .i64 (.ofNat n),p,.int .i64 (.ofNat i),.reg [.int .u8 a,.int .u8 b],.own 2 0 0 w (some w),.int .i64 (IntKind.i64.wrap (Int.ofNat w+1))],[B0,B1,rbk w fun e =>
 bif e==0+w then a
 else y e]))
 else none else none else
 some ((.exit 2,[.reg [.int .u8 D.wd,D.rows
 none],.int .i64 (.ofNat w),.int .i64 (.ofNat n),p,.int .i64 (.ofNat i),.own 2 0 0 w (some w)],[B0,B1,rbk w y]))) from by kernel_rfl) ?_
   (repeat (first | refine BT ?_ | refine BG ?_))
   rfl
  ·show [T.int .u8 (rowF D i a b j)] = [.int .u8 (y j)]
   rw [hy]
   show _ = [T.int .u8 (bif Nat.blt j w then rowF D i a b j else 0)]
   rw [bltT (show j<w from hj),cond_true]
open Go.Proofs
theorem ren0_row {σ:List Nat} {h:Heap} {ix w:Nat} {y:Nat->Int} (hp:posOf σ ix = none) (hc:σ.contains ix = false) (hi:h[ix]? = some (rbk w y)):ren0 σ h (.own ix 0 0 w (some w)) = wrow w y:=by
 unfold rbk at hi
 simp only [ren0,hp,resolve,hc,cond_false,hi,beq_self_eq_true,Bool.true_and,Option.isNone_none]
 rw [show Nat.ble (0+w) w = true from bleT (by omega)]
 simp only [cond_true,Nat.zero_add]
 rfl
theorem fr_row {w:Nat} {f:Nat->Int} (g:Nat->List T) (hg:g 0 = [wrow w f]) (R:Nat->Nat->Int) (hR:R 0 = f) (j:Nat) (hj:j<1):(pbR w 0 R).get j = g j:=by
 obtain rfl:=one_of hj
 rw [hg,← hR]
 rfl
theorem pb_get {w j:Nat} {R:Nat->Nat->Int} {f:Nat->Int} {g:Nat->List T} (hR:R (j+1) = f) (h1:∀ e,e<j+1->g e = [wrow w (R e)]) (h2:g (j+1) = [wrow w f]) (e:Nat) (he:e<j+1+1):(pbR w (j+1) R).get e = g e:=by
 show [wrow w (R e)] = g e
 by_cases q:e<j+1
 ·rw [h1 e q]
 ·obtain rfl:e = j+1:=by omega
  rw [h2,hR]
set_option maxRecDepth 100000 in
theorem r13nil_tab (D:IR) (w n i:Nat) (a b:Int) (y:Nat->Int) (R:Nat->Nat->Int) (hR:R 0 = y) (hw:w<=1000) (hi:i<n) (hn:n<=1000) (t:Nat) (ht:t<4) (him:i<D.m) (hln:0<D.ln i) (htv:IntKind.u8.wrap ((D.x i 0).tdiv 64) = (t:Int)) (hab:(a,b) = [((1:Int),(2:Int)),(1,3),(2,3),(5,4)].getD t (0,0))
 (hl:LoopOk P18 G18 (A18 13) 13 14 (litS (v13 D w n .nils i a b (.own 1 0 0 w (some w)) 0) [tabB,rbk w fun _=>0] (.exit 2) (w13 D w n .nils i ++ [.own 1 0 0 w (some w)]) [tabB,rbk w y])):Step P18 G18 (A18 13) 13 7 0 (w13 D w n .nils i) [] (w13 D w n (pO 0) (i+1)) [pbR w 0 R]:=by
 have hii:IntKind.i64.wrap ((i:Int)+1) = ((i+1:Nat):Int):=by rw [wr64 (by omega) (by omega)]; omega
 refine Step.mkC (A:=A18) (m:=0) none_ok rfl rfl (loops1 hl) [3] (v1:=w13 D w n (.own 3 0 0 1 none) (i+1)) (h1:=[tabB,rbk w y,⟨0,1,1,fun e=>[[.own 1 0 0 w (some w)]].getD e [],false,true,none⟩,⟨0,1,1,fun e=>[[.own 1 0 0 w (some w)]].getD (0+e) [],false,false,none⟩]) ?_ (by kernel_rfl) (v2:=w13 D w n (pO 0) (i+1)) (by rfl) rfl fun nt=>.same (.cons ⟨rfl,rfl,rfl,id,fr_row _ (by show [ren0 [3] _ (.own 1 0 0 w (some w))] = _; rw [ren0_row rfl rfl rfl]) R hR⟩ .nil)
 ·rw [(show iterR P18 G18 A18 noneO 0 13 [(14,litS (v13 D w n .nils i a b (.own 1 0 0 w (some w)) 0) [tabB,rbk w fun _=>0] (.exit 2) (w13 D w n .nils i ++ [.own 1 0 0 w (some w)]) [tabB,rbk w y])] 7 (w13 D w n .nils i) [] =
(
 bif decide (Int.ofNat i<Int.ofNat n) then
 bif decide (Int.ofNat i<Int.ofNat D.m) then
 bif decide (0<=Int.ofNat i)&&decide (Int.ofNat i<Int.ofNat D.m) then
 bif decide (0<Int.ofNat (D.ln i)) then
 bif decide (0<=Int.ofNat i)&&decide (Int.ofNat i<Int.ofNat D.m) then
 bif decide (0<Int.ofNat (D.ln i)) then
 bif decide (0<=IntKind.u8.wrap ((D.x i (0:Nat)).tdiv 64))&&decide (IntKind.u8.wrap ((D.x i (0:Nat)).tdiv 64)<(4:Int)) then
 bif (0:Nat)+(IntKind.u8.wrap ((D.x i (0:Nat)).tdiv (64:Int))).toNat==(3:Nat) then
 bif decide (0<=Int.ofNat w)&&decide (Int.ofNat w<=Int.ofNat w)&&decide (Int.ofNat w * 1<=140737488355328)&&decide (Int.ofNat w<=9223372036854775807) then
 bif weakF [.reg [.int .u8 D.wd,D.rows
 none],.int .i64 (.ofNat w),.int .i64 (.ofNat n),.nils,.int .i64 (.ofNat i),.reg [.int .u8 5,.int .u8 4],.own 1 0 0 w (some w),.int .i64 0] [tabB,rbk w fun e=>(0:Int)] [.reg [.int .u8 D.wd,D.rows
 none],.int .i64 (.ofNat w),.int .i64 (.ofNat n),.nils,.int .i64 (.ofNat i),.reg [.int .u8 a,.int .u8 b],.own 1 0 0 w (some w),.int .i64 0] [tabB,rbk w fun e=>(0:Int)] then
 some ((.normal,[.reg [.int .u8 D.wd,D.rows
 none],.int .i64 (.ofNat w),.int .i64 (.ofNat n),.own [tabB,rbk w y,Blk.mk 0 1 1 (fun j=>[[T.own 1 0 0 w (some w)]].getD j []) false true
 none].length (0:Nat) (0:Nat) (1:Nat)
 none,.int .i64 (IntKind.i64.wrap (Int.ofNat i+1))],[tabB,rbk w y,.mk 0 1 1 (fun j=>[[T.own 1 0 0 w (some w)]].getD j []) false true
 none,.mk 0 1 1 (fun j=>[[T.own 1 0 0 w (some w)]].getD (0+j) []) false false
 none]))
 else none else none else
 bif (0:Nat)+(IntKind.u8.wrap ((D.x i (0:Nat)).tdiv (64:Int))).toNat==(2:Nat) then
 bif decide (0<=Int.ofNat w)&&decide (Int.ofNat w<=Int.ofNat w)&&decide (Int.ofNat w * 1<=140737488355328)&&decide (Int.ofNat w<=9223372036854775807) then
 bif weakF [.reg [.int .u8 D.wd,D.rows
 none],.int .i64 (.ofNat w),.int .i64 (.ofNat n),.nils,.int .i64 (.ofNat i),.reg [.int .u8 2,.int .u8 3],.own 1 0 0 w (some w),.int .i64 0] [tabB,rbk w fun e=>(0:Int)] [.reg [.int .u8 D.wd,D.rows
 none],.int .i64 (.ofNat w),.int .i64 (.ofNat n),.nils,.int .i64 (.ofNat i),.reg [.int .u8 a,.int .u8 b],.own 1 0 0 w (some w),.int .i64 0] [tabB,rbk w fun e=>(0:Int)] then
 some ((.normal,[.reg [.int .u8 D.wd,D.rows
 none],.int .i64 (.ofNat w),.int .i64 (.ofNat n),.own [tabB,rbk w y,Blk.mk 0 1 1 (fun j=>[[T.own 1 0 0 w (some w)]].getD j []) false true
 none].length (0:Nat) (0:Nat) (1:Nat)
 none,.int .i64 (IntKind.i64.wrap (Int.ofNat i+1))],[tabB,rbk w y,.mk 0 1 1 (fun j=>[[T.own 1 0 0 w (some w)]].getD j []) false true
 none,.mk 0 1 1 (fun j=>[[T.own 1 0 0 w (some w)]].getD (0+j) []) false false
 none]))
 else none else none else
 bif (0:Nat)+(IntKind.u8.wrap ((D.x i (0:Nat)).tdiv (64:Int))).toNat==(1:Nat) then
 bif decide (0<=Int.ofNat w)&&decide (Int.ofNat w<=Int.ofNat w)&&decide (Int.ofNat w * 1<=140737488355328)&&decide (Int.ofNat w<=9223372036854775807) then
 bif weakF [.reg [.int .u8 D.wd,D.rows
 none],.int .i64 (.ofNat w),.int .i64 (.ofNat n),.nils,.int .i64 (.ofNat i),.reg [.int .u8 1,.int .u8 3],.own 1 0 0 w (some w),.int .i64 0] [tabB,rbk w fun e=>(0:Int)] [.reg [.int .u8 D.wd,D.rows
 none],.int .i64 (.ofNat w),.int .i64 (.ofNat n),.nils,.int .i64 (.ofNat i),.reg [.int .u8 a,.int .u8 b],.own 1 0 0 w (some w),.int .i64 0] [tabB,rbk w fun e=>(0:Int)] then
 some ((.normal,[.reg [.int .u8 D.wd,D.rows
 none],.int .i64 (.ofNat w),.int .i64 (.ofNat n),.own [tabB,rbk w y,Blk.mk 0 1 1 (fun j=>[[T.own 1 0 0 w (some w)]].getD j []) false true
 none].length (0:Nat) (0:Nat) (1:Nat)
 none,.int .i64 (IntKind.i64.wrap (Int.ofNat i+1))],[tabB,rbk w y,.mk 0 1 1 (fun j=>[[T.own 1 0 0 w (some w)]].getD j []) false true
 none,.mk 0 1 1 (fun j=>[[T.own 1 0 0 w (some w)]].getD (0+j) []) false false
 none]))
 else none else none else
 bif decide (0<=Int.ofNat w)&&decide (Int.ofNat w<=Int.ofNat w)&&decide (Int.ofNat w * 1<=140737488355328)&&decide (Int.ofNat w<=9223372036854775807) then
 bif weakF [.reg [.int .u8 D.wd,D.rows
 none],.int .i64 (.ofNat w),.int .i64 (.ofNat n),.nils,.int .i64 (.ofNat i),.reg [.int .u8 1,.int .u8 2],.own 1 0 0 w (some w),.int .i64 0] [tabB,rbk w fun e=>(0:Int)] [.reg [.int .u8 D.wd,D.rows
 none],.int .i64 (.ofNat w),.int .i64 (.ofNat n),.nils,.int .i64 (.ofNat i),.reg [.int .u8 a,.int .u8 b],.own 1 0 0 w (some w),.int .i64 0] [tabB,rbk w fun e=>(0:Int)] then
 some ((.normal,[.reg [.int .u8 D.wd,D.rows
 none],.int .i64 (.ofNat w),.int .i64 (.ofNat n),.own [tabB,rbk w y,Blk.mk 0 1 1 (fun j=>[[T.own 1 0 0 w (some w)]].getD j []) false true
 none].length (0:Nat) (0:Nat) (1:Nat)
 none,.int .i64 (IntKind.i64.wrap (Int.ofNat i+1))],[tabB,rbk w y,.mk 0 1 1 (fun j=>[[T.own 1 0 0 w (some w)]].getD j []) false true
 none,.mk 0 1 1 (fun j=>[[T.own 1 0 0 w (some w)]].getD (0+j) []) false false
 none]))
 else none else none else none else none else none else
 bif decide (0<=Int.ofNat w)&&decide (Int.ofNat w<=Int.ofNat w)&&decide (Int.ofNat w * 1<=140737488355328)&&decide (Int.ofNat w<=9223372036854775807) then
 bif weakF [.reg [.int .u8 D.wd,D.rows
 none],.int .i64 (.ofNat w),.int .i64 (.ofNat n),.nils,.int .i64 (.ofNat i),.reg [.int .u8 1,.int .u8 2],.own 0 0 0 w (some w),.int .i64 0] [rbk w fun e=>(0:Int)] [.reg [.int .u8 D.wd,D.rows
 none],.int .i64 (.ofNat w),.int .i64 (.ofNat n),.nils,.int .i64 (.ofNat i),.reg [.int .u8 a,.int .u8 b],.own 1 0 0 w (some w),.int .i64 0] [tabB,rbk w fun e=>(0:Int)] then
 some ((.normal,[.reg [.int .u8 D.wd,D.rows
 none],.int .i64 (.ofNat w),.int .i64 (.ofNat n),.own [tabB,rbk w y,Blk.mk 0 1 1 (fun j=>[[T.own 1 0 0 w (some w)]].getD j []) false true
 none].length (0:Nat) (0:Nat) (1:Nat)
 none,.int .i64 (IntKind.i64.wrap (Int.ofNat i+1))],[tabB,rbk w y,.mk 0 1 1 (fun j=>[[T.own 1 0 0 w (some w)]].getD j []) false true
 none,.mk 0 1 1 (fun j=>[[T.own 1 0 0 w (some w)]].getD (0+j) []) false false
 none]))
 else none else none else none else
 bif decide (0<=Int.ofNat w)&&decide (Int.ofNat w<=Int.ofNat w)&&decide (Int.ofNat w * 1<=140737488355328)&&decide (Int.ofNat w<=9223372036854775807) then
 bif weakF [.reg [.int .u8 D.wd,D.rows
 none],.int .i64 (.ofNat w),.int .i64 (.ofNat n),.nils,.int .i64 (.ofNat i),.reg [.int .u8 1,.int .u8 2],.own 0 0 0 w (some w),.int .i64 0] [rbk w fun e=>(0:Int)] [.reg [.int .u8 D.wd,D.rows
 none],.int .i64 (.ofNat w),.int .i64 (.ofNat n),.nils,.int .i64 (.ofNat i),.reg [.int .u8 a,.int .u8 b],.own 1 0 0 w (some w),.int .i64 0] [tabB,rbk w fun e=>(0:Int)] then
 some ((.normal,[.reg [.int .u8 D.wd,D.rows
 none],.int .i64 (.ofNat w),.int .i64 (.ofNat n),.own [tabB,rbk w y,Blk.mk 0 1 1 (fun j=>[[T.own 1 0 0 w (some w)]].getD j []) false true
 none].length (0:Nat) (0:Nat) (1:Nat)
 none,.int .i64 (IntKind.i64.wrap (Int.ofNat i+1))],[tabB,rbk w y,.mk 0 1 1 (fun j=>[[T.own 1 0 0 w (some w)]].getD j []) false true
 none,.mk 0 1 1 (fun j=>[[T.own 1 0 0 w (some w)]].getD (0+j) []) false false
 none]))
 else none else none else
 some ((.exit 0,[.nils],[]))) from by kernel_rfl)]
  refine BT ?_
  refine BT ?_
  refine BT ?_
  refine BT ?_
  refine BT ?_
  refine BT ?_
  rw [htv]
  obtain rfl | rfl | rfl | rfl:t = 0 ∨ t = 1 ∨ t = 2 ∨ t = 3:=by omega
  ·obtain ⟨rfl,rfl⟩:a = 1/\b = 2:=by simpa using hab
   refine bift (by decide) ?_
   refine biff (by decide) ?_
   refine biff (by decide) ?_
   refine biff (by decide) ?_
   refine BT ?_
   refine bift (weakF_of ⟨rfl,.refl _⟩) ?_
   rw [ofNatE i,hii]
   rfl
  ·obtain ⟨rfl,rfl⟩:a = 1/\b = 3:=by simpa using hab
   refine bift (by decide) ?_
   refine biff (by decide) ?_
   refine biff (by decide) ?_
   refine bift (by decide) ?_
   refine BT ?_
   refine bift (weakF_of ⟨rfl,.refl _⟩) ?_
   rw [ofNatE i,hii]
   rfl
  ·obtain ⟨rfl,rfl⟩:a = 2/\b = 3:=by simpa using hab
   refine bift (by decide) ?_
   refine biff (by decide) ?_
   refine bift (by decide) ?_
   refine BT ?_
   refine bift (weakF_of ⟨rfl,.refl _⟩) ?_
   rw [ofNatE i,hii]
   rfl
  ·obtain ⟨rfl,rfl⟩:a = 5/\b = 4:=by simpa using hab
   refine bift (by decide) ?_
   refine bift (by decide) ?_
   refine BT ?_
   refine bift (weakF_of ⟨rfl,.refl _⟩) ?_
   rw [ofNatE i,hii]
   rfl
set_option maxRecDepth 100000 in
theorem r13nil_none (D:IR) (w n i:Nat) (a b:Int) (y:Nat->Int) (R:Nat->Nat->Int) (hR:R 0 = y) (hw:w<=1000) (hi:i<n) (hn:n<=1000) (hno:¬ (i<D.m/\0<D.ln i)) (hab:a = 1/\b = 2)
 (hl:LoopOk P18 G18 (A18 13) 13 14 (litS (v13 D w n .nils i a b (.own 0 0 0 w (some w)) 0) [rbk w fun _=>0] (.exit 2) (w13 D w n .nils i ++ [.own 0 0 0 w (some w)]) [rbk w y])):Step P18 G18 (A18 13) 13 7 0 (w13 D w n .nils i) [] (w13 D w n (pO 0) (i+1)) [pbR w 0 R]:=by
 have hii:IntKind.i64.wrap ((i:Int)+1) = ((i+1:Nat):Int):=by rw [wr64 (by omega) (by omega)]; omega
 refine Step.mkC (A:=A18) (m:=0) none_ok rfl rfl (loops1 hl) [2] (v1:=w13 D w n (.own 2 0 0 1 none) (i+1)) (h1:=[rbk w y,⟨0,1,1,fun e=>[[.own 0 0 0 w (some w)]].getD e [],false,true,none⟩,⟨0,1,1,fun e=>[[.own 0 0 0 w (some w)]].getD (0+e) [],false,false,none⟩]) ?_ (by kernel_rfl) (v2:=w13 D w n (pO 0) (i+1)) (by rfl) rfl fun nt=>.same (.cons ⟨rfl,rfl,rfl,id,fr_row _ (by show [ren0 [2] _ (.own 0 0 0 w (some w))] = _; rw [ren0_row rfl rfl rfl]) R hR⟩ .nil)
 ·rw [(show iterR P18 G18 A18 noneO 0 13 [(14,litS (v13 D w n .nils i a b (.own 0 0 0 w (some w)) 0) [rbk w fun _=>0] (.exit 2) (w13 D w n .nils i ++ [.own 0 0 0 w (some w)]) [rbk w y])] 7 (w13 D w n .nils i) [] =
(
 bif decide (Int.ofNat i<Int.ofNat n) then
 bif decide (Int.ofNat i<Int.ofNat D.m) then
 bif decide (0<=Int.ofNat i)&&decide (Int.ofNat i<Int.ofNat D.m) then
 bif decide (0<Int.ofNat (D.ln i)) then
 bif decide (0<=Int.ofNat i)&&decide (Int.ofNat i<Int.ofNat D.m) then
 bif decide (0<Int.ofNat (D.ln i)) then
 bif decide (0<=IntKind.u8.wrap ((D.x i (0:Nat)).tdiv 64))&&decide (IntKind.u8.wrap ((D.x i (0:Nat)).tdiv 64)<(4:Int)) then
 bif (0:Nat)+(IntKind.u8.wrap ((D.x i (0:Nat)).tdiv (64:Int))).toNat==(3:Nat) then
 bif decide (0<=Int.ofNat w)&&decide (Int.ofNat w<=Int.ofNat w)&&decide (Int.ofNat w * 1<=140737488355328)&&decide (Int.ofNat w<=9223372036854775807) then
 bif weakF [.reg [.int .u8 D.wd,D.rows
 none],.int .i64 (.ofNat w),.int .i64 (.ofNat n),.nils,.int .i64 (.ofNat i),.reg [.int .u8 5,.int .u8 4],.own 1 0 0 w (some w),.int .i64 0] [tabB,rbk w fun e=>(0:Int)] [.reg [.int .u8 D.wd,D.rows
 none],.int .i64 (.ofNat w),.int .i64 (.ofNat n),.nils,.int .i64 (.ofNat i),.reg [.int .u8 a,.int .u8 b],.own 0 0 0 w (some w),.int .i64 0] [rbk w fun e=>(0:Int)] then
 some ((.normal,[.reg [.int .u8 D.wd,D.rows
 none],.int .i64 (.ofNat w),.int .i64 (.ofNat n),.own [rbk w y,Blk.mk 0 1 1 (fun j=>[[T.own 0 0 0 w (some w)]].getD j []) false true
 none].length (0:Nat) (0:Nat) (1:Nat)
 none,.int .i64 (IntKind.i64.wrap (Int.ofNat i+1))],[rbk w y,.mk 0 1 1 (fun j=>[[T.own 0 0 0 w (some w)]].getD j []) false true
 none,.mk 0 1 1 (fun j=>[[T.own 0 0 0 w (some w)]].getD (0+j) []) false false
 none]))
 else none else none else
 bif (0:Nat)+(IntKind.u8.wrap ((D.x i (0:Nat)).tdiv (64:Int))).toNat==(2:Nat) then
 bif decide (0<=Int.ofNat w)&&decide (Int.ofNat w<=Int.ofNat w)&&decide (Int.ofNat w * 1<=140737488355328)&&decide (Int.ofNat w<=9223372036854775807) then
 bif weakF [.reg [.int .u8 D.wd,D.rows
 none],.int .i64 (.ofNat w),.int .i64 (.ofNat n),.nils,.int .i64 (.ofNat i),.reg [.int .u8 2,.int .u8 3],.own 1 0 0 w (some w),.int .i64 0] [tabB,rbk w fun e=>(0:Int)] [.reg [.int .u8 D.wd,D.rows
 none],.int .i64 (.ofNat w),.int .i64 (.ofNat n),.nils,.int .i64 (.ofNat i),.reg [.int .u8 a,.int .u8 b],.own 0 0 0 w (some w),.int .i64 0] [rbk w fun e=>(0:Int)] then
 some ((.normal,[.reg [.int .u8 D.wd,D.rows
 none],.int .i64 (.ofNat w),.int .i64 (.ofNat n),.own [rbk w y,Blk.mk 0 1 1 (fun j=>[[T.own 0 0 0 w (some w)]].getD j []) false true
 none].length (0:Nat) (0:Nat) (1:Nat)
 none,.int .i64 (IntKind.i64.wrap (Int.ofNat i+1))],[rbk w y,.mk 0 1 1 (fun j=>[[T.own 0 0 0 w (some w)]].getD j []) false true
 none,.mk 0 1 1 (fun j=>[[T.own 0 0 0 w (some w)]].getD (0+j) []) false false
 none]))
 else none else none else
 bif (0:Nat)+(IntKind.u8.wrap ((D.x i (0:Nat)).tdiv (64:Int))).toNat==(1:Nat) then
 bif decide (0<=Int.ofNat w)&&decide (Int.ofNat w<=Int.ofNat w)&&decide (Int.ofNat w * 1<=140737488355328)&&decide (Int.ofNat w<=9223372036854775807) then
 bif weakF [.reg [.int .u8 D.wd,D.rows
 none],.int .i64 (.ofNat w),.int .i64 (.ofNat n),.nils,.int .i64 (.ofNat i),.reg [.int .u8 1,.int .u8 3],.own 1 0 0 w (some w),.int .i64 0] [tabB,rbk w fun e=>(0:Int)] [.reg [.int .u8 D.wd,D.rows
 none],.int .i64 (.ofNat w),.int .i64 (.ofNat n),.nils,.int .i64 (.ofNat i),.reg [.int .u8 a,.int .u8 b],.own 0 0 0 w (some w),.int .i64 0] [rbk w fun e=>(0:Int)] then
 some ((.normal,[.reg [.int .u8 D.wd,D.rows
 none],.int .i64 (.ofNat w),.int .i64 (.ofNat n),.own [rbk w y,Blk.mk 0 1 1 (fun j=>[[T.own 0 0 0 w (some w)]].getD j []) false true
 none].length (0:Nat) (0:Nat) (1:Nat)
 none,.int .i64 (IntKind.i64.wrap (Int.ofNat i+1))],[rbk w y,.mk 0 1 1 (fun j=>[[T.own 0 0 0 w (some w)]].getD j []) false true
 none,.mk 0 1 1 (fun j=>[[T.own 0 0 0 w (some w)]].getD (0+j) []) false false
 none]))
 else none else none else
 bif decide (0<=Int.ofNat w)&&decide (Int.ofNat w<=Int.ofNat w)&&decide (Int.ofNat w * 1<=140737488355328)&&decide (Int.ofNat w<=9223372036854775807) then
 bif weakF [.reg [.int .u8 D.wd,D.rows
 none],.int .i64 (.ofNat w),.int .i64 (.ofNat n),.nils,.int .i64 (.ofNat i),.reg [.int .u8 1,.int .u8 2],.own 1 0 0 w (some w),.int .i64 0] [tabB,rbk w fun e=>(0:Int)] [.reg [.int .u8 D.wd,D.rows
 none],.int .i64 (.ofNat w),.int .i64 (.ofNat n),.nils,.int .i64 (.ofNat i),.reg [.int .u8 a,.int .u8 b],.own 0 0 0 w (some w),.int .i64 0] [rbk w fun e=>(0:Int)] then
 some ((.normal,[.reg [.int .u8 D.wd,D.rows
 none],.int .i64 (.ofNat w),.int .i64 (.ofNat n),.own [rbk w y,Blk.mk 0 1 1 (fun j=>[[T.own 0 0 0 w (some w)]].getD j []) false true
 none].length (0:Nat) (0:Nat) (1:Nat)
 none,.int .i64 (IntKind.i64.wrap (Int.ofNat i+1))],[rbk w y,.mk 0 1 1 (fun j=>[[T.own 0 0 0 w (some w)]].getD j []) false true
 none,.mk 0 1 1 (fun j=>[[T.own 0 0 0 w (some w)]].getD (0+j) []) false false
 none]))
 else none else none else none else none else none else
 bif decide (0<=Int.ofNat w)&&decide (Int.ofNat w<=Int.ofNat w)&&decide (Int.ofNat w * 1<=140737488355328)&&decide (Int.ofNat w<=9223372036854775807) then
 bif weakF [.reg [.int .u8 D.wd,D.rows
 none],.int .i64 (.ofNat w),.int .i64 (.ofNat n),.nils,.int .i64 (.ofNat i),.reg [.int .u8 1,.int .u8 2],.own 0 0 0 w (some w),.int .i64 0] [rbk w fun e=>(0:Int)] [.reg [.int .u8 D.wd,D.rows
 none],.int .i64 (.ofNat w),.int .i64 (.ofNat n),.nils,.int .i64 (.ofNat i),.reg [.int .u8 a,.int .u8 b],.own 0 0 0 w (some w),.int .i64 0] [rbk w fun e=>(0:Int)] then
 some ((.normal,[.reg [.int .u8 D.wd,D.rows
 none],.int .i64 (.ofNat w),.int .i64 (.ofNat n),.own [rbk w y,Blk.mk 0 1 1 (fun j=>[[T.own 0 0 0 w (some w)]].getD j []) false true
 none].length (0:Nat) (0:Nat) (1:Nat)
 none,.int .i64 (IntKind.i64.wrap (Int.ofNat i+1))],[rbk w y,.mk 0 1 1 (fun j=>[[T.own 0 0 0 w (some w)]].getD j []) false true
 none,.mk 0 1 1 (fun j=>[[T.own 0 0 0 w (some w)]].getD (0+j) []) false false
 none]))
 else none else none else none else
 bif decide (0<=Int.ofNat w)&&decide (Int.ofNat w<=Int.ofNat w)&&decide (Int.ofNat w * 1<=140737488355328)&&decide (Int.ofNat w<=9223372036854775807) then
 bif weakF [.reg [.int .u8 D.wd,D.rows
 none],.int .i64 (.ofNat w),.int .i64 (.ofNat n),.nils,.int .i64 (.ofNat i),.reg [.int .u8 1,.int .u8 2],.own 0 0 0 w (some w),.int .i64 0] [rbk w fun e=>(0:Int)] [.reg [.int .u8 D.wd,D.rows
 none],.int .i64 (.ofNat w),.int .i64 (.ofNat n),.nils,.int .i64 (.ofNat i),.reg [.int .u8 a,.int .u8 b],.own 0 0 0 w (some w),.int .i64 0] [rbk w fun e=>(0:Int)] then
 some ((.normal,[.reg [.int .u8 D.wd,D.rows
 none],.int .i64 (.ofNat w),.int .i64 (.ofNat n),.own [rbk w y,Blk.mk 0 1 1 (fun j=>[[T.own 0 0 0 w (some w)]].getD j []) false true
 none].length (0:Nat) (0:Nat) (1:Nat)
 none,.int .i64 (IntKind.i64.wrap (Int.ofNat i+1))],[rbk w y,.mk 0 1 1 (fun j=>[[T.own 0 0 0 w (some w)]].getD j []) false true
 none,.mk 0 1 1 (fun j=>[[T.own 0 0 0 w (some w)]].getD (0+j) []) false false
 none]))
 else none else none else
 some ((.exit 0,[.nils],[]))) from by kernel_rfl)]
  obtain ⟨rfl,rfl⟩:=hab
  refine BT ?_
  by_cases q:i<D.m
  ·have q2:¬ 0<D.ln i:=fun h=>hno ⟨q,h⟩
   refine BT ?_
   refine BT ?_
   refine BF ?_
   refine BT ?_
   refine bift (weakF_of ⟨rfl,.refl _⟩) ?_
   rw [ofNatE i,hii]
   rfl
  ·refine BF ?_
   refine BT ?_
   refine bift (weakF_of ⟨rfl,.refl _⟩) ?_
   rw [ofNatE i,hii]
   rfl
set_option maxRecDepth 100000 in
theorem r13own_tab (D:IR) (w n i:Nat) (a b:Int) (y:Nat->Int) (j:Nat) (hj:j<=1000) (R:Nat->Nat->Int) (hR:R (j+1) = y) (hw:w<=1000) (hi:i<n) (hn:n<=1000) (t:Nat) (ht:t<4) (him:i<D.m) (hln:0<D.ln i) (htv:IntKind.u8.wrap ((D.x i 0).tdiv 64) = (t:Int)) (hab:(a,b) = [((1:Int),(2:Int)),(1,3),(2,3),(5,4)].getD t (0,0))
 (hl:LoopOk P18 G18 (A18 13) 13 14 (litS (v13 D w n (pO j) i a b (.own 2 0 0 w (some w)) 0) [pbR w j R,tabB,rbk w fun _=>0] (.exit 2) (w13 D w n (pO j) i ++ [.own 2 0 0 w (some w)]) [pbR w j R,tabB,rbk w y])):Step P18 G18 (A18 13) 13 7 0 (w13 D w n (pO j) i) [pbR w j R] (w13 D w n (pO (j+1)) (i+1)) [pbR w (j+1) R]:=by
 have hii:IntKind.i64.wrap ((i:Int)+1) = ((i+1:Nat):Int):=by rw [wr64 (by omega) (by omega)]; omega
 refine Step.mkC (A:=A18) (m:=0) none_ok rfl rfl (loops1 hl) [0] (v1:=w13 D w n (pO (j+1)) (i+1)) (h1:=[⟨j+1,1,j+1+1,fun e=>bif Nat.blt e (j+1) then [wrow w (R (0+e))] else [[.own 2 0 0 w (some w)]].getD (0+(e - (j+1))) [],false,false,none⟩,tabB,rbk w y,⟨0,1,1,fun e=>[[.own 2 0 0 w (some w)]].getD e [],false,true,none⟩]) ?_ (by kernel_rfl) (v2:=w13 D w n (pO (j+1)) (i+1)) (by rfl) rfl fun nt=>.same (.cons ⟨rfl,rfl,rfl,id,pb_get hR (fun e he=>by show List.map _ (bif Nat.blt e (j+1) then [wrow w (R (0+e))] else _) = _; rw [bltT he,Nat.zero_add]; rfl) (by show List.map _ (bif Nat.blt (j+1) (j+1) then _ else [[T.own 2 0 0 w (some w)]].getD (0+(j+1 - (j+1))) []) = _; rw [bltF (Nat.le_refl _),Nat.sub_self]; show [ren0 [0] _ (.own 2 0 0 w (some w))] = _; rw [ren0_row rfl rfl rfl])⟩ .nil)
 ·rw [(show iterR P18 G18 A18 noneO 0 13 [(14,litS (v13 D w n (pO j) i a b (.own 2 0 0 w (some w)) 0) [pbR w j R,tabB,rbk w fun _=>0] (.exit 2) (w13 D w n (pO j) i ++ [.own 2 0 0 w (some w)]) [pbR w j R,tabB,rbk w y])] 7 (w13 D w n (pO j) i) [pbR w j R] =
(
 bif decide (Int.ofNat i<Int.ofNat n) then
 bif decide (Int.ofNat i<Int.ofNat D.m) then
 bif decide (0<=Int.ofNat i)&&decide (Int.ofNat i<Int.ofNat D.m) then
 bif decide (0<Int.ofNat (D.ln i)) then
 bif decide (0<=Int.ofNat i)&&decide (Int.ofNat i<Int.ofNat D.m) then
 bif decide (0<Int.ofNat (D.ln i)) then
 bif decide (0<=IntKind.u8.wrap ((D.x i (0:Nat)).tdiv 64))&&decide (IntKind.u8.wrap ((D.x i (0:Nat)).tdiv 64)<(4:Int)) then
 bif (0:Nat)+(IntKind.u8.wrap ((D.x i (0:Nat)).tdiv (64:Int))).toNat==(3:Nat) then
 bif decide (0<=Int.ofNat w)&&decide (Int.ofNat w<=Int.ofNat w)&&decide (Int.ofNat w * 1<=140737488355328)&&decide (Int.ofNat w<=9223372036854775807) then
 bif weakF [.reg [.int .u8 D.wd,D.rows
 none],.int .i64 (.ofNat w),.int .i64 (.ofNat n),pO j,.int .i64 (.ofNat i),.reg [.int .u8 5,.int .u8 4],.own [pbR w j R,tabB].length (0:Nat) (0:Nat) w (some w),.int .i64 0] [pbR w j R,tabB,rbk w fun e=>(0:Int)] [.reg [.int .u8 D.wd,D.rows
 none],.int .i64 (.ofNat w),.int .i64 (.ofNat n),pO j,.int .i64 (.ofNat i),.reg [.int .u8 a,.int .u8 b],.own 2 0 0 w (some w),.int .i64 0] [pbR w j R,tabB,rbk w fun e=>(0:Int)] then
 bif j==j&&true then
 bif ((0:Nat)+(j+(1:Nat))).ble (j+1) then
 bif ((j+(1:Nat)+(1:Nat)) * (25:Nat)).ble 70368744177664 then
 bif ((0:Nat)+(j+(1:Nat))+(1:Nat)).ble (j+1) then
 some ((.normal,[.reg [.int .u8 D.wd,D.rows
 none],.int .i64 (.ofNat w),.int .i64 (.ofNat n),.own 0 j 0 (j+1+(1:Nat))
 none,.int .i64 (IntKind.i64.wrap (Int.ofNat i+1))],[.mk j 1 (j+1) (fun j_1 =>
 bif ((0:Nat)+(j+(1:Nat))).ble j_1&&j_1.blt ((0:Nat)+(j+1)+(1:Nat)) then [[T.own 2 0 0 w (some w)]].getD ((0:Nat)+(j_1 - ((0:Nat)+(j+1)))) []
 else [wrow w (R j_1)]) false false
 none,tabB,rbk w y,.mk 0 1 1 (fun j=>[[T.own 2 0 0 w (some w)]].getD j []) false true
 none]))
 else
 some ((.normal,[.reg [.int .u8 D.wd,D.rows
 none],.int .i64 (.ofNat w),.int .i64 (.ofNat n),pO (j+1),.int .i64 (IntKind.i64.wrap (Int.ofNat i+1))],[.mk (j+1) (1:Nat) (j+1+(1:Nat)) (fun j_1 =>
 bif j_1.blt (j+1) then [wrow w (R (0+j_1))]
 else [[T.own 2 0 0 w (some w)]].getD ((0:Nat)+(j_1 - (j+1))) []) false false
 none,tabB,rbk w y,.mk 0 1 1 (fun j=>[[T.own 2 0 0 w (some w)]].getD j []) false true
 none]))
 else none else none else none else none else none else
 bif (0:Nat)+(IntKind.u8.wrap ((D.x i (0:Nat)).tdiv (64:Int))).toNat==(2:Nat) then
 bif decide (0<=Int.ofNat w)&&decide (Int.ofNat w<=Int.ofNat w)&&decide (Int.ofNat w * 1<=140737488355328)&&decide (Int.ofNat w<=9223372036854775807) then
 bif weakF [.reg [.int .u8 D.wd,D.rows
 none],.int .i64 (.ofNat w),.int .i64 (.ofNat n),pO j,.int .i64 (.ofNat i),.reg [.int .u8 2,.int .u8 3],.own [pbR w j R,tabB].length (0:Nat) (0:Nat) w (some w),.int .i64 0] [pbR w j R,tabB,rbk w fun e=>(0:Int)] [.reg [.int .u8 D.wd,D.rows
 none],.int .i64 (.ofNat w),.int .i64 (.ofNat n),pO j,.int .i64 (.ofNat i),.reg [.int .u8 a,.int .u8 b],.own 2 0 0 w (some w),.int .i64 0] [pbR w j R,tabB,rbk w fun e=>(0:Int)] then
 bif j==j&&true then
 bif ((0:Nat)+(j+(1:Nat))).ble (j+1) then
 bif ((j+(1:Nat)+(1:Nat)) * (25:Nat)).ble 70368744177664 then
 bif ((0:Nat)+(j+(1:Nat))+(1:Nat)).ble (j+1) then
 some ((.normal,[.reg [.int .u8 D.wd,D.rows
 none],.int .i64 (.ofNat w),.int .i64 (.ofNat n),.own 0 j 0 (j+1+(1:Nat))
 none,.int .i64 (IntKind.i64.wrap (Int.ofNat i+1))],[.mk j 1 (j+1) (fun j_1 =>
 bif ((0:Nat)+(j+(1:Nat))).ble j_1&&j_1.blt ((0:Nat)+(j+1)+(1:Nat)) then [[T.own 2 0 0 w (some w)]].getD ((0:Nat)+(j_1 - ((0:Nat)+(j+1)))) []
 else [wrow w (R j_1)]) false false
 none,tabB,rbk w y,.mk 0 1 1 (fun j=>[[T.own 2 0 0 w (some w)]].getD j []) false true
 none]))
 else
 some ((.normal,[.reg [.int .u8 D.wd,D.rows
 none],.int .i64 (.ofNat w),.int .i64 (.ofNat n),pO (j+1),.int .i64 (IntKind.i64.wrap (Int.ofNat i+1))],[.mk (j+1) (1:Nat) (j+1+(1:Nat)) (fun j_1 =>
 bif j_1.blt (j+1) then [wrow w (R (0+j_1))]
 else [[T.own 2 0 0 w (some w)]].getD ((0:Nat)+(j_1 - (j+1))) []) false false
 none,tabB,rbk w y,.mk 0 1 1 (fun j=>[[T.own 2 0 0 w (some w)]].getD j []) false true
 none]))
 else none else none else none else none else none else
 bif (0:Nat)+(IntKind.u8.wrap ((D.x i (0:Nat)).tdiv (64:Int))).toNat==(1:Nat) then
 bif decide (0<=Int.ofNat w)&&decide (Int.ofNat w<=Int.ofNat w)&&decide (Int.ofNat w * 1<=140737488355328)&&decide (Int.ofNat w<=9223372036854775807) then
 bif weakF [.reg [.int .u8 D.wd,D.rows
 none],.int .i64 (.ofNat w),.int .i64 (.ofNat n),pO j,.int .i64 (.ofNat i),.reg [.int .u8 1,.int .u8 3],.own [pbR w j R,tabB].length (0:Nat) (0:Nat) w (some w),.int .i64 0] [pbR w j R,tabB,rbk w fun e=>(0:Int)] [.reg [.int .u8 D.wd,D.rows
 none],.int .i64 (.ofNat w),.int .i64 (.ofNat n),pO j,.int .i64 (.ofNat i),.reg [.int .u8 a,.int .u8 b],.own 2 0 0 w (some w),.int .i64 0] [pbR w j R,tabB,rbk w fun e=>(0:Int)] then
 bif j==j&&true then
 bif ((0:Nat)+(j+(1:Nat))).ble (j+1) then
 bif ((j+(1:Nat)+(1:Nat)) * (25:Nat)).ble 70368744177664 then
 bif ((0:Nat)+(j+(1:Nat))+(1:Nat)).ble (j+1) then
 some ((.normal,[.reg [.int .u8 D.wd,D.rows
 none],.int .i64 (.ofNat w),.int .i64 (.ofNat n),.own 0 j 0 (j+1+(1:Nat))
 none,.int .i64 (IntKind.i64.wrap (Int.ofNat i+1))],[.mk j 1 (j+1) (fun j_1 =>
 bif ((0:Nat)+(j+(1:Nat))).ble j_1&&j_1.blt ((0:Nat)+(j+1)+(1:Nat)) then [[T.own 2 0 0 w (some w)]].getD ((0:Nat)+(j_1 - ((0:Nat)+(j+1)))) []
 else [wrow w (R j_1)]) false false
 none,tabB,rbk w y,.mk 0 1 1 (fun j=>[[T.own 2 0 0 w (some w)]].getD j []) false true
 none]))
 else
 some ((.normal,[.reg [.int .u8 D.wd,D.rows
 none],.int .i64 (.ofNat w),.int .i64 (.ofNat n),pO (j+1),.int .i64 (IntKind.i64.wrap (Int.ofNat i+1))],[.mk (j+1) (1:Nat) (j+1+(1:Nat)) (fun j_1 =>
 bif j_1.blt (j+1) then [wrow w (R (0+j_1))]
 else [[T.own 2 0 0 w (some w)]].getD ((0:Nat)+(j_1 - (j+1))) []) false false
 none,tabB,rbk w y,.mk 0 1 1 (fun j=>[[T.own 2 0 0 w (some w)]].getD j []) false true
 none]))
 else none else none else none else none else none else
 bif decide (0<=Int.ofNat w)&&decide (Int.ofNat w<=Int.ofNat w)&&decide (Int.ofNat w * 1<=140737488355328)&&decide (Int.ofNat w<=9223372036854775807) then
 bif weakF [.reg [.int .u8 D.wd,D.rows
 none],.int .i64 (.ofNat w),.int .i64 (.ofNat n),pO j,.int .i64 (.ofNat i),.reg [.int .u8 1,.int .u8 2],.own [pbR w j R,tabB].length (0:Nat) (0:Nat) w (some w),.int .i64 0] [pbR w j R,tabB,rbk w fun e=>(0:Int)] [.reg [.int .u8 D.wd,D.rows
 none],.int .i64 (.ofNat w),.int .i64 (.ofNat n),pO j,.int .i64 (.ofNat i),.reg [.int .u8 a,.int .u8 b],.own 2 0 0 w (some w),.int .i64 0] [pbR w j R,tabB,rbk w fun e=>(0:Int)] then
 bif j==j&&true then
 bif ((0:Nat)+(j+(1:Nat))).ble (j+1) then
 bif ((j+(1:Nat)+(1:Nat)) * (25:Nat)).ble 70368744177664 then
 bif ((0:Nat)+(j+(1:Nat))+(1:Nat)).ble (j+1) then
 some ((.normal,[.reg [.int .u8 D.wd,D.rows
 none],.int .i64 (.ofNat w),.int .i64 (.ofNat n),.own 0 j 0 (j+1+(1:Nat))
 none,.int .i64 (IntKind.i64.wrap (Int.ofNat i+1))],[.mk j 1 (j+1) (fun j_1 =>
 bif ((0:Nat)+(j+(1:Nat))).ble j_1&&j_1.blt ((0:Nat)+(j+1)+(1:Nat)) then [[T.own 2 0 0 w (some w)]].getD ((0:Nat)+(j_1 - ((0:Nat)+(j+1)))) []
 else [wrow w (R j_1)]) false false
 none,tabB,rbk w y,.mk 0 1 1 (fun j=>[[T.own 2 0 0 w (some w)]].getD j []) false true
 none]))
 else
 some ((.normal,[.reg [.int .u8 D.wd,D.rows
 none],.int .i64 (.ofNat w),.int .i64 (.ofNat n),pO (j+1),.int .i64 (IntKind.i64.wrap (Int.ofNat i+1))],[.mk (j+1) (1:Nat) (j+1+(1:Nat)) (fun j_1 =>
 bif j_1.blt (j+1) then [wrow w (R (0+j_1))]
 else [[T.own 2 0 0 w (some w)]].getD ((0:Nat)+(j_1 - (j+1))) []) false false
 none,tabB,rbk w y,.mk 0 1 1 (fun j=>[[T.own 2 0 0 w (some w)]].getD j []) false true
 none]))
 else none else none else none else none else none else none else none else none else
 bif decide (0<=Int.ofNat w)&&decide (Int.ofNat w<=Int.ofNat w)&&decide (Int.ofNat w * 1<=140737488355328)&&decide (Int.ofNat w<=9223372036854775807) then
 bif weakF [.reg [.int .u8 D.wd,D.rows
 none],.int .i64 (.ofNat w),.int .i64 (.ofNat n),pO j,.int .i64 (.ofNat i),.reg [.int .u8 1,.int .u8 2],.own [pbR w j R].length (0:Nat) (0:Nat) w (some w),.int .i64 0] [pbR w j R,rbk w fun e=>(0:Int)] [.reg [.int .u8 D.wd,D.rows
 none],.int .i64 (.ofNat w),.int .i64 (.ofNat n),pO j,.int .i64 (.ofNat i),.reg [.int .u8 a,.int .u8 b],.own 2 0 0 w (some w),.int .i64 0] [pbR w j R,tabB,rbk w fun e=>(0:Int)] then
 bif j==j&&true then
 bif ((0:Nat)+(j+(1:Nat))).ble (j+1) then
 bif ((j+(1:Nat)+(1:Nat)) * (25:Nat)).ble 70368744177664 then
 bif ((0:Nat)+(j+(1:Nat))+(1:Nat)).ble (j+1) then
 some ((.normal,[.reg [.int .u8 D.wd,D.rows
 none],.int .i64 (.ofNat w),.int .i64 (.ofNat n),.own 0 j 0 (j+1+(1:Nat))
 none,.int .i64 (IntKind.i64.wrap (Int.ofNat i+1))],[.mk j 1 (j+1) (fun j_1 =>
 bif ((0:Nat)+(j+(1:Nat))).ble j_1&&j_1.blt ((0:Nat)+(j+1)+(1:Nat)) then [[T.own 2 0 0 w (some w)]].getD ((0:Nat)+(j_1 - ((0:Nat)+(j+1)))) []
 else [wrow w (R j_1)]) false false
 none,tabB,rbk w y,.mk 0 1 1 (fun j=>[[T.own 2 0 0 w (some w)]].getD j []) false true
 none]))
 else
 some ((.normal,[.reg [.int .u8 D.wd,D.rows
 none],.int .i64 (.ofNat w),.int .i64 (.ofNat n),pO (j+1),.int .i64 (IntKind.i64.wrap (Int.ofNat i+1))],[.mk (j+1) (1:Nat) (j+1+(1:Nat)) (fun j_1 =>
 bif j_1.blt (j+1) then [wrow w (R (0+j_1))]
 else [[T.own 2 0 0 w (some w)]].getD ((0:Nat)+(j_1 - (j+1))) []) false false
 none,tabB,rbk w y,.mk 0 1 1 (fun j=>[[T.own 2 0 0 w (some w)]].getD j []) false true
 none]))
 else none else none else none else none else none else none else
 bif decide (0<=Int.ofNat w)&&decide (Int.ofNat w<=Int.ofNat w)&&decide (Int.ofNat w * 1<=140737488355328)&&decide (Int.ofNat w<=9223372036854775807) then
 bif weakF [.reg [.int .u8 D.wd,D.rows
 none],.int .i64 (.ofNat w),.int .i64 (.ofNat n),pO j,.int .i64 (.ofNat i),.reg [.int .u8 1,.int .u8 2],.own [pbR w j R].length (0:Nat) (0:Nat) w (some w),.int .i64 0] [pbR w j R,rbk w fun e=>(0:Int)] [.reg [.int .u8 D.wd,D.rows
 none],.int .i64 (.ofNat w),.int .i64 (.ofNat n),pO j,.int .i64 (.ofNat i),.reg [.int .u8 a,.int .u8 b],.own 2 0 0 w (some w),.int .i64 0] [pbR w j R,tabB,rbk w fun e=>(0:Int)] then
 bif j==j&&true then
 bif ((0:Nat)+(j+(1:Nat))).ble (j+1) then
 bif ((j+(1:Nat)+(1:Nat)) * (25:Nat)).ble 70368744177664 then
 bif ((0:Nat)+(j+(1:Nat))+(1:Nat)).ble (j+1) then
 some ((.normal,[.reg [.int .u8 D.wd,D.rows
 none],.int .i64 (.ofNat w),.int .i64 (.ofNat n),.own 0 j 0 (j+1+(1:Nat))
 none,.int .i64 (IntKind.i64.wrap (Int.ofNat i+1))],[.mk j 1 (j+1) (fun j_1 =>
 bif ((0:Nat)+(j+(1:Nat))).ble j_1&&j_1.blt ((0:Nat)+(j+1)+(1:Nat)) then [[T.own 2 0 0 w (some w)]].getD ((0:Nat)+(j_1 - ((0:Nat)+(j+1)))) []
 else [wrow w (R j_1)]) false false
 none,tabB,rbk w y,.mk 0 1 1 (fun j=>[[T.own 2 0 0 w (some w)]].getD j []) false true
 none]))
 else
 some ((.normal,[.reg [.int .u8 D.wd,D.rows
 none],.int .i64 (.ofNat w),.int .i64 (.ofNat n),pO (j+1),.int .i64 (IntKind.i64.wrap (Int.ofNat i+1))],[.mk (j+1) (1:Nat) (j+1+(1:Nat)) (fun j_1 =>
 bif j_1.blt (j+1) then [wrow w (R (0+j_1))]
 else [[T.own 2 0 0 w (some w)]].getD ((0:Nat)+(j_1 - (j+1))) []) false false
 none,tabB,rbk w y,.mk 0 1 1 (fun j=>[[T.own 2 0 0 w (some w)]].getD j []) false true
 none]))
 else none else none else none else none else none else
 some ((.exit 0,[pO j],[pbR w j R]))) from by kernel_rfl)]
  refine BT ?_
  refine BT ?_
  refine BT ?_
  refine BT ?_
  refine BT ?_
  refine BT ?_
  rw [htv]
  obtain rfl | rfl | rfl | rfl:t = 0 ∨ t = 1 ∨ t = 2 ∨ t = 3:=by omega
  ·obtain ⟨rfl,rfl⟩:a = 1/\b = 2:=by simpa using hab
   refine bift (by decide) ?_
   refine biff (by decide) ?_
   refine biff (by decide) ?_
   refine biff (by decide) ?_
   refine BT ?_
   refine bift (weakF_of ⟨rfl,.refl _⟩) ?_
   refine bift (by simp) ?_
   refine BT ?_
   refine BT ?_
   refine BF ?_
   rw [ofNatE i,hii]
   rfl
  ·obtain ⟨rfl,rfl⟩:a = 1/\b = 3:=by simpa using hab
   refine bift (by decide) ?_
   refine biff (by decide) ?_
   refine biff (by decide) ?_
   refine bift (by decide) ?_
   refine BT ?_
   refine bift (weakF_of ⟨rfl,.refl _⟩) ?_
   refine bift (by simp) ?_
   refine BT ?_
   refine BT ?_
   refine BF ?_
   rw [ofNatE i,hii]
   rfl
  ·obtain ⟨rfl,rfl⟩:a = 2/\b = 3:=by simpa using hab
   refine bift (by decide) ?_
   refine biff (by decide) ?_
   refine bift (by decide) ?_
   refine BT ?_
   refine bift (weakF_of ⟨rfl,.refl _⟩) ?_
   refine bift (by simp) ?_
   refine BT ?_
   refine BT ?_
   refine BF ?_
   rw [ofNatE i,hii]
   rfl
  ·obtain ⟨rfl,rfl⟩:a = 5/\b = 4:=by simpa using hab
   refine bift (by decide) ?_
   refine bift (by decide) ?_
   refine BT ?_
   refine bift (weakF_of ⟨rfl,.refl _⟩) ?_
   refine bift (by simp) ?_
   refine BT ?_
   refine BT ?_
   refine BF ?_
   rw [ofNatE i,hii]
   rfl
set_option maxRecDepth 100000 in
theorem r13own_none (D:IR) (w n i:Nat) (a b:Int) (y:Nat->Int) (j:Nat) (hj:j<=1000) (R:Nat->Nat->Int) (hR:R (j+1) = y) (hw:w<=1000) (hi:i<n) (hn:n<=1000) (hno:¬ (i<D.m/\0<D.ln i)) (hab:a = 1/\b = 2)
 (hl:LoopOk P18 G18 (A18 13) 13 14 (litS (v13 D w n (pO j) i a b (.own 1 0 0 w (some w)) 0) [pbR w j R,rbk w fun _=>0] (.exit 2) (w13 D w n (pO j) i ++ [.own 1 0 0 w (some w)]) [pbR w j R,rbk w y])):Step P18 G18 (A18 13) 13 7 0 (w13 D w n (pO j) i) [pbR w j R] (w13 D w n (pO (j+1)) (i+1)) [pbR w (j+1) R]:=by
 have hii:IntKind.i64.wrap ((i:Int)+1) = ((i+1:Nat):Int):=by rw [wr64 (by omega) (by omega)]; omega
 refine Step.mkC (A:=A18) (m:=0) none_ok rfl rfl (loops1 hl) [0] (v1:=w13 D w n (pO (j+1)) (i+1)) (h1:=[⟨j+1,1,j+1+1,fun e=>bif Nat.blt e (j+1) then [wrow w (R (0+e))] else [[.own 1 0 0 w (some w)]].getD (0+(e - (j+1))) [],false,false,none⟩,rbk w y,⟨0,1,1,fun e=>[[.own 1 0 0 w (some w)]].getD e [],false,true,none⟩]) ?_ (by kernel_rfl) (v2:=w13 D w n (pO (j+1)) (i+1)) (by rfl) rfl fun nt=>.same (.cons ⟨rfl,rfl,rfl,id,pb_get hR (fun e he=>by show List.map _ (bif Nat.blt e (j+1) then [wrow w (R (0+e))] else _) = _; rw [bltT he,Nat.zero_add]; rfl) (by show List.map _ (bif Nat.blt (j+1) (j+1) then _ else [[T.own 1 0 0 w (some w)]].getD (0+(j+1 - (j+1))) []) = _; rw [bltF (Nat.le_refl _),Nat.sub_self]; show [ren0 [0] _ (.own 1 0 0 w (some w))] = _; rw [ren0_row rfl rfl rfl])⟩ .nil)
 ·rw [(show iterR P18 G18 A18 noneO 0 13 [(14,litS (v13 D w n (pO j) i a b (.own 1 0 0 w (some w)) 0) [pbR w j R,rbk w fun _=>0] (.exit 2) (w13 D w n (pO j) i ++ [.own 1 0 0 w (some w)]) [pbR w j R,rbk w y])] 7 (w13 D w n (pO j) i) [pbR w j R] =
(
 bif decide (Int.ofNat i<Int.ofNat n) then
 bif decide (Int.ofNat i<Int.ofNat D.m) then
 bif decide (0<=Int.ofNat i)&&decide (Int.ofNat i<Int.ofNat D.m) then
 bif decide (0<Int.ofNat (D.ln i)) then
 bif decide (0<=Int.ofNat i)&&decide (Int.ofNat i<Int.ofNat D.m) then
 bif decide (0<Int.ofNat (D.ln i)) then
 bif decide (0<=IntKind.u8.wrap ((D.x i (0:Nat)).tdiv 64))&&decide (IntKind.u8.wrap ((D.x i (0:Nat)).tdiv 64)<(4:Int)) then
 bif (0:Nat)+(IntKind.u8.wrap ((D.x i (0:Nat)).tdiv (64:Int))).toNat==(3:Nat) then
 bif decide (0<=Int.ofNat w)&&decide (Int.ofNat w<=Int.ofNat w)&&decide (Int.ofNat w * 1<=140737488355328)&&decide (Int.ofNat w<=9223372036854775807) then
 bif weakF [.reg [.int .u8 D.wd,D.rows
 none],.int .i64 (.ofNat w),.int .i64 (.ofNat n),pO j,.int .i64 (.ofNat i),.reg [.int .u8 5,.int .u8 4],.own [pbR w j R,tabB].length (0:Nat) (0:Nat) w (some w),.int .i64 0] [pbR w j R,tabB,rbk w fun e=>(0:Int)] [.reg [.int .u8 D.wd,D.rows
 none],.int .i64 (.ofNat w),.int .i64 (.ofNat n),pO j,.int .i64 (.ofNat i),.reg [.int .u8 a,.int .u8 b],.own 1 0 0 w (some w),.int .i64 0] [pbR w j R,rbk w fun e=>(0:Int)] then
 bif j==j&&true then
 bif ((0:Nat)+(j+(1:Nat))).ble (j+1) then
 bif ((j+(1:Nat)+(1:Nat)) * (25:Nat)).ble 70368744177664 then
 bif ((0:Nat)+(j+(1:Nat))+(1:Nat)).ble (j+1) then
 some ((.normal,[.reg [.int .u8 D.wd,D.rows
 none],.int .i64 (.ofNat w),.int .i64 (.ofNat n),.own 0 j 0 (j+1+(1:Nat))
 none,.int .i64 (IntKind.i64.wrap (Int.ofNat i+1))],[.mk j 1 (j+1) (fun j_1 =>
 bif ((0:Nat)+(j+(1:Nat))).ble j_1&&j_1.blt ((0:Nat)+(j+1)+(1:Nat)) then [[T.own 1 0 0 w (some w)]].getD ((0:Nat)+(j_1 - ((0:Nat)+(j+1)))) []
 else [wrow w (R j_1)]) false false
 none,rbk w y,.mk 0 1 1 (fun j=>[[T.own 1 0 0 w (some w)]].getD j []) false true
 none]))
 else
 some ((.normal,[.reg [.int .u8 D.wd,D.rows
 none],.int .i64 (.ofNat w),.int .i64 (.ofNat n),pO (j+1),.int .i64 (IntKind.i64.wrap (Int.ofNat i+1))],[.mk (j+1) (1:Nat) (j+1+(1:Nat)) (fun j_1 =>
 bif j_1.blt (j+1) then [wrow w (R (0+j_1))]
 else [[T.own 1 0 0 w (some w)]].getD ((0:Nat)+(j_1 - (j+1))) []) false false
 none,rbk w y,.mk 0 1 1 (fun j=>[[T.own 1 0 0 w (some w)]].getD j []) false true
 none]))
 else none else none else none else none else none else
 bif (0:Nat)+(IntKind.u8.wrap ((D.x i (0:Nat)).tdiv (64:Int))).toNat==(2:Nat) then
 bif decide (0<=Int.ofNat w)&&decide (Int.ofNat w<=Int.ofNat w)&&decide (Int.ofNat w * 1<=140737488355328)&&decide (Int.ofNat w<=9223372036854775807) then
 bif weakF [.reg [.int .u8 D.wd,D.rows
 none],.int .i64 (.ofNat w),.int .i64 (.ofNat n),pO j,.int .i64 (.ofNat i),.reg [.int .u8 2,.int .u8 3],.own [pbR w j R,tabB].length (0:Nat) (0:Nat) w (some w),.int .i64 0] [pbR w j R,tabB,rbk w fun e=>(0:Int)] [.reg [.int .u8 D.wd,D.rows
 none],.int .i64 (.ofNat w),.int .i64 (.ofNat n),pO j,.int .i64 (.ofNat i),.reg [.int .u8 a,.int .u8 b],.own 1 0 0 w (some w),.int .i64 0] [pbR w j R,rbk w fun e=>(0:Int)] then
 bif j==j&&true then
 bif ((0:Nat)+(j+(1:Nat))).ble (j+1) then
 bif ((j+(1:Nat)+(1:Nat)) * (25:Nat)).ble 70368744177664 then
 bif ((0:Nat)+(j+(1:Nat))+(1:Nat)).ble (j+1) then
 some ((.normal,[.reg [.int .u8 D.wd,D.rows
 none],.int .i64 (.ofNat w),.int .i64 (.ofNat n),.own 0 j 0 (j+1+(1:Nat))
 none,.int .i64 (IntKind.i64.wrap (Int.ofNat i+1))],[.mk j 1 (j+1) (fun j_1 =>
 bif ((0:Nat)+(j+(1:Nat))).ble j_1&&j_1.blt ((0:Nat)+(j+1)+(1:Nat)) then [[T.own 1 0 0 w (some w)]].getD ((0:Nat)+(j_1 - ((0:Nat)+(j+1)))) []
 else [wrow w (R j_1)]) false false
 none,rbk w y,.mk 0 1 1 (fun j=>[[T.own 1 0 0 w (some w)]].getD j []) false true
 none]))
 else
 some ((.normal,[.reg [.int .u8 D.wd,D.rows
 none],.int .i64 (.ofNat w),.int .i64 (.ofNat n),pO (j+1),.int .i64 (IntKind.i64.wrap (Int.ofNat i+1))],[.mk (j+1) (1:Nat) (j+1+(1:Nat)) (fun j_1 =>
 bif j_1.blt (j+1) then [wrow w (R (0+j_1))]
 else [[T.own 1 0 0 w (some w)]].getD ((0:Nat)+(j_1 - (j+1))) []) false false
 none,rbk w y,.mk 0 1 1 (fun j=>[[T.own 1 0 0 w (some w)]].getD j []) false true
 none]))
 else none else none else none else none else none else
 bif (0:Nat)+(IntKind.u8.wrap ((D.x i (0:Nat)).tdiv (64:Int))).toNat==(1:Nat) then
 bif decide (0<=Int.ofNat w)&&decide (Int.ofNat w<=Int.ofNat w)&&decide (Int.ofNat w * 1<=140737488355328)&&decide (Int.ofNat w<=9223372036854775807) then
 bif weakF [.reg [.int .u8 D.wd,D.rows
 none],.int .i64 (.ofNat w),.int .i64 (.ofNat n),pO j,.int .i64 (.ofNat i),.reg [.int .u8 1,.int .u8 3],.own [pbR w j R,tabB].length (0:Nat) (0:Nat) w (some w),.int .i64 0] [pbR w j R,tabB,rbk w fun e=>(0:Int)] [.reg [.int .u8 D.wd,D.rows
 none],.int .i64 (.ofNat w),.int .i64 (.ofNat n),pO j,.int .i64 (.ofNat i),.reg [.int .u8 a,.int .u8 b],.own 1 0 0 w (some w),.int .i64 0] [pbR w j R,rbk w fun e=>(0:Int)] then
 bif j==j&&true then
 bif ((0:Nat)+(j+(1:Nat))).ble (j+1) then
 bif ((j+(1:Nat)+(1:Nat)) * (25:Nat)).ble 70368744177664 then
 bif ((0:Nat)+(j+(1:Nat))+(1:Nat)).ble (j+1) then
 some ((.normal,[.reg [.int .u8 D.wd,D.rows
 none],.int .i64 (.ofNat w),.int .i64 (.ofNat n),.own 0 j 0 (j+1+(1:Nat))
 none,.int .i64 (IntKind.i64.wrap (Int.ofNat i+1))],[.mk j 1 (j+1) (fun j_1 =>
 bif ((0:Nat)+(j+(1:Nat))).ble j_1&&j_1.blt ((0:Nat)+(j+1)+(1:Nat)) then [[T.own 1 0 0 w (some w)]].getD ((0:Nat)+(j_1 - ((0:Nat)+(j+1)))) []
 else [wrow w (R j_1)]) false false
 none,rbk w y,.mk 0 1 1 (fun j=>[[T.own 1 0 0 w (some w)]].getD j []) false true
 none]))
 else
 some ((.normal,[.reg [.int .u8 D.wd,D.rows
 none],.int .i64 (.ofNat w),.int .i64 (.ofNat n),pO (j+1),.int .i64 (IntKind.i64.wrap (Int.ofNat i+1))],[.mk (j+1) (1:Nat) (j+1+(1:Nat)) (fun j_1 =>
 bif j_1.blt (j+1) then [wrow w (R (0+j_1))]
 else [[T.own 1 0 0 w (some w)]].getD ((0:Nat)+(j_1 - (j+1))) []) false false
 none,rbk w y,.mk 0 1 1 (fun j=>[[T.own 1 0 0 w (some w)]].getD j []) false true
 none]))
 else none else none else none else none else none else
 bif decide (0<=Int.ofNat w)&&decide (Int.ofNat w<=Int.ofNat w)&&decide (Int.ofNat w * 1<=140737488355328)&&decide (Int.ofNat w<=9223372036854775807) then
 bif weakF [.reg [.int .u8 D.wd,D.rows
 none],.int .i64 (.ofNat w),.int .i64 (.ofNat n),pO j,.int .i64 (.ofNat i),.reg [.int .u8 1,.int .u8 2],.own [pbR w j R,tabB].length (0:Nat) (0:Nat) w (some w),.int .i64 0] [pbR w j R,tabB,rbk w fun e=>(0:Int)] [.reg [.int .u8 D.wd,D.rows
 none],.int .i64 (.ofNat w),.int .i64 (.ofNat n),pO j,.int .i64 (.ofNat i),.reg [.int .u8 a,.int .u8 b],.own 1 0 0 w (some w),.int .i64 0] [pbR w j R,rbk w fun e=>(0:Int)] then
 bif j==j&&true then
 bif ((0:Nat)+(j+(1:Nat))).ble (j+1) then
 bif ((j+(1:Nat)+(1:Nat)) * (25:Nat)).ble 70368744177664 then
 bif ((0:Nat)+(j+(1:Nat))+(1:Nat)).ble (j+1) then
 some ((.normal,[.reg [.int .u8 D.wd,D.rows
 none],.int .i64 (.ofNat w),.int .i64 (.ofNat n),.own 0 j 0 (j+1+(1:Nat))
 none,.int .i64 (IntKind.i64.wrap (Int.ofNat i+1))],[.mk j 1 (j+1) (fun j_1 =>
 bif ((0:Nat)+(j+(1:Nat))).ble j_1&&j_1.blt ((0:Nat)+(j+1)+(1:Nat)) then [[T.own 1 0 0 w (some w)]].getD ((0:Nat)+(j_1 - ((0:Nat)+(j+1)))) []
 else [wrow w (R j_1)]) false false
 none,rbk w y,.mk 0 1 1 (fun j=>[[T.own 1 0 0 w (some w)]].getD j []) false true
 none]))
 else
 some ((.normal,[.reg [.int .u8 D.wd,D.rows
 none],.int .i64 (.ofNat w),.int .i64 (.ofNat n),pO (j+1),.int .i64 (IntKind.i64.wrap (Int.ofNat i+1))],[.mk (j+1) (1:Nat) (j+1+(1:Nat)) (fun j_1 =>
 bif j_1.blt (j+1) then [wrow w (R (0+j_1))]
 else [[T.own 1 0 0 w (some w)]].getD ((0:Nat)+(j_1 - (j+1))) []) false false
 none,rbk w y,.mk 0 1 1 (fun j=>[[T.own 1 0 0 w (some w)]].getD j []) false true
 none]))
 else none else none else none else none else none else none else none else none else
 bif decide (0<=Int.ofNat w)&&decide (Int.ofNat w<=Int.ofNat w)&&decide (Int.ofNat w * 1<=140737488355328)&&decide (Int.ofNat w<=9223372036854775807) then
 bif weakF [.reg [.int .u8 D.wd,D.rows
 none],.int .i64 (.ofNat w),.int .i64 (.ofNat n),pO j,.int .i64 (.ofNat i),.reg [.int .u8 1,.int .u8 2],.own [pbR w j R].length (0:Nat) (0:Nat) w (some w),.int .i64 0] [pbR w j R,rbk w fun e=>(0:Int)] [.reg [.int .u8 D.wd,D.rows
 none],.int .i64 (.ofNat w),.int .i64 (.ofNat n),pO j,.int .i64 (.ofNat i),.reg [.int .u8 a,.int .u8 b],.own 1 0 0 w (some w),.int .i64 0] [pbR w j R,rbk w fun e=>(0:Int)] then
 bif j==j&&true then
 bif ((0:Nat)+(j+(1:Nat))).ble (j+1) then
 bif ((j+(1:Nat)+(1:Nat)) * (25:Nat)).ble 70368744177664 then
 bif ((0:Nat)+(j+(1:Nat))+(1:Nat)).ble (j+1) then
 some ((.normal,[.reg [.int .u8 D.wd,D.rows
 none],.int .i64 (.ofNat w),.int .i64 (.ofNat n),.own 0 j 0 (j+1+(1:Nat))
 none,.int .i64 (IntKind.i64.wrap (Int.ofNat i+1))],[.mk j 1 (j+1) (fun j_1 =>
 bif ((0:Nat)+(j+(1:Nat))).ble j_1&&j_1.blt ((0:Nat)+(j+1)+(1:Nat)) then [[T.own 1 0 0 w (some w)]].getD ((0:Nat)+(j_1 - ((0:Nat)+(j+1)))) []
 else [wrow w (R j_1)]) false false
 none,rbk w y,.mk 0 1 1 (fun j=>[[T.own 1 0 0 w (some w)]].getD j []) false true
 none]))
 else
 some ((.normal,[.reg [.int .u8 D.wd,D.rows
 none],.int .i64 (.ofNat w),.int .i64 (.ofNat n),pO (j+1),.int .i64 (IntKind.i64.wrap (Int.ofNat i+1))],[.mk (j+1) (1:Nat) (j+1+(1:Nat)) (fun j_1 =>
 bif j_1.blt (j+1) then [wrow w (R (0+j_1))]
 else [[T.own 1 0 0 w (some w)]].getD ((0:Nat)+(j_1 - (j+1))) []) false false
 none,rbk w y,.mk 0 1 1 (fun j=>[[T.own 1 0 0 w (some w)]].getD j []) false true
 none]))
 else none else none else none else none else none else none else
 bif decide (0<=Int.ofNat w)&&decide (Int.ofNat w<=Int.ofNat w)&&decide (Int.ofNat w * 1<=140737488355328)&&decide (Int.ofNat w<=9223372036854775807) then
 bif weakF [.reg [.int .u8 D.wd,D.rows
 none],.int .i64 (.ofNat w),.int .i64 (.ofNat n),pO j,.int .i64 (.ofNat i),.reg [.int .u8 1,.int .u8 2],.own [pbR w j R].length (0:Nat) (0:Nat) w (some w),.int .i64 0] [pbR w j R,rbk w fun e=>(0:Int)] [.reg [.int .u8 D.wd,D.rows
 none],.int .i64 (.ofNat w),.int .i64 (.ofNat n),pO j,.int .i64 (.ofNat i),.reg [.int .u8 a,.int .u8 b],.own 1 0 0 w (some w),.int .i64 0] [pbR w j R,rbk w fun e=>(0:Int)] then
 bif j==j&&true then
 bif ((0:Nat)+(j+(1:Nat))).ble (j+1) then
 bif ((j+(1:Nat)+(1:Nat)) * (25:Nat)).ble 70368744177664 then
 bif ((0:Nat)+(j+(1:Nat))+(1:Nat)).ble (j+1) then
 some ((.normal,[.reg [.int .u8 D.wd,D.rows
 none],.int .i64 (.ofNat w),.int .i64 (.ofNat n),.own 0 j 0 (j+1+(1:Nat))
 none,.int .i64 (IntKind.i64.wrap (Int.ofNat i+1))],[.mk j 1 (j+1) (fun j_1 =>
 bif ((0:Nat)+(j+(1:Nat))).ble j_1&&j_1.blt ((0:Nat)+(j+1)+(1:Nat)) then [[T.own 1 0 0 w (some w)]].getD ((0:Nat)+(j_1 - ((0:Nat)+(j+1)))) []
 else [wrow w (R j_1)]) false false
 none,rbk w y,.mk 0 1 1 (fun j=>[[T.own 1 0 0 w (some w)]].getD j []) false true
 none]))
 else
 some ((.normal,[.reg [.int .u8 D.wd,D.rows
 none],.int .i64 (.ofNat w),.int .i64 (.ofNat n),pO (j+1),.int .i64 (IntKind.i64.wrap (Int.ofNat i+1))],[.mk (j+1) (1:Nat) (j+1+(1:Nat)) (fun j_1 =>
 bif j_1.blt (j+1) then [wrow w (R (0+j_1))]
 else [[T.own 1 0 0 w (some w)]].getD ((0:Nat)+(j_1 - (j+1))) []) false false
 none,rbk w y,.mk 0 1 1 (fun j=>[[T.own 1 0 0 w (some w)]].getD j []) false true
 none]))
 else none else none else none else none else none else
 some ((.exit 0,[pO j],[pbR w j R]))) from by kernel_rfl)]
  obtain ⟨rfl,rfl⟩:=hab
  refine BT ?_
  by_cases q:i<D.m
  ·have q2:¬ 0<D.ln i:=fun h=>hno ⟨q,h⟩
   refine BT ?_
   refine BT ?_
   refine BF ?_
   refine BT ?_
   refine bift (weakF_of ⟨rfl,.refl _⟩) ?_
   refine bift (by simp) ?_
   refine BT ?_
   refine BT ?_
   refine BF ?_
   rw [ofNatE i,hii]
   rfl
  ·refine BF ?_
   refine BT ?_
   refine bift (weakF_of ⟨rfl,.refl _⟩) ?_
   refine bift (by simp) ?_
   refine BT ?_
   refine BT ?_
   refine BF ?_
   rw [ofNatE i,hii]
   rfl
open Go.Proofs
def IR.n (D:IR):Nat:=if min D.m 9 % 2 = 0 then min D.m 9+1 else min D.m 9
def st13h (D:IR) (w:Nat):Nat->Heap
 | 0=>[]
 | i+1=>[pbR w i D.r]
def st13p:Nat->T
 | 0=>.nils
 | i+1=>pO i
theorem IR.r_eq (D:IR) (i:Nat):D.r i = rowF D i (D.pA i) (D.pB i):=by funext k; rfl
theorem IR.n_bd (D:IR):1<=D.n/\D.n<=9/\D.n % 2 = 1:=by
 unfold IR.n
 split <;> omega
theorem tdiv64 {v:Int} (h:0<=v/\v<256):∃ t:Nat,t<4/\IntKind.u8.wrap (v.tdiv 64) = (t:Int)/\(pairA v,pairB v) = [((1:Int),(2:Int)),(1,3),(2,3),(5,4)].getD t (0,0):=by
 have e:v.tdiv 64 = v / 64:=Int.tdiv_eq_ediv_of_nonneg h.1
 rw [e,wr8 (by omega) (by omega)]
 unfold pairA pairB
 by_cases h1:v<64
 ·refine ⟨0,by omega,by omega,?_⟩
  rw [if_pos h1,if_pos h1]; rfl
 ·rw [if_neg h1,if_neg h1]
  by_cases h2:v<128
  ·refine ⟨1,by omega,by omega,?_⟩
   rw [if_pos h2,if_pos h2]; rfl
  ·rw [if_neg h2,if_neg h2]
   by_cases h3:v<192
   ·refine ⟨2,by omega,by omega,?_⟩
    rw [if_pos h3,if_pos h3]; rfl
   ·refine ⟨3,by omega,by omega,?_⟩
    rw [if_neg h3,if_neg h3]; rfl
theorem l13 (D:IR) (w j:Nat) (hD:D.Ok) (hw:w<=1000) (hj:j<=8):LoopOk P18 G18 (A18 13) 13 7 (litS (w13 D w (j+1) .nils 0) [] (.exit 0) [pO j] [pbR w j D.r]):=by
 refine loop_steps hm18 (by kernel_rfl) (fun i=>w13 D w (j+1) (st13p i) i) (fun i=>st13h D w i) (n:=j+1) (fun i hi=>?_) ?_
 ·by_cases q:i<D.m/\0<D.ln i
  ·obtain ⟨t,ht,htv,hab⟩:=tdiv64 (hD.x i 0)
   have hA:D.pA i = pairA (D.x i 0):=by unfold IR.pA; rw [if_pos q]
   have hB:D.pB i = pairB (D.x i 0):=by unfold IR.pB; rw [if_pos q]
   rw [← hA,← hB] at hab
   have hr:=D.r_eq i
   generalize D.pA i = a at *
   generalize D.pB i = b at *
   cases i with
   | zero=>exact r13nil_tab D w (j+1) 0 a b _ D.r hr hw (by omega) (by omega) t ht q.1 q.2 htv hab (l13k1 D w (j+1) .nils 0 a b tabB hD hw)
   | succ i=>exact r13own_tab D w (j+1) (i+1) a b _ i (by omega) D.r hr hw (by omega) (by omega) t ht q.1 q.2 htv hab (l13k2 D w (j+1) (pO i) (i+1) a b (pbR w i D.r) tabB hD hw)
  ·have hA:D.pA i = 1:=by unfold IR.pA; rw [if_neg q]
   have hB:D.pB i = 2:=by unfold IR.pB; rw [if_neg q]
   have hr:=D.r_eq i
   generalize D.pA i = a at *
   generalize D.pB i = b at *
   cases i with
   | zero=>exact r13nil_none D w (j+1) 0 a b _ D.r hr hw (by omega) (by omega) q ⟨hA,hB⟩ (l13k0 D w (j+1) .nils 0 a b hD hw)
   | succ i=>exact r13own_none D w (j+1) (i+1) a b _ i (by omega) D.r hr hw (by omega) (by omega) q ⟨hA,hB⟩ (l13k1 D w (j+1) (pO i) (i+1) a b (pbR w i D.r) hD hw)
 ·show Last P18 G18 (A18 13) 13 7 _ (w13 D w (j+1) (pO j) (j+1)) [pbR w j D.r] _ _ [pbR w j D.r]
  generalize D.r = R
  have hn:j+1<=j+1:=Nat.le_refl _
  generalize hnn:j+1 = n
  refine Last.mk0 (A:=A18) (m:=0) none_ok rfl rfl loops0 (h1:=[pbR w j R]) (by simp) ?_ (.refl _)
  rw [(show iterR P18 G18 A18 noneO 0 13 [] 7 (w13 D w n (pO j) (n:Nat)) [pbR w j R] =
(
 bif decide (Int.ofNat n<Int.ofNat n) then
 bif decide (Int.ofNat n<Int.ofNat D.m) then
 bif decide (0<=Int.ofNat n)&&decide (Int.ofNat n<Int.ofNat D.m) then
 bif decide (0<Int.ofNat (D.ln n)) then
 bif decide (0<=Int.ofNat n)&&decide (Int.ofNat n<Int.ofNat D.m) then
 bif decide (0<Int.ofNat (D.ln n)) then
 bif decide (0<=IntKind.u8.wrap ((D.x n (0:Nat)).tdiv 64))&&decide (IntKind.u8.wrap ((D.x n (0:Nat)).tdiv 64)<(4:Int)) then
 bif (0:Nat)+(IntKind.u8.wrap ((D.x n (0:Nat)).tdiv (64:Int))).toNat==(3:Nat) then
 bif decide (0<=Int.ofNat w)&&decide (Int.ofNat w<=Int.ofNat w)&&decide (Int.ofNat w * 1<=140737488355328)&&decide (Int.ofNat w<=9223372036854775807) then none else none else
 bif (0:Nat)+(IntKind.u8.wrap ((D.x n (0:Nat)).tdiv (64:Int))).toNat==(2:Nat) then
 bif decide (0<=Int.ofNat w)&&decide (Int.ofNat w<=Int.ofNat w)&&decide (Int.ofNat w * 1<=140737488355328)&&decide (Int.ofNat w<=9223372036854775807) then none else none else
 bif (0:Nat)+(IntKind.u8.wrap ((D.x n (0:Nat)).tdiv (64:Int))).toNat==(1:Nat) then
 bif decide (0<=Int.ofNat w)&&decide (Int.ofNat w<=Int.ofNat w)&&decide (Int.ofNat w * 1<=140737488355328)&&decide (Int.ofNat w<=9223372036854775807) then none else none else
 bif decide (0<=Int.ofNat w)&&decide (Int.ofNat w<=Int.ofNat w)&&decide (Int.ofNat w * 1<=140737488355328)&&decide (Int.ofNat w<=9223372036854775807) then none else none else none else none else none else
 bif decide (0<=Int.ofNat w)&&decide (Int.ofNat w<=Int.ofNat w)&&decide (Int.ofNat w * 1<=140737488355328)&&decide (Int.ofNat w<=9223372036854775807) then none else none else none else
 bif decide (0<=Int.ofNat w)&&decide (Int.ofNat w<=Int.ofNat w)&&decide (Int.ofNat w * 1<=140737488355328)&&decide (Int.ofNat w<=9223372036854775807) then none else none else
 some ((.exit 0,[pO j],[pbR w j R]))) from by kernel_rfl)]
  refine BF ?_
  rfl
theorem OfT (D:IR) (hD:D.Ok):ToldOk P18 G18 13 [.agg [.int .u8 D.wd,D.rows none]] (picV D.r D.w D.n (some D.w) none):=by
 have hwd:=hD.wd
 have hw:D.w<=10/\((D.w:Nat):Int) = 1+D.wd % 10:=by unfold IR.w; omega
 obtain ⟨hn1,hn2,_⟩:=D.n_bd
 obtain ⟨j,hj⟩:∃ j,D.n = j+1:=⟨D.n - 1,by omega⟩
 have hl:=l13 D D.w j hD (by omega) (by omega)
 refine ToldOk.frz (r:=.fresh false 1 D.n (fun i=>[rowV (D.r i) D.w (some D.w)]) D.n none) ?_
 refine stepL_told hm18 hn18 none_ok (A:=A18) (m:=0) (by kernel_rfl) (loops1 hl) ?_
 have e1:IntKind.i64.wrap (1+IntKind.i64.wrap (D.wd.tmod 10)) = (D.w:Int):=by
  rw [Int.tmod_eq_emod_of_nonneg hwd.1,wr64 (x:=D.wd % 10) (by omega) (by omega),wr64 (by omega) (by omega),hw.2]
 have e2:(bif decide ((9:Int)<(D.m:Int)) then (9:Int) else (D.m:Int)) = ((min D.m 9:Nat):Int):=by
  by_cases q:(9:Int)<(D.m:Int)
  ·rw [dT q,cond_true]; omega
  ·rw [dF q,cond_false]; omega
 have e3:((min D.m 9:Nat):Int).tmod 2 = ((min D.m 9 % 2:Nat):Int):=rfl
 generalize D.w = w at *
 have hn:=hj
 unfold IR.n at hn
 rw [hj]
 generalize D.r = R at *
 rw [(show stepL P18 G18 A18 noneO 0 13 [(7,litS (w13 D w (j+1) .nils 0) [] (.exit 0) [pO j] [pbR w j R])] [.agg [.int .u8 D.wd,D.rows none]] =
(
 bif decide ((bif decide ((9:Int)<Int.ofNat D.m) then (9:Int)
 else Int.ofNat D.m).tmod 2 = 0) then
 bif weakF [.reg [.int .u8 D.wd,D.rows
 none],.int .i64 (IntKind.i64.wrap (1+IntKind.i64.wrap (D.wd.tmod 10))),.int .i64 (IntKind.i64.wrap ((bif decide (9<Int.ofNat D.m) then (9:Int)
 else Int.ofNat D.m)+(1:Int))),.nils,.int .i64 0] [] [.reg [.int .u8 D.wd,D.rows
 none],.int .i64 (.ofNat w),.int .i64 (.ofNat (j+1)),.nils,.int .i64 0] [] then
 some (bif j==j&&((0:Nat)+(j+(1:Nat))).ble (j+1) then .fresh false (1:Nat) (j+1 - (0:Nat)) (fun j=>[wrow w (R (0+j))]) (j+1) none else .undef)
 else none else
 bif weakF [.reg [.int .u8 D.wd,D.rows
 none],.int .i64 (IntKind.i64.wrap (1+IntKind.i64.wrap (D.wd.tmod 10))),.int .i64 (bif decide (9<Int.ofNat D.m) then (9:Int)
 else Int.ofNat D.m),.nils,.int .i64 0] [] [.reg [.int .u8 D.wd,D.rows
 none],.int .i64 (.ofNat w),.int .i64 (.ofNat (j+1)),.nils,.int .i64 0] [] then
 some (bif j==j&&((0:Nat)+(j+(1:Nat))).ble (j+1) then .fresh false (1:Nat) (j+1 - (0:Nat)) (fun j=>[wrow w (R (0+j))]) (j+1) none else .undef)
 else
 none) from by kernel_rfl)]
 rw [ofNatE D.m,e1,e2,e3]
 have fin:(some (bif j==j&&((0:Nat)+(j+(1:Nat))).ble (j+(1:Nat)) then T.fresh false (1:Nat) (j+(1:Nat) - (0:Nat)) (fun j=>[T.view (1:Nat) w (fun j_1=>[T.int IntKind.u8 (R ((0:Nat)+j) j_1)]) (some w)]) (j+(1:Nat)) none else T.undef)) = some (T.fresh false 1 (j+1) (fun i=>[rowV (R i) w (some w)]) (j+1) none):=by
  simp only [Nat.zero_add,Nat.sub_zero,beq_self_eq_true,bleT (Nat.le_refl _),Bool.true_and,cond_true]
  rfl
 by_cases q:min D.m 9 % 2 = 0
 ·rw [if_pos q] at hn
  rw [dT (by omega),cond_true,wr64 (x:=((min D.m 9:Nat):Int)+1) (by omega) (by omega),show ((min D.m 9:Nat):Int)+1 = Int.ofNat (j+1) by rw [ofNatE]; omega]
  exact bift (weakF_of ⟨rfl,.refl _⟩) fin
 ·rw [if_neg q] at hn
  rw [dF (by omega),cond_false,show ((min D.m 9:Nat):Int) = Int.ofNat (j+1) by rw [ofNatE]; omega]
  exact bift (weakF_of ⟨rfl,.refl _⟩) fin
open Go.Proofs
open Go.Proofs
section
variable (r:Nat->Int) (n:Nat) (c:Option Nat) (most lo hi:Int)
end
open Go.Proofs
section
variable (r:Nat->Int) (n:Nat) (most lo hi:Int)
end
open Go.Proofs
section
variable (r:Nat->Int) (n:Nat) (most lo hi:Int)
end
open Go.Proofs
def v4 (D:IR) (R:Nat->Nat->Int) (n h:Nat) (rc c:Option Nat) (m tot sum i:Int):List T:=[.reg [.int .u8 D.wd,D.rows none],picV R n h rc c,.int .i64 m,.own 0 0 0 h (some h),.int .i64 tot,.int .i64 sum,.int .i64 i]
def h4 (n h:Nat) (W:Nat->Nat->Int):Heap:=[⟨0,1,h,fun i=>[wrow n (W i)],false,false,none⟩]
theorem bytes_row (f:Nat->Int) (n:Nat):bytesF (fun j=>[T.int .u8 (f j)]) n = true:=by
 unfold bytesF elemsOf
 rw [List.all_eq_true]
 intro x hx
 obtain ⟨j,_,rfl⟩:=List.mem_map.1 hx
 rfl
theorem kK_two {r:Nat->Int} {n:Nat} {a b:Int} (hr:∀ j,j<n->0<=r j/\r j<256) (h:∀ j,j<n->r j = a ∨ r j = b):kK r n<=2:=by
 rcases Nat.lt_or_ge 2 (kK r n) with q | q
 ·exfalso
  have ha:=csK_asc r n
  have key:∀ i,i<kK r n->csK r n i = a ∨ csK r n i = b:=fun i hi=>by
   obtain ⟨j,_,h1,h2⟩:=(csK_mem hr (csK r n i)).1 ⟨i,Nat.zero_le _,hi,rfl⟩
   rw [← h2]; exact h j h1
  have a1:=ha 0 1 (by omega) (by omega)
  have a2:=ha 1 2 (by omega) (by omega)
  have b0:=key 0 (by omega)
  have b1:=key 1 (by omega)
  have b2:=key 2 (by omega)
  omega
 ·exact q
theorem IR.pic (D:IR):PicOk D.r D.w D.n/\(∀ i j,1<=D.r i j/\D.r i j<=5):=by
 have hA:∀ i,1<=D.pA i/\D.pA i<=5:=fun i=>by unfold IR.pA pairA; split <;> (try split) <;> (try split) <;> (try split) <;> omega
 have hB:∀ i,1<=D.pB i/\D.pB i<=5:=fun i=>by unfold IR.pB pairB; split <;> (try split) <;> (try split) <;> (try split) <;> omega
 have hab:∀ i j,D.r i j = D.pA i ∨ D.r i j = D.pB i:=fun i j=>by
  unfold IR.r
  split
  ·split
   ·exact .inl rfl
   ·exact .inr rfl
  ·exact .inl rfl
 have hr:∀ i j,1<=D.r i j/\D.r i j<=5:=fun i j=>by
  rcases hab i j with h | h <;> rw [h]
  ·exact hA i
  ·exact hB i
 obtain ⟨n1,n2,n3⟩:=D.n_bd
 refine ⟨⟨by unfold IR.w; omega,by unfold IR.w nmax; omega,by omega,n3,fun i _ j _=>by have:=hr i j; omega,fun i _=>kK_two (a:=D.pA i) (b:=D.pB i) (fun j _=>by have:=hr i j; omega) fun j _=>hab i j⟩,hr⟩
open Go.Proofs
def mx (a b:Int):Int:=bif decide (a<b) then b else a
open Go.Proofs
theorem strF_eq (f:Nat->Int) (n:Nat):strF (fun j=>[T.int .u8 (f j)]) n = (List.range n).map fun j=>UInt8.ofNat (f j).toNat:=by
 unfold strF elemsOf
 rw [List.map_map]
 rfl
theorem strF_inj {f g:Nat->Int} {n:Nat} (hf:∀ j,j<n->0<=f j/\f j<256) (hg:∀ j,j<n->0<=g j/\g j<256) (h:strF (fun j=>[T.int .u8 (f j)]) n = strF (fun j=>[T.int .u8 (g j)]) n):∀ j,j<n->f j = g j:=by
 intro j hj
 rw [strF_eq,strF_eq] at h
 have e:=List.map_inj_left.1 h j (List.mem_range.2 hj)
 have e2:=congrArg UInt8.toNat e
 have h1:=hf j hj
 have h2:=hg j hj
 rw [UInt8.toNat_ofNat',UInt8.toNat_ofNat'] at e2
 omega
open Go.Proofs
section
variable {r:Nat->Int} {n:Nat} {most:Int} (hm:0<=most) (h1:1<=n) (hr:∀ j,j<n->0<=r j/\r j<256) (h2:kK r n<=2)
include hm h1 hr h2
end
open Go.Proofs
def lvw (x:Nat->Nat->Bool) (m:Nat):T:=.view 16 m (fun i=>[.bool (x i 0),.bool (x i 1),.bool (x i 2),.bool (x i 3),.bool (x i 4),.bool (x i 5),.bool (x i 6),.bool (x i 7),.bool (x i 8),.bool (x i 9),.bool (x i 10),.bool (x i 11),.bool (x i 12),.bool (x i 13),.bool (x i 14),.bool (x i 15)]) none
def v5 (x:Nat->Nat->Bool) (m:Nat) (mo:Int) (p:T) (lg i:Int):List T:=[lvw x m,.int .i64 mo,p,.int .i64 lg,.int .i64 i]
def pbN (u:Nat) (R:Nat->Nat->Int):Blk:=⟨u,1,u+1,fun e=>[rowV (R e) 16 none],false,false,none⟩
open Go.Proofs
def p5:Nat->T
 | 0=>.nils
 | j+1=>pO j
def h5 (R:Nat->Nat->Int):Nat->Heap
 | 0=>[]
 | j+1=>[pbN j R]
open Go.Proofs
open Go.Proofs
structure Sti where
 (k y a b:Int) (f:Bool)
def Sti.c (s:Sti):List T:=[.int .u8 s.k,.int .u8 s.y,.int .i64 s.a,.int .i64 s.b,.bool s.f]
def Sti.t (s:Sti):T:=.agg s.c
structure Sti.Ok (s:Sti):Prop where
 k:0<=s.k/\s.k<256
 y:0<=s.y/\s.y<256
 a:-9223372036854775808<=s.a/\s.a<=9223372036854775807
 b:-9223372036854775808<=s.b/\s.b<=9223372036854775807
def Sti.v (s:Sti):Bool:=bif decide (s.k<1) then false else bif decide (8<s.k) then false else bif decide (s.y<1) then false else bif decide (6<s.y) then false else
 bif !decide (s.k = 8) then (bif !decide (s.a = 0) then false else bif !decide (s.b = 0) then false else bif s.f then false else true) else
 bif decide (s.a<1) then false else bif decide (4<s.a) then false else bif decide (s.b<1) then false else bif decide (IntKind.i64.wrap (4 - s.a)<s.b) then false else true
def vF (s:Sti):Bool:=s.v
def Sti.n (s:Sti):Int:=bif vF s then (bif decide (s.k = 3) then 0 else bif decide (s.k = 4) then 2 else bif decide (s.k = 5) then 2 else bif decide (s.k = 8) then IntKind.i64.wrap (s.a+s.b) else 1) else 0
def Sti.m (s:Sti):Int:=bif vF s then (bif decide (s.k = 8) then IntKind.i64.wrap (s.a+s.b) else 1) else 0
theorem Sti.v_iff (s:Sti) (h:s.Ok):vF s = true ↔ (1<=s.k/\s.k<=8/\1<=s.y/\s.y<=6/\((s.k ≠ 8/\s.a = 0/\s.b = 0/\s.f = false) ∨ (s.k = 8/\1<=s.a/\s.a<=4/\1<=s.b/\s.a+s.b<=4))):=by
 have:=h.a
 unfold vF Sti.v
 by_cases h1:s.k<1
 ·rw [dT h1]; simp; omega
 rw [dF h1,cond_false]
 by_cases h2:8<s.k
 ·rw [dT h2]; simp; omega
 rw [dF h2,cond_false]
 by_cases h3:s.y<1
 ·rw [dT h3]; simp; omega
 rw [dF h3,cond_false]
 by_cases h4:6<s.y
 ·rw [dT h4]; simp; omega
 rw [dF h4,cond_false]
 by_cases h5:s.k = 8
 ·rw [dT h5,Bool.not_true,cond_false]
  by_cases h6:s.a<1
  ·rw [dT h6]; simp; omega
  rw [dF h6,cond_false]
  by_cases h7:4<s.a
  ·rw [dT h7]; simp; omega
  rw [dF h7,cond_false]
  by_cases h8:s.b<1
  ·rw [dT h8]; simp; omega
  rw [dF h8,cond_false,wr64 (by omega) (by omega)]
  by_cases h9:4 - s.a<s.b
  ·rw [dT h9]; simp; omega
  rw [dF h9,cond_false]
  simp; omega
 ·rw [dF h5,Bool.not_false,cond_true]
  by_cases h6:s.a = 0
  ·by_cases h7:s.b = 0
   ·rw [dT h6,dT h7]
    cases hf:s.f
    ·simp; omega
    ·simp; omega
   ·rw [dT h6,dF h7]; simp; omega
  ·rw [dF h6]; simp; omega
theorem Sti.n_bd (s:Sti) (h:s.Ok):0<=s.n/\s.n<=4:=by
 have hv:=s.v_iff h
 unfold Sti.n
 cases q:vF s
 ·simp
 ·have hv:=hv.1 q
  rw [cond_true]
  by_cases h1:s.k = 3
  ·rw [dT h1]; simp
  rw [dF h1,cond_false]
  by_cases h2:s.k = 4
  ·rw [dT h2]; simp
  rw [dF h2,cond_false]
  by_cases h3:s.k = 5
  ·rw [dT h3]; simp
  rw [dF h3,cond_false]
  by_cases h4:s.k = 8
  ·rw [dT h4,cond_true,wr64 (by omega) (by omega)]; omega
  rw [dF h4]; simp
theorem Sti.m_bd (s:Sti) (h:s.Ok):0<=s.m/\s.m<=4:=by
 have hv:=s.v_iff h
 unfold Sti.m
 cases q:vF s
 ·simp
 ·have hv:=hv.1 q
  rw [cond_true]
  by_cases h4:s.k = 8
  ·rw [dT h4,cond_true,wr64 (by omega) (by omega)]; omega
  rw [dF h4]; simp
open Go.Proofs
def srV (r:Nat->Sti) (n:Nat) (c:Option Nat):T:=.view 5 n (fun j=>(r j).c) c
def nR5 (r:Nat->Sti) (n:Nat):Int:=sumN (fun j=>(r j).n) n
def mR5 (r:Nat->Sti) (n:Nat):Int:=sumN (fun j=>(r j).m) n
def allV (r:Nat->Sti):Nat->Bool
 | 0=>true
 | k+1=>allV r k&&vF (r k)
def wOk (x:Int):Bool:=decide (1<=x)&&decide (x<=16)
def rE (r:Nat->Sti) (n:Nat):Int:=if 16<n then 3 else if n = 0 then 1 else if allV r n = true then (if wOk (nR5 r n) = true/\wOk (mR5 r n) = true then 0 else 5) else 1
open Go.Proofs
def chV (C:Nat->Nat->Sti) (ln:Nat->Nat) (h:Nat):T:=.view 1 h (fun i=>[srV (C i) (ln i) none]) none
theorem tmod_two (h:Nat):decide ((Int.ofNat h).tmod 2 = 0) = decide (h % 2 = 0):=by
 rw [ofNatE,Int.tmod_eq_emod_of_nonneg (by omega)]
 by_cases q:h % 2 = 0
 ·rw [dT q,dT (by omega)]
 ·rw [dF q,dF (by omega)]
open Go.Proofs
def slV (B:Nat->Int) (n:Nat) (c:Option Nat):T:=.view 1 n (fun j=>[.int .i64 (B j)]) c
def bk59 (g:Nat->Int) (n:Nat):Heap:=[⟨0,1,n,fun j=>[.int .i64 (g j)],true,false,none⟩]
def Sti.mN (s:Sti):Nat:=s.m.toNat
def Sti.nN (s:Sti):Nat:=s.n.toNat
open Go.Proofs
def lB42 (L:Nat->Nat->Int) (W:Nat->Nat) (h:Nat):Blk:=⟨0,1,1+h,fun e=>[slV (L e) (W e) (some (W e))],false,false,none⟩
def bB42 (g:Nat->Int) (m:Nat):Blk:=⟨0,1,m,fun e=>[.int .i64 (g e)],true,false,none⟩
def v42a (C:Nat->Nat->Sti) (ln:Nat->Nat) (h:Nat) (n:Nat) (i:Int):List T:=[.reg [chV C ln h],.own 0 0 0 n (some n),.int .i64 n,.int .i64 i]
def v42b (C:Nat->Nat->Sti) (ln:Nat->Nat) (h i:Nat):List T:=[.own 0 0 0 (i+1) (some (1+h)),.int .i64 0,chV C ln h,.int .i64 h,.int .i64 i]
noncomputable def K42 (p q:List T->T->Prop) (e:Int) (n:Nat):Orc:=(noneO.add 55 (callF p fun _=>some (.int .i64 e))).add 56 (callF q fun _=>some (.int .i64 n))
def offN (r:Nat->Sti):Nat->Nat
 | 0=>0
 | k+1=>offN r k+(r k).nN
def outN (r:Nat->Sti):Nat->Nat
 | 0=>0
 | k+1=>outN r k+(r k).mN
def WD (C:Nat->Nat->Sti) (ln:Nat->Nat):Nat->Nat
 | 0=>offN (C 0) (ln 0)
 | i+1=>outN (C i) (ln i)
theorem offN_eq (r:Nat->Sti) (hr:∀ j,(r j).Ok):∀ n,nR5 r n = ((offN r n:Nat):Int)/\mR5 r n = ((outN r n:Nat):Int)
 | 0=>⟨rfl,rfl⟩
 | n+1=>by
  obtain ⟨h1,h2⟩:=offN_eq r hr n
  have a1:=(r n).n_bd (hr n)
  have a2:=(r n).m_bd (hr n)
  have e1:nR5 r (n+1) = nR5 r n+(r n).n:=rfl
  have e2:mR5 r (n+1) = mR5 r n+(r n).m:=rfl
  have e3:offN r (n+1) = offN r n+(r n).n.toNat:=rfl
  have e4:outN r (n+1) = outN r n+(r n).m.toNat:=rfl
  rw [e1,e2,e3,e4,h1,h2]
  omega
section
variable (C:Nat->Nat->Sti) (ln:Nat->Nat) (h i:Nat) (B:Nat->Int) (L:Nat->Nat->Int) (W:Nat->Nat)
end
open Go.Proofs
section
variable (C:Nat->Nat->Sti) (ln:Nat->Nat) (h i:Nat) (B:Nat->Int) (L:Nat->Nat->Int) (W:Nat->Nat)
end
end Go.Ab

