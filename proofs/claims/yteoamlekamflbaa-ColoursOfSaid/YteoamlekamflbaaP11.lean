/- A part of the proof: nothing is assumed. -/
import Derived.Test.YteoamlekamflbaaP9
import Derived.Test.YteoamlekamflbaaP10
import Derived.Test.YteoamlekamflbaaP8
set_option linter.all false
namespace Go.Ab
open Go.Proofs
def v70 (n:Nat) (a b lim:Nat) (bal par:Bool):List T:=[.own 0 0 0 n none,.int .i64 a,.int .i64 b,.int .i64 lim,.bool bal,.bool par]
def w70 (n:Nat) (a b lim:Nat) (bal par:Bool) (L:Nat):List T:=v70 n a b lim bal par ++ [.int .i64 L]
def x70 (n:Nat) (a b lim:Nat) (bal par:Bool) (L p:Nat) (hint:Int):List T:=w70 n a b lim bal par L ++ [.int .i64 p,.int .i64 hint]
def ch70 (k:Nat) (c:Code):Code:=match k with
 | 0=>inB (inB (inB (sq2 (sq2 c))))
 | k+1=>sq2 (ch70 k c)
def pk70 (k:Nat) (c:Code):Code:=sq1 (ch70 k c)
noncomputable def KR (f:FuncId) (p:List T->Heap->T->Heap->Prop) (r:T) (h:Heap):Orc:=K82.addRef f (refF p fun _ _=>some (r,h))
noncomputable def KR2 (p84 p70:List T->Heap->T->Heap->Prop) (n m:Nat) (d:Bool) (yp yg:Nat->Int):Orc:=(K82.addRef 84 (refF p84 fun _ _=>some (.tup [.int .i64 m,.bool d],[ub 0 n yp]))).addRef 70 (refF p70 fun _ _=>some (.tup [],[ub 0 n yg]))
structure I70 (x:Nat->Int) (n a b lim:Nat) (y:Nat->Int):Prop where
 pr:Pr x y 0 n
 out:Out y n a b
 ab:a<=b
 bn:b<=n
 limB:12<b - a->b - a<=lim+12
 limC:lim<=10
noncomputable def c70:Code:=match P18.funcs[70]? with | some fn=>fn.body.getD .skip | none=>.skip
def lT:List Nat:=[0,1,2,3,8,9]
def lW:List Nat:=[0,1,2,3,8,9,10]
def lX:List Nat:=[0,1,2,3,8,9,10,11,12]
def Pc (k:Nat) (l:List Nat) (vs:List T) (h:Heap) (e:Ex) (l':List Nat) (vs':List T) (h':Heap):Prop:=CodeGoes P18 G18 (A18 70).prom Try.f70.ntmps (pk70 k c70) (mkSt l vs h) e (mkSt l' vs' h')
def Ch (k:Nat) (l:List Nat) (vs:List T) (h:Heap) (e:Ex) (l':List Nat) (vs':List T) (h':Heap):Prop:=CodeGoes P18 G18 (A18 70).prom Try.f70.ntmps (ch70 k c70) (mkSt l vs h) e (mkSt l' vs' h')
theorem b70:Try.f70.body = some c70:=by kernel_rfl
theorem loops_ch (c:Code):∀ k,∀ b ∈ loopsOf (ch70 k c),b ∈ loopsOf c
 | 0=>fun b hb=>loops_sq2 _ _ (loops_sq2 _ _ (loops_inB _ _ (loops_inB _ _ (loops_inB _ _ hb))))
 | k+1=>fun b hb=>loops_ch c k b (loops_sq2 _ _ hb)
theorem pc {K:Orc} (hK:OrcOk P18 G18 K) (k:Nat) {l l':List Nat} {vs vs':List T} {h h':Heap} {e:Ex} (hk:codeL P18 G18 A18 K 0 70 [] (pk70 k) l vs h l' = some (e,vs',h')):Pc k l vs h e l' vs' h' :=
 goes_codeL hm18 hK Try.func70 b70 (Nat.le_of_ble_eq_true (by kernel_rfl)) (by kernel_rfl) loops0 (pk70 k) rfl (fun b hb=>loops_ch _ k b (loops_sq1 _ _ hb)) hk
theorem pc8 {K:Orc} (hK:OrcOk P18 G18 K) {l l':List Nat} {vs vs':List T} {h h':Heap} {e:Ex} (hk:codeL P18 G18 A18 K 0 70 [] (ch70 8) l vs h l' = some (e,vs',h')):Ch 8 l vs h e l' vs' h' :=
 goes_codeL hm18 hK Try.func70 b70 (Nat.le_of_ble_eq_true (by kernel_rfl)) (by kernel_rfl) loops0 (ch70 8) rfl (fun b hb=>loops_ch _ 8 b hb) hk
theorem ch_eq:(∀ k,k<8->ch70 k c70 = .seq (pk70 k c70) (ch70 (k+1) c70)):=by
 intro k hk
 obtain rfl | rfl | rfl | rfl | rfl | rfl | rfl | rfl:k = 0 ∨ k = 1 ∨ k = 2 ∨ k = 3 ∨ k = 4 ∨ k = 5 ∨ k = 6 ∨ k = 7:=by omega
 all_goals kernel_rfl
theorem ch_next {k:Nat} (hk:k<8) {l l1 l2:List Nat} {vs v1 v2:List T} {h h1 h2:Heap} {e:Ex} (p:Pc k l vs h .normal l1 v1 h1) (q:Ch (k+1) l1 v1 h1 e l2 v2 h2):Ch k l vs h e l2 v2 h2:=by
 unfold Ch
 rw [ch_eq k hk]
 exact goes_seq p q
theorem ch_ret {k:Nat} (hk:k<8) {l l1:List Nat} {vs v1:List T} {h h1:Heap} (p:Pc k l vs h .ret l1 v1 h1):Ch k l vs h .ret l1 v1 h1:=by
 unfold Ch
 rw [ch_eq k hk]
 exact goes_seq_ret p
theorem ch_exit {k i:Nat} (hk:k<8) {l l1:List Nat} {vs v1:List T} {h h1:Heap} (p:Pc k l vs h (.exit i) l1 v1 h1):Ch k l vs h (.exit i) l1 v1 h1:=by
 unfold Ch
 rw [ch_eq k hk]
 exact goes_seq_exit p
theorem refK {f:FuncId} {p:List T->Heap->T->Heap->Prop} (hp:p = ToldRef P18 G18 f) (r:T) (h:Heap):OrcOk P18 G18 (KR f p r h):=told_addRef ok82 (refF_told hp)
theorem pq12T (n a b:Nat) (x:Nat->Int) (lim:Int) (hn:n<=1000) (hb:b<=n) (hab:a<=b) (h12:b - a<=12) :
 ∃ z,(Pr x z a b/\Asc z a b)/\ToldRef P18 G18 70 [.own 0 0 0 n none,.int .i64 a,.int .i64 b,.int .i64 lim] [ub 0 n x] (.tup []) [ub 0 n z]:=by
 obtain ⟨z,hz,ht⟩:=insT n a b x hn hb hab
 obtain ⟨p,hp⟩:=is_ref P18 G18 76
 refine ⟨z,hz,?_⟩
 refine stepR_told hm18 hn18 (K:=K70 p n z) (told_addRef none_ok (refF_told hp)) (A:=A18) (m:=1) (by kernel_rfl) (l:=[]) loops0 ?_
 rw [(show stepR P18 G18 A18 (K70 p n z) 1 70 [] [.own 0 0 0 n none,.int .i64 a,.int .i64 b,.int .i64 lim] [ub 0 n x] =
(
 bif decide (IntKind.i64.wrap (Int.ofNat b - Int.ofNat a)<=(12:Int)) then
 bif decF (p (v80 n (Int.ofNat a) (Int.ofNat b)) [ub (0:Nat) n x] (.tup []) [ub (0:Nat) n z]) then
 some ((.tup [],[ub (0:Nat) n z]))
 else none else
 bif decide (lim = 0) then none else
 none) from by kernel_rfl)]
 rw [ofNatE b,ofNatE a,wr64 (x:=(b:Int) - a) (by omega) (by omega)]
 refine BT ?_
 exact bift (refF_yes hp ht) rfl
section
variable {n a b lim:Nat} {bal par:Bool} {y:Nat->Int}
theorem q0 (hb:b<=1000) (hab:a<=b):Pc 0 lT (v70 n a b lim bal par) [ub 0 n y] .normal lW (w70 n a b lim bal par (b - a)) [ub 0 n y]:=by
 refine pc none_ok 0 ?_
 show codeL P18 G18 A18 noneO 0 70 [] (pk70 0) [0,1,2,3,8,9] (v70 n a b lim bal par) [ub 0 n y] [0,1,2,3,8,9,10] = _
 rw [(show codeL P18 G18 A18 noneO 0 70 [] (pk70 0) [0,1,2,3,8,9] (v70 n a b lim bal par) [ub 0 n y] [0,1,2,3,8,9,10] =
(
 some ((.normal,[.own 0 0 0 n
 none,.int .i64 (.ofNat a),.int .i64 (.ofNat b),.int .i64 (.ofNat lim),.bool bal,.bool par,.int .i64 (IntKind.i64.wrap (Int.ofNat b - Int.ofNat a))],[ub (0:Nat) n y]))) from by kernel_rfl)]
 rw [ofNatE b,ofNatE a,show IntKind.i64.wrap ((b:Int) - a) = ((b - a:Nat):Int) by rw [wr64 (by omega) (by omega)]; omega]
 rfl
theorem q1r {L:Nat} (hL:L<=12) {z:Nat->Int} (t:ToldRef P18 G18 76 [.own 0 0 0 n none,.int .i64 a,.int .i64 b] [ub 0 n y] (.tup []) [ub 0 n z]):Pc 1 lW (w70 n a b lim bal par L) [ub 0 n y] .ret [] [] [ub 0 n z]:=by
 obtain ⟨q,hq⟩:=is_ref P18 G18 76
 refine pc (K:=KR 76 q (.tup []) [ub 0 n z]) (refK hq _ _) 1 ?_
 show codeL P18 G18 A18 (KR 76 q (.tup []) [ub 0 n z]) 0 70 [] (pk70 1) [0,1,2,3,8,9,10] (w70 n a b lim bal par L) [ub 0 n y] [] = _
 rw [(show codeL P18 G18 A18 (KR 76 q (.tup []) [ub 0 n z]) 0 70 [] (pk70 1) [0,1,2,3,8,9,10] (w70 n a b lim bal par L) [ub 0 n y] [] =
(
 bif decide (Int.ofNat L<=12) then
 bif decF (q (v80 n (Int.ofNat a) (Int.ofNat b)) [ub (0:Nat) n y] (.tup []) [ub (0:Nat) n z]) then
 some ((.ret,[],[ub (0:Nat) n z]))
 else none else
 some ((.normal,[],[ub (0:Nat) n y]))) from by kernel_rfl)]
 refine BT ?_
 exact bift (refF_yes hq t) rfl
theorem q1n {L:Nat} (hL:12<L):Pc 1 lW (w70 n a b lim bal par L) [ub 0 n y] .normal lW (w70 n a b lim bal par L) [ub 0 n y]:=by
 refine pc none_ok 1 ?_
 show codeL P18 G18 A18 noneO 0 70 [] (pk70 1) [0,1,2,3,8,9,10] (w70 n a b lim bal par L) [ub 0 n y] [0,1,2,3,8,9,10] = _
 rw [(show codeL P18 G18 A18 noneO 0 70 [] (pk70 1) [0,1,2,3,8,9,10] (w70 n a b lim bal par L) [ub 0 n y] [0,1,2,3,8,9,10] =
(
 bif decide (Int.ofNat L<=12) then none else
 some ((.normal,w70 n a b lim bal par L,[ub (0:Nat) n y]))) from by kernel_rfl)]
 refine BF ?_
 rfl
theorem q2 {L:Nat} (hl:1<=lim):Pc 2 lW (w70 n a b lim bal par L) [ub 0 n y] .normal lW (w70 n a b lim bal par L) [ub 0 n y]:=by
 refine pc none_ok 2 ?_
 show codeL P18 G18 A18 noneO 0 70 [] (pk70 2) [0,1,2,3,8,9,10] (w70 n a b lim bal par L) [ub 0 n y] [0,1,2,3,8,9,10] = _
 rw [(show codeL P18 G18 A18 noneO 0 70 [] (pk70 2) [0,1,2,3,8,9,10] (w70 n a b lim bal par L) [ub 0 n y] [0,1,2,3,8,9,10] =
(
 bif decide (Int.ofNat lim = 0) then none else
 some ((.normal,w70 n a b lim bal par L,[ub (0:Nat) n y]))) from by kernel_rfl)]
 refine BF ?_
 rfl
theorem q3t {L:Nat}:Pc 3 lW (w70 n a b lim true par L) [ub 0 n y] .normal lW (w70 n a b lim true par L) [ub 0 n y]:=by
 refine pc none_ok 3 ?_
 show codeL P18 G18 A18 noneO 0 70 [] (pk70 3) [0,1,2,3,8,9,10] (w70 n a b lim true par L) [ub 0 n y] [0,1,2,3,8,9,10] = _
 rw [(show codeL P18 G18 A18 noneO 0 70 [] (pk70 3) [0,1,2,3,8,9,10] (w70 n a b lim true par L) [ub 0 n y] [0,1,2,3,8,9,10] =
(
 some ((.normal,w70 n a b lim true par L,[ub (0:Nat) n y]))) from by kernel_rfl)]
 try rfl
theorem q3f {L:Nat} (hl:1<=lim) (hl2:lim<=10) {z:Nat->Int} (t:ToldRef P18 G18 78 [.own 0 0 0 n none,.int .i64 a,.int .i64 b] [ub 0 n y] (.tup []) [ub 0 n z]):Pc 3 lW (w70 n a b lim false par L) [ub 0 n y] .normal lW (w70 n a b (lim - 1) false par L) [ub 0 n z]:=by
 obtain ⟨q,hq⟩:=is_ref P18 G18 78
 refine pc (K:=KR 78 q (.tup []) [ub 0 n z]) (refK hq _ _) 3 ?_
 show codeL P18 G18 A18 (KR 78 q (.tup []) [ub 0 n z]) 0 70 [] (pk70 3) [0,1,2,3,8,9,10] (w70 n a b lim false par L) [ub 0 n y] [0,1,2,3,8,9,10] = _
 rw [(show codeL P18 G18 A18 (KR 78 q (.tup []) [ub 0 n z]) 0 70 [] (pk70 3) [0,1,2,3,8,9,10] (w70 n a b lim false par L) [ub 0 n y] [0,1,2,3,8,9,10] =
(
 bif decF (q (v80 n (Int.ofNat a) (Int.ofNat b)) [ub (0:Nat) n y] (.tup []) [ub (0:Nat) n z]) then
 some ((.normal,[.own 0 0 0 n
 none,.int .i64 (.ofNat a),.int .i64 (.ofNat b),.int .i64 (IntKind.i64.wrap (Int.ofNat lim - 1)),.bool false,.bool par,.int .i64 (.ofNat L)],[ub (0:Nat) n z]))
 else
 none) from by kernel_rfl)]
 refine bift (refF_yes hq t) ?_
 rw [ofNatE lim,show IntKind.i64.wrap ((lim:Int) - 1) = ((lim - 1:Nat):Int) by rw [wr64 (by omega) (by omega)]; omega]
 rfl
theorem q4 {L p:Nat} {hint:Int} (t:ToldRef P18 G18 79 [.own 0 0 0 n none,.int .i64 a,.int .i64 b] [ub 0 n y] (.tup [.int .i64 p,.int .i64 hint]) [ub 0 n y]):Pc 4 lW (w70 n a b lim bal par L) [ub 0 n y] .normal lX (x70 n a b lim bal par L p hint) [ub 0 n y]:=by
 obtain ⟨q,hq⟩:=is_ref P18 G18 79
 refine pc (K:=KR 79 q (.tup [.int .i64 p,.int .i64 hint]) [ub 0 n y]) (refK hq _ _) 4 ?_
 show codeL P18 G18 A18 (KR 79 q (.tup [.int .i64 p,.int .i64 hint]) [ub 0 n y]) 0 70 [] (pk70 4) [0,1,2,3,8,9,10] (w70 n a b lim bal par L) [ub 0 n y] [0,1,2,3,8,9,10,11,12] = _
 rw [(show codeL P18 G18 A18 (KR 79 q (.tup [.int .i64 p,.int .i64 hint]) [ub 0 n y]) 0 70 [] (pk70 4) [0,1,2,3,8,9,10] (w70 n a b lim bal par L) [ub 0 n y] [0,1,2,3,8,9,10,11,12] =
(
 bif decF (q (v80 n (Int.ofNat a) (Int.ofNat b)) [ub (0:Nat) n y] (.tup [.int .i64 (.ofNat p),.int .i64 hint]) [ub (0:Nat) n y]) then
 some ((.normal,x70 n a b lim bal par L p hint,[ub (0:Nat) n y]))
 else
 none) from by kernel_rfl)]
 exact bift (refF_yes hq t) rfl
theorem q5t {L p:Nat} {z:Nat->Int} (hb:b<=1000) (hp:a<=p) (hp2:p<b) (t:ToldRef P18 G18 80 [.own 0 0 0 n none,.int .i64 a,.int .i64 b] [ub 0 n y] (.tup []) [ub 0 n z]):Pc 5 lX (x70 n a b lim bal par L p 2) [ub 0 n y] .normal lX (x70 n a b lim bal par L (b - 1 - (p - a)) 1) [ub 0 n z]:=by
 obtain ⟨q,hq⟩:=is_ref P18 G18 80
 refine pc (K:=KR 80 q (.tup []) [ub 0 n z]) (refK hq _ _) 5 ?_
 show codeL P18 G18 A18 (KR 80 q (.tup []) [ub 0 n z]) 0 70 [] (pk70 5) [0,1,2,3,8,9,10,11,12] (x70 n a b lim bal par L p 2) [ub 0 n y] [0,1,2,3,8,9,10,11,12] = _
 rw [(show codeL P18 G18 A18 (KR 80 q (.tup []) [ub 0 n z]) 0 70 [] (pk70 5) [0,1,2,3,8,9,10,11,12] (x70 n a b lim bal par L p 2) [ub 0 n y] [0,1,2,3,8,9,10,11,12] =
(
 bif decF (q (v80 n (Int.ofNat a) (Int.ofNat b)) [ub (0:Nat) n y] (.tup []) [ub (0:Nat) n z]) then
 some ((.normal,[.own 0 0 0 n
 none,.int .i64 (.ofNat a),.int .i64 (.ofNat b),.int .i64 (.ofNat lim),.bool bal,.bool par,.int .i64 (.ofNat L),.int .i64 (IntKind.i64.wrap (IntKind.i64.wrap (Int.ofNat b - 1) - IntKind.i64.wrap (Int.ofNat p - Int.ofNat a))),.int .i64 1],[ub (0:Nat) n z]))
 else
 none) from by kernel_rfl)]
 refine bift (refF_yes hq t) ?_
 rw [ofNatE b,ofNatE p,ofNatE a,wr64 (x:=(b:Int) - 1) (by omega) (by omega),wr64 (x:=(p:Int) - a) (by omega) (by omega),show IntKind.i64.wrap ((b:Int) - 1 - ((p:Int) - a)) = ((b - 1 - (p - a):Nat):Int) by rw [wr64 (by omega) (by omega)]; omega]
 rfl
theorem q5f {L p:Nat} {hint:Int} (hh:hint ≠ 2):Pc 5 lX (x70 n a b lim bal par L p hint) [ub 0 n y] .normal lX (x70 n a b lim bal par L p hint) [ub 0 n y]:=by
 refine pc none_ok 5 ?_
 show codeL P18 G18 A18 noneO 0 70 [] (pk70 5) [0,1,2,3,8,9,10,11,12] (x70 n a b lim bal par L p hint) [ub 0 n y] [0,1,2,3,8,9,10,11,12] = _
 rw [(show codeL P18 G18 A18 noneO 0 70 [] (pk70 5) [0,1,2,3,8,9,10,11,12] (x70 n a b lim bal par L p hint) [ub 0 n y] [0,1,2,3,8,9,10,11,12] =
(
 bif decide (hint = 2) then none else
 some ((.normal,x70 n a b lim bal par L p hint,[ub (0:Nat) n y]))) from by kernel_rfl)]
 rw [dF hh]
 rfl
end
open Go.Proofs
section
variable {n a b lim L p:Nat} {hint:Int} {bal par:Bool} {y:Nat->Int}
theorem q6n (hf:(bal&&(par&&decide (hint = 1))) = false):Pc 6 lX (x70 n a b lim bal par L p hint) [ub 0 n y] .normal lX (x70 n a b lim bal par L p hint) [ub 0 n y]:=by
 refine pc none_ok 6 ?_
 show codeL P18 G18 A18 noneO 0 70 [] (pk70 6) [0,1,2,3,8,9,10,11,12] (x70 n a b lim bal par L p hint) [ub 0 n y] [0,1,2,3,8,9,10,11,12] = _
 rw [(show codeL P18 G18 A18 noneO 0 70 [] (pk70 6) [0,1,2,3,8,9,10,11,12] (x70 n a b lim bal par L p hint) [ub 0 n y] [0,1,2,3,8,9,10,11,12] =
(
 bif bal then
 bif par then
 bif decide (hint = 1) then none else
 some ((.normal,x70 n a b lim bal par L p hint,[ub (0:Nat) n y]))
 else
 some ((.normal,x70 n a b lim bal par L p hint,[ub (0:Nat) n y]))
 else
 some ((.normal,x70 n a b lim bal par L p hint,[ub (0:Nat) n y]))) from by kernel_rfl)]
 cases bal
 ·rfl
 ·cases par
  ·rfl
  ·rw [Bool.true_and,Bool.true_and] at hf
   rw [hf]
   rfl
theorem q6c {ins:Bool} (t:ToldRef P18 G18 81 [.own 0 0 0 n none,.int .i64 a,.int .i64 b] [ub 0 n y] (.bool ins) [ub 0 n y]) :
 (ins = true->Pc 6 lX (x70 n a b lim true true L p 1) [ub 0 n y] .ret [] [] [ub 0 n y])/\(ins = false->Pc 6 lX (x70 n a b lim true true L p 1) [ub 0 n y] .normal lX (x70 n a b lim true true L p 1) [ub 0 n y]):=by
 obtain ⟨q,hq⟩:=is_ref P18 G18 81
 constructor
 ·rintro rfl
  refine pc (K:=KR 81 q (.bool true) [ub 0 n y]) (refK hq _ _) 6 ?_
  show codeL P18 G18 A18 (KR 81 q (.bool true) [ub 0 n y]) 0 70 [] (pk70 6) [0,1,2,3,8,9,10,11,12] (x70 n a b lim true true L p 1) [ub 0 n y] [] = _
  rw [(show codeL P18 G18 A18 (KR 81 q (.bool true) [ub 0 n y]) 0 70 [] (pk70 6) [0,1,2,3,8,9,10,11,12] (x70 n a b lim true true L p 1) [ub 0 n y] [] =
(
 bif decF (q [.own 0 0 0 n
 none,.int .i64 (.ofNat a),.int .i64 (.ofNat b)] [.mk 0 1 n (fun j=>[.int .u8 (y j)]) true false
 none] (.bool true) [.mk 0 1 n (fun j=>[.int .u8 (y j)]) true false
 none]) then
 some ((.ret,[],[ub (0:Nat) n y]))
 else
 none) from by kernel_rfl)]
  exact bift (refF_yes hq t) rfl
 ·rintro rfl
  refine pc (K:=KR 81 q (.bool false) [ub 0 n y]) (refK hq _ _) 6 ?_
  show codeL P18 G18 A18 (KR 81 q (.bool false) [ub 0 n y]) 0 70 [] (pk70 6) [0,1,2,3,8,9,10,11,12] (x70 n a b lim true true L p 1) [ub 0 n y] [0,1,2,3,8,9,10,11,12] = _
  rw [(show codeL P18 G18 A18 (KR 81 q (.bool false) [ub 0 n y]) 0 70 [] (pk70 6) [0,1,2,3,8,9,10,11,12] (x70 n a b lim true true L p 1) [ub 0 n y] [0,1,2,3,8,9,10,11,12] =
(
 bif decF (q [.own 0 0 0 n
 none,.int .i64 (.ofNat a),.int .i64 (.ofNat b)] [.mk 0 1 n (fun j=>[.int .u8 (y j)]) true false
 none] (.bool false) [.mk 0 1 n (fun j=>[.int .u8 (y j)]) true false
 none]) then
 some ((.normal,x70 n a b lim true true L p (1:Int),[ub (0:Nat) n y]))
 else
 none) from by kernel_rfl)]
  exact bift (refF_yes hq t) rfl
theorem q7n (hn:n<=1000) (hp:p<n) (ha:a<=n) (hc:a = 0 ∨ y (a - 1)<y p):Pc 7 lX (x70 n a b lim bal par L p hint) [ub 0 n y] .normal lX (x70 n a b lim bal par L p hint) [ub 0 n y]:=by
 refine pc ok82 7 ?_
 show codeL P18 G18 A18 K82 0 70 [] (pk70 7) [0,1,2,3,8,9,10,11,12] (x70 n a b lim bal par L p hint) [ub 0 n y] [0,1,2,3,8,9,10,11,12] = _
 rw [(show codeL P18 G18 A18 K82 0 70 [] (pk70 7) [0,1,2,3,8,9,10,11,12] (x70 n a b lim bal par L p hint) [ub 0 n y] [0,1,2,3,8,9,10,11,12] =
(
 bif decide (0<Int.ofNat a) then
 bif decide (0<=IntKind.i64.wrap (Int.ofNat a - 1))&&decide (IntKind.i64.wrap (Int.ofNat a - 1)<Int.ofNat n) then
 bif ((0:Nat)+(IntKind.i64.wrap (Int.ofNat a - (1:Int))).toNat).blt n then
 bif decide (0<=Int.ofNat p)&&decide (Int.ofNat p<Int.ofNat n) then
 bif ((0:Nat)+p).blt n then
 bif decide (y ((0:Nat)+(IntKind.i64.wrap (Int.ofNat a - (1:Int))).toNat)<y (0+p)) then
 some ((.normal,x70 n a b lim bal par L p hint,[ub (0:Nat) n y]))
 else none else none else none else none else none else
 some ((.normal,x70 n a b lim bal par L p hint,[ub (0:Nat) n y]))) from by kernel_rfl)]
 rcases Nat.eq_zero_or_pos a with q | q
 ·subst q
  refine BF ?_
  rfl
 ·have h:=hc.resolve_left (by omega)
  rw [ofNatE a,show IntKind.i64.wrap ((a:Int) - 1) = ((a - 1:Nat):Int) by rw [wr64 (by omega) (by omega)]; omega,toNatE]
  refine BT ?_
  refine BT ?_
  refine BT ?_
  refine BT ?_
  refine BT ?_
  refine BT ?_
  rfl
theorem q7e (hn:n<=1000) (hp:p<n) (ha:a<=n) (h0:0<a) (hc:¬ y (a - 1)<y p) {m:Nat} {z:Nat->Int} (t:ToldRef P18 G18 83 [.own 0 0 0 n none,.int .i64 a,.int .i64 b,.int .i64 p] [ub 0 n y] (.int .i64 m) [ub 0 n z]):Pc 7 lX (x70 n a b lim bal par L p hint) [ub 0 n y] (.exit 1) lT (v70 n m b lim bal par) [ub 0 n z]:=by
 obtain ⟨q,hq⟩:=is_ref P18 G18 83
 refine pc (K:=KR 83 q (.int .i64 m) [ub 0 n z]) (refK hq _ _) 7 ?_
 show codeL P18 G18 A18 (KR 83 q (.int .i64 m) [ub 0 n z]) 0 70 [] (pk70 7) [0,1,2,3,8,9,10,11,12] (x70 n a b lim bal par L p hint) [ub 0 n y] [0,1,2,3,8,9] = _
 rw [(show codeL P18 G18 A18 (KR 83 q (.int .i64 m) [ub 0 n z]) 0 70 [] (pk70 7) [0,1,2,3,8,9,10,11,12] (x70 n a b lim bal par L p hint) [ub 0 n y] [0,1,2,3,8,9] =
(
 bif decide (0<Int.ofNat a) then
 bif decide (0<=IntKind.i64.wrap (Int.ofNat a - 1))&&decide (IntKind.i64.wrap (Int.ofNat a - 1)<Int.ofNat n) then
 bif ((0:Nat)+(IntKind.i64.wrap (Int.ofNat a - (1:Int))).toNat).blt n then
 bif decide (0<=Int.ofNat p)&&decide (Int.ofNat p<Int.ofNat n) then
 bif ((0:Nat)+p).blt n then
 bif decide (y ((0:Nat)+(IntKind.i64.wrap (Int.ofNat a - (1:Int))).toNat)<y (0+p)) then
 some ((.normal,v70 n a b lim bal par,[ub (0:Nat) n y]))
 else
 bif decF (q [.own 0 0 0 n
 none,.int .i64 (.ofNat a),.int .i64 (.ofNat b),.int .i64 (.ofNat p)] [.mk 0 1 n (fun j=>[.int .u8 (y j)]) true false
 none] (.int .i64 (.ofNat m)) [.mk 0 1 n (fun j=>[.int .u8 (z j)]) true false
 none]) then
 some ((.exit 1,v70 n m b lim bal par,[ub (0:Nat) n z]))
 else none else none else none else none else none else
 some ((.normal,v70 n a b lim bal par,[ub (0:Nat) n y]))) from by kernel_rfl)]
 rw [ofNatE a,show IntKind.i64.wrap ((a:Int) - 1) = ((a - 1:Nat):Int) by rw [wr64 (by omega) (by omega)]; omega,toNatE]
 refine BT ?_
 refine BT ?_
 refine BT ?_
 refine BT ?_
 refine BT ?_
 refine BF ?_
 exact bift (refF_yes hq t) rfl
theorem q8 (hn:n<=1000) (hb:b<=n) {m:Nat} {d:Bool} {yp:Nat->Int} (hm1:a<=m) (hm2:m<b) (t:ToldRef P18 G18 84 [.own 0 0 0 n none,.int .i64 a,.int .i64 b,.int .i64 p] [ub 0 n y] (.tup [.int .i64 m,.bool d]) [ub 0 n yp]) :
 (m - a<b - m->∀ yg,ToldRef P18 G18 70 [.own 0 0 0 n none,.int .i64 a,.int .i64 m,.int .i64 lim] [ub 0 n yp] (.tup []) [ub 0 n yg]->∃ bal2 par2,Ch 8 lX (x70 n a b lim bal par L p hint) [ub 0 n y] .normal lT (v70 n (m+1) b lim bal2 par2) [ub 0 n yg]) ∧
 (¬ m - a<b - m->∀ yg,ToldRef P18 G18 70 [.own 0 0 0 n none,.int .i64 (m+1:Nat),.int .i64 b,.int .i64 lim] [ub 0 n yp] (.tup []) [ub 0 n yg]->∃ bal2 par2,Ch 8 lX (x70 n a b lim bal par L p hint) [ub 0 n y] .normal lT (v70 n a m lim bal2 par2) [ub 0 n yg]):=by
 obtain ⟨q,hq⟩:=is_ref P18 G18 84
 obtain ⟨q2,hq2⟩:=is_ref P18 G18 70
 have e1:IntKind.i64.wrap (Int.ofNat m - Int.ofNat a) = ((m - a:Nat):Int):=by rw [ofNatE,ofNatE,wr64 (by omega) (by omega)]; omega
 have e2:IntKind.i64.wrap (Int.ofNat b - Int.ofNat m) = ((b - m:Nat):Int):=by rw [ofNatE,ofNatE,wr64 (by omega) (by omega)]; omega
 have e3:IntKind.i64.wrap (Int.ofNat m+1) = ((m+1:Nat):Int):=by rw [ofNatE,wr64 (by omega) (by omega)]; omega
 have tree:=fun yg=>(show codeL P18 G18 A18 (KR2 q q2 n m d yp yg) 0 70 [] (ch70 8) [0,1,2,3,8,9,10,11,12] (x70 n a b lim bal par L p hint) [ub 0 n y] [0,1,2,3,8,9] =
(
 bif decF (q [.own 0 0 0 n
 none,.int .i64 (.ofNat a),.int .i64 (.ofNat b),.int .i64 (.ofNat p)] [.mk 0 1 n (fun j=>[.int .u8 (y j)]) true false
 none] (.tup [.int .i64 (.ofNat m),.bool d]) [.mk 0 1 n (fun j=>[.int .u8 (yp j)]) true false
 none]) then
 bif d then
 bif decide (IntKind.i64.wrap (Int.ofNat m - Int.ofNat a)<IntKind.i64.wrap (Int.ofNat b - Int.ofNat m)) then
 bif decide (IntKind.i64.wrap ((Int.ofNat L).tdiv 8)<=IntKind.i64.wrap (Int.ofNat m - Int.ofNat a)) then
 bif decF (q2 [.own 0 0 0 n
 none,.int .i64 (.ofNat a),.int .i64 (.ofNat m),.int .i64 (.ofNat lim)] [.mk 0 1 n (fun j=>[.int .u8 (yp j)]) true false
 none] (.tup []) [.mk 0 1 n (fun j=>[.int .u8 (yg j)]) true false
 none]) then
 some ((.normal,[.own 0 0 0 n
 none,.int .i64 (IntKind.i64.wrap (Int.ofNat m+1)),.int .i64 (.ofNat b),.int .i64 (.ofNat lim),.bool true,.bool true],[ub (0:Nat) n yg]))
 else none else
 bif decF (q2 [.own 0 0 0 n
 none,.int .i64 (.ofNat a),.int .i64 (.ofNat m),.int .i64 (.ofNat lim)] [.mk 0 1 n (fun j=>[.int .u8 (yp j)]) true false
 none] (.tup []) [.mk 0 1 n (fun j=>[.int .u8 (yg j)]) true false
 none]) then
 some ((.normal,[.own 0 0 0 n
 none,.int .i64 (IntKind.i64.wrap (Int.ofNat m+1)),.int .i64 (.ofNat b),.int .i64 (.ofNat lim),.bool false,.bool true],[ub (0:Nat) n yg]))
 else none else
 bif decide (IntKind.i64.wrap ((Int.ofNat L).tdiv 8)<=IntKind.i64.wrap (Int.ofNat b - Int.ofNat m)) then
 bif decF (q2 [.own 0 0 0 n
 none,.int .i64 (IntKind.i64.wrap (Int.ofNat m+1)),.int .i64 (.ofNat b),.int .i64 (.ofNat lim)] [.mk 0 1 n (fun j=>[.int .u8 (yp j)]) true false
 none] (.tup []) [.mk 0 1 n (fun j=>[.int .u8 (yg j)]) true false
 none]) then
 some ((.normal,v70 n a m lim true true,[ub (0:Nat) n yg]))
 else none else
 bif decF (q2 [.own 0 0 0 n
 none,.int .i64 (IntKind.i64.wrap (Int.ofNat m+1)),.int .i64 (.ofNat b),.int .i64 (.ofNat lim)] [.mk 0 1 n (fun j=>[.int .u8 (yp j)]) true false
 none] (.tup []) [.mk 0 1 n (fun j=>[.int .u8 (yg j)]) true false
 none]) then
 some ((.normal,v70 n a m lim false true,[ub (0:Nat) n yg]))
 else none else
 bif decide (IntKind.i64.wrap (Int.ofNat m - Int.ofNat a)<IntKind.i64.wrap (Int.ofNat b - Int.ofNat m)) then
 bif decide (IntKind.i64.wrap ((Int.ofNat L).tdiv 8)<=IntKind.i64.wrap (Int.ofNat m - Int.ofNat a)) then
 bif decF (q2 [.own 0 0 0 n
 none,.int .i64 (.ofNat a),.int .i64 (.ofNat m),.int .i64 (.ofNat lim)] [.mk 0 1 n (fun j=>[.int .u8 (yp j)]) true false
 none] (.tup []) [.mk 0 1 n (fun j=>[.int .u8 (yg j)]) true false
 none]) then
 some ((.normal,[.own 0 0 0 n
 none,.int .i64 (IntKind.i64.wrap (Int.ofNat m+1)),.int .i64 (.ofNat b),.int .i64 (.ofNat lim),.bool true,.bool false],[ub (0:Nat) n yg]))
 else none else
 bif decF (q2 [.own 0 0 0 n
 none,.int .i64 (.ofNat a),.int .i64 (.ofNat m),.int .i64 (.ofNat lim)] [.mk 0 1 n (fun j=>[.int .u8 (yp j)]) true false
 none] (.tup []) [.mk 0 1 n (fun j=>[.int .u8 (yg j)]) true false
 none]) then
 some ((.normal,[.own 0 0 0 n
 none,.int .i64 (IntKind.i64.wrap (Int.ofNat m+1)),.int .i64 (.ofNat b),.int .i64 (.ofNat lim),.bool false,.bool false],[ub (0:Nat) n yg]))
 else none else
 bif decide (IntKind.i64.wrap ((Int.ofNat L).tdiv 8)<=IntKind.i64.wrap (Int.ofNat b - Int.ofNat m)) then
 bif decF (q2 [.own 0 0 0 n
 none,.int .i64 (IntKind.i64.wrap (Int.ofNat m+1)),.int .i64 (.ofNat b),.int .i64 (.ofNat lim)] [.mk 0 1 n (fun j=>[.int .u8 (yp j)]) true false
 none] (.tup []) [.mk 0 1 n (fun j=>[.int .u8 (yg j)]) true false
 none]) then
 some ((.normal,v70 n a m lim true false,[ub (0:Nat) n yg]))
 else none else
 bif decF (q2 [.own 0 0 0 n
 none,.int .i64 (IntKind.i64.wrap (Int.ofNat m+1)),.int .i64 (.ofNat b),.int .i64 (.ofNat lim)] [.mk 0 1 n (fun j=>[.int .u8 (yp j)]) true false
 none] (.tup []) [.mk 0 1 n (fun j=>[.int .u8 (yg j)]) true false
 none]) then
 some ((.normal,v70 n a m lim false false,[ub (0:Nat) n yg]))
 else none else
 none) from by kernel_rfl)
 simp only [e1,e2,e3] at tree
 have hK:∀ yg,OrcOk P18 G18 (KR2 q q2 n m d yp yg):=fun yg=>told_addRef (told_addRef ok82 (refF_told hq)) (refF_told hq2)
 constructor
 ·intro hlt yg t2
  have c1:decide (((m - a:Nat):Int)<((b - m:Nat):Int)) = true:=dT (by omega)
  have tr:=tree yg
  rw [c1] at tr
  simp only [cond_true] at tr
  cases hc:decide (IntKind.i64.wrap ((Int.ofNat L).tdiv 8)<=((m - a:Nat):Int)) <;> rw [hc] at tr <;> cases d
  ·exact ⟨false,false,pc8 (hK yg) (tr.trans (bift (refF_yes hq t) (biff (by decide) (biff (by decide) (bift (refF_yes hq2 t2) rfl)))))⟩
  ·exact ⟨false,true,pc8 (hK yg) (tr.trans (bift (refF_yes hq t) (bift rfl (biff (by decide) (bift (refF_yes hq2 t2) rfl)))))⟩
  ·exact ⟨true,false,pc8 (hK yg) (tr.trans (bift (refF_yes hq t) (biff (by decide) (bift rfl (bift (refF_yes hq2 t2) rfl)))))⟩
  ·exact ⟨true,true,pc8 (hK yg) (tr.trans (bift (refF_yes hq t) (bift rfl (bift rfl (bift (refF_yes hq2 t2) rfl)))))⟩
 ·intro hlt yg t2
  have c1:decide (((m - a:Nat):Int)<((b - m:Nat):Int)) = false:=dF (by omega)
  have tr:=tree yg
  rw [c1] at tr
  simp only [cond_false] at tr
  cases hc:decide (IntKind.i64.wrap ((Int.ofNat L).tdiv 8)<=((b - m:Nat):Int)) <;> rw [hc] at tr <;> cases d
  ·exact ⟨false,false,pc8 (hK yg) (tr.trans (bift (refF_yes hq t) (biff (by decide) (biff (by decide) (bift (refF_yes hq2 t2) rfl)))))⟩
  ·exact ⟨false,true,pc8 (hK yg) (tr.trans (bift (refF_yes hq t) (bift rfl (biff (by decide) (bift (refF_yes hq2 t2) rfl)))))⟩
  ·exact ⟨true,false,pc8 (hK yg) (tr.trans (bift (refF_yes hq t) (biff (by decide) (bift rfl (bift (refF_yes hq2 t2) rfl)))))⟩
  ·exact ⟨true,true,pc8 (hK yg) (tr.trans (bift (refF_yes hq t) (bift rfl (bift rfl (bift (refF_yes hq2 t2) rfl)))))⟩
end
theorem ch_of_loop {e:Ex} {l:List Nat} {vs v1:List T} {h h1:Heap}:CodeGoes P18 G18 (A18 70).prom Try.f70.ntmps (.block 1 (ch70 0 c70)) (mkSt lT vs h) e (mkSt l v1 h1)->CodeGoes P18 G18 (A18 70).prom Try.f70.ntmps (bodyAt P18 70 2) (mkSt lT vs h) e (mkSt l v1 h1):=fun hh=>by
 have e:bodyAt P18 70 2 = .block 1 (ch70 0 c70):=by kernel_rfl
 rw [e]
 exact hh
theorem r70 (x:Nat->Int) (n a b lim:Nat) (bal par:Bool) (y:Nat->Int) (hn:n<=16) (hI:I70 x n a b lim y) :
 (∃ a2 b2 lim2 bal2 par2 y2,b2 - a2<b - a/\I70 x n a2 b2 lim2 y2/\CodeGoes P18 G18 (A18 70).prom Try.f70.ntmps (bodyAt P18 70 2) (mkSt lT (v70 n a b lim bal par) [ub 0 n y]) .normal (mkSt lT (v70 n a2 b2 lim2 bal2 par2) [ub 0 n y2])) ∨
 ∃ z,(Pr x z 0 n/\Asc z 0 n)/\CodeGoes P18 G18 (A18 70).prom Try.f70.ntmps (bodyAt P18 70 2) (mkSt lT (v70 n a b lim bal par) [ub 0 n y]) .ret (mkSt [] [] [ub 0 n z]):=by
 have hab:=hI.ab
 have hbn:=hI.bn
 have hlb:=hI.limB
 have hlc:=hI.limC
 have s0:=q0 (n:=n) (lim:=lim) (bal:=bal) (par:=par) (y:=y) (show b<=1000 by omega) hab
 rcases Nat.lt_or_ge 12 (b - a) with q | q
 ·have hlb:=hlb q
  have s1:=q1n (n:=n) (a:=a) (b:=b) (lim:=lim) (bal:=bal) (par:=par) (y:=y) q
  have s2:=q2 (n:=n) (a:=a) (b:=b) (bal:=bal) (par:=par) (y:=y) (L:=b - a) (show 1<=lim by omega)
  have st3:∃ lim1 y1,lim<=lim1+1/\lim1<=10/\Pr y y1 a b/\Pc 3 lW (w70 n a b lim bal par (b - a)) [ub 0 n y] .normal lW (w70 n a b lim1 bal par (b - a)) [ub 0 n y1]:=by
   cases bal
   ·obtain ⟨z,B,hz,t⟩:=brkT n a b y (by omega) hbn (by omega) (by omega)
    have t2:=t.trim (k:=1) (Nat.le_refl _) rfl rfl
    exact ⟨lim - 1,z,by omega,by omega,hz,q3f (by omega) hlc t2⟩
   ·exact ⟨lim,y,by omega,hlc,.refl _ _ _,q3t⟩
  obtain ⟨lim1,y1,k1,k2,hp1,s3⟩:=st3
  have ho1:=hI.out.move hp1 hbn
  have hx1:Pr x y1 0 n:=hI.pr.trans (hp1.wider (Nat.zero_le _) hbn)
  obtain ⟨p,hint,B,⟨hpa,hpb⟩,t4⟩:=pivT n a b y1 (by omega) hbn (by omega) (by omega)
  have t4:=t4.trim (k:=1) (Nat.le_refl _) rfl rfl
  have s4:=q4 (lim:=lim1) (bal:=bal) (par:=par) (L:=b - a) t4
  have st5:∃ p2 hint2 y2,a<=p2/\p2<b/\Pr y1 y2 a b/\Pc 5 lX (x70 n a b lim1 bal par (b - a) p hint) [ub 0 n y1] .normal lX (x70 n a b lim1 bal par (b - a) p2 hint2) [ub 0 n y2]:=by
   by_cases hh:hint = 2
   ·subst hh
    obtain ⟨z,hz,t⟩:=revT n a b y1 (by omega) hbn (by omega)
    exact ⟨b - 1 - (p - a),1,z,by omega,by omega,hz,q5t (by omega) hpa hpb t⟩
   ·exact ⟨p,hint,y1,hpa,hpb,.refl _ _ _,q5f hh⟩
  obtain ⟨p2,hint2,y2,hp2a,hp2b,hp2,s5⟩:=st5
  have ho2:=ho1.move hp2 hbn
  have hx2:Pr x y2 0 n:=hx1.trans (hp2.wider (Nat.zero_le _) hbn)
  have pre:∀ {e:Ex} {l:List Nat} {vs:List T} {h:Heap},Ch 6 lX (x70 n a b lim1 bal par (b - a) p2 hint2) [ub 0 n y2] e l vs h->Ch 0 lT (v70 n a b lim bal par) [ub 0 n y] e l vs h:=fun hc =>
   ch_next (by omega) s0 (ch_next (by omega) s1 (ch_next (by omega) s2 (ch_next (by omega) s3 (ch_next (by omega) s4 (ch_next (by omega) s5 hc)))))
  have st6:(∃ _:Asc y2 a b,Pc 6 lX (x70 n a b lim1 bal par (b - a) p2 hint2) [ub 0 n y2] .ret [] [] [ub 0 n y2]) ∨ Pc 6 lX (x70 n a b lim1 bal par (b - a) p2 hint2) [ub 0 n y2] .normal lX (x70 n a b lim1 bal par (b - a) p2 hint2) [ub 0 n y2]:=by
   cases hf:(bal&&(par&&decide (hint2 = 1)))
   ·exact .inr (q6n hf)
   ·simp only [Bool.and_eq_true,decide_eq_true_eq] at hf
    obtain ⟨rfl,rfl,rfl⟩:=hf
    obtain ⟨ins,h1,t⟩:=pinsT n a b y2 (by omega) hbn (by omega) (by omega)
    cases ins
    ·exact .inr ((q6c t).2 rfl)
    ·exact .inl ⟨h1 rfl,(q6c t).1 rfl⟩
  rcases st6 with ⟨hs,s6⟩ | s6
  ·refine .inr ⟨y2,⟨hx2,ho2.asc hs⟩,ch_of_loop (goes_block_ret (pre (ch_ret (by omega) s6)))⟩
  ·left
   by_cases he:0<a/\¬ y2 (a - 1)<y2 p2
   ·
    have hmin:∀ e,a<=e->e<b->y2 p2<=y2 e:=fun e g1 g2=>Int.le_trans (Int.not_lt.1 he.2) (ho2 (a - 1) e (by omega) (by omega) (.inl (by omega)))
    obtain ⟨z,m,z1,z2,z3,z4,t⟩:=peqT n a b p2 y2 (by omega) hbn hp2a hp2b (by omega) hmin
    have s7:=q7e (lim:=lim1) (bal:=bal) (par:=par) (L:=b - a) (hint:=hint2) (by omega) (by omega) (by omega) he.1 he.2 t
    refine ⟨m,b,lim1,bal,par,z,by omega,⟨hx2.trans (z1.wider (Nat.zero_le _) hbn),(ho2.move z1 hbn).equal (by omega) z3 z4,z3,hbn,fun _=>by omega,k2⟩,?_⟩
    exact ch_of_loop (goes_block_exit (pre (ch_next (by omega) s6 (ch_exit (by omega) s7))))
   ·have hc:a = 0 ∨ y2 (a - 1)<y2 p2:=by
     rcases Nat.eq_zero_or_pos a with g | g
     ·exact .inl g
     ·right
      by_cases g2:y2 (a - 1)<y2 p2
      ·exact g2
      ·exact absurd ⟨g,g2⟩ he
    have s7:=q7n (a:=a) (b:=b) (lim:=lim1) (bal:=bal) (par:=par) (L:=b - a) (hint:=hint2) (y:=y2) (p:=p2) (show n<=1000 by omega) (by omega) (by omega) hc
    obtain ⟨yp,m,d,z1,z2,t⟩:=partT n a b p2 y2 (by omega) hbn hp2a hp2b (by omega)
    have hlo:=z2.lo
    have hhi:=z2.hi
    have ho3:=ho2.move z1 hbn
    have hx3:Pr x yp 0 n:=hx2.trans (z1.wider (Nat.zero_le _) hbn)
    obtain ⟨w1,w2⟩:=q8 (lim:=lim1) (bal:=bal) (par:=par) (L:=b - a) (hint:=hint2) (by omega) hbn hlo hhi t
    by_cases hlt:m - a<b - m
    ·obtain ⟨yg,⟨g1,g2⟩,tg⟩:=pq12T n a m yp lim1 (by omega) (by omega) hlo (by omega)
     obtain ⟨bal2,par2,s8⟩:=w1 hlt yg tg
     refine ⟨m+1,b,lim1,bal2,par2,yg,by omega,⟨hx3.trans (g1.wider (Nat.zero_le _) (by omega)),z2.goRight ho3 g1 g2 hbn,by omega,hbn,fun _=>by omega,k2⟩,?_⟩
     exact ch_of_loop (goes_block (pre (ch_next (by omega) s6 (ch_next (by omega) s7 s8))))
    ·obtain ⟨yg,⟨g1,g2⟩,tg⟩:=pq12T n (m+1) b yp lim1 (by omega) hbn (by omega) (by omega)
     obtain ⟨bal2,par2,s8⟩:=w2 hlt yg tg
     refine ⟨a,m,lim1,bal2,par2,yg,by omega,⟨hx3.trans (g1.wider (Nat.zero_le _) hbn),z2.goLeft ho3 g1 g2 hbn,hlo,by omega,fun _=>by omega,k2⟩,?_⟩
     exact ch_of_loop (goes_block (pre (ch_next (by omega) s6 (ch_next (by omega) s7 s8))))
 ·obtain ⟨z,⟨h1,h2⟩,t⟩:=insT n a b y (by omega) hbn hab
  refine .inr ⟨z,⟨hI.pr.trans (h1.wider (Nat.zero_le _) hbn),(hI.out.move h1 hbn).asc h2⟩,?_⟩
  exact ch_of_loop (goes_block_ret (ch_next (by omega) s0 (ch_ret (by omega) (q1r q t))))
theorem l70 (x:Nat->Int) (n lim:Nat) (hn:n<=16) (hl:12<n->n<=lim+12) (hl2:lim<=10) :
 ∃ z,(Pr x z 0 n/\Asc z 0 n)/\LoopOk P18 G18 (A18 70) 70 2 (litS (v70 n 0 n lim true true) [ub 0 n x] .ret [] [ub 0 n z]):=by
 refine Exists.elim (goes_loop (P:=P18) (Gl:=G18) (prom:=(A18 70).prom) (nt:=Try.f70.ntmps) (b:=bodyAt P18 70 2) (lin:=lT) (lout:=[])
  (fun m vs h=>∃ a b lim bal par y,m = b - a/\vs = v70 n a b lim bal par/\h = [ub 0 n y]/\I70 x n a b lim y)
  (fun e vs h=>∃ z,e = .ret/\vs = []/\h = [ub 0 n z]/\(Pr x z 0 n/\Asc z 0 n))
  (fun m vs h ⟨a,b,lim,bal,par,y,hm,hv,hh,hI⟩=>?_) (n:=n - 0) (vs:=v70 n 0 n lim true true) (h:=[ub 0 n x]) ⟨0,n,lim,true,true,x,rfl,rfl,rfl,⟨.refl _ _ _,.start _ _,Nat.zero_le _,Nat.le_refl _,fun h=>hl (by omega),hl2⟩⟩) ?_
 ·subst hm hv hh
  rcases r70 x n a b lim bal par y hn hI with ⟨a2,b2,lim2,bal2,par2,y2,g1,g2,g3⟩ | ⟨z,hz,g3⟩
  ·exact .inl ⟨b2 - a2,_,_,g1,g3,a2,b2,lim2,bal2,par2,y2,rfl,rfl,rfl,g2⟩
  ·exact .inr ⟨.ret,_,_,by simp,g3,z,rfl,rfl,rfl,hz⟩
 ·rintro e ⟨vs1,h1,⟨z,rfl,rfl,rfl,hz⟩,hg⟩
  refine ⟨z,hz,.lit fun fn hf hnt=>?_⟩
  rw [Try.func70] at hf
  obtain rfl:=Option.some.inj hf
  have e:asLoop (bodyAt P18 70 2) = .loop (bodyAt P18 70 2):=by kernel_rfl
  rw [e]
  exact hg
theorem pdq16T (n lim:Nat) (x:Nat->Int) (hn:n<=16) (hl:12<n->n<=lim+12) (hl2:lim<=10) :
 ∃ z,(Pr x z 0 n/\Asc z 0 n)/\ToldRef P18 G18 70 [.own 0 0 0 n none,.int .i64 0,.int .i64 n,.int .i64 lim] [ub 0 n x] (.tup []) [ub 0 n z]:=by
 obtain ⟨z,hz,hl⟩:=l70 x n lim hn hl hl2
 refine ⟨z,hz,?_⟩
 refine stepR_told hm18 hn18 none_ok (A:=A18) (m:=0) (by kernel_rfl) (loops1 hl) ?_
 rw [(show stepR P18 G18 A18 noneO 0 70 [(2,litS (v70 n 0 n lim true true) [ub 0 n x] .ret [] [ub 0 n z])] [.own 0 0 0 n none,.int .i64 0,.int .i64 n,.int .i64 lim] [ub 0 n x] =
(
 bif weakF (v70 n (nat_lit 0) n lim true true) [ub (0:Nat) n x] (v70 n (nat_lit 0) n lim true true) [ub (0:Nat) n x] then
 some ((.tup [],[ub (0:Nat) n z]))
 else
 none) from by kernel_rfl)]
 exact bift (weakF_of ⟨rfl,.refl _⟩) rfl
open Go.Proofs
def nmax:Nat:=16
theorem sortT (n:Nat) (x:Nat->Int) (hn:n<=nmax) :
 ∃ z,(Pr x z 0 n/\Asc z 0 n)/\ToldRef P18 G18 61 [.own 0 0 0 n none] [ub 0 n x] (.tup []) [ub 0 n z]:=by
 have hn2:=hn
 unfold nmax at hn2
 obtain ⟨lim0,c1,c2,h71⟩:=lenT n (by omega)
 obtain ⟨z,hz,ht⟩:=pdq16T n lim0 x (by omega) c2 c1
 generalize ((lim0:Nat):Int) = lim at *
 obtain ⟨p,hp⟩:=is_ref P18 G18 70
 obtain ⟨p71,hp71⟩:=is_val P18 G18 71
 refine ⟨z,hz,?_⟩
 refine stepR_told hm18 hn18 (K:=K61 p71 lim p n z) (told_addRef (told_add none_ok (callF_told hp71)) (refF_told hp)) (A:=A18) (m:=0) (by kernel_rfl) (l:=[]) loops0 ?_
 refine Eq.trans (show stepR P18 G18 A18 (K61 p71 lim p n z) 0 61 [] [.own 0 0 0 n none] [ub 0 n x] =
(
 bif decF (p71 [.int .u64 (IntKind.u64.wrap (Int.ofNat n))] (.int .i64 lim)) then
 bif decF (p [.own 0 0 0 n
 none,.int .i64 0,.int .i64 (.ofNat n),.int .i64 lim] [.mk 0 1 n (fun j=>[.int .u8 (x j)]) true false
 none] (.tup []) [.mk 0 1 n (fun j=>[.int .u8 (z j)]) true false
 none]) then
 some ((.tup [],[.mk 0 1 n (fun j=>[.int .u8 (z j)]) true false
 none]))
 else none else
 none) from by kernel_rfl) ?_
 have e:IntKind.u64.wrap (Int.ofNat n) = (n:Int):=by
  show IntKind.u64.wrap (n:Int) = n
  exact wru64 (by omega) (by omega)
 rw [e]
 refine bift (callF_yes hp71 h71) ?_
 exact bift (refF_yes hp ht) rfl
open Go.Proofs
noncomputable def K47 (p60:List T->T->Prop) (p61 p62:List T->Heap->T->Heap->Prop) (n:Nat) (x y z:Nat->Int) (k:Nat):Orc :=
 ((noneO.add 60 (callF p60 fun _=>some (.fresh true 1 n (fun j=>[.int .u8 (x j)]) n none))).addRef 61 (refF p61 fun _ _=>some (.tup [],[ub 0 n y]))).addRef 62 (refF p62 fun _ _=>some (.own 0 0 0 k none,[ub 0 n z]))
def kindL (x:Nat->Int) (n:Nat):List Int:=((List.range 256).map Int.ofNat).filter fun v=>(List.range n).any fun j=>decide (x j = v)
def csK (x:Nat->Int) (n j:Nat):Int:=(kindL x n).getD j 0
def kK (x:Nat->Int) (n:Nat):Nat:=(kindL x n).length
theorem kindL_mem {x:Nat->Int} {n:Nat} (hx:∀ j,j<n->0<=x j/\x j<256) (v:Int):v ∈ kindL x n ↔ Mem x 0 n v:=by
 unfold kindL Mem
 simp only [List.mem_filter,List.mem_map,List.mem_range,List.any_eq_true,decide_eq_true_eq]
 constructor
 ·rintro ⟨_,j,h1,h2⟩; exact ⟨j,Nat.zero_le _,h1,h2⟩
 ·rintro ⟨j,_,h1,h2⟩
  have:=hx j h1
  exact ⟨⟨v.toNat,by omega,by show ((v.toNat:Nat):Int) = v; omega⟩,j,h1,h2⟩
theorem kindL_asc (x:Nat->Int) (n:Nat):(kindL x n).Pairwise (·<·):=by
 unfold kindL
 refine List.Pairwise.filter _ ?_
 rw [List.pairwise_map]
 exact List.pairwise_lt_range.imp (fun {a b} h=>by show (a:Int)<(b:Int); omega)
theorem csK_mem {x:Nat->Int} {n:Nat} (hx:∀ j,j<n->0<=x j/\x j<256) (v:Int):Mem (csK x n) 0 (kK x n) v ↔ Mem x 0 n v:=by
 rw [← kindL_mem hx,List.mem_iff_getElem]
 unfold Mem csK kK
 constructor
 ·rintro ⟨j,_,h1,h2⟩
  refine ⟨j,h1,?_⟩
  rw [List.getD_eq_getElem?_getD,List.getElem?_eq_getElem h1] at h2
  exact h2
 ·rintro ⟨j,h1,h2⟩
  exact ⟨j,Nat.zero_le _,h1,by rw [List.getD_eq_getElem?_getD,List.getElem?_eq_getElem h1]; exact h2⟩
theorem csK_asc (x:Nat->Int) (n:Nat):SAsc (csK x n) (kK x n):=by
 intro p q h1 h2
 unfold kK at h2
 have:=List.pairwise_iff_getElem.1 (kindL_asc x n) p q (by omega) h2 h1
 unfold csK
 rw [List.getD_eq_getElem?_getD,List.getElem?_eq_getElem (by omega),List.getD_eq_getElem?_getD,List.getElem?_eq_getElem h2]
 exact this
theorem cloneT (x:Nat->Int) (n:Nat) (c:Option Nat) (h1:1<=n) (hn:n<=1000):ToldOk P18 G18 60 [rowV x n c] (.fresh true 1 n (fun j=>[.int .u8 (x j)]) n none):=by
 refine stepV_told hm18 hn18 none_ok (K:=noneO) (A:=A18) (m:=0) ?_
 refine Eq.trans (show stepV P18 G18 A18 noneO 0 60 [rowV x n c] =
(
 bif Nat.blt 0 (match c with | some x=>x | none=>(0:Nat)) || Nat.blt 0 n then
 bif n==(0:Nat) then
 some (.fresh true (1:Nat) (0:Nat) (fun j=>[]) (0:Nat) (some 0))
 else
 bif (((0:Nat)+n) * (2:Nat)).ble 70368744177664 then
 bif ((0:Nat)+n).ble 0 then
 bif ((0:Nat)+n).ble 0 then
 some (bif ((0:Nat)+((0:Nat)+n)).ble 0 then .fresh true (1:Nat) (0:Nat) (fun j =>
 bif Nat.ble 0 (0+j)&&((0:Nat)+j).blt (0+n) then [.int .u8 (x (0+j - 0))]
 else []) (0+n) (some 0)
 else .undef)
 else none else
 some (bif ((0:Nat)+((0:Nat)+n)).ble (0+n) then .fresh true (1:Nat) (0+n - 0) (fun j=>[.int .u8 (x (0+j - 0))]) (0+n) none else .undef)
 else none else
 none) from by kernel_rfl) ?_
 refine bift (by rw [Bool.or_eq_true]; exact .inr (bltT (by omega))) ?_
 simp only [Nat.zero_add,Nat.sub_zero]
 refine biff (by simp; omega) ?_
 refine bift (bleT (by omega)) ?_
 rw [bleF (show 0<n by omega),cond_false,bleT (Nat.le_refl _),cond_true]
theorem kindsT (x:Nat->Int) (n:Nat) (c:Option Nat) (h1:1<=n) (hn:n<=nmax) (hx:∀ j,j<n->0<=x j/\x j<256):ToldOk P18 G18 47 [rowV x n c] (.new (rowV (csK x n) (kK x n) none)):=by
 have hn2:=hn
 unfold nmax at hn2
 have h60:=cloneT x n c h1 (by omega)
 obtain ⟨y,⟨hy1,hy2⟩,h61⟩:=sortT n x hn
 obtain ⟨z,k,hz,h62⟩:=compT n y (by omega) h1 hy2
 obtain ⟨p60,hp60⟩:=is_val P18 G18 60
 obtain ⟨p61,hp61⟩:=is_ref P18 G18 61
 obtain ⟨p62,hp62⟩:=is_ref P18 G18 62
 have hu:=SAsc.unique hz.asc (csK_asc x n) fun v=>(hz.mem v).trans ((hy1.mem v).trans (csK_mem hx v).symm)
 refine ToldOk.resTo (r:=.new (.view 1 k (fun j=>[.int .u8 (z j)]) none)) ?_ (.new (by
  rw [← hu.1]
  refine .view (.inl rfl) fun j hj=>?_
  show Sims [T.int .u8 (z j)] [.int .u8 (csK x n j)]
  rw [hu.2 j hj]
  exact Sims.refl _))
 refine ToldOk.frz (r:=.fresh true 1 n (fun j=>[.int .u8 (z j)]) k none) ?_
 refine stepV_told hm18 hn18 (K:=K47 p60 p61 p62 n x y z k) (told_addRef (told_addRef (told_add none_ok (callF_told hp60)) (refF_told hp61)) (refF_told hp62)) (A:=A18) (m:=0) ?_
 have hk:=hz.kn
 refine Eq.trans (show stepV P18 G18 A18 (K47 p60 p61 p62 n x y z k) 0 47 [rowV x n c] =
(
 bif decF (p60 [rowV x n c] (.fresh true (1:Nat) n (fun j=>[.int .u8 (x j)]) n
 none)) then
 bif decF (p61 [.own 0 0 0 n
 none] [.mk 0 1 n (fun j=>[.int .u8 (x j)]) true false
 none] (.tup []) [.mk 0 1 n (fun j=>[.int .u8 (y j)]) true false
 none]) then
 bif decF (p62 [.own 0 0 0 n
 none] [.mk 0 1 n (fun j=>[.int .u8 (y j)]) true false
 none] (.own 0 0 0 k
 none) [.mk 0 1 n (fun j=>[.int .u8 (z j)]) true false
 none]) then
 some (bif ((0:Nat)+k).ble n then .fresh true (1:Nat) (n - 0) (fun j=>[.int .u8 (z (0+j))]) k none else .undef)
 else none else none else
 none) from by kernel_rfl) ?_
 refine bift (callF_yes hp60 h60) ?_
 refine bift (refF_yes hp61 h61) ?_
 refine bift (refF_yes hp62 h62) ?_
 simp only [Nat.zero_add,Nat.sub_zero]
 rw [bleT hk,cond_true]
open Go.Proofs
def mnF (r:Nat->Int):Nat->Int
 | 0=>r 0
 | i+1=>bif decide (r (i+1)<mnF r i) then r (i+1) else mnF r i
def mxF (r:Nat->Int):Nat->Int
 | 0=>r 0
 | i+1=>bif decide (mxF r i<r (i+1)) then r (i+1) else mxF r i
def v45 (r:Nat->Int) (n:Nat) (c:Option Nat) (a:Int) (i:Int):List T:=[rowV r n c,.int .u8 a,.int .i64 i]
def picV (R:Nat->Nat->Int) (n h:Nat) (rc c:Option Nat):T:=.view 1 h (fun i=>[rowV (R i) n rc]) c
def v29 (R:Nat->Nat->Int) (n h:Nat) (rc c:Option Nat) (i:Int):List T:=[picV R n h rc c,picV R n h rc c,.int .i64 h,.int .i64 i]
def v29d (R:Nat->Nat->Int) (n h:Nat) (rc c:Option Nat) (i:Int):List T:=[picV R n h rc c,.int .i64 h,.int .i64 i]
structure PicOk (R:Nat->Nat->Int) (n h:Nat):Prop where
 n1:1<=n
 nm:n<=nmax
 h1:h<=31
 odd:h % 2 = 1
 col:∀ i,i<h->∀ j,j<n->1<=R i j/\R i j<=6
 two:∀ i,i<h->kK (R i) n<=2
noncomputable def K29 (p q:List T->T->Prop) (a b:Int):Orc:=(noneO.add 45 (callF p fun _=>some (.int .u8 a))).add 46 (callF q fun _=>some (.int .u8 b))
noncomputable def K29k (p:List T->T->Prop) (r:T):Orc:=noneO.add 47 (callF p fun _=>some r)
theorem mnF_ge (r:Nat->Int) (lo:Int):∀ i,(∀ j,j<=i->lo<=r j)->lo<=mnF r i
 | 0,h=>h 0 (Nat.le_refl _)
 | i+1,h=>by
  have h1:=mnF_ge r lo i (fun j hj=>h j (by omega))
  have h2:=h (i+1) (Nat.le_refl _)
  unfold mnF
  cases decide (r (i+1)<mnF r i)
  ·exact h1
  ·exact h2
theorem mxF_le (r:Nat->Int) (hi:Int):∀ i,(∀ j,j<=i->r j<=hi)->mxF r i<=hi
 | 0,h=>h 0 (Nat.le_refl _)
 | i+1,h=>by
  have h1:=mxF_le r hi i (fun j hj=>h j (by omega))
  have h2:=h (i+1) (Nat.le_refl _)
  unfold mxF
  cases decide (mxF r i<r (i+1))
  ·exact h1
  ·exact h2
theorem minT (r:Nat->Int) (n:Nat) (c:Option Nat) (h1:1<=n) (hn:n<=1000):ToldOk P18 G18 45 [rowV r n c] (.int .u8 (mnF r (n - 1))):=by
 have hl:LoopOk P18 G18 (A18 45) 45 5 (litS (v45 r n c (r 0) 1) [] (.exit 0) [.int .u8 (mnF r (n - 1))] []):=by
  refine loop_steps hm18 (by kernel_rfl) (fun i=>v45 r n c (mnF r i) (i+1:Nat)) (fun _=>[]) (n:=n - 1) (fun i hi=>?_) ?_
  ·refine Step.mk0 (A:=A18) (m:=0) none_ok rfl rfl loops0 (h1:=[]) ?_ .nil
   have e:mnF r (i+1) = bif decide (r (i+1)<mnF r i) then r (i+1) else mnF r i:=rfl
   rw [e]
   generalize mnF r i = a
   refine Eq.trans (show iterR P18 G18 A18 noneO 0 45 [] 5 (v45 r n c a (i+1:Nat)) [] =
(
 bif decide (Int.ofNat (i+1)<Int.ofNat n) then
 bif decide (0<=Int.ofNat (i+1))&&decide (Int.ofNat (i+1)<Int.ofNat n) then
 some ((.normal,v45 r n c (bif decide (r (i+1)<a) then r (i+1)
 else a) (IntKind.i64.wrap (Int.ofNat (i+1)+(1:Int))),[]))
 else none else
 some ((.exit 0,[.int .u8 a],[]))) from by kernel_rfl) ?_
   (repeat (first | refine BT ?_ | refine BG ?_))
   rw [ofNatE (i+1),wr64 (x:=((i+1:Nat):Int)+1) (by omega) (by omega)]
   rfl
  ·generalize mnF r (n - 1) = a
   rw [show n - 1+1 = n by omega]
   refine Last.mk0 (A:=A18) (m:=0) none_ok rfl rfl loops0 (h1:=[]) (by simp) ?_ .nil
   refine Eq.trans (show iterR P18 G18 A18 noneO 0 45 [] 5 (v45 r n c a (n:Nat)) [] =
(
 bif decide (Int.ofNat n<Int.ofNat n) then
 bif decide (0<=Int.ofNat n)&&decide (Int.ofNat n<Int.ofNat n) then
 some ((.normal,v45 r n c (bif decide (r n<a) then r n
 else a) (IntKind.i64.wrap (Int.ofNat n+1)),[]))
 else none else
 some ((.exit 0,[.int .u8 a],[]))) from by kernel_rfl) ?_
   (repeat (first | refine BT ?_ | refine BG ?_))
   rfl
 generalize mnF r (n - 1) = a at *
 refine stepL_told hm18 hn18 none_ok (A:=A18) (m:=0) (by kernel_rfl) (loops1 hl) ?_
 refine Eq.trans (show stepL P18 G18 A18 noneO 0 45 [(5,litS (v45 r n c (r 0) 1) [] (.exit 0) [.int .u8 a] [])] [rowV r n c] =
(
 bif decide (Int.ofNat n<1) then none else
 bif decide (0<Int.ofNat n) then
 bif weakF (v45 r n c (r (0:Nat)) (1:Int)) [] (v45 r n c (r (0:Nat)) (1:Int)) [] then
 some (.int .u8 a)
 else none else
 none) from by kernel_rfl) ?_
 (repeat (first | refine BT ?_ | refine BG ?_))
 exact bift (weakF_of ⟨rfl,.refl _⟩) rfl
theorem maxT (r:Nat->Int) (n:Nat) (c:Option Nat) (h1:1<=n) (hn:n<=1000):ToldOk P18 G18 46 [rowV r n c] (.int .u8 (mxF r (n - 1))):=by
 have hl:LoopOk P18 G18 (A18 46) 46 5 (litS (v45 r n c (r 0) 1) [] (.exit 0) [.int .u8 (mxF r (n - 1))] []):=by
  refine loop_steps hm18 (by kernel_rfl) (fun i=>v45 r n c (mxF r i) (i+1:Nat)) (fun _=>[]) (n:=n - 1) (fun i hi=>?_) ?_
  ·refine Step.mk0 (A:=A18) (m:=0) none_ok rfl rfl loops0 (h1:=[]) ?_ .nil
   have e:mxF r (i+1) = bif decide (mxF r i<r (i+1)) then r (i+1) else mxF r i:=rfl
   rw [e]
   generalize mxF r i = a
   refine Eq.trans (show iterR P18 G18 A18 noneO 0 46 [] 5 (v45 r n c a (i+1:Nat)) [] =
(
 bif decide (Int.ofNat (i+1)<Int.ofNat n) then
 bif decide (0<=Int.ofNat (i+1))&&decide (Int.ofNat (i+1)<Int.ofNat n) then
 some ((.normal,v45 r n c (bif decide (a<r (i+1)) then r (i+1)
 else a) (IntKind.i64.wrap (Int.ofNat (i+1)+(1:Int))),[]))
 else none else
 some ((.exit 0,[.int .u8 a],[]))) from by kernel_rfl) ?_
   (repeat (first | refine BT ?_ | refine BG ?_))
   rw [ofNatE (i+1),wr64 (x:=((i+1:Nat):Int)+1) (by omega) (by omega)]
   rfl
  ·generalize mxF r (n - 1) = a
   rw [show n - 1+1 = n by omega]
   refine Last.mk0 (A:=A18) (m:=0) none_ok rfl rfl loops0 (h1:=[]) (by simp) ?_ .nil
   refine Eq.trans (show iterR P18 G18 A18 noneO 0 46 [] 5 (v45 r n c a (n:Nat)) [] =
(
 bif decide (Int.ofNat n<Int.ofNat n) then
 bif decide (0<=Int.ofNat n)&&decide (Int.ofNat n<Int.ofNat n) then
 some ((.normal,v45 r n c (bif decide (a<r n) then r n
 else a) (IntKind.i64.wrap (Int.ofNat n+1)),[]))
 else none else
 some ((.exit 0,[.int .u8 a],[]))) from by kernel_rfl) ?_
   (repeat (first | refine BT ?_ | refine BG ?_))
   rfl
 generalize mxF r (n - 1) = a at *
 refine stepL_told hm18 hn18 none_ok (A:=A18) (m:=0) (by kernel_rfl) (loops1 hl) ?_
 refine Eq.trans (show stepL P18 G18 A18 noneO 0 46 [(5,litS (v45 r n c (r 0) 1) [] (.exit 0) [.int .u8 a] [])] [rowV r n c] =
(
 bif decide (Int.ofNat n<1) then none else
 bif decide (0<Int.ofNat n) then
 bif weakF (v45 r n c (r (0:Nat)) (1:Int)) [] (v45 r n c (r (0:Nat)) (1:Int)) [] then
 some (.int .u8 a)
 else none else
 none) from by kernel_rfl) ?_
 (repeat (first | refine BT ?_ | refine BG ?_))
 exact bift (weakF_of ⟨rfl,.refl _⟩) rfl
section
variable (R:Nat->Nat->Int) (n h:Nat) (rc c:Option Nat)
theorem l29a (hn:n<=16) (hh:h<=31):LoopOk P18 G18 (A18 29) 29 4 (litS (v29 R n h rc c 0) [] (.exit 0) [picV R n h rc c,.undef] []):=by
 refine loop_steps hm18 (by kernel_rfl) (fun i=>v29 R n h rc c (i:Nat)) (fun _=>[]) (n:=h) (fun i hi=>?_) ?_
 ·refine Step.mk0 (A:=A18) (m:=0) none_ok rfl rfl loops0 (h1:=[]) ?_ .nil
  refine Eq.trans (show iterR P18 G18 A18 noneO 0 29 [] 4 (v29 R n h rc c i) [] =
(
 bif decide (Int.ofNat i<Int.ofNat h) then
 bif decide (0<=Int.ofNat i)&&decide (Int.ofNat i<Int.ofNat h) then
 bif decide (16<Int.ofNat n) then
 some ((.ret,[picV R n h rc c,.int .i64 3],[]))
 else
 some ((.normal,v29 R n h rc c (IntKind.i64.wrap (Int.ofNat i+1)),[]))
 else none else
 some ((.exit 0,[picV R n h rc c,.undef],[]))) from by kernel_rfl) ?_
  (repeat (first | refine BT ?_ | refine BG ?_))
  rw [ofNatE i,wr64 (x:=(i:Int)+1) (by omega) (by omega)]
  rfl
 ·refine Last.mk0 (A:=A18) (m:=0) none_ok rfl rfl loops0 (h1:=[]) (by simp) ?_ .nil
  refine Eq.trans (show iterR P18 G18 A18 noneO 0 29 [] 4 (v29 R n h rc c h) [] =
(
 bif decide (Int.ofNat h<Int.ofNat h) then
 bif decide (0<=Int.ofNat h)&&decide (Int.ofNat h<Int.ofNat h) then
 bif decide (16<Int.ofNat n) then
 some ((.ret,[picV R n h rc c,.int .i64 3],[]))
 else
 some ((.normal,v29 R n h rc c (IntKind.i64.wrap (Int.ofNat h+1)),[]))
 else none else
 some ((.exit 0,[picV R n h rc c,.undef],[]))) from by kernel_rfl) ?_
  (repeat (first | refine BT ?_ | refine BG ?_))
  rfl
theorem l29b (hn1:1<=n) (hn:n<=16) (hh:h<=31) (hc:∀ i,i<h->∀ j,j<n->1<=R i j/\R i j<=6):LoopOk P18 G18 (A18 29) 29 12 (litS (v29 R n h rc c 0) [] (.exit 2) [picV R n h rc c,.undef] []):=by
 obtain ⟨p,hp⟩:=is_val P18 G18 45
 obtain ⟨q,hq⟩:=is_val P18 G18 46
 refine loop_steps hm18 (by kernel_rfl) (fun i=>v29 R n h rc c (i:Nat)) (fun _=>[]) (n:=h) (fun i hi=>?_) ?_
 ·have t1:=minT (R i) n rc hn1 (by omega)
  have t2:=maxT (R i) n rc hn1 (by omega)
  have g1:=mnF_ge (R i) 1 (n - 1) fun j hj=>(hc i hi j (by omega)).1
  have g2:=mxF_le (R i) 6 (n - 1) fun j hj=>(hc i hi j (by omega)).2
  clear hc
  generalize mnF (R i) (n - 1) = a at *
  generalize mxF (R i) (n - 1) = b at *
  refine Step.mk0 (A:=A18) (K:=K29 p q a b) (m:=0) (told_add (told_add none_ok (callF_told hp)) (callF_told hq)) rfl rfl loops0 (h1:=[]) ?_ .nil
  refine Eq.trans (show iterR P18 G18 A18 (K29 p q a b) 0 29 [] 12 (v29 R n h rc c i) [] =
(
 bif decide (Int.ofNat i<Int.ofNat h) then
 bif decide (0<=Int.ofNat i)&&decide (Int.ofNat i<Int.ofNat h) then
 bif decide (Int.ofNat n = 0) then
 some ((.ret,[picV R n h rc c,.int .i64 1],[]))
 else
 bif decF (p [.view 1 n (fun j=>[.int .u8 (R i j)]) rc] (.int .u8 a)) then
 bif decide (a<1) then
 some ((.ret,[picV R n h rc c,.int .i64 1],[]))
 else
 bif decF (q [.view 1 n (fun j=>[.int .u8 (R i j)]) rc] (.int .u8 b)) then
 bif decide (6<b) then
 some ((.ret,[picV R n h rc c,.int .i64 1],[]))
 else
 some ((.normal,v29 R n h rc c (IntKind.i64.wrap (Int.ofNat i+1)),[]))
 else none else none else none else
 some ((.exit 2,[picV R n h rc c,.undef],[]))) from by kernel_rfl) ?_
  refine BT ?_
  refine BT ?_
  refine BF ?_
  refine bift (callF_yes hp t1) ?_
  refine BF ?_
  refine bift (callF_yes hq t2) ?_
  refine BF ?_
  rw [ofNatE i,wr64 (x:=(i:Int)+1) (by omega) (by omega)]
  rfl
 ·clear hc
  refine Last.mk0 (A:=A18) (m:=0) none_ok rfl rfl loops0 (h1:=[]) (by simp) ?_ .nil
  refine Eq.trans (show iterR P18 G18 A18 noneO 0 29 [] 12 (v29 R n h rc c h) [] =
(
 bif decide (Int.ofNat h<Int.ofNat h) then
 bif decide (0<=Int.ofNat h)&&decide (Int.ofNat h<Int.ofNat h) then
 bif decide (Int.ofNat n = 0) then
 some ((.ret,[picV R n h rc c,.int .i64 1],[]))
 else none else none else
 some ((.exit 2,[picV R n h rc c,.undef],[]))) from by kernel_rfl) ?_
  (repeat (first | refine BT ?_ | refine BG ?_))
  rfl
theorem l29c (hh:h<=31):LoopOk P18 G18 (A18 29) 29 18 (litS (v29 R n h rc c 0) [] (.exit 4) [picV R n h rc c,.undef] []):=by
 refine loop_steps hm18 (by kernel_rfl) (fun i=>v29 R n h rc c (i:Nat)) (fun _=>[]) (n:=h) (fun i hi=>?_) ?_
 ·refine Step.mk0 (A:=A18) (m:=0) none_ok rfl rfl loops0 (h1:=[]) ?_ .nil
  refine Eq.trans (show iterR P18 G18 A18 noneO 0 29 [] 18 (v29 R n h rc c i) [] =
(
 bif decide (Int.ofNat i<Int.ofNat h) then
 bif decide (0<=Int.ofNat i)&&decide (Int.ofNat i<Int.ofNat h) then
 bif decide (0<Int.ofNat h) then
 bif !decide (Int.ofNat n = Int.ofNat n) then
 some ((.ret,[picV R n h rc c,.int .i64 5],[]))
 else
 some ((.normal,v29 R n h rc c (IntKind.i64.wrap (Int.ofNat i+1)),[]))
 else none else none else
 some ((.exit 4,[picV R n h rc c,.undef],[]))) from by kernel_rfl) ?_
  (repeat (first | refine BT ?_ | refine BG ?_))
  refine biff (by simp) ?_
  rw [ofNatE i,wr64 (x:=(i:Int)+1) (by omega) (by omega)]
  rfl
 ·refine Last.mk0 (A:=A18) (m:=0) none_ok rfl rfl loops0 (h1:=[]) (by simp) ?_ .nil
  refine Eq.trans (show iterR P18 G18 A18 noneO 0 29 [] 18 (v29 R n h rc c h) [] =
(
 bif decide (Int.ofNat h<Int.ofNat h) then
 bif decide (0<=Int.ofNat h)&&decide (Int.ofNat h<Int.ofNat h) then
 bif decide (0<Int.ofNat h) then
 bif !decide (Int.ofNat n = Int.ofNat n) then
 some ((.ret,[picV R n h rc c,.int .i64 5],[]))
 else
 some ((.normal,v29 R n h rc c (IntKind.i64.wrap (Int.ofNat h+1)),[]))
 else none else none else
 some ((.exit 4,[picV R n h rc c,.undef],[]))) from by kernel_rfl) ?_
  (repeat (first | refine BT ?_ | refine BG ?_))
  rfl
theorem l29d (hn1:1<=n) (hn:n<=nmax) (hh:h<=31) (hc:∀ i,i<h->∀ j,j<n->1<=R i j/\R i j<=6) (h2:∀ i,i<h->kK (R i) n<=2):LoopOk P18 G18 (A18 29) 29 24 (litS (v29d R n h rc c 0) [] (.exit 6) [.undef] []):=by
 obtain ⟨p,hp⟩:=is_val P18 G18 47
 refine loop_steps hm18 (by kernel_rfl) (fun i=>v29d R n h rc c (i:Nat)) (fun _=>[]) (n:=h) (fun i hi=>?_) ?_
 ·have t1:=kindsT (R i) n rc hn1 hn fun j hj=>by have:=hc i hi j hj; omega
  have g1:=h2 i hi
  clear hc h2
  generalize kK (R i) n = k at *
  generalize csK (R i) n = cs at *
  refine Step.mk0 (A:=A18) (K:=K29k p (.new (rowV cs k none))) (m:=0) (told_add none_ok (callF_told hp)) rfl rfl loops0 (h1:=[]) ?_ .nil
  refine Eq.trans (show iterR P18 G18 A18 (K29k p (.new (rowV cs k none))) 0 29 [] 24 (v29d R n h rc c i) [] =
(
 bif decide (Int.ofNat i<Int.ofNat h) then
 bif decide (0<=Int.ofNat i)&&decide (Int.ofNat i<Int.ofNat h) then
 bif decF (p [.view 1 n (fun j=>[.int .u8 (R i j)]) rc] (rowV cs k
 none).new) then
 bif decide (2<Int.ofNat k) then
 some ((.ret,[.int .i64 14],[]))
 else
 some ((.normal,v29d R n h rc c (IntKind.i64.wrap (Int.ofNat i+1)),[]))
 else none else none else
 some ((.exit 6,[.undef],[]))) from by kernel_rfl) ?_
  refine BT ?_
  refine BT ?_
  refine bift (callF_yes hp t1) ?_
  refine BF ?_
  rw [ofNatE i,wr64 (x:=(i:Int)+1) (by omega) (by omega)]
  rfl
 ·clear hc h2
  refine Last.mk0 (A:=A18) (m:=0) none_ok rfl rfl loops0 (h1:=[]) (by simp) ?_ .nil
  refine Eq.trans (show iterR P18 G18 A18 noneO 0 29 [] 24 (v29d R n h rc c h) [] =
(
 bif decide (Int.ofNat h<Int.ofNat h) then
 bif decide (0<=Int.ofNat h)&&decide (Int.ofNat h<Int.ofNat h) then none else none else
 some ((.exit 6,[.undef],[]))) from by kernel_rfl) ?_
  (repeat (first | refine BT ?_ | refine BG ?_))
  rfl
theorem checkT (ok:PicOk R n h):ToldOk P18 G18 29 [picV R n h rc c] (.int .i64 0):=by
 have hn2:=ok.nm
 unfold nmax at hn2
 have h1:=ok.h1
 have h2:=ok.odd
 refine stepL_told hm18 hn18 none_ok (A:=A18) (m:=0) (by kernel_rfl) (loopsC (l29a R n h rc c (by omega) h1) (loopsC (l29b R n h rc c ok.n1 (by omega) h1 ok.col) (loopsC (l29c R n h rc c h1) (loops1 (l29d R n h rc c ok.n1 ok.nm h1 ok.col ok.two))))) ?_
 refine Eq.trans (show stepL P18 G18 A18 noneO 0 29 [(4,litS (v29 R n h rc c 0) [] (.exit 0) [picV R n h rc c,.undef] []),(12,litS (v29 R n h rc c 0) [] (.exit 2) [picV R n h rc c,.undef] []),(18,litS (v29 R n h rc c 0) [] (.exit 4) [picV R n h rc c,.undef] []),(24,litS (v29d R n h rc c 0) [] (.exit 6) [.undef] [])] [picV R n h rc c] =
(
 bif decide (31<Int.ofNat h) then
 some (.int .i64 3)
 else
 bif weakF (v29 R n h rc c (0:Int)) [] (v29 R n h rc c (0:Int)) [] then
 bif decide ((Int.ofNat h).tmod 2 = 0) then
 some (.int .i64 1)
 else
 bif weakF (v29 R n h rc c (0:Int)) [] (v29 R n h rc c (0:Int)) [] then
 bif weakF (v29 R n h rc c (0:Int)) [] (v29 R n h rc c (0:Int)) [] then
 bif weakF (v29d R n h rc c (0:Int)) [] (v29d R n h rc c (0:Int)) [] then
 some (.int .i64 0)
 else none else none else none else
 none) from by kernel_rfl) ?_
 refine BF ?_
 refine bift (weakF_of ⟨rfl,.refl _⟩) ?_
 refine biff (by
  have e:(Int.ofNat h).tmod 2 = ((h % 2:Nat):Int):=rfl
  rw [e,h2]
  simp) ?_
 refine bift (weakF_of ⟨rfl,.refl _⟩) ?_
 refine bift (weakF_of ⟨rfl,.refl _⟩) ?_
 exact bift (weakF_of ⟨rfl,.refl _⟩) rfl
end
open Go.Proofs
def sumN (N:Nat->Int):Nat->Int
 | 0=>0
 | i+1=>sumN N i+N i
def h14 (h:Nat) (w:Nat->T):Heap:=[⟨0,1,h,fun e=>[w e],false,false,none⟩]
def v14 (R:Nat->Nat->Int) (n h:Nat) (rc c:Option Nat) (most tot i:Int):List T:=[.int .i64 most,.own 0 0 0 h (some h),.int .i64 tot,picV R n h rc c,.int .i64 h,.int .i64 i]
def wrow (n:Nat) (W:Nat->Int):T:=.view 1 n (fun j=>[.int .u8 (W j)]) (some n)
noncomputable def K14 (p:List T->T->Prop) (r:T):Orc:=noneO.add 30 (callF p fun _=>some r)
noncomputable def K14c (p:List T->T->Prop):Orc:=noneO.add 29 (callF p fun _=>some (.int .i64 0))
theorem sumN_bd {N:Nat->Int} {h:Nat} (hN:∀ i,i<h->0<=N i/\N i<=1001):∀ i,i<=h->0<=sumN N i/\sumN N i<=1001 * i
 | 0,_=>by unfold sumN; omega
 | i+1,hi=>by
  have h1:=sumN_bd hN i (by omega)
  have h2:=hN i (by omega)
  unfold sumN
  omega
theorem l14 (R:Nat->Nat->Int) (n h:Nat) (rc c:Option Nat) (most:Int) (W:Nat->Nat->Int) (N:Nat->Int) (hh:h<=31) (hN:∀ i,i<h->0<=N i/\N i<=1001)
 (hW:∀ i,i<h->ToldOk P18 G18 30 [rowV (R i) n rc,.int .i64 most] (.tup [.new (wrow n (W i)),.int .i64 (N i)])) :
 LoopOk P18 G18 (A18 14) 14 9 (litS (v14 R n h rc c most 0 0) (h14 h fun _=>.nils) (.exit 0) [.own 0 0 0 h (some h),.int .i64 (sumN N h)] (h14 h fun e=>wrow n (W e))):=by
 obtain ⟨p,hp⟩:=is_val P18 G18 30
 refine loop_steps hm18 (by kernel_rfl) (fun i=>v14 R n h rc c most (sumN N i) (i:Nat)) (fun i=>h14 h fun e=>bif Nat.blt e i then wrow n (W e) else .nils) (n:=h) (fun i hi=>?_) ?_
 ·have t1:=hW i hi
  have hb:=sumN_bd hN i (by omega)
  have hb2:=hN i hi
  have e:sumN N (i+1) = sumN N i+N i:=rfl
  rw [e]
  obtain ⟨w,hw⟩:∃ w:Nat->T,w = fun e=>bif Nat.blt e i then wrow n (W e) else .nils:=⟨_,rfl⟩
  have ew:(fun e=>bif Nat.blt e (i+1) then wrow n (W e) else .nils) = fun e=>bif e==0+i then wrow n (W i) else w e:=by
   subst hw
   funext e
   show _ = bif e==0+i then wrow n (W i) else (bif Nat.blt e i then wrow n (W e) else .nils)
   rw [Nat.zero_add]
   by_cases q:e = i
   ·subst q; rw [beq_self_eq_true,cond_true,bltT (by omega),cond_true]
   ·rw [show (e==i) = false by simpa using q,cond_false]
    by_cases q2:e<i
    ·rw [bltT q2,bltT (by omega)]
    ·rw [bltF (by omega),bltF (by omega)]
  rw [ew,← hw]
  clear hN hW ew hw
  generalize W i = Wi at *
  generalize sumN N i = tot at *
  generalize N i = a at *
  refine Step.mk0 (A:=A18) (K:=K14 p (.tup [.new (wrow n Wi),.int .i64 a])) (m:=0) (told_add none_ok (callF_told hp)) rfl rfl loops0 (h1:=h14 h fun e=>bif e==0+i then wrow n Wi else w e) ?_ (.refl _)
  refine Eq.trans (show iterR P18 G18 A18 (K14 p (.tup [.new (wrow n Wi),.int .i64 a])) 0 14 [] 9 (v14 R n h rc c most tot i) (h14 h w) =
(
 bif decide (Int.ofNat i<Int.ofNat h) then
 bif decide (0<=Int.ofNat i)&&decide (Int.ofNat i<Int.ofNat h) then
 bif decF (p [rowV (R i) n rc,.int .i64 most] (.tup [(wrow n Wi).new,.int .i64 a])) then
 bif decide (0<=Int.ofNat i)&&decide (Int.ofNat i<Int.ofNat h) then
 bif ((0:Nat)+i).blt h&&[wrow n Wi].length==(1:Nat)&&true&&true then
 some ((.normal,v14 R n h rc c most (IntKind.i64.wrap (tot+a)) (IntKind.i64.wrap (Int.ofNat i+1)),h14 h fun e =>
 bif e==0+i then wrow n Wi
 else w e))
 else none else none else none else none else
 some ((.exit 0,[.own 0 0 0 h (some h),.int .i64 tot],h14 h w))) from by kernel_rfl) ?_
  refine BT ?_
  refine BT ?_
  refine bift (callF_yes hp t1) ?_
  refine BT ?_
  refine BT ?_
  rw [ofNatE i,wr64 (x:=(i:Int)+1) (by omega) (by omega),wr64 (x:=tot+a) (by omega) (by omega)]
  rfl
 ·generalize sumN N h = tot at *
  refine Last.mk0 (A:=A18) (m:=0) none_ok rfl rfl loops0 (h1:=h14 h fun e=>bif Nat.blt e h then wrow n (W e) else .nils) (by simp) ?_ (.cons ⟨rfl,rfl,rfl,id,fun j hj=>?_⟩ .nil)
  ·generalize (fun e=>bif Nat.blt e h then wrow n (W e) else .nils) = w at *
   refine Eq.trans (show iterR P18 G18 A18 noneO 0 14 [] 9 (v14 R n h rc c most tot h) (h14 h w) =
(
 bif decide (Int.ofNat h<Int.ofNat h) then
 bif decide (0<=Int.ofNat h)&&decide (Int.ofNat h<Int.ofNat h) then none else none else
 some ((.exit 0,[.own 0 0 0 h (some h),.int .i64 tot],h14 h w))) from by kernel_rfl) ?_
   (repeat (first | refine BT ?_ | refine BG ?_))
   rfl
  ·show [wrow n (W j)] = [bif Nat.blt j h then wrow n (W j) else .nils]
   rw [bltT hj,cond_true]
theorem WeaveT (R:Nat->Nat->Int) (n h:Nat) (rc c:Option Nat) (most:Int) (W:Nat->Nat->Int) (N:Nat->Int) (ok:PicOk R n h) (hm:1<=most/\most<=16) (hN:∀ i,i<h->0<=N i/\N i<=1001)
 (hW:∀ i,i<h->ToldOk P18 G18 30 [rowV (R i) n rc,.int .i64 most] (.tup [.new (wrow n (W i)),.int .i64 (N i)])) :
 ToldOk P18 G18 14 [picV R n h rc c,.int .i64 most] (.tup [.fresh false 1 h (fun i=>[wrow n (W i)]) h (some h),.int .i64 (sumN N h),.int .i64 0]):=by
 obtain ⟨p,hp⟩:=is_val P18 G18 29
 have h1:=ok.h1
 have t1:=checkT R n h rc c ok
 have hl:=l14 R n h rc c most W N h1 hN hW
 generalize sumN N h = tot at *
 clear hW hN
 refine stepL_told hm18 hn18 (K:=K14c p) (told_add none_ok (callF_told hp)) (A:=A18) (m:=0) (by kernel_rfl) (loops1 hl) ?_
 refine Eq.trans (show stepL P18 G18 A18 (K14c p) 0 14 [(9,litS (v14 R n h rc c most 0 0) (h14 h fun _=>.nils) (.exit 0) [.own 0 0 0 h (some h),.int .i64 tot] (h14 h fun e=>wrow n (W e)))] [picV R n h rc c,.int .i64 most] =
(
 bif decF (p [picV R n h rc c] (.int .i64 0)) then
 bif decide (most<1) then
 some (.tup [.nils,.int .i64 0,.int .i64 1])
 else
 bif decide (16<most) then
 some (.tup [.nils,.int .i64 0,.int .i64 1])
 else
 bif decide (0<=Int.ofNat h)&&decide (Int.ofNat h<=Int.ofNat h)&&decide (Int.ofNat h * 24<=140737488355328)&&decide (Int.ofNat h<=9223372036854775807) then
 bif weakF (v14 R n h rc c most (0:Int) (0:Int)) (h14 h fun e=>.nils) (v14 R n h rc c most (0:Int) (0:Int)) (h14 h fun e=>.nils) then
 some (.tup [bif ((0:Nat)+h).ble h then .fresh false (1:Nat) (h - 0) (fun j=>[wrow n (W (0+j))]) h (some h)
 else .undef,.int .i64 tot,.int .i64 0])
 else none else none else
 none) from by kernel_rfl) ?_
 refine bift (callF_yes hp t1) ?_
 refine BF ?_
 refine BF ?_
 refine BT ?_
 refine bift (weakF_of ⟨rfl,.refl _⟩) ?_
 simp only [Nat.zero_add,Nat.sub_zero,bleT (Nat.le_refl _),cond_true]
 try rfl
open Go.Proofs
section
variable (r:Nat->Int) (n:Nat) (cs:Nat->Int) (k:Nat) (most:Int)
def lkB (f:PS->Int) (a:Nat) (s:PS):Nat->Int
 | 0=>(n:Int)+1
 | i+1=>bif s.ok most (cs i) then (bif decide (f (s.nx (cs i))+chg (r a) (cs i)<lkB f a s i) then f (s.nx (cs i))+chg (r a) (cs i) else lkB f a s i) else lkB f a s i
def lk:Nat->PS->Int
 | 0,_=>0
 | m+1,s=>lkB r n cs most (lk m) (n - (m+1)) s k
end
def Good (r:Nat->Int) (n:Nat) (cs:Nat->Int) (k:Nat) (most:Int) (m:MapD) (a:Nat) (s:PS):Prop:=m.val (s.key a) = lk r n cs k most (n - a) s
theorem b2i_inj {a b:Bool} (h:b2i a = b2i b):a = b:=by
 cases a <;> cases b <;> first | rfl | (simp [b2i] at h)
theorem key_inj {s t:PS} {a b:Int} (h:s.key a = t.key b):a = b/\s = t:=by
 obtain ⟨c,ru,i⟩:=s
 obtain ⟨c2,ru2,i2⟩:=t
 simp only [PS.key,List.cons.injEq,and_true] at h
 obtain ⟨h1,h2,h3,h4⟩:=h
 obtain rfl:=b2i_inj h4
 subst h1 h2 h3
 exact ⟨rfl,rfl⟩
section
variable {r:Nat->Int} {n:Nat} {cs:Nat->Int} {k:Nat} {most:Int}
theorem bestF_lk (val:List Int->Int) (f:PS->Int) (a:Nat) (s:PS):∀ i,(∀ j,j<i->val ((s.nx (cs j)).key ((a:Int)+1)) = f (s.nx (cs j)))->bestF r n cs most val a s.c s.run s.inn i = lkB r n cs most f a s i
 | 0,_=>rfl
 | i+1,h=>by
  have ih:=bestF_lk val f a s i fun j hj=>h j (by omega)
  have hi:=h i (by omega)
  unfold bestF lkB
  rw [ih]
  have e:tryF r most val a s.c s.run s.inn (cs i) = f (s.nx (cs i))+chg (r a) (cs i):=by
   rw [← hi]; rfl
  rw [e]
  rfl
theorem fillM_val (a:Nat) (s:PS) (m:MapD) (l:List Int):(fillM r n cs k most a s.c s.run s.inn m).val l = if l = s.key a then fillZ r n cs k most m.val a s.c s.run s.inn else m.val l:=by
 show (bif keq l [(a:Int),s.c,s.run,b2i s.inn] then fillZ r n cs k most m.val ((a:Int)).toNat s.c s.run s.inn else m.val l) = _
 by_cases q:l = s.key a
 ·rw [if_pos q,q]
  show (bif keq [(a:Int),s.c,s.run,b2i s.inn] [(a:Int),s.c,s.run,b2i s.inn] then _ else _) = _
  rw [keq_self,cond_true]
  rfl
 ·rw [if_neg q,show keq l [(a:Int),s.c,s.run,b2i s.inn] = false from keq_ne q,cond_false]
theorem Good.fill {m:MapD} {a b:Nat} {s t:PS} (ha:a<=n) (h:Good r n cs k most m b t ∨ (b = a/\t = s)) (hs:a<n->∀ j,j<k->Good r n cs k most m (a+1) (s.nx (cs j))):Good r n cs k most (fillM r n cs k most a s.c s.run s.inn m) b t:=by
 unfold Good
 rw [fillM_val]
 by_cases q:t.key b = s.key a
 ·rw [if_pos q]
  obtain ⟨q1,rfl⟩:=key_inj q
  obtain rfl:b = a:=by omega
  unfold fillZ
  by_cases q2:b = n
  ·subst q2
   rw [if_pos rfl,Nat.sub_self]
   rfl
  ·rw [if_neg q2]
   obtain ⟨m',hm'⟩:∃ m',n - b = m'+1:=⟨n - b - 1,by omega⟩
   rw [hm',bestF_lk (f:=lk r n cs k most m') m.val b t k fun j hj=>?_]
   ·show _ = lkB r n cs most (lk r n cs k most m') (n - (m'+1)) t k
    rw [show n - (m'+1) = b by omega]
   ·have:=hs (by omega) j hj
    unfold Good at this
    rw [show n - (b+1) = m' by omega] at this
    rw [← this]
    rfl
 ·rw [if_neg q]
  rcases h with h | ⟨rfl,rfl⟩
  ·exact h
  ·exact absurd rfl q
def Pl (cs:Nat->Int) (k a:Nat) (s:PS):Prop:=∃ i j,i<k/\1<=j/\j<=a/\s.c = cs i/\s.run = ((j:Nat):Int)
theorem fold1_good {m:MapD} {a j:Nat} (ha:a<=n) (hs:a<n->∀ i b,i<k->∀ e,e<k->Good r n cs k most m (a+1) (PS.nx ⟨cs i,(j:Nat),b⟩ (cs e))):∀ i,i<=k->(∀ b t,Good r n cs k most m b t->Good r n cs k most (fold1 (fillM r n cs k most) cs a j m i) b t)/\∀ i',i'<i->∀ b,Good r n cs k most (fold1 (fillM r n cs k most) cs a j m i) a ⟨cs i',(j:Nat),b⟩
 | 0,_=>⟨fun _ _ h=>h,fun i' h=>by omega⟩
 | i+1,hi=>by
  obtain ⟨h1,h2⟩:=fold1_good ha hs i (by omega)
  have s1:a<n->∀ e,e<k->Good r n cs k most (fold1 (fillM r n cs k most) cs a j m i) (a+1) (PS.nx ⟨cs i,(j:Nat),false⟩ (cs e)):=fun q e he=>h1 _ _ (hs q i false (by omega) e he)
  have f1:∀ b t,(Good r n cs k most (fold1 (fillM r n cs k most) cs a j m i) b t ∨ (b = a/\t = ⟨cs i,(j:Nat),false⟩))->Good r n cs k most (fillM r n cs k most a (cs i) (j:Nat) false (fold1 (fillM r n cs k most) cs a j m i)) b t:=fun b t h=>Good.fill (s:=⟨cs i,(j:Nat),false⟩) ha h s1
  have s2:a<n->∀ e,e<k->Good r n cs k most (fillM r n cs k most a (cs i) (j:Nat) false (fold1 (fillM r n cs k most) cs a j m i)) (a+1) (PS.nx ⟨cs i,(j:Nat),true⟩ (cs e)):=fun q e he=>f1 _ _ (.inl (h1 _ _ (hs q i true (by omega) e he)))
  have f2:∀ b t,(Good r n cs k most (fold1 (fillM r n cs k most) cs a j m i) b t ∨ (b = a/\t = ⟨cs i,(j:Nat),false⟩) ∨ (b = a/\t = ⟨cs i,(j:Nat),true⟩))->Good r n cs k most (fold1 (fillM r n cs k most) cs a j m (i+1)) b t:=fun b t h =>
   Good.fill (s:=⟨cs i,(j:Nat),true⟩) ha (h.elim (fun h=>.inl (f1 b t (.inl h))) fun h=>h.elim (fun h=>.inl (f1 b t (.inr h))) .inr) s2
  refine ⟨fun b t h=>f2 b t (.inl (h1 b t h)),fun i' hi' b=>?_⟩
  by_cases q:i' = i
  ·subst q
   cases b
   ·exact f2 _ _ (.inr (.inl ⟨rfl,rfl⟩))
   ·exact f2 _ _ (.inr (.inr ⟨rfl,rfl⟩))
  ·exact f2 _ _ (.inl (h2 i' (by omega) b))
theorem nx_pl {a i j e:Nat} (hi:i<k) (he:e<k) (h1:1<=j) (hj:j<=a) (b:Bool):Pl cs k (a+1) (PS.nx ⟨cs i,(j:Nat),b⟩ (cs e)):=by
 unfold PS.nx
 dsimp only
 unfold nK
 rw [decide_eq_false (show ¬ ((j:Int) = 0) by omega),cond_false]
 by_cases q:cs i = cs e
 ·rw [decide_eq_true q,cond_true]
  exact ⟨e,j+1,he,by omega,by omega,rfl,by show (j:Int)+1 = ((j+1:Nat):Int); omega⟩
 ·rw [decide_eq_false q,cond_false]
  exact ⟨e,1,he,by omega,by omega,rfl,rfl⟩
theorem fold2_good {m:MapD} {a:Nat} (ha:a<=n) (hs:a<n->∀ s,Pl cs k (a+1) s->Good r n cs k most m (a+1) s):∀ j,j<=a->(∀ b t,Good r n cs k most m b t->Good r n cs k most (fold2 (fillM r n cs k most) cs k a m j) b t)/\∀ j',1<=j'->j'<=j->∀ i,i<k->∀ b,Good r n cs k most (fold2 (fillM r n cs k most) cs k a m j) a ⟨cs i,(j':Nat),b⟩
 | 0,_=>⟨fun _ _ h=>h,fun j' h1 h2=>by omega⟩
 | j+1,hj=>by
  obtain ⟨h1,h2⟩:=fold2_good ha hs j (by omega)
  obtain ⟨g1,g2⟩:=fold1_good (m:=fold2 (fillM r n cs k most) cs k a m j) (j:=j+1) ha (fun q i b hi e he=>h1 _ _ (hs q _ (nx_pl hi he (by omega) (by omega) b))) k (Nat.le_refl _)
  refine ⟨fun b t h=>g1 b t (h1 b t h),fun j' q1 q2 i hi b=>?_⟩
  by_cases q:j' = j+1
  ·subst q; exact g2 i hi b
  ·exact g1 _ _ (h2 j' q1 (by omega) i hi b)
theorem fold3_good:∀ i,i<=n->∀ a,n - i<a->a<=n->∀ s,Pl cs k a s->Good r n cs k most (fold3 (fillM r n cs k most) cs k n i) a s
 | 0,_,a,h1,h2,s,_=>by omega
 | i+1,hi,a,h1,h2,s,hp=>by
  have ih:=fold3_good i (by omega)
  obtain ⟨g1,g2⟩:=fold2_good (m:=fold3 (fillM r n cs k most) cs k n i) (a:=n - i) (by omega) (fun q s hp=>ih (n - i+1) (by omega) (by omega) s hp) (n - i) (Nat.le_refl _)
  by_cases q:a = n - i
  ·obtain ⟨c,j,hc,hj1,hj2,e1,e2⟩:=hp
   obtain ⟨sc,sr,sb⟩:=s
   dsimp only at e1 e2
   subst e1 e2
   rw [q]
   exact g2 j hj1 (by omega) c hc sb
  ·exact g1 _ _ (ih a (by omega) h2 s hp)
theorem least_good {a:Nat} {s:PS} (h1:1<=n) (ha:a<=n) (h:Pl cs k a s ∨ (a = 0/\s = ⟨0,0,false⟩)):Good r n cs k most (leastM r n cs k most) a s:=by
 have g:=fold3_good (r:=r) (n:=n) (cs:=cs) (k:=k) (most:=most) n (Nat.le_refl _)
 refine Good.fill (a:=0) (s:=⟨0,0,false⟩) (Nat.zero_le _) ?_ fun _ j hj=>?_
 ·rcases h with h | h
  ·obtain ⟨c,j,hc,hj1,hj2,e1,e2⟩:=h
   exact .inl (g a (by omega) ha s ⟨c,j,hc,hj1,hj2,e1,e2⟩)
  ·exact .inr h
 ·refine g 1 (by omega) h1 _ ⟨j,1,hj,Nat.le_refl _,Nat.le_refl _,rfl,?_⟩
  rfl
end
open Go.Proofs
def PlS (cs:Nat->Int) (k a:Nat) (s:PS):Prop:=Pl cs k a s ∨ (a = 0/\s = ⟨0,0,false⟩)
section
variable (r:Nat->Int) (n:Nat) (cs:Nat->Int) (k:Nat) (most:Int)
def tstL (i:Nat) (s:PS) (d:Int):Bool:=s.ok most d&&decide (lk r n cs k most (n - (i+1)) (s.nx d)+chg (r i) d = lk r n cs k most (n - i) s)
def psCL (i:Nat) (s:PS):Nat:=fnd (fun j=>tstL r n cs k most i s (cs j)) k 0
def psL:Nat->PS
 | 0=>⟨0,0,false⟩
 | i+1=>(psL i).nx (cs (psCL r n cs k most i (psL i)))
def wvL (i:Nat):Int:=(psL r n cs k most (i+1)).c
end
section
variable {r:Nat->Int} {n:Nat} {cs:Nat->Int} {k:Nat} {most:Int}
theorem PlS.ok {a:Nat} {s:PS} (hk:1<=k) (h:PlS cs k a s):∃ j,j<k/\s.ok most (cs j) = true:=by
 rcases h with ⟨i,j,hi,hj1,hj2,e1,e2⟩ | ⟨rfl,rfl⟩
 ·refine ⟨i,hi,?_⟩
  unfold PS.ok nO
  rw [e2,decide_eq_false (show ¬ ((j:Int) = 0) by omega),cond_false,decide_eq_true e1,cond_true]
 ·exact ⟨0,hk,rfl⟩
theorem PlS.nx {a e:Nat} {s:PS} (he:e<k) (h:PlS cs k a s):Pl cs k (a+1) (s.nx (cs e)):=by
 rcases h with ⟨i,j,hi,hj1,hj2,e1,e2⟩ | ⟨rfl,rfl⟩
 ·obtain ⟨c,ru,b⟩:=s
  dsimp only at e1 e2
  subst e1 e2
  exact nx_pl hi he hj1 hj2 b
 ·exact ⟨e,1,he,Nat.le_refl _,Nat.le_refl _,rfl,rfl⟩
theorem lkB_le (f:PS->Int) (a:Nat) (s:PS):∀ i j,j<i->s.ok most (cs j) = true->lkB r n cs most f a s i<=f (s.nx (cs j))+chg (r a) (cs j)
 | i+1,j,hj,ho=>by
  unfold lkB
  have ih:=lkB_le f a s i
  by_cases q:j = i
  ·subst q
   rw [ho,cond_true]
   by_cases q2:f (s.nx (cs j))+chg (r a) (cs j)<lkB r n cs most f a s j
   ·rw [decide_eq_true q2,cond_true]; exact Int.le_refl _
   ·rw [decide_eq_false q2,cond_false]; omega
  ·have:=ih j (by omega) ho
   cases s.ok most (cs i)
   ·exact this
   ·rw [cond_true]
    by_cases q2:f (s.nx (cs i))+chg (r a) (cs i)<lkB r n cs most f a s i
    ·rw [decide_eq_true q2,cond_true]; omega
    ·rw [decide_eq_false q2,cond_false]; exact this
theorem lkB_at (f:PS->Int) (a:Nat) (s:PS):∀ i,lkB r n cs most f a s i = (n:Int)+1 ∨ ∃ j,j<i/\s.ok most (cs j) = true/\f (s.nx (cs j))+chg (r a) (cs j) = lkB r n cs most f a s i
 | 0=>.inl rfl
 | i+1=>by
  have ih:=lkB_at f a s i
  have key:lkB r n cs most f a s i = (n:Int)+1 ∨ ∃ j,j<i+1/\s.ok most (cs j) = true/\f (s.nx (cs j))+chg (r a) (cs j) = lkB r n cs most f a s i:=by
   rcases ih with h | ⟨j,h1,h2,h3⟩
   ·exact .inl h
   ·exact .inr ⟨j,by omega,h2,h3⟩
  unfold lkB
  cases q:s.ok most (cs i)
  ·exact key
  ·rw [cond_true]
   by_cases q2:f (s.nx (cs i))+chg (r a) (cs i)<lkB r n cs most f a s i
   ·rw [decide_eq_true q2,cond_true]; exact .inr ⟨i,by omega,q,rfl⟩
   ·rw [decide_eq_false q2,cond_false]; exact key
theorem lk_le (hk:1<=k):∀ m a s,a+m = n->PlS cs k a s->lk r n cs k most m s<=m
 | 0,_,_,_,_=>Int.le_refl _
 | m+1,a,s,ha,h=>by
  obtain ⟨j,hj,ho⟩:=h.ok (most:=most) hk
  have h1:=lk_le hk m (a+1) (s.nx (cs j)) (by omega) (.inl (h.nx hj))
  have h2:=lkB_le (r:=r) (n:=n) (lk r n cs k most m) (n - (m+1)) s k j hj ho
  have h3:=chg_bd (r (n - (m+1))) (cs j)
  show lkB r n cs most (lk r n cs k most m) (n - (m+1)) s k<=_
  omega
theorem lk_at (hk:1<=k) {m a:Nat} {s:PS} (ha:a+(m+1) = n) (h:PlS cs k a s):∃ j,j<k/\s.ok most (cs j) = true/\lk r n cs k most m (s.nx (cs j))+chg (r a) (cs j) = lk r n cs k most (m+1) s:=by
 have h1:=lk_le (r:=r) (most:=most) hk (m+1) a s ha h
 have h2:=lkB_at (r:=r) (n:=n) (cs:=cs) (most:=most) (lk r n cs k most m) a s k
 have e:n - (m+1) = a:=by omega
 show ∃ j,j<k/\s.ok most (cs j) = true/\lk r n cs k most m (s.nx (cs j))+chg (r a) (cs j) = lkB r n cs most (lk r n cs k most m) (n - (m+1)) s k
 rw [e]
 rcases h2 with h2 | h2
 ·exfalso
  change lkB r n cs most (lk r n cs k most m) (n - (m+1)) s k<=_ at h1
  rw [e,h2] at h1
  omega
 ·exact h2
theorem fnd_lt {t:Nat->Bool} {m j:Nat} (h:∃ i,j<=i/\i<j+m/\t i = true):fnd t m j<j+m:=by
 obtain ⟨i,h1,h2,h3⟩:=h
 have:=fnd_ge t m j
 rcases Nat.lt_or_ge (fnd t m j) (j+m) with q | q
 ·exact q
 ·have:=fnd_ne t m j i h1 (by omega)
  rw [h3] at this; cases this
theorem psCL_lt (hk:1<=k) {i:Nat} {s:PS} (hi:i<n) (h:PlS cs k i s):psCL r n cs k most i s<k:=by
 obtain ⟨m,hm⟩:∃ m,n = i+(m+1):=⟨n - i - 1,by omega⟩
 obtain ⟨j,hj,ho,he⟩:=lk_at (r:=r) (most:=most) hk hm.symm h
 have:=@fnd_lt (fun j=>tstL r n cs k most i s (cs j)) k 0 ⟨j,Nat.zero_le _,by omega,by
  unfold tstL
  rw [ho,Bool.true_and,decide_eq_true_eq,show n - (i+1) = m by omega,show n - i = m+1 by omega]
  exact he⟩
 unfold psCL
 omega
theorem psL_pl (hk:1<=k):∀ i,i<=n->PlS cs k i (psL r n cs k most i)
 | 0,_=>.inr ⟨rfl,rfl⟩
 | i+1,hi=>by
  have ih:=psL_pl hk i (by omega)
  exact .inl (ih.nx (psCL_lt hk (by omega) ih))
theorem tst_L (h1:1<=n) (hk:1<=k) {i j:Nat} {s:PS} (hi:i<n) (hj:j<k) (h:PlS cs k i s):tst r most (leastM r n cs k most).val i s (cs j) = tstL r n cs k most i s (cs j):=by
 have g1:=least_good (r:=r) (most:=most) h1 (Nat.le_of_lt hi) h
 have g2:=least_good (r:=r) (most:=most) (a:=i+1) h1 hi (.inl (h.nx hj))
 unfold Good at g1 g2
 unfold tst tstL
 rw [show ((i:Int)+1) = ((i+1:Nat):Int) by omega,g1,g2]
theorem fnd_congr {t u:Nat->Bool}:∀ {m j:Nat},(∀ i,j<=i->i<j+m->t i = u i)->fnd t m j = fnd u m j
 | 0,_,_=>rfl
 | m+1,j,h=>by
  unfold fnd
  rw [h j (Nat.le_refl _) (by omega),fnd_congr (fun i h1 h2=>h i (by omega) (by omega))]
theorem psC_L (h1:1<=n) (hk:1<=k) {i:Nat} {s:PS} (hi:i<n) (h:PlS cs k i s):psC r cs k most (leastM r n cs k most).val i s = psCL r n cs k most i s:=by
 unfold psC psCL
 exact fnd_congr fun j _ hj=>tst_L h1 hk hi (by omega) h
theorem psT_L (h1:1<=n) (hk:1<=k):∀ i,i<=n->psT r cs k most (leastM r n cs k most).val i = psL r n cs k most i
 | 0,_=>rfl
 | i+1,hi=>by
  have ih:=psT_L h1 hk i (by omega)
  unfold psT psL
  rw [ih,psC_L h1 hk (by omega) (psL_pl hk i (by omega))]
theorem wvn_L (h1:1<=n) (hk:1<=k) {i:Nat} (hi:i<n):wvn r cs k most (leastM r n cs k most).val i = wvL r n cs k most i:=by
 unfold wvn wvL
 rw [psT_L h1 hk (i+1) (by omega)]
theorem least_L (h1:1<=n):(leastM r n cs k most).val [0,0,0,0] = lk r n cs k most n ⟨0,0,false⟩:=least_good (r:=r) (most:=most) (a:=0) h1 (Nat.zero_le _) (.inr ⟨rfl,rfl⟩)
theorem found_L (h1:1<=n) (hk:1<=k) (i:Nat) (hi:i<n):psC r cs k most (leastM r n cs k most).val i (psT r cs k most (leastM r n cs k most).val i)<k:=by
 rw [psT_L h1 hk i (by omega),psC_L h1 hk hi (psL_pl hk i (by omega))]
 exact psCL_lt hk hi (psL_pl hk i (by omega))
end
theorem weaveT (r:Nat->Int) (n:Nat) (c:Option Nat) (most:Int) (h1:1<=n) (hn:n<=nmax) (hr:∀ j,j<n->0<=r j/\r j<256) :
 ToldOk P18 G18 30 [rowV r n c,.int .i64 most] (.tup [.new (wrow n (wvL r n (csK r n) (kK r n) most)),.int .i64 (lk r n (csK r n) (kK r n) most n ⟨0,0,false⟩)]):=by
 have hn2:=hn
 unfold nmax at hn2
 have hk:1<=kK r n:=by
  obtain ⟨j,_,h2,_⟩:=(csK_mem hr (r 0)).2 ⟨0,Nat.le_refl _,h1,rfl⟩
  omega
 have hk2:kK r n<=256:=by
  unfold kK kindL
  refine Nat.le_trans (List.length_filter_le _ _) ?_
  simp
 have t:=(weave1T r n c (csK r n) (kK r n) none most (by omega) (by omega) (kindsT r n c h1 hn hr) (found_L h1 hk)).frz
 rw [least_L h1] at t
 refine ToldOk.tupTo t (.cons (.new (.view (.inl rfl) fun j hj=>?_)) (.cons (.refl _) .nil))
 show Sims [T.int .u8 (wvn r (csK r n) (kK r n) most (leastM r n (csK r n) (kK r n) most).val j)] [T.int .u8 (wvL r n (csK r n) (kK r n) most j)]
 rw [wvn_L h1 hk hj]
 exact .refl _
open Go.Proofs
def wb (lo hi:Int) (n b j:Nat):Int:=if b.testBit (n - 1 - j) = true then hi else lo
section
variable {r:Nat->Int} {n:Nat} {cs:Nat->Int} {most:Int}
def Fol (r:Nat->Int) (n:Nat) (cs:Nat->Int) (most:Int) (w:Nat->Int):Nat->Nat->PS->Prop
 | 0,_,_=>True
 | m+1,a,s=>w a = cs (psCL r n cs 2 most a s)/\Fol r n cs most w m (a+1) (s.nx (w a))
theorem Fol.congr {w v:Nat->Int}:∀ {m a:Nat} {s:PS},(∀ j,a<=j->j<a+m->w j = v j)->Fol r n cs most v m a s->Fol r n cs most w m a s
 | 0,_,_,_,_=>trivial
 | m+1,a,s,h,hf=>by
  have e:=h a (Nat.le_refl _) (by omega)
  refine ⟨e.trans hf.1,?_⟩
  rw [e]
  exact Fol.congr (fun j h1 h2=>h j (by omega) (by omega)) hf.2
end
open Go.Proofs
def stW (w:Nat->Int):Nat->PS
 | 0=>⟨0,0,false⟩
 | p+1=>(stW w p).nx (w p)
structure StI (w:Nat->Int) (p:Nat) (R:Nat):Prop where
 c:(stW w p).c = w (p - 1)
 run:(stW w p).run = R
 r1:1<=R
 rp:R<=p
 same:∀ j,p - R<=j->j<p->w j = w (p - 1)
 inn:(R = p/\(stW w p).inn = false) ∨ (R<p/\w (p - R - 1) ≠ w (p - 1)/\(stW w p).inn = true)
open Go.Proofs
def litR (l:List Int) (j:Nat):Int:=l.getD j 0
def flT (l:List (List T)):T:=.new (.view 3 l.length (fun j=>l.getD j []) (some l.length))
def cellIs (x:List T) (v:Int):Bool:=match x with
 | [.int .u8 y]=>decide (y = v)
 | _=>false
def chkRow (g:Nat->List T) (l:List Int):Bool:=(List.range l.length).all fun j=>cellIs (g j) (litR l j)
def exA:List (List T):=[[.int .u8 1,.int .i64 1,.int .i64 2],[.int .u8 2,.int .i64 3,.int .i64 2]]
def exB:List (List T):=[[.int .u8 1,.int .i64 1,.int .i64 2]]
def floS:List T->Tree
 | [.view 1 6 g _]=>.ite (chkRow g [1,2,2,1,1,2]) (.ret (flT exA)) .none
 | [.view 1 4 g _]=>.ite (chkRow g [1,2,3,1]) (.ret (flT exB)) (.ite (chkRow g [1,1,2,2]) (.ret (flT [])) .none)
 | _=>.none
def weaveR (n:Nat) (l:List Int) (tot:Int):T:=.tup [.fresh false 1 1 (fun _=>[wrow n (litR l)]) 1 (some 1),.int .i64 tot,.int .i64 0]
def wevS:List T->Tree
 | [.view 1 1 G _,.int .i64 m]=>match G 0 with
  | [.view 1 5 g _]=>.ite (chkRow g [1,2,2,2,1]&&decide (m = 2)) (.ret (weaveR 5 [1,1,2,2,1] 1)) .none
  | [.view 1 7 g _]=>.ite (chkRow g [1,2,2,2,2,2,1]&&decide (m = 2)) (.ret (weaveR 7 [1,2,2,1,2,2,1] 1)) .none
  | [.view 1 4 g _]=>.ite (chkRow g [1,2,2,2]&&decide (m = 1)) (.ret (weaveR 4 [1,2,2,2] 0)) .none
  | _=>.none
 | _=>.none
noncomputable def K12:Orc:=(noneO.add 10 floS).add 14 wevS
theorem lives_run:stepV P18 G18 A18 K12 4 12 [] = some (.bool true):=by kernel_rfl
theorem chk_row {g:Nat->List T} {l:List Int} (h:chkRow g l = true) {j:Nat} (hj:j<l.length):g j = [.int .u8 (litR l j)]:=by
 have:=List.all_eq_true.1 h j (List.mem_range.2 hj)
 revert this
 generalize g j = x
 intro this
 unfold cellIs at this
 split at this
 ·rw [of_decide_eq_true this]
 ·cases this
theorem row_sim {g:Nat->List T} {l:List Int} {n:Nat} {c:Option Nat} (h:chkRow g l = true) (hn:n = l.length):Sim (.view 1 n g c) (rowV (litR l) n c):=by
 subst hn
 refine .view (.inl rfl) fun j hj=>?_
 rw [chk_row h hj]
 exact .refl _
theorem flo1 {g:Nat->List T} {n:Nat} {c:Option Nat} (l:List Int) (e:List (List T)) (hl:n = l.length) (hn:n<=60) (hr:∀ j,j<n->0<=litR l j/\litR l j<256) (he:(fl (litR l) n n).length = e.length) (hg:∀ j,j<e.length->flG (litR l) n j = e.getD j [])
 (h:chkRow g l = true):ToldOk P18 G18 10 [.view 1 n g c] (flT e):=by
 have t:=(floatsT (litR l) n c (by omega) hr).sim (args:=[.view 1 n g c]) (.cons (row_sim h hl) .nil)
 rw [he] at t
 refine t.resTo (.new (.view (.inl rfl) fun j hj=>?_))
 rw [hg j hj]
 exact .refl _
theorem lit_ok {l:List Int} {n:Nat} (h:(List.range n).all (fun j=>decide (1<=litR l j)&&decide (litR l j<=6)) = true) {j:Nat} (hj:j<n):1<=litR l j/\litR l j<=6:=by
 have:=List.all_eq_true.1 h j (List.mem_range.2 hj)
 simp only [Bool.and_eq_true,decide_eq_true_eq] at this
 exact this
theorem all_lt {p:Nat->Prop} {n:Nat} [DecidablePred p] (h:(List.range n).all (fun j=>decide (p j)) = true) (j:Nat) (hj:j<n):p j:=of_decide_eq_true (List.all_eq_true.1 h j (List.mem_range.2 hj))
theorem floT {args:List T} {r:T} (h:(floS args).run some = some r):ToldOk P18 G18 10 args r:=by
 unfold floS at h
 split at h
 ·simp only [Tree.run] at h
  obtain ⟨h1,h⟩:=bif_none h
  obtain rfl:=Option.some.inj h
  refine flo1 [1,2,2,1,1,2] exA rfl (by omega) (fun j hj=>?_) (by decide +kernel) (fun j hj=>?_) h1
  ·have:=lit_ok (l:=[1,2,2,1,1,2]) (n:=6) (by decide +kernel) hj
   omega
  ·have:j<2:=hj
   obtain rfl | rfl:j = 0 ∨ j = 1:=by omega
   ·exact (show flG (litR [1,2,2,1,1,2]) 6 0 = exA.getD 0 [] from by kernel_rfl)
   ·exact (show flG (litR [1,2,2,1,1,2]) 6 1 = exA.getD 1 [] from by kernel_rfl)
 ·simp only [Tree.run] at h
  rename_i g c
  cases q:chkRow g [1,2,3,1]
  ·rw [q] at h
   obtain ⟨h1,h⟩:=bif_none h
   obtain rfl:=Option.some.inj h
   refine flo1 [1,1,2,2] [] rfl (by omega) (fun j hj=>?_) (by decide +kernel) (fun j hj=>by cases hj) h1
   have:=lit_ok (l:=[1,1,2,2]) (n:=4) (by decide +kernel) hj
   omega
  ·rw [q] at h
   obtain rfl:=Option.some.inj h
   refine flo1 [1,2,3,1] exB rfl (by omega) (fun j hj=>?_) (by decide +kernel) (fun j hj=>?_) q
   ·have:=lit_ok (l:=[1,2,3,1]) (n:=4) (by decide +kernel) hj
    omega
   ·have:j<1:=hj
    obtain rfl:j = 0:=by omega
    exact (show flG (litR [1,2,3,1]) 4 0 = exB.getD 0 [] from by kernel_rfl)
 ·cases h
theorem wev1 {G:Nat->List T} {g:Nat->List T} {n:Nat} {rc c:Option Nat} (l e cl:List Int) (most tot:Int) (hG:G 0 = [.view 1 n g rc]) (hl:n = l.length) (hn1:1<=n) (hn:n<=nmax) (hm:1<=most/\most<=16)
 (hr:∀ j,j<n->1<=litR l j/\litR l j<=6) (hk:kindL (litR l) n = cl) (hk2:cl.length<=2) (hw:∀ j,j<n->wvL (litR l) n (fun j=>cl.getD j 0) cl.length most j = litR e j) (ht:lk (litR l) n (fun j=>cl.getD j 0) cl.length most n ⟨0,0,false⟩ = tot) (htb:0<=tot/\tot<=1000)
 (h:chkRow g l = true):ToldOk P18 G18 14 [.view 1 1 G c,.int .i64 most] (weaveR n e tot):=by
 have hk3:kK (litR l) n = cl.length:=by unfold kK; rw [hk]
 have hc3:csK (litR l) n = fun j=>cl.getD j 0:=by funext j; unfold csK; rw [hk]
 have t:=weaveT (litR l) n rc most hn1 hn fun j hj=>by have:=hr j hj; omega
 rw [hk3,hc3,ht] at t
 have t2:ToldOk P18 G18 30 [rowV (litR l) n rc,.int .i64 most] (.tup [.new (wrow n (litR e)),.int .i64 tot]):=by
  refine ToldOk.tupTo t (.cons (.new (.view (.inl rfl) fun j hj=>?_)) (.cons (.refl _) .nil))
  rw [hw j hj]
  exact .refl _
 have ok:PicOk (fun _=>litR l) n 1:=⟨hn1,hn,by omega,rfl,fun i _=>hr,fun i _=>by rw [hk3]; exact hk2⟩
 have t3:=WeaveT (fun _=>litR l) n 1 rc c most (fun _=>litR e) (fun _=>tot) ok hm (fun i _=>by omega) fun i _=>t2
 rw [show sumN (fun _=>tot) 1 = tot by simp [sumN]] at t3
 refine t3.sim (.cons (.view (.inl rfl) fun j hj=>?_) (.cons (.refl _) .nil))
 have hj:j<1:=hj
 obtain rfl:j = 0:=by omega
 rw [hG]
 exact .cons (row_sim h hl) .nil
theorem wevT {args:List T} {r:T} (h:(wevS args).run some = some r):ToldOk P18 G18 14 args r:=by
 unfold wevS at h
 split at h
 ·split at h
  ·rename_i hG
   simp only [Tree.run] at h
   obtain ⟨h1,h⟩:=bif_none h
   obtain rfl:=Option.some.inj h
   simp only [Bool.and_eq_true,decide_eq_true_eq] at h1
   obtain ⟨h1,rfl⟩:=h1
   exact wev1 [1,2,2,2,1] [1,1,2,2,1] [1,2] 2 1 hG rfl (by omega) (by unfold nmax; omega) (by omega) (fun j hj=>lit_ok (n:=5) (by decide +kernel) hj) (by decide +kernel) (by decide) (all_lt (by decide +kernel)) (by decide +kernel) (by omega) h1
  ·rename_i hG
   simp only [Tree.run] at h
   obtain ⟨h1,h⟩:=bif_none h
   obtain rfl:=Option.some.inj h
   simp only [Bool.and_eq_true,decide_eq_true_eq] at h1
   obtain ⟨h1,rfl⟩:=h1
   exact wev1 [1,2,2,2,2,2,1] [1,2,2,1,2,2,1] [1,2] 2 1 hG rfl (by omega) (by unfold nmax; omega) (by omega) (fun j hj=>lit_ok (n:=7) (by decide +kernel) hj) (by decide +kernel) (by decide) (all_lt (by decide +kernel)) (by decide +kernel) (by omega) h1
  ·rename_i hG
   simp only [Tree.run] at h
   obtain ⟨h1,h⟩:=bif_none h
   obtain rfl:=Option.some.inj h
   simp only [Bool.and_eq_true,decide_eq_true_eq] at h1
   obtain ⟨h1,rfl⟩:=h1
   exact wev1 [1,2,2,2] [1,2,2,2] [1,2] 1 0 hG rfl (by omega) (by unfold nmax; omega) (by omega) (fun j hj=>lit_ok (n:=4) (by decide +kernel) hj) (by decide +kernel) (by decide) (all_lt (by decide +kernel)) (by decide +kernel) (by omega) h1
  ·cases h
 ·cases h
theorem livesT:ToldOk P18 G18 12 [] (.bool true):=stepV_told hm18 hn18 (told_add (told_add none_ok fun _ _=>floT) fun _ _=>wevT) lives_run
open Go.Proofs
open Go.Proofs
structure IR where
 wd:Int
 m:Nat
 ln:Nat->Nat
 x:Nat->Nat->Int
def IR.w (D:IR):Nat:=1+(D.wd % 10).toNat
def pairA (v:Int):Int:=if v<64 then 1 else if v<128 then 1 else if v<192 then 2 else 5
def pairB (v:Int):Int:=if v<64 then 2 else if v<128 then 3 else if v<192 then 3 else 4
def IR.pA (D:IR) (i:Nat):Int:=if i<D.m/\0<D.ln i then pairA (D.x i 0) else 1
def IR.pB (D:IR) (i:Nat):Int:=if i<D.m/\0<D.ln i then pairB (D.x i 0) else 2
def IR.r (D:IR) (i k:Nat):Int:=if i<D.m/\k<D.ln i then (if D.x i k % 2 = 0 then D.pA i else D.pB i) else D.pA i
def pbk (i:Nat) (g:Nat->T):Blk:=⟨i,1,i+1,fun e=>[g e],false,false,none⟩
def rbk (w:Nat) (y:Nat->Int):Blk:=⟨0,1,w,fun e=>[.int .u8 (y e)],true,false,none⟩
def pO (j:Nat):T:=.own 0 j 0 (j+1) none
structure IR.Ok (D:IR):Prop where
 wd:0<=D.wd/\D.wd<256
 x:∀ i k,0<=D.x i k/\D.x i k<256
open Go.Proofs
open Go.Proofs
def IR.n (D:IR):Nat:=if min D.m 9 % 2 = 0 then min D.m 9+1 else min D.m 9
theorem IR.n_bd (D:IR):1<=D.n/\D.n<=9/\D.n % 2 = 1:=by
 unfold IR.n
 split <;> omega
open Go.Proofs
open Go.Proofs
def lbk (j:Nat) (w:Nat->Int):Blk:=⟨j,1,j+1,fun e=>[.int .u8 (w e)],true,false,none⟩
section
variable (r:Nat->Int) (n:Nat) (c:Option Nat) (most lo hi:Int)
end
open Go.Proofs
section
variable (r:Nat->Int) (n:Nat) (most lo hi:Int)
end
open Go.Proofs
section
variable (r:Nat->Int) (n:Nat) (most lo hi:Int)
end
open Go.Proofs
def h4 (n h:Nat) (W:Nat->Nat->Int):Heap:=[⟨0,1,h,fun i=>[wrow n (W i)],false,false,none⟩]
theorem bytes_row (f:Nat->Int) (n:Nat):bytesF (fun j=>[T.int .u8 (f j)]) n = true:=by
 unfold bytesF elemsOf
 rw [List.all_eq_true]
 intro x hx
 obtain ⟨j,_,rfl⟩:=List.mem_map.1 hx
 rfl
open Go.Proofs
def mx (a b:Int):Int:=bif decide (a<b) then b else a
open Go.Proofs
theorem strF_eq (f:Nat->Int) (n:Nat):strF (fun j=>[T.int .u8 (f j)]) n = (List.range n).map fun j=>UInt8.ofNat (f j).toNat:=by
 unfold strF elemsOf
 rw [List.map_map]
 rfl
theorem strF_inj {f g:Nat->Int} {n:Nat} (hf:∀ j,j<n->0<=f j/\f j<256) (hg:∀ j,j<n->0<=g j/\g j<256) (h:strF (fun j=>[T.int .u8 (f j)]) n = strF (fun j=>[T.int .u8 (g j)]) n):∀ j,j<n->f j = g j:=by
 intro j hj
 rw [strF_eq,strF_eq] at h
 have e:=List.map_inj_left.1 h j (List.mem_range.2 hj)
 have e2:=congrArg UInt8.toNat e
 have h1:=hf j hj
 have h2:=hg j hj
 rw [UInt8.toNat_ofNat',UInt8.toNat_ofNat'] at e2
 omega
open Go.Proofs
section
variable {r:Nat->Int} {n:Nat} {most:Int} (hm:0<=most) (h1:1<=n) (hr:∀ j,j<n->0<=r j/\r j<256) (h2:kK r n<=2)
include hm h1 hr h2
end
open Go.Proofs
def pbN (u:Nat) (R:Nat->Nat->Int):Blk:=⟨u,1,u+1,fun e=>[rowV (R e) 16 none],false,false,none⟩
open Go.Proofs
def p5:Nat->T
 | 0=>.nils
 | j+1=>pO j
def h5 (R:Nat->Nat->Int):Nat->Heap
 | 0=>[]
 | j+1=>[pbN j R]
theorem ren0_lbk {σ:List Nat} {h:Heap} {ix j:Nat} {y:Nat->Int} (hp:posOf σ ix = none) (hc:σ.contains ix = false) (hi:h[ix]? = some (lbk j y)):ren0 σ h (.own ix j 0 (j+1) none) = rowV y (j+1) none:=by
 unfold lbk at hi
 simp only [ren0,hp,resolve,hc,cond_false,hi,beq_self_eq_true,Bool.true_and,Option.isNone_none]
 rw [show Nat.ble (0+(j+1)) (j+1) = true from bleT (by omega)]
 simp only [cond_true,Nat.zero_add]
 rfl
open Go.Proofs
open Go.Proofs
structure Sti where
 (k y a b:Int) (f:Bool)
def Sti.c (s:Sti):List T:=[.int .u8 s.k,.int .u8 s.y,.int .i64 s.a,.int .i64 s.b,.bool s.f]
def Sti.t (s:Sti):T:=.agg s.c
structure Sti.Ok (s:Sti):Prop where
 k:0<=s.k/\s.k<256
 y:0<=s.y/\s.y<256
 a:-9223372036854775808<=s.a/\s.a<=9223372036854775807
 b:-9223372036854775808<=s.b/\s.b<=9223372036854775807
def Sti.v (s:Sti):Bool:=bif decide (s.k<1) then false else bif decide (8<s.k) then false else bif decide (s.y<1) then false else bif decide (6<s.y) then false else
 bif !decide (s.k = 8) then (bif !decide (s.a = 0) then false else bif !decide (s.b = 0) then false else bif s.f then false else true) else
 bif decide (s.a<1) then false else bif decide (4<s.a) then false else bif decide (s.b<1) then false else bif decide (IntKind.i64.wrap (4 - s.a)<s.b) then false else true
def vF (s:Sti):Bool:=s.v
def errE (b:Bool):Int:=bif b then 0 else 1
noncomputable def K58 (p:List T->T->Prop) (s:Sti):Orc:=noneO.add 69 (callF p fun _=>some (.int .i64 (errE (vF s))))
def Sti.n (s:Sti):Int:=bif vF s then (bif decide (s.k = 3) then 0 else bif decide (s.k = 4) then 2 else bif decide (s.k = 5) then 2 else bif decide (s.k = 8) then IntKind.i64.wrap (s.a+s.b) else 1) else 0
def Sti.m (s:Sti):Int:=bif vF s then (bif decide (s.k = 8) then IntKind.i64.wrap (s.a+s.b) else 1) else 0
theorem stiCheckT (s:Sti):ToldOk P18 G18 69 [s.t] (.int .i64 (errE (vF s))):=by
 refine stepV_told hm18 hn18 none_ok (K:=noneO) (A:=A18) (m:=0) ?_
 rw [(show stepV P18 G18 A18 noneO 0 69 [s.t] =
(
 bif decide (s.k<1) then
 some (.int .i64 1)
 else
 bif decide (8<s.k) then
 some (.int .i64 1)
 else
 bif decide (s.y<1) then
 some (.int .i64 1)
 else
 bif decide (6<s.y) then
 some (.int .i64 1)
 else
 bif !decide (s.k = 8) then
 bif !decide (s.a = 0) then
 some (.int .i64 1)
 else
 bif !decide (s.b = 0) then
 some (.int .i64 1)
 else
 bif s.f then
 some (.int .i64 1)
 else
 some (.int .i64 0)
 else
 bif decide (s.a<1) then
 some (.int .i64 1)
 else
 bif decide (4<s.a) then
 some (.int .i64 1)
 else
 bif decide (s.b<1) then
 some (.int .i64 1)
 else
 bif decide (IntKind.i64.wrap (4 - s.a)<s.b) then
 some (.int .i64 1)
 else
 some (.int .i64 0)) from by kernel_rfl)]
 have key:∀ (c x y:Bool),some (T.int .i64 (errE (bif c then x else y))) = bif c then some (T.int .i64 (errE x)) else some (T.int .i64 (errE y)):=fun c x y=>by cases c <;> rfl
 unfold vF Sti.v
 simp only [key]
 rfl
theorem stiNeedsT (s:Sti):ToldOk P18 G18 58 [s.t] (.int .i64 s.n):=by
 obtain ⟨p,hp⟩:=is_val P18 G18 69
 refine stepV_told hm18 hn18 (told_add none_ok (callF_told hp)) (K:=K58 p s) (A:=A18) (m:=0) ?_
 rw [(show stepV P18 G18 A18 (K58 p s) 0 58 [s.t] =
(
 bif decF (p [.agg [.int .u8 s.k,.int .u8 s.y,.int .i64 s.a,.int .i64 s.b,.bool s.f]] (.int .i64 (bif vF s then (0:Int)
 else (1:Int)))) then
 bif !decide ((bif vF s then (0:Int)
 else (1:Int)) = (0:Int)) then
 some (.int .i64 0)
 else
 bif decide (s.k = 3) then
 some (.int .i64 0)
 else
 bif decide (s.k = 4) then
 some (.int .i64 2)
 else
 bif decide (s.k = 5) then
 some (.int .i64 2)
 else
 bif decide (s.k = 8) then
 some (.int .i64 (IntKind.i64.wrap (s.a+s.b)))
 else
 some (.int .i64 1)
 else
 none) from by kernel_rfl)]
 refine bift (callF_yes hp (stiCheckT s)) ?_
 unfold Sti.n
 cases vF s
 ·rfl
 ·have key:∀ (c:Bool) (x y:Int),some (T.int .i64 (bif c then x else y)) = bif c then some (T.int .i64 x) else some (T.int .i64 y):=fun c x y=>by cases c <;> rfl
  simp only [cond_true,key]
  rfl
theorem stiMakesT (s:Sti):ToldOk P18 G18 68 [s.t] (.int .i64 s.m):=by
 obtain ⟨p,hp⟩:=is_val P18 G18 69
 refine stepV_told hm18 hn18 (told_add none_ok (callF_told hp)) (K:=K58 p s) (A:=A18) (m:=0) ?_
 rw [(show stepV P18 G18 A18 (K58 p s) 0 68 [s.t] =
(
 bif decF (p [.agg [.int .u8 s.k,.int .u8 s.y,.int .i64 s.a,.int .i64 s.b,.bool s.f]] (.int .i64 (bif vF s then (0:Int)
 else (1:Int)))) then
 bif !decide ((bif vF s then (0:Int)
 else (1:Int)) = (0:Int)) then
 some (.int .i64 0)
 else
 bif decide (s.k = 8) then
 some (.int .i64 (IntKind.i64.wrap (s.a+s.b)))
 else
 some (.int .i64 1)
 else
 none) from by kernel_rfl)]
 refine bift (callF_yes hp (stiCheckT s)) ?_
 unfold Sti.m
 cases vF s
 ·rfl
 ·have key:∀ (c:Bool) (x y:Int),some (T.int .i64 (bif c then x else y)) = bif c then some (T.int .i64 x) else some (T.int .i64 y):=fun c x y=>by cases c <;> rfl
  simp only [cond_true,key]
  rfl
theorem Sti.v_iff (s:Sti) (h:s.Ok):vF s = true ↔ (1<=s.k/\s.k<=8/\1<=s.y/\s.y<=6/\((s.k ≠ 8/\s.a = 0/\s.b = 0/\s.f = false) ∨ (s.k = 8/\1<=s.a/\s.a<=4/\1<=s.b/\s.a+s.b<=4))):=by
 have:=h.a
 unfold vF Sti.v
 by_cases h1:s.k<1
 ·rw [dT h1]; simp; omega
 rw [dF h1,cond_false]
 by_cases h2:8<s.k
 ·rw [dT h2]; simp; omega
 rw [dF h2,cond_false]
 by_cases h3:s.y<1
 ·rw [dT h3]; simp; omega
 rw [dF h3,cond_false]
 by_cases h4:6<s.y
 ·rw [dT h4]; simp; omega
 rw [dF h4,cond_false]
 by_cases h5:s.k = 8
 ·rw [dT h5,Bool.not_true,cond_false]
  by_cases h6:s.a<1
  ·rw [dT h6]; simp; omega
  rw [dF h6,cond_false]
  by_cases h7:4<s.a
  ·rw [dT h7]; simp; omega
  rw [dF h7,cond_false]
  by_cases h8:s.b<1
  ·rw [dT h8]; simp; omega
  rw [dF h8,cond_false,wr64 (by omega) (by omega)]
  by_cases h9:4 - s.a<s.b
  ·rw [dT h9]; simp; omega
  rw [dF h9,cond_false]
  simp; omega
 ·rw [dF h5,Bool.not_false,cond_true]
  by_cases h6:s.a = 0
  ·by_cases h7:s.b = 0
   ·rw [dT h6,dT h7]
    cases hf:s.f
    ·simp; omega
    ·simp; omega
   ·rw [dT h6,dF h7]; simp; omega
  ·rw [dF h6]; simp; omega
theorem Sti.n_bd (s:Sti) (h:s.Ok):0<=s.n/\s.n<=4:=by
 have hv:=s.v_iff h
 unfold Sti.n
 cases q:vF s
 ·simp
 ·have hv:=hv.1 q
  rw [cond_true]
  by_cases h1:s.k = 3
  ·rw [dT h1]; simp
  rw [dF h1,cond_false]
  by_cases h2:s.k = 4
  ·rw [dT h2]; simp
  rw [dF h2,cond_false]
  by_cases h3:s.k = 5
  ·rw [dT h3]; simp
  rw [dF h3,cond_false]
  by_cases h4:s.k = 8
  ·rw [dT h4,cond_true,wr64 (by omega) (by omega)]; omega
  rw [dF h4]; simp
theorem Sti.m_bd (s:Sti) (h:s.Ok):0<=s.m/\s.m<=4:=by
 have hv:=s.v_iff h
 unfold Sti.m
 cases q:vF s
 ·simp
 ·have hv:=hv.1 q
  rw [cond_true]
  by_cases h4:s.k = 8
  ·rw [dT h4,cond_true,wr64 (by omega) (by omega)]; omega
  rw [dF h4]; simp
open Go.Proofs
def srV (r:Nat->Sti) (n:Nat) (c:Option Nat):T:=.view 5 n (fun j=>(r j).c) c
def v67 (r:Nat->Sti) (n:Nat) (c:Option Nat) (fn:Nat) (sum i:Int):List T:=[.fn fn [],.int .i64 sum,srV r n c,.int .i64 n,.int .i64 i]
noncomputable def K67 (p:List T->T->Prop) (fn:Nat) (x:Int):Orc:=noneO.add fn (callF p fun _=>some (.int .i64 x))
def v66 (r:Nat->Sti) (n:Nat) (c:Option Nat) (i:Int):List T:=[srV r n c,srV r n c,.int .i64 n,.int .i64 i]
noncomputable def K66a (p:List T->T->Prop) (x:Int):Orc:=noneO.add 69 (callF p fun _=>some (.int .i64 x))
noncomputable def K66 (p q:List T->T->Prop) (x y:Int):Orc:=(noneO.add 56 (callF p fun _=>some (.int .i64 x))).add 57 (callF q fun _=>some (.int .i64 y))
noncomputable def K56 (p:List T->T->Prop) (x:Int):Orc:=noneO.add 67 (callF p fun _=>some (.int .i64 x))
def nR5 (r:Nat->Sti) (n:Nat):Int:=sumN (fun j=>(r j).n) n
def mR5 (r:Nat->Sti) (n:Nat):Int:=sumN (fun j=>(r j).m) n
def allV (r:Nat->Sti):Nat->Bool
 | 0=>true
 | k+1=>allV r k&&vF (r k)
def wOk (x:Int):Bool:=decide (1<=x)&&decide (x<=16)
def rE (r:Nat->Sti) (n:Nat):Int:=if 16<n then 3 else if n = 0 then 1 else if allV r n = true then (if wOk (nR5 r n) = true/\wOk (mR5 r n) = true then 0 else 5) else 1
theorem sumN_le {N:Nat->Int} {b:Int} (hN:∀ i,0<=N i/\N i<=b):∀ i:Nat,0<=sumN N i/\sumN N i<=b * i
 | 0=>by unfold sumN; omega
 | i+1=>by
  have h1:=sumN_le hN i
  have h2:=hN i
  have e:b * ((i+1:Nat):Int) = b * i+b:=by rw [show ((i+1:Nat):Int) = (i:Int)+1 by omega,Int.mul_add,Int.mul_one]
  rw [e]
  unfold sumN
  omega
theorem firstBadB (p:Nat->Bool) (n:Nat):(∀ i,i<n->p i = true) ∨ ∃ I,I<n/\p I = false/\∀ i,i<I->p i = true:=by
 induction n with
 | zero=>exact .inl fun i h=>by omega
 | succ n ih =>
  rcases ih with h | ⟨I,h1,h2,h3⟩
  ·cases q:p n
   ·exact .inr ⟨n,by omega,q,h⟩
   ·refine .inl fun i hi=>?_
    by_cases e:i = n
    ·rw [e]; exact q
    ·exact h i (by omega)
  ·exact .inr ⟨I,by omega,h2,h3⟩
theorem allV_iff (r:Nat->Sti):∀ n,allV r n = true ↔ ∀ i,i<n->vF (r i) = true
 | 0=>⟨fun _ i h=>by omega,fun _=>rfl⟩
 | n+1=>by
  have ih:=allV_iff r n
  unfold allV
  rw [Bool.and_eq_true,ih]
  constructor
  ·intro ⟨h1,h2⟩ i hi
   by_cases e:i = n
   ·rw [e]; exact h2
   ·exact h1 i (by omega)
  ·exact fun h=>⟨fun i hi=>h i (by omega),h n (by omega)⟩
theorem totalNeedsT (r:Nat->Sti) (n:Nat) (c:Option Nat) (hn:n<=1000) (hr:∀ j,(r j).Ok):ToldOk P18 G18 67 [srV r n c,.fn 58 []] (.int .i64 (sumN (fun j=>(r j).n) n)):=by
 obtain ⟨p,hp⟩:=is_val P18 G18 58
 have hb:∀ j,0<=(r j).n/\(r j).n<=4:=fun j=>(r j).n_bd (hr j)
 have hl:LoopOk P18 G18 (A18 67) 67 3 (litS (v67 r n c 58 0 0) [] (.exit 0) [.int .i64 (sumN (fun j=>(r j).n) n)] []):=by
  refine loop_steps hm18 (by kernel_rfl) (fun i=>v67 r n c 58 (sumN (fun j=>(r j).n) i) i) (fun _=>[]) (n:=n) (fun i hi=>?_) ?_
  ·have t1:=stiNeedsT (r i)
   have h1:=sumN_le hb i
   have h2:=hb i
   have e:sumN (fun j=>(r j).n) (i+1) = sumN (fun j=>(r j).n) i+(r i).n:=rfl
   rw [e]
   generalize sumN (fun j=>(r j).n) i = sum at *
   generalize (r i).n = x at *
   refine Step.mk0 (A:=A18) (K:=K67 p 58 x) (m:=0) (told_add none_ok (callF_told hp)) rfl rfl loops0 (h1:=[]) ?_ .nil
   rw [(show iterR P18 G18 A18 (K67 p 58 x) 0 67 [] 3 (v67 r n c 58 sum i) [] =
(
 bif decide (Int.ofNat i<Int.ofNat n) then
 bif decide (0<=Int.ofNat i)&&decide (Int.ofNat i<Int.ofNat n) then
 bif decF (p [.agg [.int .u8 (r i).k,.int .u8 (r i).y,.int .i64 (r i).a,.int .i64 (r i).b,.bool (r i).f]] (.int .i64 x)) then
 some ((.normal,v67 r n c (58:Nat) (IntKind.i64.wrap (sum+x)) (IntKind.i64.wrap (Int.ofNat i+1)),[]))
 else none else none else
 some ((.exit 0,[.int .i64 sum],[]))) from by kernel_rfl)]
   have ei:IntKind.i64.wrap ((i:Int)+1) = ((i+1:Nat):Int):=by rw [wr64 (by omega) (by omega)]; omega
   rw [ofNatE i,ei,wr64 (x:=sum+x) (by omega) (by omega)]
   refine BT ?_
   refine BT ?_
   refine bift (callF_yes hp t1) ?_
   rfl
  ·generalize sumN (fun j=>(r j).n) n = sum
   refine Last.mk0 (A:=A18) (m:=0) none_ok rfl rfl loops0 (h1:=[]) (by simp) ?_ .nil
   rw [(show iterR P18 G18 A18 noneO 0 67 [] 3 (v67 r n c 58 sum n) [] =
(
 bif decide (Int.ofNat n<Int.ofNat n) then
 bif decide (0<=Int.ofNat n)&&decide (Int.ofNat n<Int.ofNat n) then none else none else
 some ((.exit 0,[.int .i64 sum],[]))) from by kernel_rfl)]
   (repeat (first | refine BT ?_ | refine BG ?_))
   rfl
 generalize sumN (fun j=>(r j).n) n = sum at *
 refine stepL_told hm18 hn18 none_ok (A:=A18) (m:=0) (by kernel_rfl) (loops1 hl) ?_
 rw [(show stepL P18 G18 A18 noneO 0 67 [(3,litS (v67 r n c 58 0 0) [] (.exit 0) [.int .i64 sum] [])] [srV r n c,.fn 58 []] =
(
 bif weakF (v67 r n c (58:Nat) (0:Int) (0:Int)) [] (v67 r n c (58:Nat) (0:Int) (0:Int)) [] then
 some (.int .i64 sum)
 else
 none) from by kernel_rfl)]
 exact bift (weakF_of ⟨rfl,.refl _⟩) rfl
theorem rowNeedsT (r:Nat->Sti) (n:Nat) (c:Option Nat) (hn:n<=1000) (hr:∀ j,(r j).Ok):ToldOk P18 G18 56 [srV r n c] (.int .i64 (nR5 r n)):=by
 obtain ⟨p,hp⟩:=is_val P18 G18 67
 have t1:=totalNeedsT r n c hn hr
 unfold nR5
 generalize sumN (fun j=>(r j).n) n = x at *
 refine stepV_told hm18 hn18 (told_add none_ok (callF_told hp)) (K:=K56 p x) (A:=A18) (m:=0) ?_
 rw [(show stepV P18 G18 A18 (K56 p x) 0 56 [srV r n c] =
(
 bif decF (p [srV r n c,.fn (58:Nat) []] (.int .i64 x)) then
 some (.int .i64 x)
 else
 none) from by kernel_rfl)]
 exact bift (callF_yes hp t1) rfl
theorem totalMakesT (r:Nat->Sti) (n:Nat) (c:Option Nat) (hn:n<=1000) (hr:∀ j,(r j).Ok):ToldOk P18 G18 67 [srV r n c,.fn 68 []] (.int .i64 (sumN (fun j=>(r j).m) n)):=by
 obtain ⟨p,hp⟩:=is_val P18 G18 68
 have hb:∀ j,0<=(r j).m/\(r j).m<=4:=fun j=>(r j).m_bd (hr j)
 have hl:LoopOk P18 G18 (A18 67) 67 3 (litS (v67 r n c 68 0 0) [] (.exit 0) [.int .i64 (sumN (fun j=>(r j).m) n)] []):=by
  refine loop_steps hm18 (by kernel_rfl) (fun i=>v67 r n c 68 (sumN (fun j=>(r j).m) i) i) (fun _=>[]) (n:=n) (fun i hi=>?_) ?_
  ·have t1:=stiMakesT (r i)
   have h1:=sumN_le hb i
   have h2:=hb i
   have e:sumN (fun j=>(r j).m) (i+1) = sumN (fun j=>(r j).m) i+(r i).m:=rfl
   rw [e]
   generalize sumN (fun j=>(r j).m) i = sum at *
   generalize (r i).m = x at *
   refine Step.mk0 (A:=A18) (K:=K67 p 68 x) (m:=0) (told_add none_ok (callF_told hp)) rfl rfl loops0 (h1:=[]) ?_ .nil
   rw [(show iterR P18 G18 A18 (K67 p 68 x) 0 67 [] 3 (v67 r n c 68 sum i) [] =
(
 bif decide (Int.ofNat i<Int.ofNat n) then
 bif decide (0<=Int.ofNat i)&&decide (Int.ofNat i<Int.ofNat n) then
 bif decF (p [.agg [.int .u8 (r i).k,.int .u8 (r i).y,.int .i64 (r i).a,.int .i64 (r i).b,.bool (r i).f]] (.int .i64 x)) then
 some ((.normal,v67 r n c (68:Nat) (IntKind.i64.wrap (sum+x)) (IntKind.i64.wrap (Int.ofNat i+1)),[]))
 else none else none else
 some ((.exit 0,[.int .i64 sum],[]))) from by kernel_rfl)]
   have ei:IntKind.i64.wrap ((i:Int)+1) = ((i+1:Nat):Int):=by rw [wr64 (by omega) (by omega)]; omega
   rw [ofNatE i,ei,wr64 (x:=sum+x) (by omega) (by omega)]
   refine BT ?_
   refine BT ?_
   refine bift (callF_yes hp t1) ?_
   rfl
  ·generalize sumN (fun j=>(r j).m) n = sum
   refine Last.mk0 (A:=A18) (m:=0) none_ok rfl rfl loops0 (h1:=[]) (by simp) ?_ .nil
   rw [(show iterR P18 G18 A18 noneO 0 67 [] 3 (v67 r n c 68 sum n) [] =
(
 bif decide (Int.ofNat n<Int.ofNat n) then
 bif decide (0<=Int.ofNat n)&&decide (Int.ofNat n<Int.ofNat n) then none else none else
 some ((.exit 0,[.int .i64 sum],[]))) from by kernel_rfl)]
   (repeat (first | refine BT ?_ | refine BG ?_))
   rfl
 generalize sumN (fun j=>(r j).m) n = sum at *
 refine stepL_told hm18 hn18 none_ok (A:=A18) (m:=0) (by kernel_rfl) (loops1 hl) ?_
 rw [(show stepL P18 G18 A18 noneO 0 67 [(3,litS (v67 r n c 68 0 0) [] (.exit 0) [.int .i64 sum] [])] [srV r n c,.fn 68 []] =
(
 bif weakF (v67 r n c (68:Nat) (0:Int) (0:Int)) [] (v67 r n c (68:Nat) (0:Int) (0:Int)) [] then
 some (.int .i64 sum)
 else
 none) from by kernel_rfl)]
 exact bift (weakF_of ⟨rfl,.refl _⟩) rfl
theorem rowMakesT (r:Nat->Sti) (n:Nat) (c:Option Nat) (hn:n<=1000) (hr:∀ j,(r j).Ok):ToldOk P18 G18 57 [srV r n c] (.int .i64 (mR5 r n)):=by
 obtain ⟨p,hp⟩:=is_val P18 G18 67
 have t1:=totalMakesT r n c hn hr
 unfold mR5
 generalize sumN (fun j=>(r j).m) n = x at *
 refine stepV_told hm18 hn18 (told_add none_ok (callF_told hp)) (K:=K56 p x) (A:=A18) (m:=0) ?_
 rw [(show stepV P18 G18 A18 (K56 p x) 0 57 [srV r n c] =
(
 bif decF (p [srV r n c,.fn (68:Nat) []] (.int .i64 x)) then
 some (.int .i64 x)
 else
 none) from by kernel_rfl)]
 exact bift (callF_yes hp t1) rfl
theorem i66 (r:Nat->Sti) (n:Nat) (c:Option Nat) (x:Int) (i:Nat) (p:List T->T->Prop):iterR P18 G18 A18 (K66a p x) 0 66 [] 6 (v66 r n c i) [] =
(
 bif decide (Int.ofNat i<Int.ofNat n) then
 bif decide (0<=Int.ofNat i)&&decide (Int.ofNat i<Int.ofNat n) then
 bif decF (p [.agg [.int .u8 (r i).k,.int .u8 (r i).y,.int .i64 (r i).a,.int .i64 (r i).b,.bool (r i).f]] (.int .i64 x)) then
 bif !decide (x = 0) then
 some ((.ret,[srV r n c,.int .i64 1],[]))
 else
 some ((.normal,v66 r n c (IntKind.i64.wrap (Int.ofNat i+1)),[]))
 else none else none else
 some ((.exit 0,[srV r n c,.undef],[]))):=by kernel_rfl
theorem s66 (r:Nat->Sti) (n:Nat) (c:Option Nat) (hn:n<=1000) (p:List T->T->Prop) (hp:p = ToldOk P18 G18 69) (i:Nat) (hi:i<n) (hv:vF (r i) = true):Step P18 G18 (A18 66) 66 6 0 (v66 r n c i) [] (v66 r n c (i+1:Nat)) []:=by
 have t1:=stiCheckT (r i)
 rw [hv] at t1
 refine Step.mk0 (A:=A18) (K:=K66a p 0) (m:=0) (told_add none_ok (callF_told hp)) rfl rfl loops0 (h1:=[]) ?_ .nil
 have ei:IntKind.i64.wrap ((i:Int)+1) = ((i+1:Nat):Int):=by rw [wr64 (by omega) (by omega)]; omega
 rw [i66,ofNatE i,ei]
 refine BT ?_
 refine BT ?_
 refine bift (callF_yes hp t1) ?_
 refine biff (by simp) ?_
 rfl
theorem checkRowT (r:Nat->Sti) (n:Nat) (c:Option Nat) (hn:n<=1000) (hr:∀ j,(r j).Ok):ToldOk P18 G18 66 [srV r n c] (.int .i64 (rE r n)):=by
 unfold rE
 obtain ⟨p,hp⟩:=is_val P18 G18 69
 rcases firstBadB (fun i=>vF (r i)) n with h | ⟨I,hI,hb,hlt⟩
 ·rw [if_pos ((allV_iff r n).2 h)]
  have hl:LoopOk P18 G18 (A18 66) 66 6 (litS (v66 r n c 0) [] (.exit 0) [srV r n c,.undef] []):=by
   refine loop_steps hm18 (by kernel_rfl) (fun i=>v66 r n c i) (fun _=>[]) (n:=n) (fun i hi=>s66 r n c hn p hp i hi (h i hi)) ?_
   refine Last.mk0 (A:=A18) (K:=K66a p 0) (m:=0) (told_add none_ok (callF_told hp)) rfl rfl loops0 (h1:=[]) (by simp) ?_ .nil
   rw [i66]
   refine BF ?_
   rfl
  obtain ⟨p1,hp1⟩:=is_val P18 G18 56
  obtain ⟨p2,hp2⟩:=is_val P18 G18 57
  have t1:=rowNeedsT r n c hn hr
  have t2:=rowMakesT r n c hn hr
  generalize nR5 r n = x at *
  generalize mR5 r n = y at *
  refine stepL_told hm18 hn18 (told_add (told_add none_ok (callF_told hp1)) (callF_told hp2)) (K:=K66 p1 p2 x y) (A:=A18) (m:=0) (by kernel_rfl) (loops1 hl) ?_
  rw [(show stepL P18 G18 A18 (K66 p1 p2 x y) 0 66 [(6,litS (v66 r n c 0) [] (.exit 0) [srV r n c,.undef] [])] [srV r n c] =
(
 bif decide (16<Int.ofNat n) then
 some (.int .i64 3)
 else
 bif decide (Int.ofNat n = 0) then
 some (.int .i64 1)
 else
 bif weakF (v66 r n c (0:Int)) [] (v66 r n c (0:Int)) [] then
 bif decF (p1 [srV r n c] (.int .i64 x)) then
 bif decF (p2 [srV r n c] (.int .i64 y)) then
 bif decide (x<1) then
 some (.int .i64 5)
 else
 bif decide (16<x) then
 some (.int .i64 5)
 else
 bif decide (y<1) then
 some (.int .i64 5)
 else
 bif decide (16<y) then
 some (.int .i64 5)
 else
 some (.int .i64 0)
 else none else none else
 none) from by kernel_rfl)]
  by_cases q1:16<n
  ·rw [if_pos q1]; exact BT rfl
  rw [if_neg q1]
  refine BF ?_
  by_cases q2:n = 0
  ·rw [if_pos q2]; exact BT rfl
  rw [if_neg q2]
  refine BF ?_
  refine bift (weakF_of ⟨rfl,.refl _⟩) ?_
  refine bift (callF_yes hp1 t1) ?_
  refine bift (callF_yes hp2 t2) ?_
  unfold wOk
  simp only [Bool.and_eq_true,decide_eq_true_eq]
  by_cases q3:x<1
  ·rw [dT q3,if_neg (by omega)]; rfl
  rw [dF q3,cond_false]
  by_cases q4:16<x
  ·rw [dT q4,if_neg (by omega)]; rfl
  rw [dF q4,cond_false]
  by_cases q5:y<1
  ·rw [dT q5,if_neg (by omega)]; rfl
  rw [dF q5,cond_false]
  by_cases q6:16<y
  ·rw [dT q6,if_neg (by omega)]; rfl
  rw [dF q6,if_pos (by omega)]
  rfl
 ·have hna:¬ allV r n = true:=fun h=>by
   have:=(allV_iff r n).1 h I hI
   rw [hb] at this
   cases this
  rw [if_neg hna]
  have hl:LoopOk P18 G18 (A18 66) 66 6 (litS (v66 r n c 0) [] .ret [srV r n c,.int .i64 1] []):=by
   refine loop_steps hm18 (by kernel_rfl) (fun i=>v66 r n c i) (fun _=>[]) (n:=I) (fun i hi=>s66 r n c hn p hp i (by omega) (hlt i hi)) ?_
   have t1:=stiCheckT (r I)
   rw [show vF (r I) = false from hb] at t1
   refine Last.mk0 (A:=A18) (K:=K66a p 1) (m:=0) (told_add none_ok (callF_told hp)) rfl rfl loops0 (h1:=[]) (by simp) ?_ .nil
   rw [i66]
   refine BT ?_
   refine BT ?_
   refine bift (callF_yes hp t1) ?_
   refine bift (by simp) ?_
   rfl
  refine stepL_told hm18 hn18 none_ok (A:=A18) (m:=0) (by kernel_rfl) (loops1 hl) ?_
  rw [(show stepL P18 G18 A18 noneO 0 66 [(6,litS (v66 r n c 0) [] .ret [srV r n c,.int .i64 1] [])] [srV r n c] =
(
 bif decide (16<Int.ofNat n) then
 some (.int .i64 3)
 else
 bif decide (Int.ofNat n = 0) then
 some (.int .i64 1)
 else
 bif weakF (v66 r n c (0:Int)) [] (v66 r n c (0:Int)) [] then
 some (.int .i64 1)
 else
 none) from by kernel_rfl)]
  by_cases q1:16<n
  ·rw [if_pos q1]; exact BT rfl
  rw [if_neg q1]
  refine BF ?_
  by_cases q2:n = 0
  ·rw [if_pos q2]; exact BT rfl
  rw [if_neg q2]
  refine BF ?_
  exact bift (weakF_of ⟨rfl,.refl _⟩) rfl
open Go.Proofs
def chV (C:Nat->Nat->Sti) (ln:Nat->Nat) (h:Nat):T:=.view 1 h (fun i=>[srV (C i) (ln i) none]) none
def v55 (C:Nat->Nat->Sti) (ln:Nat->Nat) (h:Nat) (i:Int):List T:=[chV C ln h,chV C ln h,.int .i64 h,.int .i64 i]
def w55 (C:Nat->Nat->Sti) (ln:Nat->Nat) (h:Nat) (i:Int):List T:=[chV C ln h,.int .i64 i]
noncomputable def K55a (p:List T->T->Prop) (x:Int):Orc:=noneO.add 66 (callF p fun _=>some (.int .i64 x))
def rowsE (C:Nat->Nat->Sti) (ln:Nat->Nat):Nat->Int
 | 0=>0
 | i+1=>if rowsE C ln i ≠ 0 then rowsE C ln i else rE (C i) (ln i)
def linkB (C:Nat->Nat->Sti) (ln:Nat->Nat) (i:Nat):Bool:=decide (nR5 (C (i+1)) (ln (i+1)) = mR5 (C i) (ln i))
def linksB (C:Nat->Nat->Sti) (ln:Nat->Nat):Nat->Bool
 | 0=>true
 | i+1=>linksB C ln i&&linkB C ln i
def chE (C:Nat->Nat->Sti) (ln:Nat->Nat) (h:Nat):Int:=if 31<h then 3 else if h % 2 = 0 then 1 else if rowsE C ln h ≠ 0 then rowsE C ln h else if linksB C ln (h - 1) = true then 0 else 14
theorem i55 (C:Nat->Nat->Sti) (ln:Nat->Nat) (h:Nat) (i:Nat) (x:Int) (p:List T->T->Prop):iterR P18 G18 A18 (K55a p x) 0 55 [] 6 (v55 C ln h i) [] =
(
 bif decide (Int.ofNat i<Int.ofNat h) then
 bif decide (0<=Int.ofNat i)&&decide (Int.ofNat i<Int.ofNat h) then
 bif decF (p [srV (C i) (ln i)
 none] (.int .i64 x)) then
 bif !decide (x = 0) then
 some ((.ret,w55 C ln h x,[]))
 else
 some ((.normal,v55 C ln h (IntKind.i64.wrap (Int.ofNat i+1)),[]))
 else none else none else
 some ((.exit 0,[chV C ln h,.undef],[]))):=by kernel_rfl
theorem j55 (C:Nat->Nat->Sti) (ln:Nat->Nat) (h:Nat) (i:Nat) (x y:Int) (p q:List T->T->Prop):iterR P18 G18 A18 (K66 p q x y) 0 55 [] 13 (w55 C ln h (i+1:Nat)) [] =
(
 bif decide (Int.ofNat (i+1)<Int.ofNat h) then
 bif decide (0<=Int.ofNat (i+1))&&decide (Int.ofNat (i+1)<Int.ofNat h) then
 bif decF (p [.view 5 (ln (i+1)) (fun j=>[.int .u8 (C (i+(1:Nat)) j).k,.int .u8 (C (i+(1:Nat)) j).y,.int .i64 (C (i+(1:Nat)) j).a,.int .i64 (C (i+(1:Nat)) j).b,.bool (C (i+(1:Nat)) j).f])
 none] (.int .i64 x)) then
 bif decide (0<=IntKind.i64.wrap (Int.ofNat (i+1) - (1:Int)))&&decide (IntKind.i64.wrap (Int.ofNat (i+1) - (1:Int))<Int.ofNat h) then
 bif decF (q [.view 5 (ln (IntKind.i64.wrap (Int.ofNat (i+(1:Nat)) - (1:Int))).toNat) (fun j=>[.int .u8 (C (IntKind.i64.wrap (Int.ofNat (i+(1:Nat)) - (1:Int))).toNat j).k,.int .u8 (C (IntKind.i64.wrap (Int.ofNat (i+(1:Nat)) - (1:Int))).toNat j).y,.int .i64 (C (IntKind.i64.wrap (Int.ofNat (i+(1:Nat)) - (1:Int))).toNat j).a,.int .i64 (C (IntKind.i64.wrap (Int.ofNat (i+(1:Nat)) - (1:Int))).toNat j).b,.bool (C (IntKind.i64.wrap (Int.ofNat (i+(1:Nat)) - (1:Int))).toNat j).f])
 none] (.int .i64 y)) then
 bif !decide (x = y) then
 some ((.ret,[.int .i64 14],[]))
 else
 some ((.normal,w55 C ln h (IntKind.i64.wrap (Int.ofNat (i+1)+(1:Int))),[]))
 else none else none else none else none else
 some ((.exit 2,[.undef],[]))):=by kernel_rfl
theorem k55 (C:Nat->Nat->Sti) (ln:Nat->Nat) (h:Nat) (x:Int):stepL P18 G18 A18 noneO 0 55 [(6,litS (v55 C ln h 0) [] .ret [chV C ln h,.int .i64 x] [])] [chV C ln h] =
(
 bif decide (31<Int.ofNat h) then
 some (.int .i64 3)
 else
 bif decide ((Int.ofNat h).tmod 2 = 0) then
 some (.int .i64 1)
 else
 bif weakF (v55 C ln h (0:Int)) [] (v55 C ln h (0:Int)) [] then
 some (.int .i64 x)
 else
 none):=by kernel_rfl
theorem k55b (C:Nat->Nat->Sti) (ln:Nat->Nat) (h:Nat):stepL P18 G18 A18 noneO 0 55 [(6,litS (v55 C ln h 0) [] (.exit 0) [chV C ln h,.undef] []),(13,litS (w55 C ln h 1) [] (.exit 2) [.undef] [])] [chV C ln h] =
(
 bif decide (31<Int.ofNat h) then
 some (.int .i64 3)
 else
 bif decide ((Int.ofNat h).tmod 2 = 0) then
 some (.int .i64 1)
 else
 bif weakF (v55 C ln h (0:Int)) [] (v55 C ln h (0:Int)) [] then
 bif weakF (w55 C ln h (1:Int)) [] (w55 C ln h (1:Int)) [] then
 some (.int .i64 0)
 else none else
 none):=by kernel_rfl
theorem k55c (C:Nat->Nat->Sti) (ln:Nat->Nat) (h:Nat):stepL P18 G18 A18 noneO 0 55 [(6,litS (v55 C ln h 0) [] (.exit 0) [chV C ln h,.undef] []),(13,litS (w55 C ln h 1) [] .ret [.int .i64 14] [])] [chV C ln h] =
(
 bif decide (31<Int.ofNat h) then
 some (.int .i64 3)
 else
 bif decide ((Int.ofNat h).tmod 2 = 0) then
 some (.int .i64 1)
 else
 bif weakF (v55 C ln h (0:Int)) [] (v55 C ln h (0:Int)) [] then
 bif weakF (w55 C ln h (1:Int)) [] (w55 C ln h (1:Int)) [] then
 some (.int .i64 14)
 else none else
 none):=by kernel_rfl
theorem rowsE_zero (C:Nat->Nat->Sti) (ln:Nat->Nat):∀ h,(∀ i,i<h->rE (C i) (ln i) = 0)->rowsE C ln h = 0
 | 0,_=>rfl
 | h+1,q=>by
  unfold rowsE
  rw [if_neg (by rw [rowsE_zero C ln h fun i hi=>q i (by omega)]; simp),q h (by omega)]
theorem rowsE_at (C:Nat->Nat->Sti) (ln:Nat->Nat) (I:Nat) (hb:rE (C I) (ln I) ≠ 0) (hlt:∀ i,i<I->rE (C i) (ln i) = 0):∀ h,I<h->rowsE C ln h = rE (C I) (ln I)
 | h+1,hI=>by
  unfold rowsE
  by_cases q:h = I
  ·subst q
   rw [if_neg (by rw [rowsE_zero C ln h hlt]; simp)]
  ·have ih:=rowsE_at C ln I hb hlt h (by omega)
   rw [if_pos (by rw [ih]; exact hb),ih]
theorem linksB_iff (C:Nat->Nat->Sti) (ln:Nat->Nat):∀ n,linksB C ln n = true ↔ ∀ i,i<n->linkB C ln i = true
 | 0=>⟨fun _ i h=>by omega,fun _=>rfl⟩
 | n+1=>by
  have ih:=linksB_iff C ln n
  unfold linksB
  rw [Bool.and_eq_true,ih]
  constructor
  ·intro ⟨h1,h2⟩ i hi
   by_cases e:i = n
   ·rw [e]; exact h2
   ·exact h1 i (by omega)
  ·exact fun h=>⟨fun i hi=>h i (by omega),h n (by omega)⟩
theorem s55 (C:Nat->Nat->Sti) (ln:Nat->Nat) (h:Nat) (hh:h<=1000) (p:List T->T->Prop) (hp:p = ToldOk P18 G18 66) (i:Nat) (hi:i<h) (t1:ToldOk P18 G18 66 [srV (C i) (ln i) none] (.int .i64 0)):Step P18 G18 (A18 55) 55 6 0 (v55 C ln h i) [] (v55 C ln h (i+1:Nat)) []:=by
 refine Step.mk0 (A:=A18) (K:=K55a p 0) (m:=0) (told_add none_ok (callF_told hp)) rfl rfl loops0 (h1:=[]) ?_ .nil
 have ei:IntKind.i64.wrap ((i:Int)+1) = ((i+1:Nat):Int):=by rw [wr64 (by omega) (by omega)]; omega
 rw [i55,ofNatE i,ei]
 refine BT ?_
 refine BT ?_
 refine bift (callF_yes hp t1) ?_
 refine biff (by simp) ?_
 rfl
theorem tmod_two (h:Nat):decide ((Int.ofNat h).tmod 2 = 0) = decide (h % 2 = 0):=by
 rw [ofNatE,Int.tmod_eq_emod_of_nonneg (by omega)]
 by_cases q:h % 2 = 0
 ·rw [dT q,dT (by omega)]
 ·rw [dF q,dF (by omega)]
theorem checkRowsT (C:Nat->Nat->Sti) (ln:Nat->Nat) (h:Nat) (hh:h<=1000) (hln:∀ i,i<h->ln i<=1000) (hC:∀ i j,(C i j).Ok):ToldOk P18 G18 55 [chV C ln h] (.int .i64 (chE C ln h)):=by
 unfold chE
 obtain ⟨p,hp⟩:=is_val P18 G18 66
 rcases firstBadB (fun i=>decide (rE (C i) (ln i) = 0)) h with hg | ⟨I,hI,hb,hlt⟩
 ·have hg:∀ i,i<h->rE (C i) (ln i) = 0:=fun i hi=>by simpa using hg i hi
  rw [rowsE_zero C ln h hg]
  have hl:LoopOk P18 G18 (A18 55) 55 6 (litS (v55 C ln h 0) [] (.exit 0) [chV C ln h,.undef] []):=by
   refine loop_steps hm18 (by kernel_rfl) (fun i=>v55 C ln h i) (fun _=>[]) (n:=h) (fun i hi=>s55 C ln h hh p hp i hi (by have:=checkRowT (C i) (ln i) none (hln i hi) (hC i); rw [hg i hi] at this; exact this)) ?_
   refine Last.mk0 (A:=A18) (K:=K55a p 0) (m:=0) (told_add none_ok (callF_told hp)) rfl rfl loops0 (h1:=[]) (by simp) ?_ .nil
   rw [i55]
   refine BF ?_
   rfl
  obtain ⟨p1,hp1⟩:=is_val P18 G18 56
  obtain ⟨p2,hp2⟩:=is_val P18 G18 57
  have hK:∀ x y,OrcOk P18 G18 (K66 p1 p2 x y):=fun x y=>told_add (told_add none_ok (callF_told hp1)) (callF_told hp2)
  have tr:∀ i,i<h->i+1<h->∀ vs e,(∀ q,(bif !decide (nR5 (C (i+1)) (ln (i+1)) = mR5 (C i) (ln i)) then some (Ex.ret,[T.int .i64 14],([]:Heap)) else some (Ex.normal,w55 C ln h (i+1+1:Nat),[])) = q->q = some (e,vs,[]))->iterR P18 G18 A18 (K66 p1 p2 (nR5 (C (i+1)) (ln (i+1))) (mR5 (C i) (ln i))) 0 55 [] 13 (w55 C ln h (i+1:Nat)) [] = some (e,vs,[]):=fun i hi hi2 vs e hq=>by
   have t1:=rowNeedsT (C (i+1)) (ln (i+1)) none (hln (i+1) hi2) (hC (i+1))
   have t2:=rowMakesT (C i) (ln i) none (hln i hi) (hC i)
   generalize nR5 (C (i+1)) (ln (i+1)) = x at *
   generalize mR5 (C i) (ln i) = y at *
   have ei:IntKind.i64.wrap (((i+1:Nat):Int)+1) = ((i+1+1:Nat):Int):=by rw [wr64 (by omega) (by omega)]; omega
   have ei2:(IntKind.i64.wrap (((i+1:Nat):Int) - 1)).toNat = i:=by rw [wr64 (by omega) (by omega)]; omega
   have ei3:IntKind.i64.wrap (((i+1:Nat):Int) - 1) = (i:Int):=by rw [wr64 (by omega) (by omega)]; omega
   rw [j55,ofNatE (i+1),ei,ei2,ei3]
   refine BT ?_
   refine BT ?_
   refine bift (callF_yes hp1 t1) ?_
   refine BT ?_
   refine bift (callF_yes hp2 t2) ?_
   exact hq _ rfl
  have st:∀ i,i+1<h->linkB C ln i = true->Step P18 G18 (A18 55) 55 13 0 (w55 C ln h (i+1:Nat)) [] (w55 C ln h (i+1+1:Nat)) []:=fun i hi hk=>by
   refine Step.mk0 (A:=A18) (K:=K66 p1 p2 (nR5 (C (i+1)) (ln (i+1))) (mR5 (C i) (ln i))) (m:=0) (hK _ _) rfl rfl loops0 (h1:=[]) (tr i (by omega) hi _ _ fun q hq=>?_) .nil
   unfold linkB at hk
   rw [← hq,hk]
   rfl
  rcases firstBadB (linkB C ln) (h - 1) with hg2 | ⟨J,hJ,hb2,hlt2⟩
  ·rw [if_pos ((linksB_iff C ln (h - 1)).2 hg2)]
   by_cases h0:h = 0
   ·subst h0
    refine stepL_told hm18 hn18 none_ok (A:=A18) (m:=0) (by kernel_rfl) (loops1 hl) ?_
    rw [(show stepL P18 G18 A18 noneO 0 55 [(6,litS (v55 C ln 0 0) [] (.exit 0) [chV C ln 0,.undef] [])] [chV C ln 0] =
(
 some (.int .i64 1)) from by kernel_rfl)]
    rfl
   ·have hl2:LoopOk P18 G18 (A18 55) 55 13 (litS (w55 C ln h 1) [] (.exit 2) [.undef] []):=by
     refine loop_steps hm18 (by kernel_rfl) (fun i=>w55 C ln h (i+1:Nat)) (fun _=>[]) (n:=h - 1) (fun i hi=>st i (by omega) (hg2 i hi)) ?_
     refine Last.mk0 (A:=A18) (K:=K66 p1 p2 0 0) (m:=0) (hK _ _) rfl rfl loops0 (h1:=[]) (by simp) ?_ .nil
     rw [j55]
     refine BF ?_
     rfl
    refine stepL_told hm18 hn18 none_ok (A:=A18) (m:=0) (by kernel_rfl) (loopsC hl (loops1 hl2)) ?_
    rw [k55b,tmod_two]
    by_cases q1:31<h
    ·rw [if_pos q1]; exact BT rfl
    rw [if_neg q1]
    refine BF ?_
    by_cases q2:h % 2 = 0
    ·rw [if_pos q2]; exact bift (dT q2) rfl
    rw [if_neg q2]
    refine biff (by simpa using q2) ?_
    refine bift (weakF_of ⟨rfl,.refl _⟩) ?_
    refine bift (weakF_of ⟨rfl,.refl _⟩) ?_
    rfl
  ·have hne:¬ linksB C ln (h - 1) = true:=fun q=>by
    have:=(linksB_iff C ln (h - 1)).1 q J hJ
    rw [hb2] at this
    cases this
   rw [if_neg hne]
   have hl2:LoopOk P18 G18 (A18 55) 55 13 (litS (w55 C ln h 1) [] .ret [.int .i64 14] []):=by
    refine loop_steps hm18 (by kernel_rfl) (fun i=>w55 C ln h (i+1:Nat)) (fun _=>[]) (n:=J) (fun i hi=>st i (by omega) (hlt2 i hi)) ?_
    refine Last.mk0 (A:=A18) (K:=K66 p1 p2 (nR5 (C (J+1)) (ln (J+1))) (mR5 (C J) (ln J))) (m:=0) (hK _ _) rfl rfl loops0 (h1:=[]) (by simp) (tr J (by omega) (by omega) _ _ fun q hq=>?_) .nil
    unfold linkB at hb2
    rw [← hq,hb2]
    rfl
   refine stepL_told hm18 hn18 none_ok (A:=A18) (m:=0) (by kernel_rfl) (loopsC hl (loops1 hl2)) ?_
   rw [k55c,tmod_two]
   by_cases q1:31<h
   ·rw [if_pos q1]; exact BT rfl
   rw [if_neg q1]
   refine BF ?_
   by_cases q2:h % 2 = 0
   ·rw [if_pos q2]; exact bift (dT q2) rfl
   rw [if_neg q2]
   refine biff (by simpa using q2) ?_
   refine bift (weakF_of ⟨rfl,.refl _⟩) ?_
   refine bift (weakF_of ⟨rfl,.refl _⟩) ?_
   rfl
 ·have hb:rE (C I) (ln I) ≠ 0:=by simpa using hb
  have hlt:∀ i,i<I->rE (C i) (ln i) = 0:=fun i hi=>by simpa using hlt i hi
  rw [rowsE_at C ln I hb hlt h hI,if_pos hb]
  have hl:LoopOk P18 G18 (A18 55) 55 6 (litS (v55 C ln h 0) [] .ret [chV C ln h,.int .i64 (rE (C I) (ln I))] []):=by
   refine loop_steps hm18 (by kernel_rfl) (fun i=>v55 C ln h i) (fun _=>[]) (n:=I) (fun i hi=>s55 C ln h hh p hp i (by omega) (by have:=checkRowT (C i) (ln i) none (hln i (by omega)) (hC i); rw [hlt i hi] at this; exact this)) ?_
   have t1:=checkRowT (C I) (ln I) none (hln I hI) (hC I)
   generalize rE (C I) (ln I) = x at *
   refine Last.mk0 (A:=A18) (K:=K55a p x) (m:=0) (told_add none_ok (callF_told hp)) rfl rfl loops0 (h1:=[]) (by simp) ?_ .nil
   rw [i55]
   refine BT ?_
   refine BT ?_
   refine bift (callF_yes hp t1) ?_
   refine bift (by simp [hb]) ?_
   rfl
  generalize rE (C I) (ln I) = x at *
  refine stepL_told hm18 hn18 none_ok (A:=A18) (m:=0) (by kernel_rfl) (loops1 hl) ?_
  rw [k55,tmod_two]
  by_cases q1:31<h
  ·rw [if_pos q1]; exact BT rfl
  rw [if_neg q1]
  refine BF ?_
  by_cases q2:h % 2 = 0
  ·rw [if_pos q2]; exact bift (dT q2) rfl
  rw [if_neg q2]
  refine biff (by simpa using q2) ?_
  exact bift (weakF_of ⟨rfl,.refl _⟩) rfl
open Go.Proofs
def slV (B:Nat->Int) (n:Nat) (c:Option Nat):T:=.view 1 n (fun j=>[.int .i64 (B j)]) c
def bk59 (g:Nat->Int) (n:Nat):Heap:=[⟨0,1,n,fun j=>[.int .i64 (g j)],true,false,none⟩]
def v59a (s:Sti) (B:Nat->Int) (n:Nat) (c:Option Nat) (i:Int):List T:=[slV B n c,.reg s.c,slV B n c,.int .i64 n,.int .i64 i]
def v59b (s:Sti) (B:Nat->Int) (n:Nat) (c:Option Nat) (m:Nat) (i:Int):List T:=[slV B n c,.reg s.c,.own 0 0 0 m (some m),.int .i64 m,.int .i64 i]
noncomputable def K59 (p q r:List T->T->Prop) (e:Bool) (x y:Int):Orc:=((noneO.add 69 (callF p fun _=>some (.int .i64 (errE e)))).add 58 (callF q fun _=>some (.int .i64 x))).add 68 (callF r fun _=>some (.int .i64 y))
def slotB (B:Nat->Int) (j:Nat):Bool:=decide (1<=B j)&&decide (B j<=3)
def slotsB (B:Nat->Int):Nat->Bool
 | 0=>true
 | j+1=>slotsB B j&&slotB B j
def Sti.mN (s:Sti):Nat:=s.m.toNat
def Sti.nN (s:Sti):Nat:=s.n.toNat
def ldE (s:Sti) (B:Nat->Int) (n:Nat):Int:=if vF s = false then 1 else if n ≠ s.nN then 5 else if slotsB B n = false then 1 else if s.k = 4 ∨ s.k = 5 then (if 4<B 0+B 1 then 9 else 0) else if s.k = 6 then (if B 0 = 3 then 9 else 0) else 0
def ldG (s:Sti) (B:Nat->Int) (j:Nat):Int:=if s.k = 6/\j = 0 then B 0+1 else if s.k = 7/\j = 0 then B 0 else 1
def ldR (s:Sti) (B:Nat->Int) (n:Nat):T:=if ldE s B n = 0 then .tup [.fresh true 1 s.mN (fun j=>[.int .i64 (ldG s B j)]) s.mN (some s.mN),.int .i64 0] else .tup [.nils,.int .i64 (ldE s B n)]
theorem i59 (s:Sti) (B:Nat->Int) (n:Nat) (c:Option Nat) (i:Nat):iterR P18 G18 A18 noneO 0 59 [] 6 (v59a s B n c i) [] =
(
 bif decide (Int.ofNat i<Int.ofNat n) then
 bif decide (0<=Int.ofNat i)&&decide (Int.ofNat i<Int.ofNat n) then
 bif decide (B i<1) then
 some ((.ret,[slV B n c,.reg s.c,.nils,.int .i64 1],[]))
 else
 bif decide ((3:Int)<B i) then
 some ((.ret,[slV B n c,.reg s.c,.nils,.int .i64 1],[]))
 else
 some ((.normal,v59a s B n c (IntKind.i64.wrap (Int.ofNat i+1)),[]))
 else none else
 some ((.exit 0,[slV B n c,.reg s.c,.undef,.undef],[]))):=by kernel_rfl
theorem slotsB_iff (B:Nat->Int):∀ n,slotsB B n = true ↔ ∀ i,i<n->slotB B i = true
 | 0=>⟨fun _ i h=>by omega,fun _=>rfl⟩
 | n+1=>by
  have ih:=slotsB_iff B n
  unfold slotsB
  rw [Bool.and_eq_true,ih]
  constructor
  ·intro ⟨h1,h2⟩ i hi
   by_cases e:i = n
   ·rw [e]; exact h2
   ·exact h1 i (by omega)
  ·exact fun h=>⟨fun i hi=>h i (by omega),h n (by omega)⟩
theorem slotB_iff (B:Nat->Int) (j:Nat):slotB B j = true ↔ 1<=B j/\B j<=3:=by
 unfold slotB
 rw [Bool.and_eq_true,decide_eq_true_eq,decide_eq_true_eq]
theorem s59 (s:Sti) (B:Nat->Int) (n:Nat) (c:Option Nat) (hn:n<=1000) (i:Nat) (hi:i<n) (hb:slotB B i = true):Step P18 G18 (A18 59) 59 6 0 (v59a s B n c i) [] (v59a s B n c (i+1:Nat)) []:=by
 rw [slotB_iff] at hb
 refine Step.mk0 (A:=A18) (m:=0) none_ok rfl rfl loops0 (h1:=[]) ?_ .nil
 have ei:IntKind.i64.wrap ((i:Int)+1) = ((i+1:Nat):Int):=by rw [wr64 (by omega) (by omega)]; omega
 rw [i59,ofNatE i,ei]
 refine BT ?_
 refine BT ?_
 refine BF ?_
 refine BF ?_
 rfl
theorem l59b (s:Sti) (B:Nat->Int) (n:Nat) (c:Option Nat) (m:Nat) (hm:m<=1000):LoopOk P18 G18 (A18 59) 59 13 (litS (v59b s B n c m 0) (bk59 (fun _=>0) m) (.exit 2) [slV B n c,.reg s.c,.own 0 0 0 m (some m)] (bk59 (fun _=>1) m)):=by
 refine loop_steps hm18 (by kernel_rfl) (fun i=>v59b s B n c m i) (fun i=>bk59 (fun e=>bif Nat.blt e i then 1 else 0) m) (n:=m) (fun i hi=>?_) ?_
 ·have e:(fun e=>bif Nat.blt e (i+1) then (1:Int) else 0) = fun e=>bif e==0+i then 1 else bif Nat.blt e i then 1 else 0:=by
   funext e
   rw [Nat.zero_add]
   by_cases q:e = i
   ·subst q; rw [beq_self_eq_true,cond_true,bltT (by omega),cond_true]
   ·rw [show (e==i) = false by simpa using q,cond_false]
    by_cases q2:e<i
    ·rw [bltT q2,bltT (by omega)]
    ·rw [bltF (by omega),bltF (by omega)]
  rw [e]
  clear e
  obtain ⟨g,hg⟩:∃ g:Nat->Int,g = fun e=>bif Nat.blt e i then (1:Int) else 0:=⟨_,rfl⟩
  have e2:(fun e=>bif e==0+i then (1:Int) else bif Nat.blt e i then 1 else 0) = fun e=>bif e==0+i then 1 else g e:=by rw [hg]
  rw [e2,← hg]
  clear e2 hg
  refine Step.mk0 (A:=A18) (m:=0) none_ok rfl rfl loops0 (h1:=bk59 (fun e=>bif e==0+i then 1 else g e) m) ?_ (.refl _)
  rw [(show iterR P18 G18 A18 noneO 0 59 [] 13 (v59b s B n c m i) (bk59 g m) =
(
 bif decide (Int.ofNat i<Int.ofNat m) then
 bif decide (0<=Int.ofNat i)&&decide (Int.ofNat i<Int.ofNat m) then
 bif ((0:Nat)+i).blt m&&true&&true&&true then
 some ((.normal,v59b s B n c m (IntKind.i64.wrap (Int.ofNat i+1)),bk59 (fun j =>
 bif j==0+i then (1:Int)
 else g j) m))
 else none else none else
 some ((.exit 2,[slV B n c,.reg s.c,.own 0 0 0 m (some m)],bk59 g m))) from by kernel_rfl)]
  have ei:IntKind.i64.wrap ((i:Int)+1) = ((i+1:Nat):Int):=by rw [wr64 (by omega) (by omega)]; omega
  rw [ofNatE i,ei]
  refine BT ?_
  refine BT ?_
  refine BT ?_
  rfl
 ·refine Last.mk0 (A:=A18) (m:=0) none_ok rfl rfl loops0 (h1:=bk59 (fun e=>bif Nat.blt e m then 1 else 0) m) (by simp) ?_ (.cons ⟨rfl,rfl,rfl,id,fun j hj=>?_⟩ .nil)
  ·generalize (fun e=>bif Nat.blt e m then (1:Int) else 0) = g at *
   rw [(show iterR P18 G18 A18 noneO 0 59 [] 13 (v59b s B n c m m) (bk59 g m) =
(
 bif decide (Int.ofNat m<Int.ofNat m) then
 bif decide (0<=Int.ofNat m)&&decide (Int.ofNat m<Int.ofNat m) then
 bif ((0:Nat)+m).blt m&&true&&true&&true then
 some ((.normal,v59b s B n c m (IntKind.i64.wrap (Int.ofNat m+1)),bk59 (fun j =>
 bif j==0+m then (1:Int)
 else g j) m))
 else none else none else
 some ((.exit 2,[slV B n c,.reg s.c,.own 0 0 0 m (some m)],bk59 g m))) from by kernel_rfl)]
   (repeat (first | refine BT ?_ | refine BG ?_))
   rfl
  ·show [T.int .i64 1] = [T.int .i64 (bif Nat.blt j m then 1 else 0)]
   rw [bltT hj,cond_true]
theorem ldE_1 {s:Sti} {B:Nat->Int} {n:Nat} (h:vF s = false):ldE s B n = 1:=by simp [ldE,h]
theorem ldE_5 {s:Sti} {B:Nat->Int} {n:Nat} (h:vF s = true) (h2:n ≠ s.nN):ldE s B n = 5:=by simp [ldE,h,h2]
theorem ldE_s {s:Sti} {B:Nat->Int} {n:Nat} (h:vF s = true) (h2:n = s.nN) (h3:slotsB B n = false):ldE s B n = 1:=by simp [ldE,h,← h2,h3]
theorem ldE_k {s:Sti} {B:Nat->Int} {n:Nat} (h:vF s = true) (h2:n = s.nN) (h3:slotsB B n = true):ldE s B n = if s.k = 4 ∨ s.k = 5 then (if 4<B 0+B 1 then 9 else 0) else if s.k = 6 then (if B 0 = 3 then 9 else 0) else 0:=by simp [ldE,h,← h2,h3]
theorem stiLoadsT (s:Sti) (hs:s.Ok) (B:Nat->Int) (n:Nat) (c:Option Nat) (hn:n<=1000):ToldOk P18 G18 59 [s.t,slV B n c] (ldR s B n):=by
 obtain ⟨p,hp⟩:=is_val P18 G18 69
 obtain ⟨q,hq⟩:=is_val P18 G18 58
 obtain ⟨r,hr⟩:=is_val P18 G18 68
 have t1:=stiCheckT s
 have t2:=stiNeedsT s
 have t3:=stiMakesT s
 have hv:=s.v_iff hs
 have hnb:=s.n_bd hs
 have hmb:=s.m_bd hs
 have hl2:=l59b s B n c s.mN (by unfold Sti.mN; omega)
 have emN:s.m = ((s.mN:Nat):Int):=by unfold Sti.mN; omega
 have enN:s.n = ((s.nN:Nat):Int):=by unfold Sti.nN; omega
 have hn4:vF s = true->s.k = 4 ∨ s.k = 5->s.n = 2:=fun h1 h2=>by
  unfold Sti.n
  rw [h1,cond_true]
  rcases h2 with h2 | h2
  ·rw [dF (by omega),dT h2]; rfl
  ·rw [dF (by omega),dF (by omega),dT h2]; rfl
 have hn6:vF s = true->s.k = 6 ∨ s.k = 7->s.n = 1/\s.m = 1:=fun h1 h2=>by
  unfold Sti.n Sti.m
  rw [h1,cond_true,dF (by omega),dF (by omega),dF (by omega),dF (by omega)]
  exact ⟨rfl,rfl⟩
 rw [emN] at t3
 rw [enN] at t2
 unfold ldR
 have hmN:s.mN<=4:=by unfold Sti.mN; omega
 generalize hm:s.mN = m at *
 generalize hx:s.nN = x at *
 have hok:OrcOk P18 G18 (K59 p q r (vF s) x m):=told_add (told_add (told_add none_ok (callF_told hp)) (callF_told hq)) (callF_told hr)
 rcases firstBadB (slotB B) n with hg | ⟨I,hI,hb,hlt⟩
 ·have hsl:=(slotsB_iff B n).2 hg
  have hB:∀ i,i<n->1<=B i/\B i<=3:=fun i hi=>(slotB_iff B i).1 (hg i hi)
  have hl:LoopOk P18 G18 (A18 59) 59 6 (litS (v59a s B n c 0) [] (.exit 0) [slV B n c,.reg s.c,.undef,.undef] []):=by
   refine loop_steps hm18 (by kernel_rfl) (fun i=>v59a s B n c i) (fun _=>[]) (n:=n) (fun i hi=>s59 s B n c hn i hi (hg i hi)) ?_
   refine Last.mk0 (A:=A18) (m:=0) none_ok rfl rfl loops0 (h1:=[]) (by simp) ?_ .nil
   rw [i59]
   refine BF ?_
   rfl
  refine stepL_told hm18 hn18 hok (A:=A18) (m:=0) (by kernel_rfl) (loopsC hl (loops1 hl2)) ?_
  rw [show vF s = vF s from rfl]
  generalize hvv:vF s = e at *
  rw [(show stepL P18 G18 A18 (K59 p q r e x m) 0 59 [(6,litS (v59a s B n c 0) [] (.exit 0) [slV B n c,.reg s.c,.undef,.undef] []),(13,litS (v59b s B n c m 0) (bk59 (fun _=>0) m) (.exit 2) [slV B n c,.reg s.c,.own 0 0 0 m (some m)] (bk59 (fun _=>1) m))] [s.t,slV B n c] =
(
 bif decF (p [.agg [.int .u8 s.k,.int .u8 s.y,.int .i64 s.a,.int .i64 s.b,.bool s.f]] (.int .i64 (bif e then (0:Int)
 else (1:Int)))) then
 bif !decide ((bif e then (0:Int)
 else (1:Int)) = (0:Int)) then
 some (.tup [.nils,.int .i64 1])
 else
 bif decF (q [.agg [.int .u8 s.k,.int .u8 s.y,.int .i64 s.a,.int .i64 s.b,.bool s.f]] (.int .i64 (.ofNat x))) then
 bif !decide (Int.ofNat n = Int.ofNat x) then
 some (.tup [.nils,.int .i64 5])
 else
 bif weakF (v59a s B n c (0:Int)) [] (v59a s B n c (0:Int)) [] then
 bif decF (r [.agg [.int .u8 s.k,.int .u8 s.y,.int .i64 s.a,.int .i64 s.b,.bool s.f]] (.int .i64 (.ofNat m))) then
 bif decide (0<=Int.ofNat m)&&decide (Int.ofNat m<=Int.ofNat m)&&decide (Int.ofNat m * 8<=140737488355328)&&decide (Int.ofNat m<=9223372036854775807) then
 bif weakF (v59b s B n c m (0:Int)) (bk59 (fun j=>(0:Int)) m) (v59b s B n c m (0:Int)) (bk59 (fun j=>(0:Int)) m) then
 bif decide (s.k = 4) then
 bif decide (0<Int.ofNat n) then
 bif decide (1<Int.ofNat n) then
 bif decide (4<IntKind.i64.wrap (B (0:Nat)+B (1:Nat))) then
 some (.tup [.nils,.int .i64 9])
 else
 some (.tup [bif ((0:Nat)+m).ble m then .fresh true (1:Nat) (m - 0) (fun j=>[.int .i64 1]) m (some m)
 else .undef,.int .i64 0])
 else none else none else
 bif decide (s.k = 5) then
 bif decide (0<Int.ofNat n) then
 bif decide (1<Int.ofNat n) then
 bif decide (4<IntKind.i64.wrap (B (0:Nat)+B (1:Nat))) then
 some (.tup [.nils,.int .i64 9])
 else
 some (.tup [bif ((0:Nat)+m).ble m then .fresh true (1:Nat) (m - 0) (fun j=>[.int .i64 1]) m (some m)
 else .undef,.int .i64 0])
 else none else none else
 bif decide (s.k = 6) then
 bif decide (0<Int.ofNat n) then
 bif decide (B (0:Nat) = (3:Int)) then
 some (.tup [.nils,.int .i64 9])
 else
 bif decide (0<Int.ofNat n) then
 bif decide (0<Int.ofNat m) then
 bif Nat.blt 0 m&&[T.int .i64 (IntKind.i64.wrap (B (0:Nat)+(1:Int)))].length==(1:Nat)&&true&&true then
 some (.tup [bif ((0:Nat)+m).ble m then .fresh true (1:Nat) (m - 0) (fun j=>[.int .i64 (bif 0+j==(0:Nat) then IntKind.i64.wrap (B (0:Nat)+(1:Int))
 else (1:Int))]) m (some m)
 else .undef,.int .i64 0])
 else none else none else none else none else
 bif decide (s.k = 7) then
 bif decide (0<Int.ofNat n) then
 bif decide (0<Int.ofNat m) then
 bif Nat.blt 0 m&&[T.int .i64 (B (0:Nat))].length==(1:Nat)&&true&&true then
 some (.tup [bif ((0:Nat)+m).ble m then .fresh true (1:Nat) (m - 0) (fun j=>[.int .i64 (bif 0+j==(0:Nat) then B (0:Nat)
 else (1:Int))]) m (some m)
 else .undef,.int .i64 0])
 else none else none else none else
 some (.tup [bif ((0:Nat)+m).ble m then .fresh true (1:Nat) (m - 0) (fun j=>[.int .i64 1]) m (some m)
 else .undef,.int .i64 0])
 else none else none else none else none else none else
 none) from by kernel_rfl)]
  refine bift (callF_yes hp t1) ?_
  cases e
  ·rw [ldE_1 hvv]; rfl
  refine biff (by simp) ?_
  refine bift (callF_yes hq t2) ?_
  by_cases h1:n = x
  case neg =>
   rw [ldE_5 hvv (by omega),if_neg (by omega)]
   refine BT ?_
   rfl
  have hE:=ldE_k (B:=B) hvv (show n = s.nN by omega) hsl
  refine biff (by simp [h1]) ?_
  refine bift (weakF_of ⟨rfl,.refl _⟩) ?_
  refine bift (callF_yes hr t3) ?_
  refine BT ?_
  refine bift (weakF_of ⟨rfl,.refl _⟩) ?_
  simp only [Nat.zero_add,Nat.sub_zero,bleT (Nat.le_refl _),cond_true,Bool.and_true]
  have hv:=hv.1 rfl
  have hn4:=hn4 rfl
  have hn6:=hn6 rfl
  by_cases k4:s.k = 4
  ·have:=hn4 (.inl k4)
   have b0:=hB 0 (by omega)
   have b1:=hB 1 (by omega)
   rw [if_pos (.inl k4)] at hE
   rw [wr64 (by omega) (by omega)]
   refine bift (dT k4) ?_
   refine BT ?_
   refine BT ?_
   by_cases h9:4<B 0+B 1
   ·rw [if_pos h9] at hE; rw [hE]; exact bift (dT h9) rfl
   ·rw [if_neg h9] at hE
    refine biff (by simpa using h9) ?_
    rw [hE,if_pos rfl,show (fun j=>[T.int .i64 (ldG s B j)]) = fun j=>[T.int .i64 1] by funext j; unfold ldG; rw [if_neg (by omega),if_neg (by omega)]]
  by_cases k5:s.k = 5
  ·have:=hn4 (.inr k5)
   have b0:=hB 0 (by omega)
   have b1:=hB 1 (by omega)
   rw [if_pos (.inr k5)] at hE
   rw [wr64 (by omega) (by omega)]
   refine biff (by simpa using k4) ?_
   refine bift (dT k5) ?_
   refine BT ?_
   refine BT ?_
   by_cases h9:4<B 0+B 1
   ·rw [if_pos h9] at hE; rw [hE]; exact bift (dT h9) rfl
   ·rw [if_neg h9] at hE
    refine biff (by simpa using h9) ?_
    rw [hE,if_pos rfl,show (fun j=>[T.int .i64 (ldG s B j)]) = fun j=>[T.int .i64 1] by funext j; unfold ldG; rw [if_neg (by omega),if_neg (by omega)]]
  rw [if_neg (by omega)] at hE
  refine biff (by simpa using k4) ?_
  refine biff (by simpa using k5) ?_
  by_cases k6:s.k = 6
  ·have h61:=hn6 (.inl k6)
   have b0:=hB 0 (by omega)
   rw [if_pos k6] at hE
   refine bift (dT k6) ?_
   refine BT ?_
   by_cases h9:B 0 = 3
   ·rw [if_pos h9] at hE; rw [hE]; exact bift (dT h9) rfl
   ·rw [if_neg h9] at hE
    refine biff (by simpa using h9) ?_
    refine BT ?_
    refine BT ?_
    refine bift (by rw [bltT (by omega)]; rfl) ?_
    rw [wr64 (by omega) (by omega),hE,if_pos rfl,show (fun j=>[T.int .i64 (ldG s B j)]) = fun j=>[T.int .i64 (bif j==0 then B 0+1 else 1)] by
     funext j
     unfold ldG
     by_cases hj:j = 0
     ·rw [if_pos ⟨k6,hj⟩,hj]; rfl
     ·rw [if_neg (by omega),if_neg (by omega),show (j==0) = false by simpa using hj]; rfl]
  rw [if_neg k6] at hE
  refine biff (by simpa using k6) ?_
  by_cases k7:s.k = 7
  ·have h61:=hn6 (.inr k7)
   have b0:=hB 0 (by omega)
   refine bift (dT k7) ?_
   refine BT ?_
   refine BT ?_
   refine bift (by rw [bltT (by omega)]; rfl) ?_
   rw [hE,if_pos rfl,show (fun j=>[T.int .i64 (ldG s B j)]) = fun j=>[T.int .i64 (bif j==0 then B 0 else 1)] by
    funext j
    unfold ldG
    by_cases hj:j = 0
    ·rw [if_neg (by omega),if_pos ⟨k7,hj⟩,hj]; rfl
    ·rw [if_neg (by omega),if_neg (by omega),show (j==0) = false by simpa using hj]; rfl]
  refine biff (by simpa using k7) ?_
  rw [hE,if_pos rfl,show (fun j=>[T.int .i64 (ldG s B j)]) = fun j=>[T.int .i64 1] by funext j; unfold ldG; rw [if_neg (by omega),if_neg (by omega)]]
 ·have hsl:slotsB B n = false:=by
   cases h:slotsB B n
   ·rfl
   ·have:=(slotsB_iff B n).1 h I hI
    rw [hb] at this
    cases this
  have hl:LoopOk P18 G18 (A18 59) 59 6 (litS (v59a s B n c 0) [] .ret [slV B n c,.reg s.c,.nils,.int .i64 1] []):=by
   refine loop_steps hm18 (by kernel_rfl) (fun i=>v59a s B n c i) (fun _=>[]) (n:=I) (fun i hi=>s59 s B n c hn i (by omega) (hlt i hi)) ?_
   refine Last.mk0 (A:=A18) (m:=0) none_ok rfl rfl loops0 (h1:=[]) (by simp) ?_ .nil
   have hnb:¬ (1<=B I/\B I<=3):=fun h=>by rw [(slotB_iff B I).2 h] at hb; cases hb
   rw [i59]
   refine BT ?_
   refine BT ?_
   by_cases h1:B I<1
   ·exact bift (dT h1) rfl
   ·refine biff (by simpa using h1) ?_
    exact BT rfl
  refine stepL_told hm18 hn18 hok (A:=A18) (m:=0) (by kernel_rfl) (loops1 hl) ?_
  generalize hvv:vF s = e at *
  rw [(show stepL P18 G18 A18 (K59 p q r e x m) 0 59 [(6,litS (v59a s B n c 0) [] .ret [slV B n c,.reg s.c,.nils,.int .i64 1] [])] [s.t,slV B n c] =
(
 bif decF (p [.agg [.int .u8 s.k,.int .u8 s.y,.int .i64 s.a,.int .i64 s.b,.bool s.f]] (.int .i64 (bif e then (0:Int)
 else (1:Int)))) then
 bif !decide ((bif e then (0:Int)
 else (1:Int)) = (0:Int)) then
 some (.tup [.nils,.int .i64 1])
 else
 bif decF (q [.agg [.int .u8 s.k,.int .u8 s.y,.int .i64 s.a,.int .i64 s.b,.bool s.f]] (.int .i64 (.ofNat x))) then
 bif !decide (Int.ofNat n = Int.ofNat x) then
 some (.tup [.nils,.int .i64 5])
 else
 bif weakF (v59a s B n c (0:Int)) [] (v59a s B n c (0:Int)) [] then
 some (.tup [.nils,.int .i64 1])
 else none else none else
 none) from by kernel_rfl)]
  refine bift (callF_yes hp t1) ?_
  cases e
  ·rw [ldE_1 hvv]; rfl
  refine biff (by simp) ?_
  refine bift (callF_yes hq t2) ?_
  by_cases h1:n = x
  case neg =>
   rw [ldE_5 hvv (by omega),if_neg (by omega)]
   refine BT ?_
   rfl
  rw [ldE_s hvv (by omega) hsl,if_neg (by omega)]
  refine biff (by simp [h1]) ?_
  exact bift (weakF_of ⟨rfl,.refl _⟩) rfl
open Go.Proofs
def lB42 (L:Nat->Nat->Int) (W:Nat->Nat) (h:Nat):Blk:=⟨0,1,1+h,fun e=>[slV (L e) (W e) (some (W e))],false,false,none⟩
def bB42 (g:Nat->Int) (m:Nat):Blk:=⟨0,1,m,fun e=>[.int .i64 (g e)],true,false,none⟩
def v42a (C:Nat->Nat->Sti) (ln:Nat->Nat) (h:Nat) (n:Nat) (i:Int):List T:=[.reg [chV C ln h],.own 0 0 0 n (some n),.int .i64 n,.int .i64 i]
def v42b (C:Nat->Nat->Sti) (ln:Nat->Nat) (h i:Nat):List T:=[.own 0 0 0 (i+1) (some (1+h)),.int .i64 0,chV C ln h,.int .i64 h,.int .i64 i]
def v42c (C:Nat->Nat->Sti) (ln:Nat->Nat) (h i:Nat) (B:Nat->Int) (w:Nat) (o m:Nat) (k:Nat):List T:=[.own 0 0 0 (i+1) (some (1+h)),.int .i64 0,slV B w (some w),.own 1 0 0 o (some m),chV C ln h,.int .i64 h,.int .i64 i,srV (C i) (ln i) none,.int .i64 (ln i),.int .i64 k]
def x42 (C:Nat->Nat->Sti) (ln:Nat->Nat) (h i m:Nat) (e:Int) (o:Nat):List T:=[.own 0 0 0 (i+1) (some (1+h)),.int .i64 e,.own 1 0 0 o (some m),chV C ln h,.int .i64 h,.int .i64 i]
noncomputable def K42c (p q:List T->T->Prop) (x:Nat) (r:T):Orc:=(noneO.add 58 (callF p fun _=>some (.int .i64 x))).add 59 (callF q fun _=>some r)
noncomputable def K42b (p:List T->T->Prop) (m:Nat):Orc:=noneO.add 57 (callF p fun _=>some (.int .i64 m))
noncomputable def K42 (p q:List T->T->Prop) (e:Int) (n:Nat):Orc:=(noneO.add 55 (callF p fun _=>some (.int .i64 e))).add 56 (callF q fun _=>some (.int .i64 n))
def offN (r:Nat->Sti):Nat->Nat
 | 0=>0
 | k+1=>offN r k+(r k).nN
def outN (r:Nat->Sti):Nat->Nat
 | 0=>0
 | k+1=>outN r k+(r k).mN
def conF (r:Nat->Sti) (B:Nat->Int):Nat->Nat->Int
 | 0=>fun _=>0
 | k+1=>fun j=>bif Nat.ble (outN r k) j&&Nat.blt j (outN r k+(r k).mN) then ldG (r k) (fun t=>B (offN r k+t)) (j - outN r k) else conF r B k j
def erK (r:Nat->Sti) (B:Nat->Int) (k:Nat):Int:=ldE (r k) (fun j=>B (offN r k+j)) (r k).nN
def rowEr (r:Nat->Sti) (B:Nat->Int):Nat->Int
 | 0=>0
 | k+1=>if rowEr r B k ≠ 0 then rowEr r B k else erK r B k
def LD (C:Nat->Nat->Sti) (ln:Nat->Nat):Nat->Nat->Int
 | 0=>fun _=>1
 | i+1=>conF (C i) (LD C ln i) (ln i)
def WD (C:Nat->Nat->Sti) (ln:Nat->Nat):Nat->Nat
 | 0=>offN (C 0) (ln 0)
 | i+1=>outN (C i) (ln i)
def chEr (C:Nat->Nat->Sti) (ln:Nat->Nat):Nat->Int
 | 0=>0
 | i+1=>if chEr C ln i ≠ 0 then chEr C ln i else rowEr (C i) (LD C ln i) (ln i)
def W42 (C:Nat->Nat->Sti) (ln:Nat->Nat) (i e:Nat):Nat:=bif Nat.ble e i then WD C ln e else 0
theorem i42a (C:Nat->Nat->Sti) (ln:Nat->Nat) (h n i:Nat) (g:Nat->Int):iterR P18 G18 A18 noneO 0 42 [] 6 (v42a C ln h n i) (bk59 g n) =
(
 bif decide (Int.ofNat i<Int.ofNat n) then
 bif decide (0<=Int.ofNat i)&&decide (Int.ofNat i<Int.ofNat n) then
 bif ((0:Nat)+i).blt n&&true&&true&&true then
 some ((.normal,v42a C ln h n (IntKind.i64.wrap (Int.ofNat i+1)),bk59 (fun j =>
 bif j==0+i then (1:Int)
 else g j) n))
 else none else none else
 some ((.exit 0,[.reg [chV C ln h],.own 0 0 0 n (some n)],bk59 g n))):=by kernel_rfl
theorem offN_eq (r:Nat->Sti) (hr:∀ j,(r j).Ok):∀ n,nR5 r n = ((offN r n:Nat):Int)/\mR5 r n = ((outN r n:Nat):Int)
 | 0=>⟨rfl,rfl⟩
 | n+1=>by
  obtain ⟨h1,h2⟩:=offN_eq r hr n
  have a1:=(r n).n_bd (hr n)
  have a2:=(r n).m_bd (hr n)
  have e1:nR5 r (n+1) = nR5 r n+(r n).n:=rfl
  have e2:mR5 r (n+1) = mR5 r n+(r n).m:=rfl
  have e3:offN r (n+1) = offN r n+(r n).n.toNat:=rfl
  have e4:outN r (n+1) = outN r n+(r n).m.toNat:=rfl
  rw [e1,e2,e3,e4,h1,h2]
  omega
theorem offN_le (r:Nat->Sti) {k n:Nat} (h:k<=n):offN r k<=offN r n/\outN r k<=outN r n:=by
 induction h with
 | refl=>exact ⟨Nat.le_refl _,Nat.le_refl _⟩
 | step _ ih =>
  have e3:∀ n,offN r (n+1) = offN r n+(r n).nN:=fun _=>rfl
  have e4:∀ n,outN r (n+1) = outN r n+(r n).mN:=fun _=>rfl
  rw [e3,e4]
  omega
theorem rowEr_zero (r:Nat->Sti) (B:Nat->Int):∀ n,(∀ i,i<n->erK r B i = 0)->rowEr r B n = 0
 | 0,_=>rfl
 | n+1,q=>by
  unfold rowEr
  rw [if_neg (by rw [rowEr_zero r B n fun i hi=>q i (by omega)]; simp),q n (by omega)]
theorem rowEr_at (r:Nat->Sti) (B:Nat->Int) (I:Nat) (hb:erK r B I ≠ 0) (hlt:∀ i,i<I->erK r B i = 0):∀ n,I<n->rowEr r B n = erK r B I
 | n+1,hI=>by
  unfold rowEr
  by_cases q:n = I
  ·subst q
   rw [if_neg (by rw [rowEr_zero r B n hlt]; simp)]
  ·have ih:=rowEr_at r B I hb hlt n (by omega)
   rw [if_pos (by rw [ih]; exact hb),ih]
theorem chEr_zero (C:Nat->Nat->Sti) (ln:Nat->Nat):∀ n,(∀ i,i<n->rowEr (C i) (LD C ln i) (ln i) = 0)->chEr C ln n = 0
 | 0,_=>rfl
 | n+1,q=>by
  unfold chEr
  rw [if_neg (by rw [chEr_zero C ln n fun i hi=>q i (by omega)]; simp),q n (by omega)]
theorem chEr_at (C:Nat->Nat->Sti) (ln:Nat->Nat) (I:Nat) (hb:rowEr (C I) (LD C ln I) (ln I) ≠ 0) (hlt:∀ i,i<I->rowEr (C i) (LD C ln i) (ln i) = 0):∀ n,I<n->chEr C ln n = rowEr (C I) (LD C ln I) (ln I)
 | n+1,hI=>by
  unfold chEr
  by_cases q:n = I
  ·subst q
   rw [if_neg (by rw [chEr_zero C ln n hlt]; simp)]
  ·have ih:=chEr_at C ln I hb hlt n (by omega)
   rw [if_pos (by rw [ih]; exact hb),ih]
theorem ldE_v {s:Sti} {B:Nat->Int} {n:Nat} (h:ldE s B n = 0):vF s = true:=by
 cases q:vF s
 ·rw [ldE_1 q] at h; exact absurd h (by decide)
 ·rfl
theorem l42a (C:Nat->Nat->Sti) (ln:Nat->Nat) (h n:Nat) (hn:n<=1000):LoopOk P18 G18 (A18 42) 42 6 (litS (v42a C ln h n 0) (bk59 (fun _=>0) n) (.exit 0) [.reg [chV C ln h],.own 0 0 0 n (some n)] (bk59 (fun _=>1) n)):=by
 refine loop_steps hm18 (by kernel_rfl) (fun i=>v42a C ln h n i) (fun i=>bk59 (fun e=>bif Nat.blt e i then 1 else 0) n) (n:=n) (fun i hi=>?_) ?_
 ·have e:(fun e=>bif Nat.blt e (i+1) then (1:Int) else 0) = fun e=>bif e==0+i then 1 else bif Nat.blt e i then 1 else 0:=by
   funext e
   rw [Nat.zero_add]
   by_cases q:e = i
   ·subst q; rw [beq_self_eq_true,cond_true,bltT (by omega),cond_true]
   ·rw [show (e==i) = false by simpa using q,cond_false]
    by_cases q2:e<i
    ·rw [bltT q2,bltT (by omega)]
    ·rw [bltF (by omega),bltF (by omega)]
  rw [e]
  clear e
  obtain ⟨g,hg⟩:∃ g:Nat->Int,g = fun e=>bif Nat.blt e i then (1:Int) else 0:=⟨_,rfl⟩
  have e2:(fun e=>bif e==0+i then (1:Int) else bif Nat.blt e i then 1 else 0) = fun e=>bif e==0+i then 1 else g e:=by rw [hg]
  rw [e2,← hg]
  clear e2 hg
  refine Step.mk0 (A:=A18) (m:=0) none_ok rfl rfl loops0 (h1:=bk59 (fun e=>bif e==0+i then 1 else g e) n) ?_ (.refl _)
  have ei:IntKind.i64.wrap ((i:Int)+1) = ((i+1:Nat):Int):=by rw [wr64 (by omega) (by omega)]; omega
  rw [i42a,ofNatE i,ei]
  refine BT ?_
  refine BT ?_
  refine BT ?_
  rfl
 ·refine Last.mk0 (A:=A18) (m:=0) none_ok rfl rfl loops0 (h1:=bk59 (fun e=>bif Nat.blt e n then 1 else 0) n) (by simp) ?_ (.cons ⟨rfl,rfl,rfl,id,fun j hj=>?_⟩ .nil)
  ·rw [i42a]
   refine BF ?_
   rfl
  ·show [T.int .i64 1] = [T.int .i64 (bif Nat.blt j n then 1 else 0)]
   rw [bltT hj,cond_true]
theorem i42c (C:Nat->Nat->Sti) (ln:Nat->Nat) (h i:Nat) (B g:Nat->Int) (w o m k x y:Nat) (G:Nat->Int) (L:Nat->Nat->Int) (W:Nat->Nat) (p q:List T->T->Prop):iterR P18 G18 A18 (K42c p q x (.tup [.new (slV G y (some y)),.int .i64 0])) 0 42 [] 19 (v42c C ln h i B w o m k) [lB42 L W h,bB42 g m] =
(
 bif decide (Int.ofNat k<Int.ofNat (ln i)) then
 bif decide (0<=Int.ofNat k)&&decide (Int.ofNat k<Int.ofNat (ln i)) then
 bif decF (p [.agg [.int .u8 (C i k).k,.int .u8 (C i k).y,.int .i64 (C i k).a,.int .i64 (C i k).b,.bool (C i k).f]] (.int .i64 (.ofNat x))) then
 bif decide (0<=Int.ofNat x)&&decide (Int.ofNat x<=Int.ofNat w) then
 bif x.ble w then
 bif decF (q [.agg [.int .u8 (C i k).k,.int .u8 (C i k).y,.int .i64 (C i k).a,.int .i64 (C i k).b,.bool (C i k).f],.view 1 (x - 0) (fun j=>[.int .i64 (B (0+j))]) (some (w - 0))] (.tup [(T.view 1 y (fun j=>[T.int .i64 (G j)]) (some y)).new,.int .i64 0])) then
 bif decide (0<=Int.ofNat x)&&decide (Int.ofNat x<=Int.ofNat w)&&decide (Int.ofNat w<=Int.ofNat w) then
 bif w.ble w then
 bif ((0:Nat)+o).ble m then
 bif y==(0:Nat) then
 some ((.normal,[.own 0 0 0 (i+1) (some (1+h)),.int .i64 0,slV (fun j=>B (x+j)) (w - x) (some (w - x)),.own 1 0 0 o (some m),chV C ln h,.int .i64 (.ofNat h),.int .i64 (.ofNat i),srV (C i) (ln i)
 none,.int .i64 (.ofNat (ln i)),.int .i64 (IntKind.i64.wrap (Int.ofNat k+1))],lB42 L W h :: bk59 g m))
 else
 bif ((o+y) * (9:Nat)).ble 70368744177664 then
 bif (o+y).ble m then
 bif ((0:Nat)+o+y).ble m then
 some ((.normal,[.own 0 0 0 (i+1) (some (1+h)),.int .i64 0,slV (fun j=>B (x+j)) (w - x) (some (w - x)),.own 1 0 0 (o+y) (some m),chV C ln h,.int .i64 (.ofNat h),.int .i64 (.ofNat i),srV (C i) (ln i)
 none,.int .i64 (.ofNat (ln i)),.int .i64 (IntKind.i64.wrap (Int.ofNat k+1))],[lB42 L W h,.mk 0 1 m (fun j =>
 bif ((0:Nat)+o).ble j&&j.blt (0+o+y) then [.int .i64 (G (j - (0+o)))]
 else [.int .i64 (g j)]) true false
 none]))
 else none else
 some ((.normal,[.own 0 0 0 (i+1) (some (1+h)),.int .i64 0,slV (fun j=>B (x+j)) (w - x) (some (w - x)),.own (lB42 L W h :: bk59 g m).length (0:Nat) (0:Nat) (o+y)
 none,chV C ln h,.int .i64 (.ofNat h),.int .i64 (.ofNat i),srV (C i) (ln i)
 none,.int .i64 (.ofNat (ln i)),.int .i64 (IntKind.i64.wrap (Int.ofNat k+1))],[lB42 L W h,bB42 g m,.mk 0 1 (o+y) (fun j =>
 bif j.blt o then [.int .i64 (g (0+j))]
 else [.int .i64 (G (j - o))]) true false
 none]))
 else none else none else none else none else none else none else none else none else none else
 some ((.exit 4,x42 C ln h i m (0:Int) o,lB42 L W h :: bk59 g m))):=by kernel_rfl
theorem i42e (C:Nat->Nat->Sti) (ln:Nat->Nat) (h i:Nat) (B g:Nat->Int) (w o m k x:Nat) (e:Int) (L:Nat->Nat->Int) (W:Nat->Nat) (p q:List T->T->Prop):iterR P18 G18 A18 (K42c p q x (.tup [.nils,.int .i64 e])) 0 42 [] 19 (v42c C ln h i B w o m k) [lB42 L W h,bB42 g m] =
(
 bif decide (Int.ofNat k<Int.ofNat (ln i)) then
 bif decide (0<=Int.ofNat k)&&decide (Int.ofNat k<Int.ofNat (ln i)) then
 bif decF (p [.agg [.int .u8 (C i k).k,.int .u8 (C i k).y,.int .i64 (C i k).a,.int .i64 (C i k).b,.bool (C i k).f]] (.int .i64 (.ofNat x))) then
 bif decide (0<=Int.ofNat x)&&decide (Int.ofNat x<=Int.ofNat w) then
 bif x.ble w then
 bif decF (q [.agg [.int .u8 (C i k).k,.int .u8 (C i k).y,.int .i64 (C i k).a,.int .i64 (C i k).b,.bool (C i k).f],.view 1 (x - 0) (fun j=>[.int .i64 (B (0+j))]) (some (w - 0))] (.tup [.nils,.int .i64 e])) then
 bif !decide (e = 0) then
 some ((.exit 2,x42 C ln h i m e o,lB42 L W h :: bk59 g m))
 else
 bif decide (0<=Int.ofNat x)&&decide (Int.ofNat x<=Int.ofNat w)&&decide (Int.ofNat w<=Int.ofNat w) then
 bif w.ble w then
 bif ((0:Nat)+o).ble m then
 some ((.normal,[.own 0 0 0 (i+1) (some (1+h)),.int .i64 0,slV (fun j=>B (x+j)) (w - x) (some (w - x)),.own 1 0 0 o (some m),chV C ln h,.int .i64 (.ofNat h),.int .i64 (.ofNat i),srV (C i) (ln i)
 none,.int .i64 (.ofNat (ln i)),.int .i64 (IntKind.i64.wrap (Int.ofNat k+1))],lB42 L W h :: bk59 g m))
 else none else none else none else none else none else none else none else none else
 some ((.exit 4,x42 C ln h i m (0:Int) o,lB42 L W h :: bk59 g m))):=by kernel_rfl
section
variable (C:Nat->Nat->Sti) (ln:Nat->Nat) (h i:Nat) (B:Nat->Int) (L:Nat->Nat->Int) (W:Nat->Nat)
theorem s42c (hC:∀ i j,(C i j).Ok) (hln:ln i<=16) (hout:outN (C i) (ln i)<=16) (k:Nat) (hk:k<ln i) (he:erK (C i) B k = 0):Step P18 G18 (A18 42) 42 19 2 (v42c C ln h i (fun j=>B (offN (C i) k+j)) (offN (C i) (ln i) - offN (C i) k) (outN (C i) k) (outN (C i) (ln i)) k) [lB42 L W h,bB42 (conF (C i) B k) (outN (C i) (ln i))]
 (v42c C ln h i (fun j=>B (offN (C i) (k+1)+j)) (offN (C i) (ln i) - offN (C i) (k+1)) (outN (C i) (k+1)) (outN (C i) (ln i)) (k+1)) [lB42 L W h,bB42 (conF (C i) B (k+1)) (outN (C i) (ln i))]:=by
 obtain ⟨p,hp⟩:=is_val P18 G18 58
 obtain ⟨q,hq⟩:=is_val P18 G18 59
 have t1:=stiNeedsT (C i k)
 have hnb:=(C i k).n_bd (hC i k)
 have hmb:=(C i k).m_bd (hC i k)
 rw [show (C i k).n = (((C i k).nN:Nat):Int) by unfold Sti.nN; omega] at t1
 have t2:=stiLoadsT (C i k) (hC i k) (fun j=>B (offN (C i) k+j)) (C i k).nN (some (offN (C i) (ln i) - offN (C i) k)) (by unfold Sti.nN; omega)
 have he2:=he
 unfold erK at he2
 have hm1:1<=(C i k).mN:=by
  have hv:=ldE_v he2
  have hv2:=((C i k).v_iff (hC i k)).1 hv
  unfold Sti.mN Sti.m
  rw [hv,cond_true]
  by_cases h8:(C i k).k = 8
  ·rw [dT h8,cond_true,wr64 (by omega) (by omega)]; omega
  ·rw [dF h8,cond_false]; decide
 unfold ldR at t2
 rw [if_pos he2] at t2
 have t2:=t2.frz
 change ToldOk P18 G18 59 _ (.tup [.new (slV (ldG (C i k) (fun j=>B (offN (C i) k+j))) (C i k).mN (some (C i k).mN)),.int .i64 0]) at t2
 have l1:=(offN_le (C i) (show k+1<=ln i from hk)).1
 have l2:=(offN_le (C i) (show k+1<=ln i from hk)).2
 have e1:offN (C i) (k+1) = offN (C i) k+(C i k).nN:=rfl
 have e2:outN (C i) (k+1) = outN (C i) k+(C i k).mN:=rfl
 rw [e1] at l1
 rw [e2] at l2
 have ec:conF (C i) B (k+1) = fun j=>bif Nat.ble (outN (C i) k) j&&Nat.blt j (outN (C i) k+(C i k).mN) then ldG (C i k) (fun t=>B (offN (C i) k+t)) (j - outN (C i) k) else conF (C i) B k j:=rfl
 rw [ec,e1,e2,show (fun j=>B (offN (C i) k+(C i k).nN+j)) = fun j=>B (offN (C i) k+((C i k).nN+j)) by funext j; rw [Nat.add_assoc],show offN (C i) (ln i) - (offN (C i) k+(C i k).nN) = offN (C i) (ln i) - offN (C i) k - (C i k).nN by omega]
 clear ec e1 e2 he he2
 generalize ldG (C i k) (fun t=>B (offN (C i) k+t)) = G at *
 generalize conF (C i) B k = g at *
 generalize (C i k).mN = y at *
 generalize (C i k).nN = x at *
 generalize outN (C i) (ln i) = m at *
 generalize outN (C i) k = o at *
 have hxw:x<=offN (C i) (ln i) - offN (C i) k:=by omega
 generalize offN (C i) (ln i) - offN (C i) k = w at *
 obtain ⟨B2,hB2⟩:∃ B2:Nat->Int,B2 = fun j=>B (offN (C i) k+j):=⟨_,rfl⟩
 rw [show (fun j=>B (offN (C i) k+(x+j))) = fun j=>B2 (x+j) by rw [hB2],← hB2]
 rw [← hB2] at t2
 clear hB2 l1
 refine Step.mk0 (A:=A18) (K:=K42c p q x (.tup [.new (slV G y (some y)),.int .i64 0])) (m:=0) (told_add (told_add none_ok (callF_told hp)) (callF_told hq)) rfl rfl loops0 (h1:=[lB42 L W h,⟨0,1,m,fun j=>bif Nat.ble o j&&Nat.blt j (o+y) then [.int .i64 (G (j - o))] else [.int .i64 (g j)],true,false,none⟩]) ?_ (.cons ⟨rfl,rfl,rfl,id,fun _ _=>rfl⟩ (.cons ⟨rfl,rfl,rfl,id,fun j hj=>?_⟩ .nil))
 ·have ek:IntKind.i64.wrap ((k:Int)+1) = ((k+1:Nat):Int):=by rw [wr64 (by omega) (by omega)]; omega
  rw [i42c,ofNatE k,ek]
  simp only [Nat.zero_add,Nat.sub_zero]
  refine BT ?_
  refine BT ?_
  refine bift (callF_yes hp t1) ?_
  refine BT ?_
  refine BT ?_
  refine bift (callF_yes hq t2) ?_
  refine BT ?_
  refine BT ?_
  refine BT ?_
  refine BF ?_
  refine BT ?_
  refine BT ?_
  refine BT ?_
  rfl
 ·show [T.int .i64 (bif Nat.ble o j&&Nat.blt j (o+y) then G (j - o) else g j)] = bif Nat.ble o j&&Nat.blt j (o+y) then [.int .i64 (G (j - o))] else [.int .i64 (g j)]
  cases Nat.ble o j&&Nat.blt j (o+y) <;> rfl
theorem e42c (hC:∀ i j,(C i j).Ok) (hln:ln i<=16) (hout:outN (C i) (ln i)<=16) (k:Nat) (hk:k<ln i) (he:erK (C i) B k ≠ 0):Last P18 G18 (A18 42) 42 19 2 (v42c C ln h i (fun j=>B (offN (C i) k+j)) (offN (C i) (ln i) - offN (C i) k) (outN (C i) k) (outN (C i) (ln i)) k) [lB42 L W h,bB42 (conF (C i) B k) (outN (C i) (ln i))]
 (.exit 2) (x42 C ln h i (outN (C i) (ln i)) (erK (C i) B k) (outN (C i) k)) [lB42 L W h,bB42 (conF (C i) B k) (outN (C i) (ln i))]:=by
 obtain ⟨p,hp⟩:=is_val P18 G18 58
 obtain ⟨q,hq⟩:=is_val P18 G18 59
 have t1:=stiNeedsT (C i k)
 have hnb:=(C i k).n_bd (hC i k)
 rw [show (C i k).n = (((C i k).nN:Nat):Int) by unfold Sti.nN; omega] at t1
 have t2:=stiLoadsT (C i k) (hC i k) (fun j=>B (offN (C i) k+j)) (C i k).nN (some (offN (C i) (ln i) - offN (C i) k)) (by unfold Sti.nN; omega)
 unfold ldR at t2
 rw [if_neg (show ¬ ldE (C i k) (fun j=>B (offN (C i) k+j)) (C i k).nN = 0 from he)] at t2
 change ToldOk P18 G18 59 _ (.tup [.nils,.int .i64 (erK (C i) B k)]) at t2
 generalize erK (C i) B k = e at *
 have l1:=(offN_le (C i) (show k+1<=ln i from hk)).1
 have e1:offN (C i) (k+1) = offN (C i) k+(C i k).nN:=rfl
 rw [e1] at l1
 generalize conF (C i) B k = g at *
 generalize (C i k).nN = x at *
 generalize outN (C i) (ln i) = m at *
 generalize outN (C i) k = o at *
 have hxw:x<=offN (C i) (ln i) - offN (C i) k:=by omega
 generalize offN (C i) (ln i) - offN (C i) k = w at *
 generalize (fun j=>B (offN (C i) k+j)) = B2 at *
 clear l1 e1
 refine Last.mk0 (A:=A18) (K:=K42c p q x (.tup [.nils,.int .i64 e])) (m:=0) (told_add (told_add none_ok (callF_told hp)) (callF_told hq)) rfl rfl loops0 (h1:=[lB42 L W h,bB42 g m]) (by simp) ?_ (.refl _)
 rw [i42e]
 simp only [Nat.zero_add,Nat.sub_zero]
 refine BT ?_
 refine BT ?_
 refine bift (callF_yes hp t1) ?_
 refine BT ?_
 refine BT ?_
 refine bift (callF_yes hq t2) ?_
 refine bift (by simp [he]) ?_
 rfl
end
open Go.Proofs
def loadsR (C:Nat->Nat->Sti) (ln:Nat->Nat) (h:Nat):T:=.tup [.fresh false 1 (1+h) (fun e=>[slV (LD C ln e) (WD C ln e) (some (WD C ln e))]) (1+h) (some (1+h)),.int .i64 0]
section
variable (C:Nat->Nat->Sti) (ln:Nat->Nat) (h i:Nat) (B:Nat->Int) (L:Nat->Nat->Int) (W:Nat->Nat)
theorem l42c (hC:∀ i j,(C i j).Ok) (hln:ln i<=16) (hout:outN (C i) (ln i)<=16) (hg:∀ k,k<ln i->erK (C i) B k = 0):LoopOk P18 G18 (A18 42) 42 19 (litS (v42c C ln h i B (offN (C i) (ln i)) 0 (outN (C i) (ln i)) 0) [lB42 L W h,bB42 (fun _=>0) (outN (C i) (ln i))] (.exit 4) (x42 C ln h i (outN (C i) (ln i)) 0 (outN (C i) (ln i))) [lB42 L W h,bB42 (conF (C i) B (ln i)) (outN (C i) (ln i))]):=by
 have key:=loop_steps (P:=P18) (Gl:=G18) (f:=42) (r:=19) hm18 (by kernel_rfl) (an:=A18 42) (fun k=>v42c C ln h i (fun j=>B (offN (C i) k+j)) (offN (C i) (ln i) - offN (C i) k) (outN (C i) k) (outN (C i) (ln i)) k) (fun k=>[lB42 L W h,bB42 (conF (C i) B k) (outN (C i) (ln i))]) (n:=ln i) (e1:=.exit 4) (vs1:=x42 C ln h i (outN (C i) (ln i)) 0 (outN (C i) (ln i))) (h1:=[lB42 L W h,bB42 (conF (C i) B (ln i)) (outN (C i) (ln i))]) (fun k hk=>s42c C ln h i B L W hC hln hout k hk (hg k hk)) ?_
 ·rw [show (fun j=>B (offN (C i) 0+j)) = B by funext j; rw [show offN (C i) 0 = 0 from rfl,Nat.zero_add]] at key
  exact key
 ·refine Last.mk0 (A:=A18) (K:=K42c (ToldOk P18 G18 58) (ToldOk P18 G18 59) 0 (.tup [.nils,.int .i64 0])) (m:=0) (told_add (told_add none_ok (callF_told rfl)) (callF_told rfl)) rfl rfl loops0 (h1:=[lB42 L W h,bB42 (conF (C i) B (ln i)) (outN (C i) (ln i))]) (by simp) ?_ (.refl _)
  rw [i42e]
  refine BF ?_
  rfl
theorem m42c (hC:∀ i j,(C i j).Ok) (hln:ln i<=16) (hout:outN (C i) (ln i)<=16) (I:Nat) (hI:I<ln i) (hb:erK (C i) B I ≠ 0) (hg:∀ k,k<I->erK (C i) B k = 0):LoopOk P18 G18 (A18 42) 42 19 (litS (v42c C ln h i B (offN (C i) (ln i)) 0 (outN (C i) (ln i)) 0) [lB42 L W h,bB42 (fun _=>0) (outN (C i) (ln i))] (.exit 2) (x42 C ln h i (outN (C i) (ln i)) (erK (C i) B I) (outN (C i) I)) [lB42 L W h,bB42 (conF (C i) B I) (outN (C i) (ln i))]):=by
 have key:=loop_steps (P:=P18) (Gl:=G18) (f:=42) (r:=19) hm18 (by kernel_rfl) (an:=A18 42) (fun k=>v42c C ln h i (fun j=>B (offN (C i) k+j)) (offN (C i) (ln i) - offN (C i) k) (outN (C i) k) (outN (C i) (ln i)) k) (fun k=>[lB42 L W h,bB42 (conF (C i) B k) (outN (C i) (ln i))]) (n:=I) (e1:=.exit 2) (vs1:=x42 C ln h i (outN (C i) (ln i)) (erK (C i) B I) (outN (C i) I)) (h1:=[lB42 L W h,bB42 (conF (C i) B I) (outN (C i) (ln i))]) (fun k hk=>s42c C ln h i B L W hC hln hout k (by omega) (hg k hk)) (e42c C ln h i B L W hC hln hout I hI hb)
 rw [show (fun j=>B (offN (C i) 0+j)) = B by funext j; rw [show offN (C i) 0 = 0 from rfl,Nat.zero_add]] at key
 exact key
end
theorem j42 (C:Nat->Nat->Sti) (ln:Nat->Nat) (h i:Nat) (g:Nat->Int) (m:Nat) (L:Nat->Nat->Int) (W:Nat->Nat) (p:List T->T->Prop):iterR P18 G18 A18 (K42b p m) 0 42 [(19,litS (v42c C ln h i (L i) (W i) 0 m 0) [lB42 L W h,bB42 (fun _=>0) m] (.exit 4) (x42 C ln h i m 0 m) [lB42 L W h,bB42 g m])] 14 (v42b C ln h i) [lB42 L W h] =
(
 bif decide (Int.ofNat i<Int.ofNat h) then
 bif decide (0<=Int.ofNat i)&&decide (Int.ofNat i<Int.ofNat h) then
 bif decide (0<=Int.ofNat i)&&decide (Int.ofNat i<Int.ofNat (i+1)) then
 bif ((0:Nat)+i).blt (1+h) then
 bif decF (p [srV (C i) (ln i)
 none] (.int .i64 (.ofNat m))) then
 bif decide (0<=Int.ofNat m)&&decide (Int.ofNat m * 8<=140737488355328)&&decide (Int.ofNat m<=9223372036854775807) then
 bif weakF (v42c C ln h i (L (0+i)) (W (0+i)) (0:Nat) m (nat_lit 0)) (lB42 L W h :: bk59 (fun j=>(0:Int)) m) (v42c C ln h i (L i) (W i) (0:Nat) m (nat_lit 0)) (lB42 L W h :: bk59 (fun j=>(0:Int)) m) then
 bif ((0:Nat)+(i+(1:Nat))).ble (1+h) then
 bif ((i+(1:Nat)+(1:Nat)) * (25:Nat)).ble 70368744177664 then
 bif (i+(1:Nat)+(1:Nat)).ble (1+h) then
 bif ((0:Nat)+(i+(1:Nat))+(1:Nat)).ble (1+h) then
 some ((.normal,[.own 0 0 0 (i+1+(1:Nat)) (some (1+h)),.int .i64 0,chV C ln h,.int .i64 (.ofNat h),.int .i64 (IntKind.i64.wrap (Int.ofNat i+1))],[.mk 0 1 (1+h) (fun j =>
 bif ((0:Nat)+(i+(1:Nat))).ble j&&j.blt ((0:Nat)+(i+1)+(1:Nat)) then [[T.own 1 0 0 m (some m)]].getD ((0:Nat)+(j - ((0:Nat)+(i+1)))) []
 else [slV (L j) (W j) (some (W j))]) false false
 none,bB42 g m,.mk 0 1 1 (fun j=>[[T.own 1 0 0 m (some m)]].getD j []) false true
 none]))
 else none else
 some ((.normal,[.own [lB42 L W h,bB42 g m,Blk.mk 0 1 1 (fun j=>[[T.own 1 0 0 m (some m)]].getD j []) false true
 none].length (0:Nat) (0:Nat) (i+1+(1:Nat))
 none,.int .i64 0,chV C ln h,.int .i64 (.ofNat h),.int .i64 (IntKind.i64.wrap (Int.ofNat i+1))],[lB42 L W h,bB42 g m,.mk 0 1 1 (fun j=>[[T.own 1 0 0 m (some m)]].getD j []) false true
 none,.mk 0 1 (i+1+(1:Nat)) (fun j =>
 bif j.blt (i+1) then [slV (L (0+j)) (W (0+j)) (some (W (0+j)))]
 else [[T.own 1 0 0 m (some m)]].getD ((0:Nat)+(j - (i+1))) []) false false
 none]))
 else none else none else none else none else none else none else none else none else
 some ((.exit 2,[.own 0 0 0 (i+1) (some (1+h)),.int .i64 0],h14 (1+h) fun e=>slV (L e) (W e) (some (W e))))):=by kernel_rfl
theorem j42e (C:Nat->Nat->Sti) (ln:Nat->Nat) (h i o:Nat) (e:Int) (g:Nat->Int) (m:Nat) (L:Nat->Nat->Int) (W:Nat->Nat) (p:List T->T->Prop):iterR P18 G18 A18 (K42b p m) 0 42 [(19,litS (v42c C ln h i (L i) (W i) 0 m 0) [lB42 L W h,bB42 (fun _=>0) m] (.exit 2) (x42 C ln h i m e o) [lB42 L W h,bB42 g m])] 14 (v42b C ln h i) [lB42 L W h] =
(
 bif decide (Int.ofNat i<Int.ofNat h) then
 bif decide (0<=Int.ofNat i)&&decide (Int.ofNat i<Int.ofNat h) then
 bif decide (0<=Int.ofNat i)&&decide (Int.ofNat i<Int.ofNat (i+1)) then
 bif ((0:Nat)+i).blt (1+h) then
 bif decF (p [srV (C i) (ln i)
 none] (.int .i64 (.ofNat m))) then
 bif decide (0<=Int.ofNat m)&&decide (Int.ofNat m * 8<=140737488355328)&&decide (Int.ofNat m<=9223372036854775807) then
 bif weakF (v42c C ln h i (L (0+i)) (W (0+i)) (0:Nat) m (nat_lit 0)) (lB42 L W h :: bk59 (fun j=>(0:Int)) m) (v42c C ln h i (L i) (W i) (0:Nat) m (nat_lit 0)) (lB42 L W h :: bk59 (fun j=>(0:Int)) m) then
 some ((.exit 2,[.own 0 0 0 (i+1) (some (1+h)),.int .i64 e],lB42 L W h :: bk59 g m))
 else none else none else none else none else none else none else
 some ((.exit 2,[.own 0 0 0 (i+1) (some (1+h)),.int .i64 0],h14 (1+h) fun e=>slV (L e) (W e) (some (W e))))):=by kernel_rfl
theorem l42z (C:Nat->Nat->Sti) (ln:Nat->Nat) (h:Nat) (L:Nat->Nat->Int) (W:Nat->Nat):iterR P18 G18 A18 noneO 0 42 [] 14 (v42b C ln h h) [lB42 L W h] = some (.exit 2,[.own 0 0 0 (h+1) (some (1+h)),.int .i64 0],[lB42 L W h]):=by
 rw [(show iterR P18 G18 A18 noneO 0 42 [] 14 (v42b C ln h h) [lB42 L W h] =
(
 bif decide (Int.ofNat h<Int.ofNat h) then
 bif decide (0<=Int.ofNat h)&&decide (Int.ofNat h<Int.ofNat h) then
 bif decide (0<=Int.ofNat h)&&decide (Int.ofNat h<Int.ofNat (h+1)) then
 bif ((0:Nat)+h).blt (1+h) then none else none else none else none else
 some ((.exit 2,[.own 0 0 0 (h+1) (some (1+h)),.int .i64 0],h14 (1+h) fun e=>slV (L e) (W e) (some (W e))))) from by kernel_rfl)]
 refine BF ?_
 rfl
theorem loadsT_bad (C:Nat->Nat->Sti) (ln:Nat->Nat) (h:Nat) (hh:h<=1000) (hln:∀ i,i<h->ln i<=1000) (hC:∀ i j,(C i j).Ok) (hb:chE C ln h ≠ 0):ToldOk P18 G18 42 [.agg [chV C ln h]] (.tup [.nils,.int .i64 (chE C ln h)]):=by
 obtain ⟨p,hp⟩:=is_val P18 G18 55
 obtain ⟨q,hq⟩:=is_val P18 G18 56
 have t1:=checkRowsT C ln h hh hln hC
 generalize chE C ln h = e at *
 refine stepL_told hm18 hn18 (K:=K42 p q e 0) (told_add (told_add none_ok (callF_told hp)) (callF_told hq)) (A:=A18) (m:=0) (by kernel_rfl) loops0 ?_
 rw [(show stepL P18 G18 A18 (K42 p q e 0) 0 42 [] [.agg [chV C ln h]] =
(
 bif decF (p [.view 1 h (fun i=>[srV (C i) (ln i)
 none])
 none] (.int .i64 e)) then
 bif !decide (e = 0) then
 some (.tup [.nils,.int .i64 e])
 else
 bif decide (0<Int.ofNat h) then
 bif decF (q [.view 5 (ln (0:Nat)) (fun j=>[.int .u8 (C (0:Nat) j).k,.int .u8 (C (0:Nat) j).y,.int .i64 (C (0:Nat) j).a,.int .i64 (C (0:Nat) j).b,.bool (C (0:Nat) j).f])
 none] (.int .i64 0)) then none else none else none else
 none) from by kernel_rfl)]
 refine bift (callF_yes hp t1) ?_
 exact bift (by simp [hb]) rfl
end Go.Ab

