/- A part of the proof: nothing is assumed. -/
import Derived.Test.YtifccdcnhibceaaGreatDoorP6
set_option linter.all false
namespace Go.Ab
def qao(t:Nat):Code->Bool
 |.cond (.tmp u) _ _=>u==t
 |_=>false
section
variable {P:Program} {G:Nat->Option (List T)} {A:FuncId->Ann} {f:FuncId}
variable {h0:qk} {p:List Nat} {l l1:List Nat} {vs v1:List T} {h h1:qk} {e:Ex}
theorem qfp{prom:List Nat}{nt:Nat}{h0:qk}{c:Operand}{x y:Code}{s s':St}{e:Ex}(hc:Ab.ev G prom s c = .bool true)(h1:Qe P G prom nt h0 x s e s'):Qe P G prom nt h0 (.cond c x y) s e s':=by
 intro ro n hro g0 w0 g a w hr hf hs Q hn;have:=hs.ev c;rw[hc] at this;exact wpIn_cond_true this.bool (h1 ro n (fun h=>hro (by simp[qy,h])) g0 w0 g a w hr hf hs Q fun a1 w1 g1 hs1 hf1 hd1=>hn a1 w1 g1 hs1 hf1 fun h=>by simp only[qy,Bool.or_eq_false_iff] at h;exact hd1 h.1)
theorem qfq{prom:List Nat}{nt:Nat}{h0:qk}{c:Operand}{x y:Code}{s s':St}{e:Ex}(hc:Ab.ev G prom s c = .bool false)(h1:Qe P G prom nt h0 y s e s'):Qe P G prom nt h0 (.cond c x y) s e s':=by
 intro ro n hro g0 w0 g a w hr hf hs Q hn;have:=hs.ev c;rw[hc] at this;exact wpIn_cond_false this.bool (h1 ro n (fun h=>hro (by simp[qy,h])) g0 w0 g a w hr hf hs Q fun a1 w1 g1 hs1 hf1 hd1=>hn a1 w1 g1 hs1 hf1 fun h=>by simp only[qy,Bool.or_eq_false_iff] at h;exact hd1 h.2)
theorem Pz.condT(t:Nat)(hq:ZB P f p (qao t)=true)(hev:Ab.ev G (A f).prom (qO l vs h) (.tmp t) = .bool true)(a:Pz P G A f h0 (3::p) l vs h e l1 v1 h1):Pz P G A f h0 p l vs h e l1 v1 h1:=by
 intro fn c hf hb;have hc:=z8 hq hf hb;have ha:=a fn c hf hb;simp only[nav,qbk] at ha;revert hc ha;generalize nav p c=d;intro hc ha;cases d with
 |cond o x y =>
  cases o with
  |tmp u =>
   obtain rfl:u=t:=by simpa [qao] using hc
   exact qfp hev ha
  |_=>cases hc
 |_=>cases hc
theorem Pz.condF(t:Nat)(hq:ZB P f p (qao t)=true)(hev:Ab.ev G (A f).prom (qO l vs h) (.tmp t) = .bool false)(a:Pz P G A f h0 (4::p) l vs h e l1 v1 h1):Pz P G A f h0 p l vs h e l1 v1 h1:=by
 intro fn c hf hb;have hc:=z8 hq hf hb;have ha:=a fn c hf hb;simp only[nav,qbk] at ha;revert hc ha;generalize nav p c=d;intro hc ha;cases d with
 |cond o x y =>
  cases o with
  |tmp u =>
   obtain rfl:u=t:=by simpa [qao] using hc
   exact qfq hev ha
  |_=>cases hc
 |_=>cases hc
end
end Go.Ab

