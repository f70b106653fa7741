/- A part of the proof: nothing is assumed. -/
import Derived.Test.YteoamlekamflbaaP4
set_option linter.all false
namespace Go.Ab
def sq1:Code->Code
 |.seq a _=>a
 |c=>c
def sq2:Code->Code
 |.seq _ b=>b
 |c=>c
def qy(P:Program)(G:Nat->Option (List T))(A:FuncId->Ann)(K:Orc)(m:Nat)(f:FuncId)(lo:List (Nat×(List T->qg->LT)))(pick:Code->Code)(l:List Nat)(vs:List T)(h:qg)(l':List Nat):Option (Ex×List T×qg) :=
 match P.funcs[f]? with
 |some fn=>match fn.body with
  |some c=>exK P K G (A f).prom fn.ntmps (A f).live (ZM lo (qbq P G A K m f) fn) (pick c) (qM l vs h) fun e s=>some (e,yo s l',s.h)
  |none=>none
 |none=>none
section
variable {P:Program} {Gl:Nat->Option (List T)} {K:Orc} {A:FuncId->Ann}
theorem It.exl(hm:P.follows .mixedOrders=true)(hK:OrcOk P Gl K){m n:Nat}{f:FuncId}{fn:Func}{c:Code}(hf:P.funcs[f]?=some fn)(hb:fn.body=some c)(hnt:fn.ntmps<=1024)(ha:QI P f=true){lo:List (Nat×(List T->qg->LT))}(hL:∀p∈lo,LoopOk P Gl (A f) f p.1 p.2)
 {pick:Code->Code} (hsub:∀b∈qC (pick c),b∈qC c) {l l':List Nat} {vs vs':List T} {h h':qg} {e:Ex} {R:Nat->Prop} {J:(Nat->Prop)->World->Prop} {X:Nat->Prop} {g:Gh} {a:Act} {W:World} {Q:Exit->Act->World->Prop}
 (hk:qy P Gl A K m f lo pick l vs h l'=some (e,vs',h')) (hrg:qx (pick c)=false) (hJ:qam J) (hi:It Gl (A f).prom fn.ntmps R J X g (qM l vs h) a W)
 (hQ:∀X' g' a' W',It Gl (A f).prom fn.ntmps R J X' g' (qM l' vs' h') a' W'->Q e.out a' W'):(pick c).wpIn (QX none) n P Q a W:=by
 unfold qy at hk;rw[hf] at hk;dsimp only at hk;rw[hb] at hk;dsimp only at hk;have hrec:=Zw (A:=A) ha (Zf P Gl A K m f) (yH hm hK m f) hL fn c hf hb hnt;obtain⟨e1,s1,hk,hgo⟩:=zk hm hK hnt hrec (pick c) hsub hk;simp only[Option.some.injEq,Prod.mk.injEq] at hk;obtain⟨rfl,rfl,rfl⟩:=hk;exact hi.code hJ hgo hrg fun X' g' a' W' hi'=>hQ X' g' a' W' (hi'.only l')
theorem It.exl'(hm:P.follows .mixedOrders=true)(hK:OrcOk P Gl K){m n:Nat}{f:FuncId}{fn:Func}{c c0:Code}(hf:P.funcs[f]?=some fn)(hb:fn.body=some c)(hnt:fn.ntmps<=1024)(ha:QI P f=true){lo:List (Nat×(List T->qg->LT))}(hL:∀p∈lo,LoopOk P Gl (A f) f p.1 p.2)
 (pick:Code->Code) (hc:pick c=c0) (hsub:∀b∈qC (pick c),b∈qC c) {prom:List Nat} (hp:(A f).prom=prom) {l l':List Nat} {vs vs':List T} {h h':qg} {e:Ex} {R:Nat->Prop} {J:(Nat->Prop)->World->Prop} {X:Nat->Prop} {g:Gh} {a:Act} {W:World} {Q:Exit->Act->World->Prop}
 (hk:qy P Gl A K m f lo pick l vs h l'=some (e,vs',h')) (hrg:qx c0=false) (hJ:qam J) (hi:It Gl prom fn.ntmps R J X g (qM l vs h) a W)
 (hQ:∀X' g' a' W',It Gl prom fn.ntmps R J X' g' (qM l' vs' h') a' W'->Q e.out a' W'):c0.wpIn (QX none) n P Q a W:=by
 subst hc hp;exact It.exl hm hK hf hb hnt ha hL hsub hk hrg hJ hi hQ
theorem YS(c:Code):∀b∈qC (sq1 c),b∈qC c:=by
 intro b hb;cases c with
 |seq x y=>simp only[sq1,qC,List.mem_append] at *;exact .inl hb
 |_=>exact hb
theorem ZC(c:Code):∀b∈qC (sq2 c),b∈qC c:=by
 intro b hb;cases c with
 |seq x y=>simp only[sq2,qC,List.mem_append] at *;exact .inr hb
 |_=>exact hb
end
end Go.Ab

