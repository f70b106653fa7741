/- A part of the proof: nothing is assumed. -/
import Derived.Test.YthbieakinbpgkaaP4
import Derived.Test.YthbieakinbpgkaaP10
set_option linter.all false
namespace Go.Ab
def strip0:T->T
 | .new x=>x
 | x=>x
def strip:T->T
 | .agg l=>.agg (l.map strip0)
 | x=>strip0 x
theorem resTo_strip0 (x:T):ResTo x (strip0 x):=by cases x <;> first | exact .newv _ | exact .refl _
theorem resToL_strip:∀ l:List T,ResToL l (l.map strip0)
 | []=>.nil
 | x :: l=>.cons (resTo_strip0 x) (resToL_strip l)
theorem ToldOk.strip {P:Program} {Gl:Nat->Option (List T)} {f:FuncId} {args:List T} {r:T} (t:ToldOk P Gl f args r):ToldOk P Gl f args (Ab.strip r):=by
 cases r with
 | agg l=>exact t.aggTo (resToL_strip l)
 | _=>exact t.resTo (resTo_strip0 _)
theorem obind (o:Option T):o.bind some = o:=by cases o <;> rfl
section
variable {P:Program} {Gl:Nat->Option (List T)} {K:Orc} {R:Type} {prom:List Nat} {nt:Nat} {live:Nat->Bool->List Nat}
end
section
variable (P:Program) (K:Orc) (G:Nat->Option (List T)) (prom:List Nat) (nt:Nat) (live:Nat->Bool->List Nat)
end
section
variable {P:Program} {K:Orc} {Gl:Nat->Option (List T)} {prom:List Nat} {nt:Nat} {live:Nat->Bool->List Nat}
end
section
variable (P:Program) (G:Nat->Option (List T)) (A:FuncId->Ann) (sq:FuncId->List T->Option (List (List T)))
end
section
variable {P:Program} {G:Nat->Option (List T)} {A:FuncId->Ann} {sq:FuncId->List T->Option (List (List T))}
end
def ii (n:Int):T:=.int .i64 n
def capB (c:Option Nat):Option Nat->Bool
 | none=>true
 | some m=>match c with | some k=>Nat.beq k m | none=>false
def all2 (p:T->T->Bool):List T->List T->Bool
 | [],[]=>true
 | a :: l,b :: m=>p a b&&all2 p l m
 | _,_=>false
def simB0:T->T->Bool
 | _,.undef=>true
 | .bool a,.bool b=>a==b
 | .int k a,.int k' b=>decide (k = k')&&decide (a = b)
 | .str a,.str b=>decide (a = b)
 | .nils,.nils=>true
 | .nilp,.nilp=>true
 | .nilf,.nilf=>true
 | .nilm,.nilm=>true
 | .nili,.nili=>true
 | .nils,.view _ 0 _ none=>true
 | .nils,.view _ 0 _ (some 0)=>true
 | _,_=>false
def simB:Nat->T->T->Bool
 | 0,x,y=>simB0 x y
 | d+1,x,y=>match x,y with
  | .view sz n g c,.view sz' n' g' c'=>Nat.beq n n'&&Nat.beq sz sz'&&capB c c'&&(List.range n).all fun j=>all2 (simB d) (g j) (g' j)
  | .agg l,.agg m=>all2 (simB d) l m
  | x,y=>simB0 x y
theorem all2_sims {p:T->T->Bool} (h:∀ a b,p a b = true->Sim a b):∀ {l m:List T},all2 p l m = true->Sims l m
 | [],[],_=>.nil
 | [],_ :: _,hh=>by cases hh
 | _ :: _,[],hh=>by cases hh
 | a :: l,b :: m,hh=>by
  simp only [all2,Bool.and_eq_true] at hh
  exact .cons (h a b hh.1) (all2_sims h hh.2)
theorem simB0_sim (x y:T) (h:simB0 x y = true):Sim x y:=by
 unfold simB0 at h
 split at h
 ·exact .undef _
 ·obtain rfl:=eq_of_beq h; exact .refl _
 ·simp only [Bool.and_eq_true,decide_eq_true_eq] at h; obtain ⟨rfl,rfl⟩:=h; exact .refl _
 ·obtain rfl:=of_decide_eq_true h; exact .refl _
 ·exact .refl _
 ·exact .refl _
 ·exact .refl _
 ·exact .refl _
 ·exact .refl _
 ·intro w U v hv
  cases hv
  exact .vnil _ _ _ (.inl rfl)
 ·intro w U v hv
  cases hv
  exact .vnil _ _ _ (.inr rfl)
 ·cases h
theorem simB_sim:∀ (d:Nat) (x y:T),simB d x y = true->Sim x y
 | 0,x,y,h=>simB0_sim x y h
 | d+1,x,y,h=>by
  simp only [simB] at h
  split at h
  ·rename_i sz n g c sz' n' g' c'
   simp only [Bool.and_eq_true] at h
   obtain ⟨⟨⟨h1,h2⟩,h3⟩,h4⟩:=h
   obtain rfl:=Nat.eq_of_beq_eq_true h1
   obtain rfl:=Nat.eq_of_beq_eq_true h2
   refine .view ?_ fun j hj=>all2_sims (simB_sim d) (List.all_eq_true.1 h4 j (List.mem_range.2 hj))
   unfold capB at h3
   split at h3
   ·exact .inr rfl
   ·split at h3
    ·exact .inl (by rw [Nat.eq_of_beq_eq_true h3])
    ·cases h3
  ·exact .agg (all2_sims (simB_sim d) h)
  ·exact simB0_sim _ _ h
def isImm:T->Bool
 | .fresh .. | .freshm _ | .new _=>false
 | _=>true
section
variable {w:World} {B:Nat} {U:Nat->Prop} {P:Program} {Gl:Nat->Option (List T)}
theorem RT0.imm {x:T} {v:Value} {X:List Nat} (hi:isImm x = true) (h:RT0 w B U x v X):VI w U x v/\X = []:=by
 cases h with
 | vi _ _ hv=>exact ⟨hv,rfl⟩
 | _=>cases hi
theorem isAgg (x:T):(∃ l,x = .agg l) ∨ ∀ l,x ≠ .agg l:=by
 cases x <;> first | exact .inl ⟨_,rfl⟩ | exact .inr fun l h=>by cases h
end
abbrev Memo:=List (FuncId × List T × T)
def memo (d:Nat):Memo->FuncId->List T->Option T
 | [],_,_=>none
 | (f,a,r) :: l,g,b=>bif Nat.beq f g&&all2 (simB d) b a then some r else memo d l g b
def MemoOk (P:Program) (Gl:Nat->Option (List T)):Memo->Prop
 | []=>True
 | (f,a,r) :: l=>ToldOk P Gl f a r/\MemoOk P Gl l
theorem memo_told {P:Program} {Gl:Nat->Option (List T)} {d:Nat}:∀ {l:Memo} {f:FuncId} {b:List T} {r:T},MemoOk P Gl l->memo d l f b = some r->ToldOk P Gl f b r
 | [],_,_,_,_,h=>by cases h
 | (f,a,x) :: l,g,b,r,hl,h=>by
  simp only [memo] at h
  rcases bif_some h with ⟨hc,h2⟩ | ⟨_,h2⟩
  ·simp only [Bool.and_eq_true] at hc
   obtain rfl:=Nat.eq_of_beq_eq_true hc.1
   obtain rfl:=Option.some.inj h2
   exact hl.1.sim (all2_sims (simB_sim d) hc.2)
  ·exact memo_told hl.2 h2
def knows (l:Memo) (f:FuncId):Bool:=l.any fun e=>Nat.beq e.1 f
def memoO (d:Nat) (l:Memo) (K:Orc):Orc where
 byRef e:=bif knows l e then false else K.byRef e
 val e args R k:=bif knows l e then (memo d l e args).bind k else K.val e args R k
 ref e args h R k:=bif knows l e then none else K.ref e args h R k
 valDet e args:=det_bif _ (match memo d l e args with | some r=>.inr ⟨r,fun _ _=>rfl⟩ | none=>.inl fun _ _=>rfl) (K.valDet e args)
 refDet e args h:=det_bif _ (.inl fun _ _=>rfl) (K.refDet e args h)
 ro e:=bif knows l e then false else K.ro e
theorem memoO_ok {P:Program} {Gl:Nat->Option (List T)} {d:Nat} {l:Memo} {K:Orc} (hl:MemoOk P Gl l) (hK:OrcOk P Gl K):OrcOk P Gl (memoO d l K):=by
 refine ⟨fun e hx=>?_,fun e args r hx w U cargs hU hgl ha=>?_,fun e args h r h' hx g w cargs hr hno hgl ha=>?_,fun e he args h r h' hx=>?_⟩
 all_goals cases hk:knows l e
 ·simp only [memoO,hk,cond_false] at hx
  exact hK.enters e hx
 ·simp only [memoO,hk,cond_true] at hx
  rcases hx with ⟨args,r,hx⟩ | ⟨args,h,r,hx⟩
  ·rw [obind] at hx
   exact (memo_told hl hx).enters
  ·cases hx
 ·simp only [memoO,hk,cond_false] at hx
  exact hK.val e args r hx w U cargs hU hgl ha
 ·simp only [memoO,hk,cond_true] at hx
  rw [obind] at hx
  exact (memo_told hl hx).calls w U cargs hU hgl ha
 ·simp only [memoO,hk,cond_false] at hx
  exact hK.ref e args h r h' hx g w cargs hr hno hgl ha
 ·simp only [memoO,hk,cond_true] at hx
  cases hx
 ·simp only [memoO,hk,cond_false] at he hx
  exact hK.ro e he args h r h' hx
 ·simp only [memoO,hk,cond_true] at he
  cases he
end Go.Ab

