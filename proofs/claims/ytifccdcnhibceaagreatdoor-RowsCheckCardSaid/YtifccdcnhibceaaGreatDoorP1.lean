/- A part of the proof: nothing is assumed. -/
import Derived.KernelRfl
import GoSem.Step
import Derived.WalkKit
import Derived.Maps.OwnIn
import Derived.WideKeyEntry
import Derived.IntWalk
import Derived.ChangeKeysEq
import Derived.Laws.Cover1
set_option linter.all false
namespace Go.Ab
abbrev ac:List Nat:=[1,2,4,6,9,10,11,12,15]
abbrev af:List Nat:=[1,2,8,9,10,11,12,13,14,15,16,17]
abbrev bf:List Nat:=[1,2,8,9,10,11,12,15]
abbrev bm:List Nat:=[1,2,8,9,10,11,12,13,14,15,16]
abbrev bG:List Nat:=[1,2,8,9,10,11,12,15,20,21,22,23,24]
abbrev bV:List Nat:=[1,2,8,9,10,11,12,15,20,21,22,23]
abbrev bX:List Nat:=[1,2,8,9,10,11,12,15,20,21,22]
abbrev b4:List Nat:=[1,2,8,9,10,11,12,15,20,21]
abbrev b5:List Nat:=[1,2,4,6,9,10,11,12]
abbrev b7:List Nat:=[0,1,2,3,4,5,12]
abbrev b9:List Nat:=[1,2,4,6,9,10,11,12,13,14]
abbrev ca:List Nat:=[0,1,2,3,4,5,12,13]
abbrev ce:List Nat:=[0,2,1,2,2,2,2,2,2]
abbrev cg:List Nat:=[0,1,6,7,8,9,10,11,12,41]
abbrev cj:List Nat:=[0,1,2,3,4,5,12,13,14]
abbrev cv:List Nat:=[1,2,2,0,1,2,0,0,2,1,2,2,2,2,0,1,2,0,0,2,1,2,2,2,2,2,2,2]
abbrev cS:List Nat:=[0,3,5,6,9,10,11,12]
abbrev c5:List Nat:=[1,2,2,2,2,2,2,0,1,2,0,0,2,1,2,2,2,2,2,2,2]
abbrev c6:List Nat:=[1,0,1,2,0,0,2,1,2,2,2,2,0,1,2,0,0,2,1,2,2,2,2,2,2,2]
abbrev c7:List Nat:=[0,0,2,1,2,2]
abbrev c8:List Nat:=[1,0,0,2,0,1,2,0,0,2,0,1,2,0,0,2,0,1,2,0,0,2,1,2,2,3,2,1,2,2,2,2,2,2,2,2,0,1,2,0,0,2,1,2,2,2,2,2,2,2]
abbrev da:List Nat:=[1,2,8,9,10,11]
abbrev db:List Nat:=[1,2,3]
abbrev dd:List Nat:=[1,2,2,2]
abbrev dm:List Nat:=[0,1,2,3,8,9,10]
abbrev dr:List Nat:=[0,3,5,6,9,10,11]
abbrev dW:List Nat:=[1,9,10,11,39]
abbrev ea:List Nat:=[1,2,8,9,10,11,12,15,20]
abbrev ee:List Nat:=[1,0,0,2,0,1,2,0,0,2,0,1,2,0,0,2,1,2,2,3,2,1,2,2,2,2,2,2,2,2,0,1,2,0,0,2,1,2,2,2,2,2,2,2]
abbrev ef:List Nat:=[0,1,2,3,4,5,12,13,14,15]
abbrev ep:List Nat:=[0,1,6,7,8,9,11]
abbrev er:List Nat:=[1,0,0,2,1,2,2,2,2]
abbrev ew:List Nat:=[0,0,2,1,2,2,2,2]
abbrev ez:List Nat:=[1,2,8,9,10,11,12,13,14,15]
abbrev eB:List Nat:=[1,0,0,2,0,1,2,0,0,2,1,2,2,3,2,1,2,2,2,2,2,2,2,2,0,1,2,0,0,2,1,2,2,2,2,2,2,2]
abbrev eG:List Nat:=[1,2,4,6,9,10,11,12,13]
abbrev eH:List Nat:=[1,2]
abbrev eI:List Nat:=[1,2,3,4]
abbrev eK:List Nat:=[1,2,2,2,2,2]
abbrev eL:List Nat:=[9,91,92,93]
abbrev eM:List Nat:=[9,15,91,92,93,99,100]
abbrev eN:List Nat:=[2,2,3,2,1,2,2,2,2,0,1,2,0,0,2,1,2,2,2,2,2,2,2]
abbrev eT:List Nat:=[1,9,10,72,73,74]
abbrev eV:List Nat:=[1,2,5,6]
abbrev e9:List Nat:=[1,40,41,42]
abbrev fq:List Nat:=[3,2,1,2,2,2,2,2,0,1,2,0,0,2,1,2,2,2,2,2,2,2]
abbrev fx:List Nat:=[1,2,3,5]
abbrev fL:List Nat:=[1,0,0,2,1,2,2,3,2,1,2,2,2,2,2,2,2,2,0,1,2,0,0,2,1,2,2,2,2,2,2,2]
abbrev fN:List Nat:=[1,1,2,2,2,2,2,0,1,2,0,0,2,1,2,2,2,2,2,2,2]
abbrev fP:List Nat:=[2,2,2,2,2,2,2,0,1,2,0,0,2,1,2,2,2,2,2,2,2]
abbrev fT:List Nat:=[1,2,3,5,6,7]
abbrev gb:List Nat:=[0,1,6,7,8,9]
abbrev gd:List Nat:=[8,9,10]
abbrev gj:List Nat:=[0,2,3,9,10]
abbrev gB:List Nat:=[1,2,2,2,2,2,0,1,2,0,0,2,1,2,2,2,2,2,2,2]
abbrev gE:List Nat:=[3,4,5,6,7]
abbrev gL:List Nat:=[1,2,2,2,0,1,2,0,0,2,1,2,2,2,2]
abbrev gN:List Nat:=[1,0,0,2,1,2,2,2,2,2,2,2]
abbrev gR:List Nat:=[1,2,2,2,0,1,2,0,0,2,1,2,2,2,2,0,1,2,0,0,2,1,2,2,2,2,2,2,2]
abbrev gS:List Nat:=[2,2,2,2,0,1,2,0,0,2,1,2,2,2,2,0,1,2,0,0,2,1,2,2,2,2,2,2,2]
abbrev g6:List Nat:=[1,2,8,9,10,11,15]
abbrev g8:List Nat:=[0,2,2,0,1,2,2,0,0,2,1,2,2,2,2,2,2,2,2]
abbrev hE:List Nat:=[1,2,8,9,10,11,12,14,15]
abbrev hH:List Nat:=[2,4,6,9,16]
abbrev hS:List Nat:=[2,2,2,3,2,1,2,2,2,2,2,2,2,2,0,1,2,0,0,2,1,2,2,2,2,2,2,2]
abbrev hV:List Nat:=[0,2,1,2,2]
abbrev hY:List Nat:=[1,2,0,1,2,0,0,2,1,2,2,2,2,0,1,2,0,0,2,1,2,2,2,2,2,2,2]
abbrev h9:List Nat:=[0,0,2,1,2,2,2,2,2,2,2]
abbrev il:List Nat:=[0,3,5,6,9,10,11,12,13]
abbrev ir:List Nat:=[0,1]
abbrev ix:List Nat:=[1,2,0,1,2,0,0,2,1,2,2,2,2]
abbrev jr:List Nat:=[1,3,2,1,2,2,2,2,2,2,2,0,1,2,0,0,2,1,2,2,2,2,2,2,2]
abbrev j1:List Nat:=[1,22,23]
abbrev kb:List Nat:=[1,2,4,6,9,10,11,12,15,88]
abbrev kh:List Nat:=[1,22,23,26,27,28]
abbrev kn:List Nat:=[2,2,0,0,2,1,2,2,2,2]
abbrev kr:List Nat:=[1,1,2,2,2,2,2,2,2,2,0,1,2,0,0,2,1,2,2,2,2,2,2,2]
abbrev kv:List Nat:=[1,0,1,2,0,0,2,1,2,2,2,2]
abbrev k4:List Nat:=[1,0,0,2,1,2,2]
abbrev k5:List Nat:=[0,2,3,9,10,11]
abbrev k6:List Nat:=[0,1,4,5,6]
abbrev k7:List Nat:=[1,2,2,2,2]
abbrev lf:List Nat:=[1,0,0,2,1,2,2,2,2,0,1,2,0,0,2,1,2,2,2,2,2,2,2]
abbrev lq:List Nat:=[1,1,2,2,2,2,2,2,2,0,1,2,0,0,2,1,2,2,2,2,2,2,2]
abbrev lr:List Nat:=[1,2,3,5,6]
abbrev ls:List Nat:=[2,2,2,2,2,2,2,2,2,0,1,2,0,0,2,1,2,2,2,2,2,2,2]
abbrev lx:List Nat:=[1,2,2,2,2,2,2,2,2,0,1,2,0,0,2,1,2,2,2,2,2,2,2]
abbrev lA:List Nat:=[0,3,5,6,9,10,11,12,116]
abbrev lB:List Nat:=[1,2,2,2,2,2,2,2,0,1,2,0,0,2,1,2,2,2,2,2,2,2]
abbrev lD:List Nat:=[1,2,2]
abbrev lE:List Nat:=[0,1,2,3]
abbrev lG:List Nat:=[0,1,6,7,8,9,10]
abbrev lM:List Nat:=[1,2,3,7]
abbrev lO:List Nat:=[1,2,0,0,2,1,2,0,1,2,0,0,2,1,2,2,2,2,2,2,2]
abbrev lP:List Nat:=[1,2,2,0,1,2,0,0,2,1,2,2,2,2]
abbrev lT:List Nat:=[0,2,1,2,2,2,2]
abbrev lY:List Nat:=[1,2,2,2,2,2,2]
abbrev l9:List Nat:=[1,1,2,2,2,2,0,1,2,0,0,2,1,2,2,2,2,2,2,2]
abbrev mc:List Nat:=[1,2,3,5,6,7,8]
abbrev mf:List Nat:=[0,0,2,1,2,2,2]
abbrev mh:List Nat:=[1,0,0,2,1,2,0,1,2,0,0,2,1,2,2,2,2,2,2,2]
abbrev ml:List Nat:=[2,2,2,2,2,2,2,2,2,0,1,2,0,0,2,1,2,2,2,2]
abbrev mn:List Nat:=[0,0,2,2,0,1,2,2,0,0,2,1,2,2,2,2,2,2,2,2]
abbrev mv:List Nat:=[0,1,4,5]
abbrev mP:List Nat:=[1,1,2,2,2,2]
abbrev mQ:List Nat:=[1,1,2,2]
abbrev mT:List Nat:=[0,2,1,2,2,2,2,2,2,2]
abbrev m4:List Nat:=[0,1,2,0,0,2,1,2,2,2]
abbrev nj:List Nat:=[1,5,6]
abbrev nl:List Nat:=[0,1,12,13]
abbrev nB:List Nat:=[1,2,5,6,7]
abbrev nH:List Nat:=[1,9,10,72,73,74,78,79,80]
abbrev nL:List Nat:=[1,2,2,2,0,1,2,0,0,2,1,2,2,2,2,2,2,2]
abbrev n0:List Nat:=[2,31,32,33]
abbrev og:List Nat:=[1,2,0,1,2,2,0,0,2,1,2,2,2,2,2,2,2,2]
abbrev ol:List Nat:=[1,2,8,9,10,11,12,15,105]
abbrev oo:List Nat:=[1,2,8,9,10,11,12,15,122]
abbrev oD:List Nat:=[1,3,2,1,2,2,0,1,2,0,0,2]
abbrev oS:List Nat:=[0,2,2,0,1,2,2,0,0,2,1,2]
abbrev o5:List Nat:=[9,10]
abbrev pf:List Nat:=[1,2,2,0,1,2,0,0,2,1,2,2,2,2,2,2,2]
abbrev pg:List Nat:=[1,2,0,1,2,0,0,2,2,2,2,0,1,2,0,0,2]
abbrev ph:List Nat:=[2,2,0,1,2,0,0,2,2,2,2,0,1,2,0,0,2]
abbrev pi:List Nat:=[1,1,2,2,2,2,0,1,2,0,0,2,1,2,2,2,2]
abbrev pj:List Nat:=[1,0,1,2,2,0,0,2,1,2,2,2,2,2,2,2,2]
abbrev pk:List Nat:=[9,15,16,91,92,93]
abbrev pm:List Nat:=[1,6,7,8]
abbrev po:List Nat:=[0,2,1,2,2,2,2,2,2,2,2]
abbrev pq:List Nat:=[1,2,0,1,2,0,0,2,1,2,2,2,2,2,2,2]
abbrev pr:List Nat:=[0,3,10,11,12]
abbrev pE:List Nat:=[6,7,23,24,25]
abbrev pF:List Nat:=[2,2,0,0,2,1,2,2]
abbrev pG:List Nat:=[0,1,2,3,4,5,12,13,41]
abbrev pK:List Nat:=[0,1,3]
abbrev pL:List Nat:=[1,0,1,2,0,0,2,1,2,2,2,2,2,2,2]
abbrev pM:List Nat:=[1,2,0,1,2,0,0,2,1,2,2,2,2,2,2]
abbrev pN:List Nat:=[1,1,2,2,0,1,2,0,0,2,1,2,2,2,2]
abbrev pQ:List Nat:=[2,2,2,2,0,1,2,0,0,2,1,2,2,2,2]
abbrev pS:List Nat:=[0,0,2,1,2]
abbrev pT:List Nat:=[1,0,0,2,1,2,2,2,2,2,2,2,2,2]
abbrev p9:List Nat:=[1,2,0,1,2,0,0,2,1,2,2,2,2,2]
abbrev qb:List Nat:=[2,2,0,1,2,0,0,2,1,2,2,2,2,2]
abbrev qe:List Nat:=[0,2,3,5,9]
abbrev qf:List Nat:=[1,2,0,0,2,1,2,2,2,2,2,2,2,2]
abbrev qg:List Nat:=[1,2,8,9,10,11,12,15,20,124]
abbrev qi:List Nat:=[9,91,92,93,94]
abbrev ql:List Nat:=[0,0,2,1,2,2,2,2,2]
abbrev qs:List Nat:=[1,1,2,2,2,2,2,2,2]
abbrev rc:List Nat:=[2,2,2,2,2,2,2,2,2]
abbrev ri:List Nat:=[2,2,0,0,2,1,2,2,2,2,2,2,2]
abbrev rl:List Nat:=[1,5,6,7,63]
abbrev rr:List Nat:=[1,20,21,22]
abbrev rC:List Nat:=[1,62,63,64]
abbrev rH:List Nat:=[1,0,0,2,2,2,2,0,1,2,0,0,2]
abbrev rJ:List Nat:=[1,0,0,2,1,2,2,2,2,2,2,2,2]
abbrev rN:List Nat:=[0,0,2,2,0,1,2,2,0,0,2,1,2]
abbrev rP:List Nat:=[2,4,6,9]
abbrev rS:List Nat:=[1,5,6,7]
abbrev r0:List Nat:=[1,2,4,6,9,10,11,12,15,66]
abbrev r6:List Nat:=[1,2,0,1,2,0,0,2,1,2,2,2]
abbrev r8:List Nat:=[2,2,0,1,2,0,0,2,1,2,2,2]
abbrev sc:List Nat:=[3,9,10,11]
abbrev sf:List Nat:=[2,2,2,2,2]
abbrev sg:List Nat:=[2,2,2,2,2,2,2,2]
abbrev si:List Nat:=[1,2,2,2,2,2,2,2]
abbrev ss:List Nat:=[0,3,4]
abbrev sw:List Nat:=[2,2,2,2,2,2]
abbrev sy:List Nat:=[1,2,8,9,10,11,12,13,14]
abbrev sE:List Nat:=[0,3,5,6]
abbrev sF:List Nat:=[1,0,0,2,1,2,2,2,2,2,2]
abbrev sH:List Nat:=[1,2,0,1,2,0,0,2,1,2,2]
abbrev sI:List Nat:=[0,1,2,0,0,2,1,2,2,2,2]
abbrev sM:List Nat:=[3,5,6,9,10]
abbrev sT:List Nat:=[0,1,3,18]
abbrev s4:List Nat:=[2,2,2,2,2,2,2]
abbrev s5:List Nat:=[1,1,2,2,2]
abbrev s8:List Nat:=[0,1,4,5,6,19]
abbrev ta:List Nat:=[2,3]
abbrev tc:List Nat:=[1,9,10]
abbrev te:List Nat:=[1,2,4]
abbrev tf:List Nat:=[0,2,1,2]
abbrev ti:List Nat:=[9,1,2]
abbrev tk:List Nat:=[4,5]
abbrev tp:List Nat:=[1,2,4,6,7,9]
abbrev tq:List Nat:=[0,1,2,3,4,5]
abbrev tu:List Nat:=[0,2,1,2,2,2]
abbrev tQ:List Nat:=[10,12,13,14]
abbrev tR:List Nat:=[0,3]
abbrev tS:List Nat:=[2,2,2,2]
abbrev tT:List Nat:=[0,2,3,9]
abbrev tV:List Nat:=[2,1,2,2]
def rx{p:Prop}(h:p:=by grind):p:=h
def wc:=@Nat.le_refl
def wd:=@Bool.and_eq_true
def we:=@Option.some.inj
def wg:=@List.getD_eq_getElem?_getD
def wh:=@if_neg
def wi:=@List.getElem?_eq_getElem
def wj:=@Option.some.injEq
def wl:=@if_pos
def wm:=@decide_eq_true_eq
def wn:=@Int.ofNat_eq_natCast
def wo:=@Nat.zero_add
def wp:=@cond_true
def wq:=@cond_false
def wt:=@decide_eq_true
def wu:=@Nat.lt_or_ge
def wx:=@List.mem_of_getElem?
def wy:=@List.getElem?_append_left
def wz:=@List.getElem?_eq_none
def wA:=@Prod.mk.injEq
def wC:=@List.length_append
def wD:=@List.all_eq_true
def wE:=@List.getElem?_map
def wF:=@beq_self_eq_true
def wG:=@Array.getD_eq_getD_getElem?
def wH:=@List.getElem?_append_right
def wI:=@Nat.mul_le_mul_right
def wJ:=@List.mem_cons
def wK:=@Array.getElem?_eq_getElem
def wL:=@List.mem_singleton
def wM:=@Nat.le_trans
def wN:=@Nat.zero_le
def wO:=@List.getElem?_cons_zero
def wP:=@List.append_assoc
def wQ:=@Bool.true_and
def wR:=@Bool.not_eq_true'
def wS:=@List.mem_append
def wT:=@Option.map_eq_some_iff
def wV:=@decide_eq_false_iff_not
def wW:=@List.length_map
def wX:=@List.mem_cons_of_mem
def wY:=@List.mem_map
def wZ:=@List.getElem?_set_self
def va:=@Nat.sub_self
def vb:=@Nat.add_mul
def vc:=@List.length_cons
def vd:=@List.getElem?_set_ne
def ve:=@List.map_congr_left
def vf:=@Bool.or_eq_false_iff
def vg:=@Nat.lt_of_lt_of_le
def vh:=@List.map_append
def vm:=@beq_iff_eq
def vn:=@if_false
def vo:=@Bool.cond_eq_ite
def vq:=@Option.isSome_iff_exists
def vt:=@List.Perm.append_right
def vu:=@List.append_nil
def vv:=@List.length_drop
def vy:=@Nat.not_lt_zero
def vA:=@congrArg
def vB:=@Nat.ne_of_lt
def vD:=@Array.getElem?_toList
def vE:=@List.Perm.append_left
def vG:=@List.getElem?_take_of_lt
def vH:=@Int.tmod_eq_emod_of_nonneg
def vI:=@Bool.or_eq_true
def vJ:=@decide_eq_false
def vK:=@List.getElem?_drop
def vL:=@List.length_take
def vM:=@List.length_nil
def vN:=@Bool.and_eq_false_iff
def vO:=@List.mem_cons_self
def vQ:=@Nat.lt_one_iff
def vS:=@List.forall_mem_cons
def vU:=@List.eq_nil_of_length_eq_zero
def vV:=@List.range_succ
def vW:=@Option.isNone_none
def vX:=@Nat.add_assoc
def vY:=@Nat.eq_zero_or_pos
def vZ:=@if_true
def xa:=@Prod.mk.inj
def xb:=@Nat.ble_eq_true_of_le
def xc:=@List.getElem?_range
def xf:=@List.length_reverse
def xg:=@Option.map_some
def xh:=@List.take_length
def xj:=@List.getElem?_cons_succ
def xk:=@List.mem_range
def xl:=@List.not_mem_nil
def xm:=@Array.getElem?_eq_none
def xn:=@Array.mem_of_getElem?
def xo:=@List.mem_iff_getElem?
def xp:=@List.perm_append_comm
def xq:=@List.nodup_append
def xr:=@List.pairwise_cons
def xt:=@List.map_cons
def xu:=@List.nodup_cons
def xv:=@Bool.not_eq_true
def xw:=@Option.getD_some
def xx:=@List.nil_sublist
def xy:=@List.getElem?_zip_eq_some
def xz:=@Array.length_toList
def xA:=@beq_eq_false_iff_ne
def xB:=@Nat.one_mul
def xC:=@List.foldl_append
def xD:=@List.getElem?_toArray
def xE:=@List.take_append_drop
def xF:=@Bool.not_false
def xG:=@Bool.false_eq_true
def xH:=@List.mem_append_left
def xI:=@List.getElem_mem
def xJ:=@List.flatten_append
def xK:=@List.getElem?_eq_some_iff
def xL:=@Nat.le_of_ble_eq_true
def xM:=@List.length_singleton
def xN:=@Nat.eq_of_beq_eq_true
def xO:=@List.getElem?_reverse
def xP:=@Bool.not_eq_false'
def xQ:=@List.mem_flatMap
def xR:=@Nat.le_add_right
def xS:=@List.all_cons
def xT:=@Bool.false_and
def xU:=@List.mem_iff_getElem
def xV:=@Bool.eq_false_iff
def xX:=@of_decide_eq_true
def xY:=@List.length_range
def xZ:=@Bool.false_or
def ua:=@List.isEmpty_iff
def ub:=@List.getElem?_take
def uc:=@Array.getElem?_append_left
def ud:=@List.mem_append_right
def ue:=@List.length_set
def uf:=@Nat.min_eq_left
def ug:=@List.mem_of_mem_take
def uh:=@List.length_dropLast
def ui:=@List.take_add_one
def uj:=@List.mem_of_mem_drop
def uk:=@List.map_id
def ul:=@Bool.and_self
def um:=@Array.toList_modify
def un:=@List.length_pos_iff
def uo:=@Array.toList_map
def up:=@List.cons_append
def uq:=@List.suffix_refl
def ur:=@List.map_reverse
def qh{α:Sort _}{a b:α}(h:a=b:=by kernel_rfl):a=b:=h
def ab{p:Prop}(h:p:=by omega):p:=h
def bP{p:Prop}(h:p:=by simp only[wn];omega):p:=h
def aq{p:Prop}(h:p:=by simp):p:=h
def gi:List Int->List Int->Bool
 |[],[]=>true
 |a::l,b::m=>decide (a=b)&&gi l m
 |_,_=>false
def jK:∀{l m:List Int},gi l m=true↔l=m
 |[],[]=>by simp[gi]
 |a::l,b::m=>by simp[gi,jK (l:=l) (m:=m)]
 |[],_::_=>by simp[gi]
 |_::_,[]=>by simp[gi]
def yL(l:List Int):gi l l=true:=jK.2 rfl
def Is{l m:List Int}(h:l≠m):gi l m=false:=by
 rw[xV];exact λq=>h (jK.1 q)
inductive KS where
 |int (q:IntKind)
 |row (l:List (Option IntKind))
deriving DecidableEq
structure bk where
 ks:KS
 q:IntKind
 has:List Int->Bool
 val:List Int->Int
 born:List Int->Nat
 clock:Nat
 last:Option (List Int×Nat)
def bk.lh(m:bk)(k:List Int):Nat:=bif m.has k then m.born k else m.clock
def bk.put(m:bk)(k:List Int)(z:Int):bk :=
 { ks:=m.ks,q:=m.q,has:=λl=>gi l k || m.has l,val:=λl=>bif gi l k then z else m.val l,born:=λl=>bif gi l k then m.lh k else m.born l,clock:=bif m.has k then m.clock else m.clock+1,last:=none }
def bk.entry(m:bk)(k:List Int):bk:={ m.put k (m.val k) with last:=some (k,m.lh k) }
def bk.del(m:bk)(k:List Int):bk :=
 { ks:=m.ks,q:=m.q,has:=λl=>!(gi l k)&&m.has l,val:=λl=>bif gi l k then 0 else m.val l,born:=m.born,clock:=m.clock,last:=none }
def bk.made(ks:KS)(q:IntKind):bk:=⟨ks,q,λ_=>false,λ_=>0,λ_=>0,0,none⟩
def cZ{A:Type}(f:∀R:Type,(A->Option R)->Option R):Prop:=(∀R k,f R k=none)∨∃a,∀R k,f R k=k a
def qM{A:Type}{f:∀R:Type,(A->Option R)->Option R}(i:cZ f){R:Type}{k:A->Option R}{r:R}(e:f R k=some r):∃a,k a=some r/\∀(g:Type) (d:A->Option g),f g d=d a:=by
 rcases i with h|⟨a,h⟩
 .rw[h] at e;cases e
 grind
inductive T where
 |undef
 |gone
 |bool (b:Bool)
 |int (k:IntKind) (n:Int)
 |str (s:List UInt8)
 |lz
 |vp (cells:List T)
 |ptr (i aj j o:Nat)
 |ae
 |view (sz n:Nat) (g:Nat->List T) (cap:Option Nat)
 |own (i aj off len:Nat) (cap:Option Nat)
 |fresh (flat:Bool) (sz n:Nat) (g:Nat->List T) (len:Nat) (cap:Option Nat)
 |eO
 |fn (f:FuncId) (aH:List T)
 |agg (l:List T)
 |aJ (l:List T)
 |mB
 |iface (t:TypeId) (v:T)
 |iV
 |ag (cells:List T)
 |rZ (l:Nat)
 |new (x:T)
 |mp (i aj:Nat)
 |iC (m:bk)
abbrev t7:=List T
abbrev t8:=List Nat
abbrev t9:=Nat->Option t7
instance:Inhabited T:=⟨.undef⟩
structure ap where
 aj:Nat
 sz:Nat
 n:Nat
 get:Nat->List T
 flat:Bool
 iN:Bool
 mp:Option bk
def yX(aj:Nat)(m:bk):ap:=⟨aj,0,0,λ_=>[],false,false,some m⟩
abbrev qa:=List ap
inductive Tr where
 |nil
 |leaf (v:T)
 |node (l r:Tr)
def Tr.get:Nat->Tr->Nat->T
 |0,.leaf v,_=>v
 |d+1,.node l r,i=>bif i%2==0 then Tr.get d l (i/2) else Tr.get d r (i/2)
 |_,_,_=>.undef
def Tr.set:Nat->Tr->Nat->T->Tr
 |0,_,_,v=>.leaf v
 |d+1,.node l r,i,v=>bif i%2==0 then .node (Tr.set d l (i/2) v) r else .node l (Tr.set d r (i/2) v)
 |d+1,_,i,v=>bif i%2==0 then .node (Tr.set d .nil (i/2) v) .nil else .node .nil (Tr.set d .nil (i/2) v)
def QS:Nat:=10
structure St where
 env:Tr
 loc:Nat->Option (Nat×Nat)
 used:Nat->Bool
 h:qa
def St.at(s:St)(t:Nat):T:=bif Nat.blt t 1024 then s.env.get QS t else .undef
structure dJ where
 slot:Option (Nat×T)
 place:Option (Nat×Option (Nat×Nat))
 heap:Option qa
def Iu(env:Tr):Option (Nat×T)->Tr
 |some (d,v)=>env.set QS d v
 |none=>env
def Yq(loc:Nat->Option (Nat×Nat)):Option (Nat×Option (Nat×Nat))->Nat->Option (Nat×Nat)
 |some (d,p)=>λe=>bif e==d then p else loc e
 |none=>loc
def yu(used:Nat->Bool):Option (Nat×Option (Nat×Nat))->Nat->Bool
 |some (_,some (t,_))=>λx=>bif x==t then true else used x
 |_=>used
def dJ.eP(f:dJ)(s:St):St:={ env:=Iu s.env f.slot,loc:=Yq s.loc f.place,used:=yu s.used f.place,h:=f.heap.getD s.h }
def Kh:Value->T
 |.bool b=>.bool b
 |.int k n=>.int k n
 |.string s=>.str s.data.toList
 |.pointer none=>.lz
 |.slice none 0 0=>.ae
 |.nilFunc=>.eO
 |.nilIface=>.mB
 |.map none=>.iV
 |_=>.undef
def KP:Value->T
 |.agg a=>.agg (a.toList.map Kh)
 |.tuple a=>.aJ (a.toList.map Kh)
 |v=>Kh v
def Iv:Value->Bool
 |.agg a=>a.toList.all λ|.agg _|.tuple _=>false|_=>true
 |_=>true
def T.cells:T->List T
 |.agg l=>l
 |v=>[v]
def Zz:T->Bool
 |.undef|.gone|.aJ _|.ag _|.fresh ..|.new _|.iC _=>false
 |_=>true
def zV:T->Bool
 |.undef|.gone|.bool _|.int _ _|.str _|.lz|.vp _|.ae|.view ..|.eO|.mB|.iV|.rZ _=>true
 |.fn _ a=>a.isEmpty
 |_=>false
def aF:T->Bool
 |.agg l=>l.all zV
 |.aJ l=>l.all zV
 |.fn _ a=>a.all zV
 |.iface _ v=>zV v
 |v=>zV v
def qK:T->Bool
 |.undef|.bool _|.int _ _|.str _=>true
 |_=>false
section
variable (P:Program)
def ZQ(t:TypeId):Bool:=match P.underlying t with
 |some (.struct _)|some (.array _ _)=>true
 |_=>false
def qS(t:TypeId):Nat:=match P.info? t with|some i=>i.size|none=>0
def zx(t:TypeId):Bool:=match P.info? t with|some _=>true|none=>false
def YY(t:TypeId):Nat:=match P.info? t with|some i=>i.bytes|none=>0
def Ql(t:TypeId):List T:=match P.info? t with
 |some i=>match i.zero with|some v=>(KP v).cells|none=>[]
 |none=>[]
def yY(t:TypeId):Bool:=match P.info? t with
 |some i=>match i.zero with|some v=>(v.cells.size==i.size)&&Iv v&&(match v with|.tuple _=>false|_=>true)|none=>false
 |none=>false
def qZ(t:TypeId):Option TypeId:=match P.underlying t with
 |some (.slice e)=>some e
 |_=>none
def JT(t:TypeId):Bool:=match P.underlying t with
 |some .string=>true
 |_=>false
def Zj(t:TypeId)(f:Nat):Option (Nat×TypeId):=match P.underlying t with
 |some (.struct fs)=>match fs[f]? with|some x=>bif zx P x.type&&!(qS P x.type==0) then some (x.offset,x.type) else none|none=>none
 |_=>none
def QT(t:TypeId):Option (Nat×TypeId):=match P.underlying t with
 |some (.array n e)=>some (n,e)
 |_=>none
variable {R:Type}
abbrev Qg(R:Type):=T->qa->Bool->Option R
def ld(t:TypeId)(cells:List T)(k:T->Option R):Option R :=
 match P.underlying t with
 |none=>none
 |some _=>bif ZQ P t then(bif Nat.ble (qS P t) cells.length then k (.agg (cells.take (qS P t))) else none)
  else match cells with
   |c::_=>k c
   |[]=>none
def yZ(cells:List T)(o:Nat)(new:List T):List T :=
 cells.take o++new++cells.drop (o+new.length)
def M0(sz:Nat)(cells:List T)(o:Nat)(new:List T):List T:=bif (o==0)&&(new.length==sz) then new else yZ cells o new
def qpK{sz:Nat}{cells:List T}{o:Nat}{new:List T}(h:cells.length=sz):M0 sz cells o new=yZ cells o new:=by
 unfold M0;cases a:(o==0)&&(new.length==sz) with
 |false=>rfl
 |true =>
  simp only[wd,vm] at a;obtain⟨rfl,rfl⟩:=a;grind[yZ]
def Qf(h:qa)(i aj:Nat)(k:ap->Option R):Option R :=
 match h[i]? with
 |some b=>bif (b.aj==aj)&&b.mp.isNone then k b else none
 |none=>none
def y9(h:qa)(i aj:Nat)(k:ap->bk->Option R):Option R :=
 match h[i]? with
 |some b=>bif b.aj==aj then(match b.mp with|some m=>k b m|none=>none) else none
 |none=>none
def Ki(t:TypeId)(v:T)(h:qa)(k:Qg R):Option R :=
 match v with
 |.vp cells=>ld P t cells λx=>k x h false
 |.ptr i aj j o=>Qf h i aj λb=>bif Nat.blt j b.n then ld P t ((b.get j).drop o) λx=>k x h false else none
 |_=>none
def M1(c:Bool)(x y:T):T:=match x,y with
 |.int k a,.int d b=>bif decide (k=d) then .int k (bif c then a else b) else(bif c then .int k a else .int d b)
 |.bool a,.bool b=>.bool (bif c then a else b)
 |x,y=>bif c then x else y
def Kj(c:Bool):List T->List T->List T
 |x::l,y::m=>M1 c x y::Kj c l m
 |[],[]=>[]
 |l,m=>bif c then l else m
def qj8(c:Bool)(x y:T):M1 c x y=bif c then x else y:=by
 unfold M1;grind
def kM(c:Bool):∀(l m:List T),Kj c l m=bif c then l else m
 |x::l,y::m=>by
  simp only[Kj,qj8,kM c l m];cases c<;>rfl
 |[],[]=>by cases c<;>rfl
 |[],_::_=>rfl
 |_::_,[]=>rfl
def ap.gY(b:ap)(j:Nat)(cells:List T):ap :=
 { b with get:=λe=>Kj (e==j) cells (b.get e),flat:=b.flat&&cells.all qK }
def K2(t:TypeId)(a v:T)(h:qa)(k:Qg R):Option R :=
 match a with
 |.ptr i aj j o=>Qf h i aj λb =>
  bif zx P t&&Nat.blt j b.n&&(v.cells.length==qS P t)&&Zz v&&Nat.ble (o+qS P t) b.sz then
   k .undef (h.set i (b.gY j (M0 b.sz (b.get j) o v.cells))) true
  else none
 |_=>none
def JU(cells:List T)(h:qa)(k:Qg R):Option R :=
 k (.ptr h.length 0 0 0) (h++[⟨0,cells.length,1,λ_=>cells,cells.all qK,false,none⟩]) true
def M2:T->T->Bool
 |.bool a,.bool b=>a==b
 |.int k a,.int d b=>decide (k=d)&&decide (a=b)
 |.ae,.ae=>true
 |.lz,.lz=>true
 |.iV,.iV=>true
 |.str [],.str []=>true
 |_,_=>false
def EA:List T->List T->Bool
 |[],[]=>true
 |a::l,b::m=>M2 a b&&EA l m
 |_,_=>false
def M3(ty:TypeId):Option (Nat×Nat×List T):=match QT P ty with
 |some (n,e)=>bif Nat.ble 9 n&&((Ql P e).length==qS P e)&&EA (Ql P ty) (List.replicate n (Ql P e)).flatten then some (n,qS P e,Ql P e) else none
 |none=>none
def Yi(ty:TypeId)(h:qa)(k:Qg R):Option R :=
 match M3 P ty with
 |some (n,sz,z)=>k (.ptr h.length 0 0 0) (h++[⟨0,sz,n,λ_=>z,z.all qK,false,none⟩]) true
 |none=>JU (Ql P ty) h k
def YZ(place:Nat->Option (Nat×Nat))(cells:List T):List (Nat×T)->(List T->Option R)->Option R
 |[],k=>k cells
 |(i,v)::a,k =>
  match place i with
  |none=>none
  |some (d,size) =>
   bif (v.cells.length==size)&&Zz v&&Nat.ble (d+size) cells.length then YZ place (yZ cells d v.cells) a k else none
def M4(fs:Array Field)(i:Nat):Option (Nat×Nat):=match fs[i]? with
 |some f=>some (f.offset,qS P f.type)
 |none=>none
def Sm(sz:Nat)(i:Nat):Option (Nat×Nat):=some (i*sz,sz)
def K3(t:TypeId)(a:List (Nat×T))(h:qa)(k:Qg R):Option R :=
 match P.underlying t with
 |some (.struct fs)=>bif yY P t&&fs.toList.all (λf=>zx P f.type) then YZ (M4 P fs) (Ql P t) a λl=>k (.agg l) h false else none
 |some (.array _ e)=>bif yY P t&&zx P e then YZ (Sm (qS P e)) (Ql P t) a λl=>k (.agg l) h false else none
 |_=>none
def Yr(sz:Nat)(d:List (List T)):List (Nat×T)->(List (List T)->Option R)->Option R
 |[],k=>k d
 |(i,v)::a,k=>bif (v.cells.length==sz)&&Zz v&&Nat.blt i d.length then Yr sz (d.set i v.cells) a k else none
def zM(t:TypeId)(len:Nat)(a:List (Nat×T))(h:qa)(k:Qg R):Option R :=
 match qZ P t with
 |some e=>bif yY P e&&Nat.ble (len*qS P e) 16777216 then
  Yr (qS P e) (List.replicate len (Ql P e)) a λd =>
   k (.own h.length 0 0 len (some len)) (h++[⟨0,qS P e,len,λj=>d.getD j [],d.all (·.all qK),Nat.ble len 8,none⟩]) true
  else none
 |none=>none
def yM(t:TypeId)(len:Nat)(a:List (Nat×T))(k:T->Option R):Option R :=
 match qZ P t with
 |some e=>bif yY P e&&Nat.ble (len*qS P e) 16777216 then
  Yr (qS P e) (List.replicate len (Ql P e)) a λd =>
   bif d.all (·.all aF) then k (.view (qS P e) len (λj=>d.getD j []) (some len)) else none
  else none
 |none=>none
def JV(t:TypeId)(l c:T)(h:qa)(k:Qg R):Option R :=
 match qZ P t,l,c with
 |some e,.int _ l,.int _ c =>
  bif yY P e then
   bif decide (0<=l)&&decide (l<=c)&&decide (c*(YY P e:Int)<=140737488355328)&&decide (c<=9223372036854775807) then
    k (.own h.length 0 0 l.toNat (some c.toNat)) (h++[⟨0,qS P e,c.toNat,λ_=>Ql P e,(Ql P e).all qK,false,none⟩]) true
   else none
  else none
 |_,_,_=>none
def Kk(x:Option T)(d:Int)(k:Int->Option R):Option R :=
 match x with
 |none=>k d
 |some (.int _ i)=>k i
 |some _=>none
def Yt(len gm:Nat)(cap:Option Nat)(e a d:Option T)(k:Nat->Nat->Option Nat->Option R):Option R :=
 Kk e 0 λl=>Kk a (len:Int) λh =>
  match d with
  |none=>bif decide (0<=l)&&decide (l<=h)&&decide (h<=(cap.getD gm:Int)) then
   k l.toNat h.toNat (cap.map λc=>c-l.toNat) else none
  |some (.int _ m)=>match a with
   |none=>none
   |some _=>bif decide (0<=l)&&decide (l<=h)&&decide (h<=m)&&decide (m<=(cap.getD gm:Int)) then
    k l.toNat h.toNat (some (m.toNat-l.toNat)) else none
  |some _=>none
def zm(t:TypeId)(x:T)(f o d:Option T)(h:qa)(k:Qg R):Option R :=
 match x with
 |.str s=>match d with
  |none=>bif JT P t then Yt s.length s.length (some s.length) f o none λl r _=>k (.str ((s.take r).drop l)) h false else none
  |_=>none
 |.ae=>match qZ P t with
  |some e=>bif zx P e then Yt 0 0 (some 0) f o d λ_ _ _=>k .ae h false else none
  |none=>none
 |.view sz n g cap=>match qZ P t with
  |some e=>bif zx P e&&(sz==qS P e) then Yt n n cap f o d λl r c=>bif Nat.ble r n then k (.view sz (r-l) (λj=>g (l+j)) c) h false else none
   else none
  |none=>none
 |.own i aj a len cap=>match qZ P t with
  |some e=>Qf h i aj λb=>bif zx P e&&(b.sz==qS P e) then
   Yt len (b.n-a) cap f o d λl r c=>k (.own i aj (a+l) (r-l) c) h false
   else none
  |none=>none
 |_=>none
def K4(t:TypeId)(x:T)(f:Nat)(h:qa)(k:Qg R):Option R :=
 match x,Zj P t f with
 |.agg l,some (a,d)=>ld P d (l.drop a) λv=>k v h false
 |_,_=>none
def Zk(t:TypeId)(x:T)(f:Nat)(h:qa)(k:Qg R):Option R :=
 match x,Zj P t f with
 |.ptr i aj j o,some (a,_)=>Qf h i aj λ_=>k (.ptr i aj j (o+a)) h false
 |.vp cells,some (a,_)=>k (.vp (cells.drop a)) h false
 |_,_=>none
def BK:Nat->Nat->(Nat->Option R)->Option R
 |0,_,_=>none
 |1,_,k=>k 0
 |n+2,i,k=>bif i==n+1 then k (n+1) else BK (n+1) i k
def Yu(n i:Nat)(k:Nat->Option R):Option R:=bif Nat.ble n 8 then BK n i k else k i
def Sn{n i:Nat}{k:Nat->Option R}{r:R}(d:i<n)(h:BK n i k=some r):k i=some r:=by
 induction n with
 |zero=>omega
 |succ n a =>
  cases n with
  |zero=>obtain rfl:i=0:=ab
         exact h
  |succ n =>
   grind[BK]
def Zb{n i:Nat}{k:Nat->Option R}{r:R}(d:i<n)(h:Yu n i k=some r):k i=some r:=by
 unfold Yu at h;cases a:Nat.ble n 8 with
 |true=>rw[a] at h;exact Sn d h
 |false=>rw[a] at h;exact h
def zn(t:TypeId)(x i:T)(h:qa)(k:Qg R):Option R :=
 match i with
 |.int _ i=>match x with
  |.own b aj a len _=>match qZ P t with
   |some e=>Qf h b aj λdZ=>bif zx P e&&(dZ.sz==qS P e) then(bif decide (0<=i)&&decide (i<(len:Int)) then(bif dZ.iN then BK dZ.n (a+i.toNat) λj=>k (.ptr b aj j 0) h false else k (.ptr b aj (a+i.toNat) 0) h false) else none) else none
   |none=>none
  |.view sz n g _=>match qZ P t with
   |some e=>bif zx P e&&(sz==qS P e) then(bif decide (0<=i)&&decide (i<(n:Int)) then k (.vp (g i.toNat)) h false else none) else none
   |none=>none
  |.ptr b aj j o=>match QT P t with
   |some (n,e)=>bif zx P e&&decide (0<=i)&&decide (i<(n:Int)) then Qf h b aj λdZ=>bif (dZ.sz==qS P e)&&Nat.blt 1 dZ.n then k (.ptr b aj (j+i.toNat) o) h false else Yu n i.toNat λi=>k (.ptr b aj j (o+i*qS P e)) h false else none
   |none=>none
  |.vp cells=>match QT P t with
   |some (n,e)=>bif zx P e&&decide (0<=i)&&decide (i<(n:Int)) then Yu n i.toNat λi=>k (.vp (cells.drop (i*qS P e))) h false else none
   |none=>none
  |_=>none
 |_=>none
def K5(t:TypeId)(x i:T)(h:qa)(k:Qg R):Option R :=
 match x,i with
 |.str s,.int _ i=>bif JT P t then(bif decide (0<=i)&&decide (i<(s.length:Int)) then k (.int .u8 ((s.getD i.toNat 0).toNat:Int)) h false else none) else none
 |.agg l,.int _ i=>match QT P t with
  |some (n,e)=>bif zx P e&&decide (0<=i)&&decide (i<(n:Int)) then Yu n i.toNat λi=>ld P e (l.drop (i*qS P e)) λv=>k v h false else none
  |none=>none
 |_,_=>none
def Z7(x:T)(a:Nat)(h:qa)(k:Qg R):Option R :=
 match x with
 |.aJ l=>match l[a]? with|some v=>k v h false|none=>none
 |_=>none
def M5(t:TypeId):Bool:=match P.underlying t with|some .bool=>true|_=>false
def M6(t:TypeId):Bool:=match P.underlying t with|some (.int _)=>true|_=>false
def Iw(t:TypeId):Bool:=match P.underlying t with|some (.func _ _ _)=>true|_=>false
def K6(t:TypeId):Option (List Field):=match P.underlying t with|some (.struct fs)=>some fs.toList|_=>none
def eqFields(d:TypeId->T->T->(Bool->Option R)->Option R)(l m:List T):List Field->(Bool->Option R)->Option R
 |[],k=>k true
 |f::fs,k=>bif f.name=="_" then eqFields d l m fs k else
  ld P f.type (l.drop f.offset) λa=>ld P f.type (m.drop f.offset) λb=>d f.type a b λr=>bif r then eqFields d l m fs k else k false
def eqItems(d:TypeId->T->T->(Bool->Option R)->Option R)(l m:List T)(e:TypeId):List Nat->(Bool->Option R)->Option R
 |[],k=>k true
 |i::f,k=>ld P e (l.drop (i*P.cellsOf e)) λa=>ld P e (m.drop (i*P.cellsOf e)) λb=>d e a b λr=>bif r then eqItems d l m e f k else k false
def FM(t:TypeId):Option (Nat×TypeId):=match P.underlying t with|some (.array n e)=>(match P.info? e with|some _=>some (n,e)|none=>none)|_=>none
def KY:Nat->TypeId->T->T->(Bool->Option R)->Option R
 |0,_,_,_,_=>none
 |d+1,t,x,y,k =>
  match x,y with
  |.int f a,.int e b=>bif M6 P t&&decide (f=e) then k (decide (a=b)) else none
  |.bool a,.bool b=>bif M5 P t then k (bif a then b else !b) else none
  |.str a,.str b=>bif JT P t then k (decide (a=b)) else none
  |.agg l,.agg m=>match K6 P t with
   |some fs=>bif P.stoodInHeld t then none else eqFields P (KY d) l m fs k
   |none=>match FM P t with
    |some ne=>eqItems P (KY d) l m ne.2 (List.range ne.1) k
    |none=>none
  |_,_=>none
def Dz(t:TypeId)(x y:T)(h:qa)(k:Bool->Option R):Option R :=
 match x,y with
 |.int e a,.int d b=>bif decide (e=d) then k (decide (a=b)) else none
 |.str a,.str b=>k (decide (a=b))
 |.bool _,.bool _=>KY P 1 t x y k
 |.agg _,.agg _=>bif P.eqGuardType P.depth t then none else KY P 10 t x y k
 |.ae,.ae=>bif (qZ P t).isSome then k true else none
 |.ae,.view _ n _ c|.view _ n _ c,.ae=>bif (qZ P t).isSome&&(Nat.blt 0 (c.getD 0) || Nat.blt 0 n) then k false else none
 |.ae,.own i aj _ _ _|.own i aj _ _ _,.ae=>bif (qZ P t).isSome then Qf h i aj λb=>bif Nat.blt 0 b.n then k false else none else none
 |.eO,.eO=>bif Iw P t then k true else none
 |.eO,.fn ..|.fn ..,.eO=>bif Iw P t then k false else none
 |_,_=>none
def FN(a:BinOp)(k:IntKind)(x y:Int):Int :=
 match a with
 |.and=>k.wrap (BitVec.ofInt k.bits x &&& BitVec.ofInt k.bits y).toNat
 |.or=>k.wrap (BitVec.ofInt k.bits x ||| BitVec.ofInt k.bits y).toNat
 |.xor=>k.wrap (BitVec.ofInt k.bits x ^^^ BitVec.ofInt k.bits y).toNat
 |_=>k.wrap (BitVec.ofInt k.bits x &&& ~~~(BitVec.ofInt k.bits y)).toNat
def Ix(e:BinOp)(d:IntKind)(a b:Int)(h:qa)(k:Qg R):Option R :=
 match e with
 |.add=>k (.int d (d.wrap (a+b))) h false
 |.sub=>k (.int d (d.wrap (a-b))) h false
 |.mul=>k (.int d (d.wrap (a*b))) h false
 |.quo=>bif decide (b=0) then none else k (.int d (d.wrap (a.tdiv b))) h false
 |.rem=>bif decide (b=0) then none else k (.int d (a.tmod b)) h false
 |.and|.or|.xor|.andNot=>k (.int d (FN e d a b)) h false
 |.lss=>k (.bool (decide (a<b))) h false
 |.leq=>k (.bool (decide (a<=b))) h false
 |.gtr=>k (.bool (decide (b<a))) h false
 |.geq=>k (.bool (decide (b<=a))) h false
 |_=>none
def Iy(d:BinOp)(a b:List UInt8)(h:qa)(k:Qg R):Option R :=
 match d with
 |.add=>bif Nat.ble (a.length+b.length) 9223372036854775807 then k (.str (a++b)) h false else none
 |.lss=>k (.bool (Op.bytesLess a b)) h false
 |.geq=>k (.bool (!(Op.bytesLess a b))) h false
 |.leq=>k (.bool (Op.bytesLess a b || decide (a=b))) h false
 |.gtr=>k (.bool (!(Op.bytesLess a b || decide (a=b)))) h false
 |_=>none
def JW(e:BinOp)(d:IntKind)(a b:Int)(h:qa)(k:Qg R):Option R :=
 bif decide (0<=b) then match e with
  |.shl=>k (.int d (d.wrap (a*2 ^ min b.toNat d.bits))) h false
  |.shr=>k (.int d (a.fdiv (2 ^ min b.toNat d.bits))) h false
  |_=>none
 else none
def kO(d:BinOp)(x y:T)(h:qa)(k:Qg R):Option R :=
 match x,y with
 |.int e a,.int _ b=>JW d e a b h k
 |_,_=>none
def K7(d:BinOp)(x y:T)(h:qa)(k:Qg R):Option R :=
 match x,y with
 |.int e a,.int f b=>bif decide (e=f) then Ix d e a b h k else none
 |.str a,.str b=>Iy d a b h k
 |_,_=>none
def Iz(a:BinOp)(t:TypeId)(x y:T)(h:qa)(k:Qg R):Option R :=
 match a with
 |.eql=>Dz P t x y h λb=>k (.bool b) h false
 |.neq=>Dz P t x y h λb=>k (.bool (!b)) h false
 |.shl|.shr=>kO a x y h k
 |_=>K7 a x y h k
def FO(e:UnOp)(x:T)(h:qa)(k:Qg R):Option R :=
 match e,x with
 |.not,.bool b=>k (.bool (!b)) h false
 |.neg,.int d a=>k (.int d (d.wrap (0-a))) h false
 |_,_=>none
def K8:List T->Option Int
 |[.int .u8 n]=>some n
 |_=>none
def ZR:List (List T)->(List UInt8->Option R)->Option R
 |[],k=>k []
 |e::l,k=>match K8 e with
  |some n=>ZR l λm=>k (UInt8.ofNat n.toNat::m)
  |none=>none
def yw(g:Nat->List T)(n:Nat):List (List T):=(List.range n).map g
def qpL(g:Nat->List T)(n:Nat):Bool:=(yw g n).all λe=>(K8 e).isSome
def quu(g:Nat->List T)(n:Nat):List UInt8:=(yw g n).map λe=>UInt8.ofNat ((K8 e).getD 0).toNat
def Jy(g:Nat->List T)(n:Nat)(k:List UInt8->Option R):Option R:=bif qpL g n then k (quu g n) else none
def Yv(d a:TypeId)(x:T)(h:qa)(k:Qg R):Option R :=
 match x with
 |.int _ n=>match P.underlying a with
  |some (.int o)=>k (.int o (o.wrap n)) h false
  |_=>none
 |.str s=>match P.underlying a with
  |some .string=>k (.str s) h false
  |_=>none
 |.ae=>match P.underlying d,P.underlying a with
  |some (.slice e),some .string=>match P.underlying e with
   |some (.int .u8)=>k (.str []) h false
   |_=>none
  |_,_=>none
 |.view sz n g _=>match P.underlying d,P.underlying a with
  |some (.slice e),some .string=>match P.underlying e with
   |some (.int .u8)=>bif sz==1 then Jy g n λl=>k (.str l) h false else none
   |_=>none
  |_,_=>none
 |.own i aj f len _=>match P.underlying d,P.underlying a with
  |some (.slice e),some .string=>match P.underlying e with
   |some (.int .u8)=>Qf h i aj λb=>bif b.sz==1&&Nat.ble (f+len) b.n then Jy (λj=>b.get (f+j)) len λl=>k (.str l) h false else none
   |_=>none
  |_,_=>none
 |_=>none
def resolve:Nat->List Nat->qa->T->T
 |0,_,_,x=>bif zV x then x else .undef
 |d+1,ex,h,x=>match x with
  |.own i aj a len cap=>bif ex.contains i then .undef else match h[i]? with
   |some b=>bif b.mp.isNone&&(b.aj==aj&&Nat.ble (a+len) b.n) then
    .view b.sz len (bif b.flat then λj=>b.get (a+j) else λj=>(b.get (a+j)).map (resolve d ex h)) cap
    else .undef
   |none=>.undef
  |.ptr i aj j o=>bif ex.contains i then .undef else match h[i]? with
   |some b=>bif b.mp.isNone&&(b.aj==aj&&Nat.blt j b.n) then
    .vp (bif b.flat then(b.get j).drop o else((b.get j).drop o).map (resolve d ex h))
    else .undef
   |none=>.undef
  |.agg l=>.agg (l.map (resolve d ex h))
  |.aJ l=>.aJ (l.map (resolve d ex h))
  |.fn f e=>.fn f (e.map (resolve d ex h))
  |.iface t v=>.iface t (resolve d ex h v)
  |x=>bif zV x then x else .undef
def zr(h:qa)(x:T):T:=bif aF x then x else resolve 4 [] h x
def kP:T->List Nat
 |.own i _ _ _ _=>[i]
 |.mp i _=>[i]
 |_=>[]
def zW:List Nat->Bool
 |[]=>true
 |a::l=>!(l.contains a)&&zW l
def JX(ok:Bool)(all:List Nat)(h:qa)(x:T):T :=
 match x with
 |.own i aj a len cap=>bif ok then match h[i]? with
  |some b=>bif b.mp.isNone&&(b.aj==aj&&Nat.ble (a+len) b.n) then
   .fresh b.flat b.sz (b.n-a) (bif b.flat then λj=>b.get (a+j) else λj=>(b.get (a+j)).map (resolve 3 all h)) len cap
   else .undef
  |none=>.undef
  else .undef
 |.mp i aj=>bif ok then match h[i]? with
  |some b=>bif b.aj==aj then(match b.mp with|some m=>.iC m|none=>.undef) else .undef
  |none=>.undef
  else .undef
 |x=>bif aF x then x else resolve 4 all h x
def EB(ok:Bool)(all:List Nat)(h:qa)(x:T):T :=
 match x with
 |.agg m=>.agg (m.map (JX ok all h))
 |y=>JX ok all h y
def Cs:T->List Nat
 |.agg m=>m.flatMap kP
 |x=>kP x
def ZP:T->List Nat
 |.aJ l=>l.flatMap Cs
 |x=>Cs x
def kQ(h:qa)(x:T):T :=
 match x with
 |.aJ l=>.aJ (l.map (EB (zW (ZP x)) (ZP x) h))
 |y=>EB (zW (ZP x)) (ZP x) h y
def EC(x:T):T :=
 match x with
 |.bool _|.int _ _|.str _|.lz|.ae|.eO|.mB|.iV=>x
 |_=>.undef
def IA(x:T):T :=
 match x with
 |.view _ n _ _=>.view 0 n (λ_=>[]) none
 |x=>EC x
def Z4(safe:Bool)(h:qa)(x:T):T×qa :=
 match x with
 |.fresh flat sz n g len cap=>bif safe || flat then(.own h.length 0 0 len cap,h++[⟨0,sz,n,g,flat,false,none⟩]) else(.own h.length 0 0 len cap,h++[⟨0,sz,n,λj=>(g j).map IA,false,false,none⟩])
 |.iC m=>(.mp h.length 0,h++[yX 0 m])
 |.new x=>(x,h)
 |x=>(bif safe then x else EC x,h)
def Yw(safe:Bool)(h:qa):List T->List T×qa
 |[]=>([],h)
 |x::l=>let (y,d):=Z4 safe h x;let (m,a):=Yw safe d l;(y::m,a)
def yO(safe:Bool)(h:qa)(x:T):T×qa :=
 match x with
 |.agg l=>let (m,a):=Yw safe h l;(.agg m,a)
 |x=>Z4 safe h x
def ZD(safe:Bool)(h:qa):List T->List T×qa
 |[]=>([],h)
 |x::l=>let (y,d):=yO safe h x;let (m,a):=ZD safe d l;(y::m,a)
def Zw(safe:Bool)(h:qa)(x:T):T×qa :=
 match x with
 |.aJ l=>let (m,a):=ZD safe h l;(.aJ m,a)
 |x=>yO safe h x
def ZS:T->Bool
 |.fresh ..|.iC _=>false
 |_=>true
def ZT:T->Bool
 |.agg l=>l.all ZS
 |x=>ZS x
def Kl:T->Bool
 |.aJ l=>l.all ZT
 |x=>ZT x
structure bv where
 cJ:FuncId->Bool
 val:FuncId->List T->∀R:Type,(T->Option R)->Option R
 ref:FuncId->List T->qa->∀R:Type,(T->qa->Option R)->Option R
 dv:∀f args,cZ (val f args)
 dw:∀f args h,cZ (A:=T×qa) λR k=>ref f args h R λv h=>k (v,h)
 ro:FuncId->Bool:=λ_=>false
variable (K:bv)
def Km(f:T)(args:List T)(h:qa)(k:Qg R):Option R :=
 match f with
 |.fn f a =>
  bif K.cJ f then(bif K.ro f then K.ref f (args++a) h R λv _=>k v h false else K.ref f (args++a) h R λv h'=>k v h' true)
  else K.val f ((args++a).map (zr h)) R λr=>k (Zw ((args++a).all aF) h r).1 (Zw ((args++a).all aF) h r).2 (!(Kl r))
 |_=>none
def K9(sz:Nat)(x:T)(h:qa)(k:Nat->(Nat->List T)->Bool->Option R):Option R :=
 match x with
 |.ae=>k 0 (λ_=>[]) true
 |.view d n g _=>bif d==sz then k n g false else none
 |.own i aj a len _=>Qf h i aj λb=>bif (b.sz==sz)&&Nat.ble (a+len) b.n then k len (λj=>b.get (a+j)) b.flat else none
 |.str s=>bif sz==1 then k s.length (λj=>[.int .u8 ((s.getD j 0).toNat:Int)]) true else none
 |_=>none
def Qk(c:T):T:=bif qK c then c else .undef
def Y3(pl:Bool)(sz:Nat)(x:T)(h:qa)(k:Nat->(Nat->List T)->Bool->Option R):Option R :=
 K9 sz x h λm a d=>bif d then k m a true else bif pl then k m (λj=>(a j).map Qk) true else k m a false
def Qd(m:Nat)(g:Nat->List T)(flat:Bool):Bool :=
 flat || (Nat.ble m 8&&(List.range m).all λj=>(g j).all qK)
def QB(aj sz len m:Nat)(g gx:Nat->List T)(flat:Bool):ap :=
 ⟨aj,sz,len+m,λj=>bif Nat.blt j len then g j else gx (j-len),flat,false,none⟩
def Kn(e:TypeId)(n:Nat):Bool:=Nat.ble (n*(YY P e+1)) 70368744177664
def IB(pl:Bool)(sz len m:Nat)(g gx:Nat->List T)(a:Bool):ap:=bif pl then QB 0 sz len m (λj=>(g j).map Qk) gx a else QB 0 sz len m g gx (Qd len g false&&a)
def Z8(t:TypeId)(s x:T)(h:qa)(k:Qg R):Option R :=
 match qZ P t with
 |none=>none
 |some e=>bif yY P e then Y3 ((Ql P e).all qK) (qS P e) x h λm d f =>
  match s with
  |.ae=>bif m==0 then k .ae h false
   else bif Kn P e m then k (.own h.length 0 0 m none) (h++[⟨0,qS P e,m,d,Qd m d f,false,none⟩]) true else none
  |.view sz n g cap=>bif sz==qS P e then bif m==0 then k s h false else match cap with
   |some c=>bif Nat.blt c (n+m)&&Kn P e (n+m) then
    k (.own h.length 0 0 (n+m) none) (h++[IB ((Ql P e).all qK) sz n m g d (Qd m d f)]) true else none
   |none=>none
   else none
  |.own i aj a len cap=>Qf h i aj λb=>bif (b.sz==qS P e)&&Nat.ble (a+len) b.n then
   bif m==0 then k s h false else
   bif Kn P e (len+m) then
    match cap with
    |some c=>bif Nat.ble (len+m) c then
     bif Nat.ble (a+len+m) b.n then
      k (.own i aj a (len+m) cap) (h.set i { b with get:=λj=>bif Nat.ble (a+len) j&&Nat.blt j (a+len+m) then d (j-(a+len)) else b.get j,flat:=b.flat&&Qd m d f }) true
     else none
     else k (.own h.length 0 0 (len+m) none) (h++[QB 0 b.sz len m (λj=>b.get (a+j)) d (b.flat&&Qd m d f)]) true
    |none=>bif Nat.ble (a+len+m) b.n then
     k (.own i aj a (len+m) none) (h.set i { b with get:=λj=>bif Nat.ble (a+len) j&&Nat.blt j (a+len+m) then d (j-(a+len)) else b.get j,flat:=b.flat&&Qd m d f }) true
     else k (.own i (aj+1) 0 (len+m) none) (h.set i (QB (aj+1) b.sz len m (λj=>b.get (a+j)) d (b.flat&&Qd m d f))) true
   else none
   else none
  |_=>none
  else none
def JY(t:TypeId)(d x:T)(h:qa)(k:Qg R):Option R :=
 match qZ P t with
 |none=>none
 |some e=>bif zx P e then Y3 ((Ql P e).all qK) (qS P e) x h λm f g =>
  match d with
  |.ae=>k (.int .i64 0) h false
  |.own i aj a len _=>Qf h i aj λb=>bif (b.sz==qS P e)&&Nat.ble (a+len) b.n then
   k (.int .i64 ((Nat.min m len:Nat):Int)) (h.set i { b with get:=λj=>bif Nat.ble a j&&Nat.blt j (a+Nat.min m len) then f (j-a) else b.get j,flat:=b.flat&&Qd m f g }) true
   else none
  |_=>none
  else none
def ja(t:TypeId)(d:T)(h:qa)(k:Qg R):Option R :=
 match qZ P t with
 |none=>none
 |some e=>bif yY P e then
  match d with
  |.ae=>k (.aJ []) h false
  |.own i aj a len _=>Qf h i aj λb=>bif (b.sz==qS P e)&&Nat.ble (a+len) b.n then
   k (.aJ []) (h.set i { b with get:=λj=>bif Nat.ble a j&&Nat.blt j (a+len) then Ql P e else b.get j,flat:=b.flat&&(Ql P e).all qK }) true
   else none
  |_=>none
  else none
def Jz(t:TypeId)(x:T)(h:qa)(k:Qg R):Option R :=
 match x with
 |.str s=>bif JT P t then k (.int .i64 (s.length:Int)) h false else none
 |.ae=>bif (qZ P t).isSome then k (.int .i64 0) h false else none
 |.view _ n _ _=>bif (qZ P t).isSome then k (.int .i64 (n:Int)) h false else none
 |.own i aj _ len _=>bif (qZ P t).isSome then Qf h i aj λ_=>k (.int .i64 (len:Int)) h false else none
 |.agg _=>match QT P t with
  |some (n,_)=>k (.int .i64 (n:Int)) h false
  |none=>none
 |_=>none
def IC(t:TypeId)(x:T)(h:qa)(k:Qg R):Option R :=
 bif (qZ P t).isSome then match x with
  |.ae=>k (.int .i64 0) h false
  |.view _ _ _ (some c)=>k (.int .i64 (c:Int)) h false
  |.own i aj _ _ (some c)=>Qf h i aj λ_=>k (.int .i64 (c:Int)) h false
  |_=>none
 else none
def zy:List (Option IntKind)->List T->(List Int->Option R)->Option R
 |[],[],k=>k []
 |some a::fs,.int q n::l,k=>bif decide (q=a) then zy fs l λm=>k (n::m) else none
 |none::fs,.bool b::l,k=>zy fs l λm=>k ((bif b then 1 else 0)::m)
 |_,_,_=>none
def FQ:Nat->List Field->Option (List (Option IntKind))
 |_,[]=>some []
 |i,f::fs=>bif (f.offset==i)&&!(f.name=="_")&&zx P f.type then match P.underlying f.type,FQ (i+1) fs with
  |some (.int q),some l=>some (some q::l)
  |some .bool,some l=>some (none::l)
  |_,_=>none
  else none
def ID(k:TypeId):Option KS:=match P.underlying k with
 |some (.int q)=>some (.int q)
 |some (.struct fs)=>bif !(P.stoodInHeld k) then(match FQ P 0 fs.toList with|some l=>some (.row l)|none=>none) else none
 |_=>none
def jL(ks:KS)(x:T)(k:List Int->Option R):Option R :=
 match ks,x with
 |.int q,.int a n=>bif decide (a=q) then k [n] else none
 |.row fs,.agg l=>zy fs l k
 |_,_=>none
def So(e:TypeId)(q:IntKind):Bool:=match P.info? e with
 |some i=>match i.zero with|some (.int a z)=>decide (a=q)&&decide (z=0)|_=>false
 |none=>false
def JZ(t:TypeId):Option (TypeId×KS×IntKind):=match P.underlying t with
 |some (.map k e)=>match P.underlying e,ID P k with
  |some (.int q),some ks=>bif So P e q then some (k,ks,q) else none
  |_,_=>none
 |_=>none
def Z9(t:TypeId)(h:qa)(k:Qg R):Option R :=
 match JZ P t with
 |some (_,ks,q)=>k (.mp h.length 0) (h++[yX 0 (.made ks q)]) true
 |none=>none
def Y4(t:TypeId)(x:T)(h:qa)(k:Nat->ap->bk->Option R):Option R :=
 match x with
 |.mp i aj=>y9 h i aj λb m=>match JZ P t with
  |some (_,ks,q)=>bif decide (m.ks=ks)&&decide (m.q=q) then k i b m else none
  |none=>none
 |_=>none
def Z5(t:TypeId)(x key:T)(h:qa)(k:Nat->ap->bk->List Int->Option R):Option R :=
 Y4 P t x h λi b m=>jL m.ks key λl=>k i b m l
def QX(t:TypeId)(x key:T)(c:Bool)(h:qa)(k:Qg R):Option R :=
 Z5 P t x key h λ_ _ m l=>k (bif c then .aJ [.int m.q (m.val l),.bool (m.has l)] else .int m.q (m.val l)) h false
def Yj(t:TypeId)(x key v:T)(h:qa)(k:Qg R):Option R :=
 match v with
 |.int a z=>Z5 P t x key h λi b m l=>bif decide (a=m.q) then k .undef (h.set i ({ b with mp:=some (m.put l z) })) true else none
 |_=>none
def yQ(t:TypeId)(x key:T)(h:qa)(k:Qg R):Option R :=
 Z5 P t x key h λi b m l=>k (.aJ [.int m.q (m.val l),.int .i64 (m.lh l)]) (h.set i ({ b with mp:=some (m.entry l) })) true
def zO(t:TypeId)(x st v:T)(h:qa)(k:Qg R):Option R :=
 match st,v with
 |.int ks n,.int a z=>Y4 P t x h λi b m=>match m.last with
  |some (l,s)=>bif decide (a=m.q)&&decide (ks = .i64)&&decide (n=(s:Int)) then k .undef (h.set i ({ b with mp:=some (m.put l z) })) true else none
  |none=>none
 |_,_=>none
def kR(t a:TypeId)(x key:T)(h:qa)(k:Qg R):Option R :=
 match JZ P t with
 |some (d,_)=>bif d==a then Z5 P t x key h λi b m l=>k (.aJ []) (h.set i ({ b with mp:=some (m.del l) })) true else none
 |none=>none
def jM(e:Bool)(x y:T)(h:qa)(k:Qg R):Option R :=
 match x,y with
 |.int d a,.int f b=>bif decide (d=f) then k (.int d (bif e then(bif decide (a<b) then b else a) else(bif decide (b<a) then b else a))) h false else none
 |_,_=>none
def Zc(b:Builtin)(a:List TypeId)(args:List T)(h:qa)(k:Qg R):Option R :=
 match b,a,args with
 |.len,t::_,[x]=>Jz P t x h k
 |.cap,t::_,[x]=>IC P t x h k
 |.append,t::e::_,[s,x]=>bif (qZ P e).isSome || JT P e then Z8 P t s x h k else none
 |.copy,t::_,[d,x]=>JY P t d x h k
 |.clear,t::_,[d]=>ja P t d h k
 |.min,_,[x,y]=>jM false x y h k
 |.max,_,[x,y]=>jM true x y h k
 |.delete,[t,f],[x,y]=>kR P t f x y h k
 |_,_,_=>none
structure FP where
 rs:List Nat
 ws:List Nat
 rd:Bool
 wr:Bool
 rb:Option Nat×Bool
 wb:Option Nat×Bool
variable (G:Nat->Option (List T)) (aa:List Nat) (nt:Nat)
def ev(s:St):Operand->T
 |.tmp t=>bif aa.contains t then .undef else s.at t
 |.const v=>bif Iv v then KP v else .undef
 |.func f=>.fn f []
 |.global g=>match G g with|some cells=>.vp cells|none=>.undef
def zb:Operand->List Nat
 |.tmp t=>[t]
 |_=>[]
def base(s:St):Operand->Option (Nat×Nat)
 |.tmp x=>bif aa.contains x then some (x,0) else s.loc x
 |_=>none
def FR(x:T)(h:qa)(k:Qg R):Option R :=
 match x with
 |.vp _|.fn ..=>k x h false
 |.ptr i aj _ _=>Qf h i aj λ_=>k x h false
 |_=>none
def Qh(d:Op)(e:Operand->T)(h:qa)(k:Qg R):Option R :=
 match d with
 |.move x|.assign x=>k (e x) h false
 |.pick c a b=>match e c with|.bool t=>bif t then k (e a) h false else k (e b) h false|_=>none
 |.alloc g=>bif yY P g then Yi P g h k else none
 |.box _ x=>bif Zz (e x) then JU (e x).cells h k else none
 |.build t parts=>K3 P t (parts.toList.map λp=>(p.1,e p.2)) h k
 |.buildSlice t len parts=>zM P t len (parts.toList.map λp=>(p.1,e p.2)) h k
 |.load t a=>Ki P t (e a) h k
 |.store t a v=>K2 P t (e a) (e v) h k
 |.nilCheck x=>FR (e x) h k
 |.binOp d t x y _=>Iz P d t (e x) (e y) h k
 |.unOp d _ x=>FO d (e x) h k
 |.convert a b x=>bif (P.underlying a).isSome then Yv P a b (e x) h k else none
 |.makeFunc (.func f) first captured=>bif first.size==0 then k (.fn f (captured.toList.map e)) h false else none
 |.makeSlice t l c=>JV P t (e l) (e c) h k
 |.slice t x o r j=>zm P t (e x) (o.map e) (r.map e) (j.map e) h k
 |.fieldAddr t x f=>Zk P t (e x) f h k
 |.field t x f=>K4 P t (e x) f h k
 |.indexAddr t x i=>zn P t (e x) (e i) h k
 |.index t x i=>K5 P t (e x) (e i) h k
 |.extract x i=>Z7 (e x) i h k
 |.makeMap t none=>Z9 P t h k
 |.lookup t x i c=>QX P t (e x) (e i) c h k
 |.mapUpdate t x i v=>Yj P t (e x) (e i) (e v) h k
 |.mapEntry t x i=>yQ P t (e x) (e i) h k
 |.entryStore t x s v=>zO P t (e x) (e s) (e v) h k
 |.call { callee:=.value f,args,.. }=>Km K (e f) (args.toList.map e) h k
 |.call { callee:=.builtin b,args,argTypes }=>Zc P b argTypes.toList (args.toList.map e) h k
 |_=>none
def M8:Op->Bool
 |.move _|.assign _|.pick ..|.build ..|.makeFunc ..|.field ..|.index ..|.extract ..|.unOp ..=>true
 |_=>false
def DA:Op->Bool
 |.load ..|.nilCheck _|.binOp ..|.convert ..|.slice ..|.fieldAddr ..|.indexAddr ..=>true
 |.call { callee:=.builtin .len,.. }|.call { callee:=.builtin .cap,.. }|.call { callee:=.builtin .min,.. }|.call { callee:=.builtin .max,.. }=>true
 |_=>false
def JA(op:Op)(e:Operand->T):Bool:=M8 op || (DA op&&op.operands.toList.all λx=>aF (e x))
def QJ(a:Op)(e:Operand->T):Bool :=
 match a with
 |.call { callee:=.value f,args,.. }=>match e f with
  |.fn f d=>K.cJ f || !((args.toList.map e++d).all aF)
  |_=>true
 |_=>true
def Qz(op:Op):List Nat:=op.operands.toList.flatMap zb
def jb:T->Option Nat
 |.ptr i _ _ _=>some i
 |_=>none
def ED:T->Option Nat
 |.own i _ _ _ _=>some i
 |_=>none
def Je:T->Option Nat
 |.mp i _=>some i
 |_=>none
def zL(d:Op)(e:Operand->T):Option Nat :=
 match d with
 |.load _ a=>jb (e a)
 |.fieldAddr _ a _=>jb (e a)
 |.nilCheck a=>jb (e a)
 |.indexAddr _ x _=>match e x with|.own i _ _ _ _=>some i|.ptr i _ _ _=>some i|_=>none
 |.slice _ x _ _ _=>ED (e x)
 |.lookup _ x _ _=>Je (e x)
 |_=>none
def kS(d:Op)(e:Operand->T)(h:qa)(v:T):Option Nat :=
 match d with
 |.store _ a _=>jb (e a)
 |.buildSlice ..=>some h.length
 |.alloc _=>some h.length
 |.box ..=>some h.length
 |.makeMap ..=>some h.length
 |.mapUpdate _ x _ _=>Je (e x)
 |.mapEntry _ x _=>Je (e x)
 |.entryStore _ x _ _=>Je (e x)
 |.call { callee:=.builtin .append,.. }=>ED v
 |_=>none
def zY(op:Op)(e:Operand->T)(h:qa)(v:T)(wr:Bool):Option Nat :=
 match op with
 |.call { callee:=.value f,.. }=>match e f with
  |.fn g _=>bif K.cJ g || !wr then none else match v with
   |.own i _ _ _ _=>bif i==h.length then some i else none
   |_=>none
  |_=>none
 |op=>kS op e h v
def Jf(a:Op):Bool:=match a with|.lookup _ _ _ c=>!c|_=>false
def Ct(a:Op):Bool:=match a with|.mapEntry ..=>true|_=>false
def EE{A:Type}(v:T)(k:T->Option A):Option A :=
 match v with
 |.bool b=>bif b then k (.bool true) else k (.bool false)
 |v=>k v
def done(o:Oper)(s:St)(v:T)(hp:Option qa)(rs:List Nat)(rd wr:Bool)(k:dJ->FP->Option R):Option R :=
 match o.dst with
 |none=>k ⟨none,none,hp⟩ ⟨rs,[],rd,wr,(none,false),(none,false)⟩
 |some d=>bif Nat.blt d nt&&!(s.used d) then EE v λv=>k ⟨some (d,v),some (d,none),hp⟩ ⟨rs,[d],rd,wr,(none,false),(none,false)⟩ else none
def z9(o:Oper)(t off:Nat)(rs:List Nat)(k:dJ->FP->Option R):Option R :=
 match o.dst with
 |none=>none
 |some d=>bif Nat.blt d nt&&!(aa.contains d) then k ⟨some (d,.undef),some (d,some (t,off)),none⟩ ⟨t::rs,[d],false,false,(none,false),(none,false)⟩ else none
def Qi(o:Oper)(s:St)(k:dJ->FP->Option R):Option R :=
 bif JA o.op (ev G aa s) then Qh P K o.op (ev G aa s) [] λv _ wr=>bif wr then none else done nt o s v none (Qz o.op) false false k
 else Qh P K o.op (ev G aa s) s.h λv h wr=>done nt o s v (bif wr then some h else none) (Qz o.op) (QJ K o.op (ev G aa s)) wr λf a=>k f { a with rb:=(zL o.op (ev G aa s),Jf o.op),wb:=(zY K o.op (ev G aa s) s.h v wr,Ct o.op) }
def zZ(o:Oper)(s:St)(k:dJ->FP->Option R):Option R :=
 match o.op with
 |.box _ x=>match o.dst with
  |some d=>bif aa.contains d then(bif Zz (ev G aa s x) then done nt o s (.ag (ev G aa s x).cells) none (zb x) false false k else none) else Qi P K G aa nt o s k
  |none=>none
 |.alloc j=>match o.dst with
  |some d=>bif aa.contains d then(bif yY P j then done nt o s (.ag (Ql P j)) none [] false false k else none) else Qi P K G aa nt o s k
  |none=>none
 |.load j a=>match base aa s a with
  |some (t,g)=>match s.at t with
   |.ag cells=>ld P j (cells.drop g) λv=>done nt o s v none (t::zb a) false false k
   |_=>none
  |none=>Qi P K G aa nt o s k
 |.store j a x=>match base aa s a with
  |some (t,g)=>match s.at t,o.dst with
   |.ag cells,none=>bif zx P j&&((ev G aa s x).cells.length==qS P j)&&Zz (ev G aa s x)&&Nat.ble (g+qS P j) cells.length then
    k ⟨some (t,.ag (yZ cells g (ev G aa s x).cells)),none,none⟩ ⟨t::(zb a++zb x),[t],false,false,(none,false),(none,false)⟩ else none
   |_,_=>none
  |none=>Qi P K G aa nt o s k
 |.fieldAddr j a f=>match base aa s a with
  |some (t,g)=>match s.at t with
   |.ag _=>match Zj P j f with
    |some (u,_)=>z9 aa nt o t (g+u) (zb a) k
    |none=>none
   |_=>none
  |none=>Qi P K G aa nt o s k
 |.indexAddr j a i=>match base aa s a with
  |some (t,g)=>match s.at t with
   |.ag _=>match ev G aa s i with
    |.int _ r=>match QT P j with
     |some (n,e)=>bif zx P e&&decide (0<=r)&&decide (r<(n:Int)) then Yu n r.toNat λr=>z9 aa nt o t (g+r*qS P e) (zb a++zb i) k else none
     |none=>none
    |_=>none
   |_=>none
  |none=>Qi P K G aa nt o s k
 |.nilCheck a=>match base aa s a with
  |some (t,g)=>match s.at t with
   |.ag _=>z9 aa nt o t g (zb a) k
   |_=>none
  |none=>Qi P K G aa nt o s k
 |_=>Qi P K G aa nt o s k
def ZJ(ops:List Oper)(j:Nat):Option Nat:=match ops[j]? with
 |some o=>o.dst
 |none=>none
def qlj(o:Oper):Bool:=match o.op with
 |.call { callee:=.builtin .append,.. }=>true
 |_=>false
def qnw(cJ:FuncId->Bool)(ops:List Oper):Operand->Bool
 |.tmp c=>ops.any λq=>(match q.dst with|some d=>d==c|none=>false)&&(match q.op with|.call { callee:=.value (.func f),.. }=>!(cJ f)&&!(cJ 1000000)|_=>false)
 |_=>false
def Sp(cJ:FuncId->Bool)(ops:List Oper)(o:Oper):Bool:=match o.op,o.dst with
 |.buildSlice ..,some d=>cJ 1000002 || (Nat.ble 2 (ops.filter qlj).length&&ops.any λq=>match q.op with
  |.call { callee:=.builtin .append,args,.. }=>(match args.toList with|[_,.tmp x]=>x==d|_=>false)
  |_=>false) || (ops.any λq=>match q.op with
  |.call { callee:=.builtin .append,args,.. }=>(match args.toList with|[a,.tmp x]=>x==d&&(qnw cJ ops a || cJ 1000001)|_=>false)
  |_=>false) || ops.any λq=>match q.op with
  |.call { callee:=.value (.func f),args,.. }=>!(cJ f)&&args.toList.any λa=>(match a with|.tmp x=>x==d|_=>false)
  |.buildSlice _ _ parts=>parts.toList.any λp=>(match p.2 with|.tmp x=>x==d|_=>false)
  |_=>false
 |_,_=>false
def Zl(o:Oper)(s:St)(k:dJ->FP->Option R):Option R :=
 match o.op with
 |.buildSlice t len parts=>yM P t len (parts.toList.map λp=>(p.1,ev G aa s p.2)) λv=>done nt o s v none (Qz o.op) false false k
 |_=>none
def jc(s:St)(o:Oper):Bool:=match o.op with
 |.buildSlice _ _ parts=>parts.toList.all λp=>(ev G aa s p.2).cells.all aF
 |_=>false
def zw(ops:List Oper)(o:Oper)(s:St)(k:dJ->FP->Option R):Option R :=
 match o.guard with
 |none=>bif Sp K.cJ ops o&&jc G aa s o then Zl P G aa nt o s k else zZ P K G aa nt o s k
 |some (j,want)=>match ZJ ops j with
  |none=>none
  |some g=>match s.at g with
   |.bool b=>bif aa.contains g then none else bif (bif b then want else !want) then
    zZ P K G aa nt o s λf a=>k f { a with rs:=g::a.rs }
    else done nt o s .gone none [g] false false k
   |.gone=>bif aa.contains g then none else done nt o s .gone none [g] false false k
   |_=>none
def y5(ops:List Oper):List Oper->St->(St->List FP->Option R)->Option R
 |[],s,k=>k s []
 |o::l,s,k=>zw P K G aa nt ops o s λf a=>y5 ops l (f.eP s) λe d=>k e (a::d)
def Jg(a b:List Nat):Bool:=a.any λx=>b.contains x
def IE(w r:Option Nat×Bool):Bool:=(match w.1,r.1 with
 |some i,some j=>!(i==j)
 |_,_=>false) || (w.2&&r.2)
def J0(a b:FP):Bool :=
 Jg a.ws b.rs || Jg a.ws b.ws || Jg b.ws a.rs || (a.wr&&(b.wr || (b.rd&&!(IE a.wb b.rb)))) || (b.wr&&(a.rd&&!(IE b.wb a.rb)))
def IF(before:List Nat):List (Nat×FP)->Bool
 |[]=>true
 |(i,a)::l=>(l.all λp=>(before.getD p.1 0).testBit i || !(J0 a p.2))&&IF before l
def FT:Nat->List Oper->Bool
 |_,[]=>true
 |j,o::l=>(o.after.toList.all λe=>!(Region.binds .any e) || Nat.blt e.on j)&&FT (j+1) l
def M9(ops:Array Oper)(fH:List FP):Bool :=
 FT 0 ops.toList&&IF (Region.before ops).toList ((List.range ops.size).zip fH)
inductive Ex where
 |normal
 |exit (id:Nat)
 |ret
def Za(s:St)(l:List Nat):List T:=l.map s.at
def ya:List Nat->List T->Tr->Tr
 |i::l,v::a,e=>ya l a (bif Nat.blt i 1024 then e.set QS i v else e)
 |_,_,e=>e
def qJ(l:List Nat)(vs:List T)(h:qa):St:={ env:=ya l vs .nil,loc:=λ_=>none,used:=λ_=>false,h:=h }
abbrev Rec:=∀R:Type,Code->List T->qa->(Ex->List T->qa->Option R)->Option R
def qD:Code->Nat
 |.region id _ _=>id
 |.seq a b=>bif qD a==1000000 then qD b else qD a
 |.block _ a=>qD a
 |.scope a=>qD a
 |.loop _=>1000000
 |.rangeFunc _ _ a b=>Nat.min (qD a) (qD b)
 |_=>1000000
def FU:Code->Bool
 |.rangeFunc ..=>true
 |_=>false
def qv:Code->Bool
 |.seq a b=>qv a || qv b
 |.cond _ a b=>qv a || qv b
 |.block _ a=>qv a
 |.loop a=>qv a
 |.scope a=>qv a
 |.rangeFunc ..=>true
 |_=>false
def yc(c:Code):Code:=bif FU c then c else .loop c
variable (live:Nat->Bool->List Nat)
def qF:Code->List Code
 |.seq a b=>qF a++qF b
 |.cond _ a b=>qF a++qF b
 |.block _ a=>qF a
 |.scope a=>qF a
 |.loop a=>a::qF a
 |.rangeFunc f ps a b=>.rangeFunc f ps a b::(qF a++qF b)
 |_=>[]
def qrD(ts fs:List Nat)(s:St):Bool :=
 (ts.all λt=>match s.at t with|.bool b=>b|_=>true)&&(fs.all λt=>match s.at t with|.bool b=>!b|_=>true)
def ic(rec:Rec):Code->St->(Ex->St->Option R)->Option R
 |.skip,s,k=>k .normal s
 |.label _,s,k=>k .normal s
 |.region id ops g,s,k=>y5 P K G aa nt ops.toList ops.toList { s with loc:=λ_=>none,used:=λ_=>false } λd o =>
  bif qrD (live (id+2000000) true) (live (id+2000000) false) d then
   (bif g then(bif M9 ops o then k .normal d else none) else k .normal d) else none
 |.seq a b,s,k=>ic rec a s λe d=>match e with
  |.normal=>ic rec b d k
  |e=>k e d
 |.cond c a b,s,k=>match ev G aa s c with
  |.bool t=>bif t then ic rec a s k else ic rec b s k
  |_=>none
 |.block id b,s,k=>ic rec b s λe d=>match e with
  |.exit i=>bif i==id then k .normal d else k (.exit i) d
  |e=>k e d
 |.scope b,s,k=>ic rec b s k
 |.loop b,s,k=>bif FU b then none else rec R b (Za s (live (qD b) false)) s.h λe j h=>k e (qJ (live (qD b) true) j h)
 |.rangeFunc f ps a b,s,k=>rec R (.rangeFunc f ps a b) (Za s (live (qD (.rangeFunc f ps a b)) false)) s.h λe j h=>k e (qJ (live (qD (.rangeFunc f ps a b)) true) j h)
 |.exit id,s,k=>k (.exit id) s
 |.ret,s,k=>k .ret s
 |_,_,_=>none
def kT:Nat->Rec
 |0,_,_,_,_,_=>none
 |n+1,R,b,d,h,k=>bif FU b then none else ic (R:=R) P K G aa nt live (kT n) b (qJ (live (qD b) false) d h) λe a=>match e with
  |.normal=>kT n R b (Za a (live (qD b) false)) a.h k
  |e=>k e (Za a (live (qD b) true)) a.h
def FV(s:St):ResultVar->(T->Option R)->Option R
 |.tmp t,k=>k (ev G aa s (.tmp t))
 |.cell a e,k=>match base aa s (.tmp a) with
  |some (t,d)=>match s.at t with
   |.ag cells=>ld P e (cells.drop d) k
   |_=>none
  |none=>Ki P e (s.at a) s.h λv _ _=>k v
def jd(s:St):List ResultVar->(List T->Option R)->Option R
 |[],k=>k []
 |r::l,k=>FV P G aa s r λv=>jd s l λa=>k (v::a)
def YX(fn:Func)(s:St)(k:T->Option R):Option R :=
 jd P G aa s fn.results.toList fun
  |[v]=>k v
  |a=>k (.aJ a)
def IG(fn:Func)(e:Ex)(s:St)(k:T->qa->Option R):Option R :=
 match e with
 |.exit _=>none
 |_=>YX P G aa fn s λv=>k v s.h
def je:Nat->List T->Tr->Tr
 |_,[],e=>e
 |i,x::l,e=>je (i+1) l (e.set QS i x)
def enter(args:List T)(h:qa):St :=
 { env:=je 0 args .nil,loc:=λ_=>none,used:=λ_=>false,h:=h }
end
structure cW where
 aa:List Nat
 live:Nat->Bool->List Nat
 cJ:Bool
section
variable (P:Program) (G:Nat->Option (List T)) (A:FuncId->cW)
def FW{R:Type}(K:bv)(rec:Rec)(f:FuncId)(fn:Func)(c:Code)(args:List T)(h:qa)(k:T->qa->Option R):Option R :=
 bif Nat.ble fn.ntmps 1024&&Nat.ble args.length fn.ntmps then
  ic P K G (A f).aa fn.ntmps (A f).live rec c (enter args h) λe s=>IG P G (A f).aa fn e s k
 else none
def jf{R:Type}(K:bv)(rec:Func->Rec)(f:FuncId)(args:List T)(h:qa)(k:T->qa->Option R):Option R :=
 match P.funcs[f]? with
 |some fn=>match fn.body with
  |some c=>FW P G A K (rec fn) f fn c args h k
  |none=>none
 |none=>none
def Cu(K:bv)(m:Nat)(f:FuncId)(fn:Func):Rec:=kT P K G (A f).aa fn.ntmps (A f).live m
def QK(K:bv)(m:Nat)(f:FuncId)(args:List T):Option T:=jf P G A K (Cu P G A K m f) f args [] λv h'=>some (kQ h' v)
end
abbrev iI(n:Int):T:=.int .i64 n
abbrev uI(n:Int):T:=.int .u8 n
abbrev gD{R:Type}(c:Bool)(x:Option R):Option R:=bif c then x else none
abbrev zN(v:List T)(h:qa):Option (Ex×List T×qa):=some (.normal,v,h)
abbrev zR(v:List T)(h:qa):Option (Ex×List T×qa):=some (.ret,v,h)
abbrev zX(n:Nat)(v:List T)(h:qa):Option (Ex×List T×qa):=some (.exit n,v,h)
abbrev z7(f:∀R:Type,Qg R->Option R):Prop:=cZ λR k=>f R λy h w=>k (y,h,w)
section
variable {A B:Type}
def qk:cZ (A:=A) λ_ _=>none:=.inl λ_ _=>rfl
def qp(a:A):cZ λ_ k=>k a:=.inr ⟨a,λ_ _=>rfl⟩
def qQ{x y:∀R:Type,(A->Option R)->Option R}(c)(hx:cZ x)(a:cZ y):cZ λR k=>bif c then x R k else y R k:=by
 cases c
 .exact a
 grind
def qy{x:∀R:Type,(A->Option R)->Option R}(c)(hx:cZ x):cZ λR k=>bif c then x R k else none:=qQ c hx qk
def Nc{f:Nat->∀R:Type,(A->Option R)->Option R}(a:∀j,cZ (f j))(i:Nat):∀n,cZ λR k=>BK n i λj=>f j R k
 |0=>qk
 |1=>a 0
 |n+2=>by
  simp only[BK];exact qQ _ (a _) (Nc a i (n+1))
def Ko{f:Nat->∀R:Type,(A->Option R)->Option R}(a:∀j,cZ (f j))(n i):cZ λR k=>Yu n i λj=>f j R k:=by
 unfold Yu;exact qQ _ (Nc a i n) (a i)
def qG{f}{g:A->∀R:Type,(B->Option R)->Option R}(d:cZ f)(e:∀a,cZ (g a)):cZ λR k=>f R λa=>g a R k:=by
 rcases d with h|⟨a,h⟩
 .exact .inl λR k=>h R _
 simp_all
def JB{D}{f:∀R:Type,(A->B->Option R)->Option R}{g:A->B->∀R:Type,(D->Option R)->Option R}(i:cZ λR k=>f R λa b=>k (a,b))
 (e:∀a b,cZ (g a b)):cZ λR k=>f R λa b=>g a b R k:=by
 rcases i with h|⟨p,h⟩
 .exact .inl λR k=>h R λq=>g q.1 q.2 R k
 .rcases e p.1 p.2 with d|⟨b,d⟩
  .exact .inl λR k=>(h R λq=>g q.1 q.2 R k).trans (d R k)
  .exact .inr ⟨b,λR k=>(h R λq=>g q.1 q.2 R k).trans (d R k)⟩
def QL{C D}{f:∀R:Type,(A->B->C->Option R)->Option R}{g:A->B->C->∀R:Type,(D->Option R)->Option R}(i:cZ λR k=>f R λa b c=>k (a,b,c))
 (e:∀a b c,cZ (g a b c)):cZ λR k=>f R λa b c=>g a b c R k:=by
 rcases i with h|⟨p,h⟩
 .exact .inl λR k=>h R λq=>g q.1 q.2.1 q.2.2 R k
 .rcases e p.1 p.2.1 p.2.2 with d|⟨b,d⟩
  .exact .inl λR k=>(h R λq=>g q.1 q.2.1 q.2.2 R k).trans (d R k)
  .exact .inr ⟨b,λR k=>(h R λq=>g q.1 q.2.1 q.2.2 R k).trans (d R k)⟩
end
section
variable (P:Program) (h:qa)
def ZU(t:TypeId)(cells):cZ λR k=>ld P t cells k:=by
 unfold ld;cases P.underlying t with
 |none=>exact qk
 |some d =>
  refine qQ _ (qy _ (qp _)) ?_;cases cells with
  |nil=>exact qk
  |cons c l=>exact qp c
attribute [local irreducible] ld
def Qn(i aj:Nat):cZ λR k=>Qf h i aj k:=by
 unfold Qf;cases h[i]? with
 |none=>exact qk
 |some b=>exact qy _ (qp b)
attribute [local irreducible] Qf
def Sr(t:TypeId)(v:T):z7 λR k=>Ki (R:=R) P t v h k:=by
 cases v with
 |vp cells=>exact qG (ZU P t cells) λx=>qp (x,h,false)
 |ptr i aj j o=>exact qG (Qn h i aj) λb=>qy _ (qG (ZU P t _) λx=>qp (x,h,false))
 |_=>exact qk
def qe9(t:TypeId)(a v:T):z7 λR k=>K2 (R:=R) P t a v h k:=by
 cases a with
 |ptr i aj j o=>exact qG (Qn h i aj) λb=>qy _ (qp (_,_,_))
 |_=>exact qk
def qfa(cells):z7 λR k=>JU cells h k:=qp _
def jg(pl:Nat->Option (Nat×Nat)):∀(a:List (Nat×T)) (cells:t7),cZ λR k=>YZ pl cells a k
 |[],cells=>qp cells
 |(i,v)::d,cells=>by
  simp only[YZ];cases pl i with
  |none=>exact qk
  |some p=>exact qy _ (jg pl d _)
attribute [local irreducible] YZ
def qfb(t:TypeId)(a:List (Nat×T)):z7 λR k=>K3 (R:=R) P t a h k:=by
 unfold K3;cases P.underlying t with
 |none=>exact qk
 |some d =>
  cases d with
  |struct fs=>exact qy _ (qG (jg _ _ _) λl=>qp (_,_,_))
  |array n e=>exact qy _ (qG (jg _ _ _) λl=>qp (_,_,_))
  |_=>exact qk
def Ya(sz:Nat):∀(a:List (Nat×T)) (e:List t7),cZ λR k=>Yr sz e a k
 |[],e=>qp e
 |_::d,_=>qy _ (Ya sz d _)
attribute [local irreducible] Yr
def qac(t:TypeId)(len:Nat)(a:List (Nat×T)):z7 λR k=>zM (R:=R) P t len a h k:=by
 unfold zM;cases qZ P t with
 |none=>exact qk
 |some e=>exact qy _ (qG (Ya _ _ _) λl=>qp (_,_,_))
def ZA(t:TypeId)(len:Nat)(a:List (Nat×T)):cZ λR k=>yM (R:=R) P t len a k:=by
 unfold yM;cases qZ P t with
 |none=>exact qk
 |some e=>exact qy _ (qG (Ya _ _ _) λl=>qy _ (qp _))
def qgp(t:TypeId)(l c:T):z7 λR k=>JV P t l c h k:=by
 unfold JV;cases qZ P t with
 |none=>exact qk
 |some e =>
  cases l with
  |int a l =>
   cases c with
   |int d c=>exact qy _ (qy _ (qp (_,_,_)))
   |_=>exact qk
  |_=>exact qk
def Ss(x)(d):cZ λR k=>Kk x d k:=by
 cases x with
 |none=>exact qp d
 |some x =>
  cases x with
  |int a i=>exact qp i
  |_=>exact qk
attribute [local irreducible] Kk
def Yx(len gm:Nat)(cap:Option Nat)(f d e:Option T):cZ (A:=Nat×Nat×Option Nat) λR k=>Yt (R:=R) len gm cap f d e λa b c=>k (a,b,c):=by
 unfold Yt;refine qG (Ss f 0) λl=>qG (Ss d _) λi=>?_;cases e with
 |none=>exact qy _ (qp (_,_,_))
 |some m =>
  cases m with
  |int g m =>
   cases d with
   |none=>exact qk
   |some _=>exact qy _ (qp (_,_,_))
  |_=>exact qk
attribute [local irreducible] Yt
def qfc(t:TypeId)(x:T)(f j a:Option T):z7 λR k=>zm (R:=R) P t x f j a h k:=by
 cases x with
 |str s =>
  cases a with
  |some _=>exact qk
  |none=>exact qy _ (QL (Yx _ _ _ _ _ _) λ_ _ _=>qp (_,_,_))
 |ae =>
  simp only[zm];cases qZ P t with
  |none=>exact qk
  |some e=>exact qy _ (QL (Yx _ _ _ _ _ _) λ_ _ _=>qp (_,_,_))
 |view sz n g cap =>
  simp only[zm];cases qZ P t with
  |none=>exact qk
  |some e=>exact qy _ (QL (Yx _ _ _ _ _ _) λ_ _ _=>qy _ (qp (_,_,_)))
 |own i aj d len cap =>
  simp only[zm];cases qZ P t with
  |none=>exact qk
  |some e=>exact qG (Qn h i aj) λb=>qy _ (QL (Yx _ _ _ _ _ _) λ_ _ _=>qp (_,_,_))
 |_=>exact qk
def qfd(t)(x:T)(f:Nat):z7 λR k=>K4 (R:=R) P t x f h k:=by
 unfold K4;cases x with
 |agg l =>
  cases Zj P t f with
  |none=>exact qk
  |some p=>exact qG (ZU P _ _) λv=>qp (v,h,false)
 |_=>exact qk
def qa6(t)(x:T)(f:Nat):z7 λR k=>Zk (R:=R) P t x f h k:=by
 unfold Zk;cases x with
 |ptr i aj j o =>
  cases Zj P t f with
  |none=>exact qk
  |some p=>exact qG (Qn h i aj) λ_=>qp (_,_,_)
 |vp cells =>
  cases Zj P t f with
  |none=>exact qk
  |some p=>exact qp (_,_,_)
 |_=>exact qk
def qdM(ty):z7 λR k=>Yi P ty h k:=by
 unfold Yi;split
 .exact qp _
 .exact qp (_,_,_)
def qa7(t:TypeId)(x i:T):z7 λR k=>zn (R:=R) P t x i h k:=by
 unfold zn;cases i with
 |int d i =>
  cases x with
  |own b aj a len cap =>
   dsimp only;cases qZ P t with
   |none=>exact qk
   |some e=>exact qG (Qn h b aj) λdZ=>qy _ (qy _ (qQ _ (Nc (λj=>qp (T.ptr b aj j 0,h,false)) _ _) (qp (_,_,_))))
  |view sz n g cap =>
   dsimp only;cases qZ P t with
   |none=>exact qk
   |some e=>exact qy _ (qy _ (qp (_,_,_)))
  |ptr b aj j o =>
   dsimp only;cases QT P t with
   |none=>exact qk
   |some p=>exact qy _ (qG (Qn h b aj) λ_=>qQ _ (qp (_,_,_)) (Ko (λi=>qp (T.ptr b aj j (o+i*qS P p.2),h,false)) _ _))
  |vp cells =>
   dsimp only;cases QT P t with
   |none=>exact qk
   |some p=>exact qy _ (Ko (λi=>qp (T.vp (cells.drop (i*qS P p.2)),h,false)) _ _)
  |_=>exact qk
 |_=>exact qk
def qfe(t:TypeId)(x i:T):z7 λR k=>K5 (R:=R) P t x i h k:=by
 unfold K5;cases x with
 |str s =>
  cases i with
  |int a i=>exact qy _ (qy _ (qp (_,_,_)))
  |_=>exact qk
 |agg l =>
  cases i with
  |int a i =>
   dsimp only;cases QT P t with
   |none=>exact qk
   |some p=>exact qy _ (Ko (λi=>qG (ZU P _ _) λv=>qp (v,h,false)) _ _)
  |_=>exact qk
 |_=>cases i<;>exact qk
def qcB(x:T)(i):z7 λR k=>Z7 x i h k:=by
 cases x with
 |aJ l =>
  simp only[Z7];cases l[i]? with
  |none=>exact qk
  |some v=>exact qp (_,_,_)
 |_=>exact qk
def Su{g:∀R:Type,TypeId->T->T->(Bool->Option R)->Option R}(d:∀t x y,cZ λR k=>g R t x y k)(l m:t7):∀fs,cZ λR k=>eqFields (R:=R) P (g R) l m fs k
 |[]=>qp true
 |f::fs=>by
  have e:=Su d l m fs;simp only[eqFields];exact qQ _ e (qG (ZU P _ _) λa=>qG (ZU P _ _) λb=>qG (d _ a b) λr=>qQ r e (qp false))
def Sv{g:∀R:Type,TypeId->T->T->(Bool->Option R)->Option R}(f:∀t x y,cZ λR k=>g R t x y k)(l m:t7)(e:TypeId):∀d,cZ λR k=>eqItems (R:=R) P (g R) l m e d k
 |[]=>qp true
 |i::d=>by
  have j:=Sv f l m e d;simp only[eqItems];exact qG (ZU P _ _) λa=>qG (ZU P _ _) λb=>qG (f _ a b) λr=>qQ r j (qp false)
def IH:∀(d:Nat) (t:TypeId) (x y:T),cZ λR k=>KY (R:=R) P d t x y k
 |0,_,_,_=>qk
 |d+1,t,x,y=>by
  cases x with
  |int f a=>cases y with|int e b=>exact qy _ (qp _)|_=>exact qk
  |bool a=>cases y with|bool b=>exact qy _ (qp _)|_=>exact qk
  |str a=>cases y with|str b=>exact qy _ (qp _)|_=>exact qk
  |agg l =>
   cases y with
   |agg m =>
    simp only[KY];cases K6 P t with
    |none =>
     cases FM P t with
     |none=>exact qk
     |some ne=>exact Sv P (λt x y=>IH d t x y) l m ne.2 (List.range ne.1)
    |some fs=>exact qQ _ qk (Su P (λt x y=>IH d t x y) l m fs)
   |_=>exact qk
  |_=>exact qk
attribute [local irreducible] KY
def Sw(t:TypeId)(x y:T):cZ λR k=>Dz (R:=R) P t x y h k:=by
 unfold Dz;cases x with
 |int e a=>cases y with|int d b=>exact qy _ (qp _)|_=>exact qk
 |str a=>cases y with|str b=>exact qp _|_=>exact qk
 |bool a=>cases y with|bool b=>exact IH P 1 t _ _|_=>exact qk
 |agg a=>cases y with|agg b=>exact qQ _ qk (IH P 10 t _ _)|_=>exact qk
 |ae=>cases y with
  |ae=>exact qy _ (qp _)
  |view _ _ _ _=>exact qy _ (qp _)
  |own i aj _ _ _=>exact qy _ (qG (Qn h i aj) λ_=>qy _ (qp _))
  |_=>exact qk
 |view _ _ _ _=>cases y with|ae=>exact qy _ (qp _)|_=>exact qk
 |own i aj _ _ _=>cases y with|ae=>exact qy _ (qG (Qn h i aj) λ_=>qy _ (qp _))|_=>exact qk
 |eO=>cases y with|eO=>exact qy _ (qp _)|fn _ _=>exact qy _ (qp _)|_=>exact qk
 |fn _ _=>cases y with|eO=>exact qy _ (qp _)|_=>exact qk
 |_=>cases y<;>exact qk
attribute [local irreducible] Dz
def qh0(d)(e)(a b:Int):z7 λR k=>Ix (R:=R) d e a b h k:=by
 cases d<;>first|exact qp (_,_,_)|exact qQ _ qk (qp (_,_,_))|exact qk
def qh1(d)(a b):z7 λR k=>Iy (R:=R) d a b h k:=by
 cases d<;>first|exact qp (_,_,_)|exact qy _ (qp (_,_,_))|exact qk
def qff(d)(e)(a b:Int):z7 λR k=>JW (R:=R) d e a b h k:=by
 unfold JW;cases d<;>first|exact qy _ (qp (_,_,_))|exact qy _ qk
def qfg(d)(x y:T):z7 λR k=>K7 d x y h k:=by
 unfold K7;cases x with
 |int e a=>cases y with|int f b=>exact qy _ (qh0 h d e a b)|_=>exact qk
 |str a=>cases y with|str b=>exact qh1 h d a b|_=>exact qk
 |_=>cases y<;>exact qk
def Jh(d)(x y:T):z7 λR k=>kO d x y h k:=by
 cases x with
 |int e a=>cases y with|int f b=>exact qff h d e a b|_=>exact qk
 |_=>cases y<;>exact qk
def qh2(a)(t:TypeId)(x y:T):z7 λR k=>Iz (R:=R) P a t x y h k:=by
 cases a
 case eql=>exact qG (Sw P h t x y) λb=>qp (_,_,_)
 case neq=>exact qG (Sw P h t x y) λb=>qp (_,_,_)
 case shl=>exact Jh h _ x y
 case shr=>exact Jh h _ x y
 all_goals exact qfg h _ x y
def qka(a)(x:T):z7 λR k=>FO a x h k:=by
 cases a<;>cases x<;>first|exact qp (_,_,_)|exact qk
def Sy(g)(n):cZ λR k=>Jy (R:=R) g n k:=by
 unfold Jy;exact qy _ (qp _)
attribute [local irreducible] Jy
def qcD(a b:TypeId)(x:T):z7 λR k=>Yv (R:=R) P a b x h k:=by
 unfold Yv;cases x with
 |int C n =>
  dsimp only;cases P.underlying b with
  |none=>exact qk
  |some d=>cases d<;>first|exact qp (_,_,_)|exact qk
 |str s =>
  dsimp only;cases P.underlying b with
  |none=>exact qk
  |some d=>cases d<;>first|exact qp (_,_,_)|exact qk
 |ae =>
  dsimp only;cases P.underlying a with
  |none=>exact qk
  |some f =>
   cases P.underlying b with
   |none=>cases f<;>exact qk
   |some r =>
    cases f with
    |slice e =>
     cases r with
     |string =>
      dsimp only;cases P.underlying e with
      |none=>exact qk
      |some o =>
       cases o with
       |int j=>cases j<;>first|exact qp (_,_,_)|exact qk
       |_=>exact qk
     |_=>exact qk
    |_=>exact qk
 |view sz n g cap =>
  dsimp only;cases P.underlying a with
  |none=>exact qk
  |some f =>
   cases P.underlying b with
   |none=>cases f<;>exact qk
   |some r =>
    cases f with
    |slice e =>
     cases r with
     |string =>
      dsimp only;cases P.underlying e with
      |none=>exact qk
      |some o =>
       cases o with
       |int j=>cases j<;>first|exact qy _ (qG (Sy _ _) λl=>qp (_,_,_))|exact qk
       |_=>exact qk
     |_=>exact qk
    |_=>exact qk
 |own i aj u len cap =>
  dsimp only;cases P.underlying a with
  |none=>exact qk
  |some f =>
   cases P.underlying b with
   |none=>cases f<;>exact qk
   |some r =>
    cases f with
    |slice e =>
     cases r with
     |string =>
      dsimp only;cases P.underlying e with
      |none=>exact qk
      |some o =>
       cases o with
       |int j=>cases j<;>first|exact qG (Qn h i aj) λ_=>qy _ (qG (Sy _ _) λl=>qp (_,_,_))|exact qk
       |_=>exact qk
     |_=>exact qk
    |_=>exact qk
 |_=>exact qk
def qgq(K:bv)(f:T)(args:t7):z7 λR k=>Km (R:=R) K f args h k:=by
 cases f with
 |fn f a =>
  refine qQ _ ?_ ?_
  .exact qQ _ (JB (K.dw f (args++a) h) λv _=>qp (v,h,false)) (JB (K.dw f (args++a) h) λv h'=>qp (v,h',true))
  .exact qG (K.dv f _) λr=>qp (_,_,_)
 |_=>exact qk
def qh3(sz:Nat)(x:T):cZ (A:=Nat×(Nat->t7)×Bool) λR k=>K9 (R:=R) sz x h λa b c=>k (a,b,c):=by
 unfold K9;cases x with
 |ae=>exact qp (_,_,_)
 |view e n g cap=>exact qy _ (qp (_,_,_))
 |own i aj d len cap=>exact qG (Qn h i aj) λb=>qy _ (qp (_,_,_))
 |str s=>exact qy _ (qp (_,_,_))
 |_=>exact qk
attribute [local irreducible] K9
def jh(pl:Bool)(sz)(x:T):cZ (A:=Nat×(Nat->t7)×Bool) λR k=>Y3 (R:=R) pl sz x h λa b c=>k (a,b,c):=by
 unfold Y3;exact QL (qh3 h sz x) λm d e=>qQ _ (qp (_,_,_)) (qQ _ (qp (_,_,_)) (qp (_,_,_)))
attribute [local irreducible] Y3
def Ji(t:TypeId)(s x:T):z7 λR k=>Z8 (R:=R) P t s x h k:=by
 unfold Z8;cases qZ P t with
 |none=>exact qk
 |some e =>
  refine qy _ (QL (jh h _ _ x) λm d f=>?_);cases s with
  |ae=>exact qQ _ (qp (_,_,_)) (qy _ (qp (_,_,_)))
  |view sz n g cap =>
   refine qy _ (qQ _ (qp (_,_,_)) ?_);cases cap with
   |none=>exact qk
   |some c=>exact qy _ (qp (_,_,_))
  |own i aj a len cap =>
   refine qG (Qn h i aj) λb=>qy _ (qQ _ (qp (_,_,_)) (qy _ ?_));cases cap with
   |none=>exact qQ _ (qp (_,_,_)) (qp (_,_,_))
   |some c=>exact qQ _ (qy _ (qp (_,_,_))) (qp (_,_,_))
  |_=>exact qk
def Sz(t:TypeId)(d x:T):z7 λR k=>JY (R:=R) P t d x h k:=by
 unfold JY;cases qZ P t with
 |none=>exact qk
 |some e =>
  refine qy _ (QL (jh h _ _ x) λm f g=>?_);cases d with
  |ae=>exact qp (_,_,_)
  |own i aj a len cap=>exact qG (Qn h i aj) λb=>qy _ (qp (_,_,_))
  |_=>exact qk
def qfh(t:TypeId)(d:T):z7 λR k=>ja (R:=R) P t d h k:=by
 unfold ja;cases qZ P t with
 |none=>exact qk
 |some e =>
  refine qy _ ?_;cases d with
  |ae=>exact qp (_,_,_)
  |own i aj a len cap=>exact qG (Qn h i aj) λb=>qy _ (qp (_,_,_))
  |_=>exact qk
def SA(t:TypeId)(x:T):z7 λR k=>Jz (R:=R) P t x h k:=by
 unfold Jz;cases x with
 |str s=>exact qy _ (qp (_,_,_))
 |ae=>exact qy _ (qp (_,_,_))
 |view _ _ _ _=>exact qy _ (qp (_,_,_))
 |own i aj _ _ _=>exact qy _ (qG (Qn h i aj) λ_=>qp (_,_,_))
 |agg l =>
  dsimp only;cases QT P t with
  |none=>exact qk
  |some p=>exact qp (_,_,_)
 |_=>exact qk
def SB(t:TypeId)(x:T):z7 λR k=>IC (R:=R) P t x h k:=by
 refine qy _ ?_;cases x with
 |ae=>exact qp (_,_,_)
 |view _ _ _ cap=>cases cap with|none=>exact qk|some c=>exact qp (_,_,_)
 |own i aj _ _ cap=>cases cap with|none=>exact qk|some c=>exact qG (Qn h i aj) λ_=>qp (_,_,_)
 |_=>exact qk
def Y5(d)(x y:T):z7 λR k=>jM d x y h k:=by
 cases x with
 |int f a=>cases y with|int e b=>exact qy _ (qp (_,_,_))|_=>exact qk
 |_=>cases y<;>exact qk
def qh4(x:T):z7 λR k=>FR x h k:=by
 cases x with
 |vp _=>exact qp (_,_,_)
 |fn _ _=>exact qp (_,_,_)
 |ptr i aj _ _=>exact qG (Qn h i aj) λ_=>qp (_,_,_)
 |_=>exact qk
def qgr(i aj):cZ λR k=>y9 h i aj λb m=>k (b,m):=by
 unfold y9;cases h[i]? with
 |none=>exact qk
 |some b =>
  dsimp only;cases b.mp with
  |none=>exact qy _ qk
  |some m=>exact qy _ (qp (b,m))
attribute [local irreducible] y9
def qfi:∀(fs:List (Option IntKind)) (l:t7),cZ λR k=>zy fs l k:=by
 intro fs
 induction fs with
 |nil =>
  intro l;cases l with
  |nil=>exact qp ([]:List Int)
  |cons x l=>exact qk
 |cons f fs a =>
  intro l;cases l with
  |nil=>cases f<;>exact qk
  |cons x l =>
   cases f with
   |some d =>
    cases x with
    |int q n=>exact qy _ (qG (a l) λm=>qp (n::m))
    |_=>exact qk
   |none =>
    cases x with
    |bool b=>exact qG (f:=λR k=>zy (R:=R) fs l k) (g:=λm R k=>k ((bif b then 1 else 0)::m)) (a l) λm=>qp _
    |_=>exact qk
attribute [local irreducible] zy
def Y6(ks)(x:T):cZ λR k=>jL ks x k:=by
 unfold jL;split
 .exact qy _ (qp _)
 .exact qfi _ _
 .exact qk
attribute [local irreducible] jL
def qcG(t):z7 λR k=>Z9 P t h k:=by
 unfold Z9;split
 .exact qp (_,_,_)
 .exact qk
def SC(t)(x:T):cZ λR k=>Y4 (R:=R) P t x h λa b c=>k (a,b,c):=by
 unfold Y4;split
 .rename_i i aj;refine JB (qgr h i aj) λb m=>?_;split
  .exact qy _ (qp (i,b,m))
  .exact qk
 .exact qk
attribute [local irreducible] Y4
def kU(t)(x key:T):cZ (A:=Nat×ap×bk×List Int) λR k=>Z5 (R:=R) P t x key h λa b c d=>k (a,b,c,d):=by
 unfold Z5;exact QL (SC P h t x) λi aj m=>qG (Y6 m.ks key) λl=>qp (i,aj,m,l)
attribute [local irreducible] Z5
def kV{A B C E D}{f:∀R:Type,(A->B->C->E->Option R)->Option R}{g:A->B->C->E->∀R:Type,(D->Option R)->Option R}(i:cZ (A:=A×B×C×E) λR k=>f R λa b c d=>k (a,b,c,d))
 (e:∀a b c d,cZ (g a b c d)):cZ λR k=>f R λa b c d=>g a b c d R k:=qG (f:=λR k=>f R λa b c d=>k (a,b,c,d)) (g:=λp=>g p.1 p.2.1 p.2.2.1 p.2.2.2) i λp=>e _ _ _ _
def qdN(t)(x key:T)(c:Bool):z7 λR k=>QX (R:=R) P t x key c h k:=by
 unfold QX;exact kV (kU P h t x key) λi aj m l=>qp (_,_,_)
def qdO(t)(x key v:T):z7 λR k=>Yj (R:=R) P t x key v h k:=by
 unfold Yj;split
 .exact kV (kU P h t x key) λi aj m l=>qy _ (qp (_,_,_))
 .exact qk
def qfj(t)(x key:T):z7 λR k=>yQ (R:=R) P t x key h k:=by
 unfold yQ;exact kV (kU P h t x key) λi aj m l=>qp (_,_,_)
def qaf(t)(x st v:T):z7 λR k=>zO P t x st v h k:=by
 unfold zO;split
 .refine QL (SC P h t x) λi aj m=>?_;split
  .exact qy _ (qp (_,_,_))
  .exact qk
 .exact qk
def qdP(t a)(x key:T):z7 λR k=>kR (R:=R) P t a x key h k:=by
 unfold kR;split
 .exact qy _ (kV (kU P h t x key) λi aj m l=>qp (_,_,_))
 .exact qk
def qcH(b)(ts)(args):z7 λR k=>Zc (R:=R) P b ts args h k:=by
 match b,ts,args with
 |.len,t::_,[x]=>exact SA P h t x
 |.cap,t::_,[x]=>exact SB P h t x
 |.append,t::a::_,[s,x]=>exact qy _ (Ji P h t s x)
 |.copy,t::_,[d,x]=>exact Sz P h t d x
 |.min,_,[x,y]=>exact Y5 h false x y
 |.max,_,[x,y]=>exact Y5 h true x y
 |b,ts,args =>
  unfold Zc;split
  .exact SA P h _ _
  .exact SB P h _ _
  .exact qy _ (Ji P h _ _ _)
  .exact Sz P h _ _ _
  .exact qfh P h _ _
  .exact Y5 h false _ _
  .exact Y5 h true _ _
  .exact qdP P h _ _ _ _
  .exact qk
end
section
variable (P:Program) (K:bv) (Gl:t9) (aa:t8) (nt:Nat)
def Zm(a)(e)(h):z7 λR k=>Qh P K a e h k:=by
 unfold Qh;split
 .exact qp _
 .exact qp _
 .split
  .exact qQ _ (qp _) (qp _)
  .exact qk
 .exact qy _ (qdM P h _)
 .exact qy _ (qfa h _)
 .exact qfb P h _ _
 .exact qac P h _ _ _
 .exact Sr P h _ _
 .exact qe9 P h _ _ _
 .exact qh4 h _
 .exact qh2 P h _ _ _ _
 .exact qka h _ _
 .exact qy _ (qcD P h _ _ _)
 .exact qy _ (qp (_,_,_))
 .exact qgp P h _ _ _
 .exact qfc P h _ _ _ _ _
 .exact qa6 P h _ _ _
 .exact qfd P h _ _ _
 .exact qa7 P h _ _ _
 .exact qfe P h _ _ _
 .exact qcB h _ _
 .exact qcG P h _
 .exact qdN P h _ _ _ _
 .exact qdO P h _ _ _ _
 .exact qfj P h _ _ _
 .exact qaf P h _ _ _ _
 .exact qgq h K _ _
 .exact qcH P h _ _ _
 .exact qk
def qh5(v:T):cZ λR k=>EE v k:=by
 cases v with
 |bool b=>exact qQ b (qp _) (qp _)
 |_=>exact qp _
abbrev EF(f:∀R:Type,(dJ->FP->Option R)->Option R):Prop:=cZ λR k=>f R λs a=>k (s,a)
def ZV(o)(s)(v:T)(hp)(rs)(rd wr):EF λR k=>done nt o s v hp rs rd wr k:=by
 unfold done;cases o.dst with
 |none=>exact qp _
 |some d=>exact qy _ (qG (qh5 v) λv=>qp _)
def ji(o)(t off)(rs):EF λR k=>z9 aa nt o t off rs k:=by
 unfold z9;cases o.dst with
 |none=>exact qk
 |some d=>exact qy _ (qp _)
attribute [local irreducible] Qh EE done z9 ld
def qkc{A B C}{F:∀R:Type,(A->B->Option R)->Option R}(h:cZ λR k=>F R λa b=>k (a,b))(g:A->B->C):cZ λR k=>F R λa b=>k (a,g a b):=by
 rcases h with h|⟨⟨a,b⟩,h⟩
 .exact .inl λR k=>h R λp=>k (p.1,g p.1 p.2)
 .exact .inr ⟨(a,g a b),λR k=>h R λp=>k (p.1,g p.1 p.2)⟩
def QV(o:Oper)(s:St):EF λR k=>Qi P K Gl aa nt o s k:=by
 unfold Qi;exact qQ _ (QL (Zm P K _ _ _) λ_ _ wr=>qQ wr qk (ZV nt _ _ _ _ _ _ _)) (QL (Zm P K _ _ _) λ_ _ _=>qkc (ZV nt _ _ _ _ _ _ _) _)
attribute [local irreducible] Qi
def ye(o)(s):EF λR k=>zZ P K Gl aa nt o s k:=by
 unfold zZ;split
 .cases o.dst with
  |none=>exact qk
  |some d=>exact qQ _ (qy _ (ZV nt _ _ _ _ _ _ _)) (QV P K Gl aa nt o s)
 .cases o.dst with
  |none=>exact qk
  |some d=>exact qQ _ (qy _ (ZV nt _ _ _ _ _ _ _)) (QV P K Gl aa nt o s)
 .split
  .split
   .exact qG (ZU P _ _) λv=>ZV nt _ _ _ _ _ _ _
   .exact qk
  .exact QV P K Gl aa nt o s
 .split
  .split
   .exact qy _ (qp (_,_))
   .exact qk
  .exact QV P K Gl aa nt o s
 .split
  .split
   .split
    .exact ji aa nt _ _ _ _
    .exact qk
   .exact qk
  .exact QV P K Gl aa nt o s
 .split
  .split
   .split
    .split
     .exact qy _ (Ko (λj=>ji aa nt _ _ _ _) _ _)
     .exact qk
    .exact qk
   .exact qk
  .exact QV P K Gl aa nt o s
 .split
  .split
   .exact ji aa nt _ _ _ _
   .exact qk
  .exact QV P K Gl aa nt o s
 .exact QV P K Gl aa nt o s
attribute [local irreducible] zZ
def zz{A B D}{f:∀R:Type,(A->B->Option R)->Option R}{g:A->B->∀R:Type,(D->Option R)->Option R}(i:cZ λR k=>f R λa b=>k (a,b))
 (e:∀a b,cZ (g a b)):cZ λR k=>f R λa b=>g a b R k:=by
 rcases i with h|⟨p,h⟩
 .exact .inl λR k=>h R λq=>g q.1 q.2 R k
 .rcases e p.1 p.2 with d|⟨b,d⟩
  .exact .inl λR k=>(h R λq=>g q.1 q.2 R k).trans (d R k)
  .exact .inr ⟨b,λR k=>(h R λq=>g q.1 q.2 R k).trans (d R k)⟩
def qgs(o)(s):EF λR k=>Zl P Gl aa nt o s k:=by
 unfold Zl;split
 .exact qG (ZA P _ _ _) λv=>ZV nt _ _ _ _ _ _ _
 .exact qk
def jk(ops:List Oper)(o:Oper)(s:St):EF λR k=>zw P K Gl aa nt ops o s k:=by
 unfold zw;split
 .exact qQ _ (qgs (P:=P) (Gl:=Gl) (aa:=aa) (nt:=nt) (o:=o) (s:=s)) (ye P K Gl aa nt o s)
 .split
  .exact qk
  .split
   .exact qQ _ qk (qQ _ (zz (ye P K Gl aa nt o s) λa d=>qp (_,_)) (ZV nt _ _ _ _ _ _ _))
   .exact qQ _ qk (ZV nt _ _ _ _ _ _ _)
   .exact qk
attribute [local irreducible] zw
abbrev quv(f:∀R:Type,(St->List FP->Option R)->Option R):Prop:=cZ λR k=>f R λs a=>k (s,a)
def SD(ops:List Oper):∀(l:List Oper) (s:St),quv λR k=>y5 (R:=R) P K Gl aa nt ops l s k
 |[],s=>qp (s,[])
 |o::l,s=>by
  simp only[y5];exact zz (jk P K Gl aa nt ops o s) λf a=>zz (SD ops l _) λe d=>qp _
attribute [local irreducible] y5
variable (live:Nat->Bool->t8)
def ZW(rec:Rec):Prop:=∀b a h,cZ λR k=>rec R b a h λe a h=>k (e,a,h)
abbrev quw(f:∀R:Type,(Ex->St->Option R)->Option R):Prop:=cZ λR k=>f R λe s=>k (e,s)
def ZX{rec:Rec}(d:ZW rec):∀(c:Code) (s:St),quw λR k=>ic P K Gl aa nt live rec c s k
 |.skip,s=>qp (_,_)
 |.label _,s=>qp (_,_)
 |.region id ops j,s=>by
  simp only[ic];exact zz (SD P K Gl aa nt ops.toList ops.toList _) λg r=>qy _ (qQ _ (qy _ (qp (_,_))) (qp (_,_)))
 |.seq a b,s=>by
  simp only[ic];refine zz (ZX d a s) λe g=>?_;cases e with
  |normal=>exact ZX d b g
  |_=>exact qp (_,_)
 |.cond c a b,s=>by
  simp only[ic];split
  .exact qQ _ (ZX d a s) (ZX d b s)
  .exact qk
 |.block id b,s=>by
  simp only[ic];refine zz (ZX d b s) λe g=>?_;cases e with
  |exit i=>exact qQ _ (qp (_,_)) (qp (_,_))
  |_=>exact qp (_,_)
 |.loop b,s=>by
  simp only[ic];exact qQ _ qk (QL (d b _ s.h) λe o h=>qp (_,_))
 |.exit id,s=>qp (_,_)
 |.ret,s=>qp (_,_)
 |.scope b,s=>by
  simp only[ic];exact ZX d b s
 |.goto _,_=>qk
 |.refuse _,_=>qk
 |.rangeFunc f ps a b,s=>by
  simp only[ic];exact QL (d _ _ s.h) λe o h=>qp (_,_)
def ZK:∀n,ZW (kT P K Gl aa nt live n)
 |0=>λb a h=>qk
 |n+1=>λb a h=>by
  simp only[kT];refine qQ _ qk ?_;refine zz (ZX P K Gl aa nt live (ZK n) b _) λe d=>?_;cases e with
  |normal=>exact ZK n b _ _
  |_=>exact qp (_,_,_)
def qfk(t)(v:T)(h):cZ λR k=>Ki P t v h λv _ _=>k v :=
 QL (Sr P h t v) λv _ _=>qp v
def SE(s)(r):cZ λR k=>FV P Gl aa s r k:=by
 cases r with
 |tmp t=>exact qp _
 |cell a d =>
  simp only[FV];split
  .split
   .exact ZU P _ _
   .exact qk
  .exact qfk P _ _ _
def SF(s):∀l:List ResultVar,cZ λR k=>jd P Gl aa s l k
 |[]=>qp []
 |r::l=>by
  simp only[jd];exact qG (SE P Gl aa s r) λv=>qG (SF s l) λa=>qp _
end
section
variable (P:Program) (K:bv) (Gl:t9) (aa:t8) (nt:Nat)
def SG{e e':Operand->T}(ps:Array (Nat×Operand))(h:∀x∈(ps.toList.map (·.2)),e' x=e x):(ps.toList.map λp=>(p.1,e' p.2))=(ps.toList.map λp=>(p.1,e p.2)):=by
 apply ve;intro p a;rw[h p.2 (wY.2 ⟨p,a,rfl⟩)]
def II{e e':Operand->T}(xs:Array Operand)(h:∀x∈xs.toList,e' x=e x):xs.toList.map e'=xs.toList.map e:=ve λx hx=>h x hx
def SH{R:Type}(op:Op){e e':Operand->T}(i)(k:Qg R)(h:∀x∈op.operands.toList,e' x=e x):Qh P K op e' i k=Qh P K op e i k:=by
 cases op with
 |call c =>
  obtain⟨a,d,argTypes⟩:=c;cases a with
  |value f =>
   have A:=h f (by simp[Op.operands,Call.operands]);have g:=II (e:=e) (e':=e') d λx hx=>h x (by simp[Op.operands,Call.operands];grind);simp only[Qh,A,g]
  |builtin b =>
   have g:=II (e:=e) (e':=e') d λx hx=>h x (by simpa [Op.operands,Call.operands] using hx);simp only[Qh,g]
  |invoke r m=>rfl
 |build t ps =>
  simp only[Qh];rw[SG (e:=e) (e':=e') ps λx hx=>h x (by simpa [Op.operands] using hx)]
 |buildSlice t n ps =>
  simp only[Qh];rw[SG (e:=e) (e':=e') ps λx hx=>h x (by simpa [Op.operands] using hx)]
 |makeFunc fn first captured =>
  have g:=II (e:=e) (e':=e') captured λx hx=>h x (by simp only[Op.operands,Array.toList_append,wS];grind);cases fn<;>simp only[Qh,g]
 |slice t x o u j=>cases o<;>cases u<;>cases j<;>simp_all [Op.operands,Qh]
 |makeMap t r=>cases r<;>rfl
 |_=>first|rfl|(simp[Op.operands] at h;simp[Qh,h];done)
def SI(op){e e'}(h:∀x∈op.operands.toList,e' x=e x):JA op e'=JA op e:=by
 unfold JA;grind
def qb3(op:Op){e e':Operand->T}(h:∀x∈op.operands.toList,e' x=e x):QJ K op e'=QJ K op e:=by
 cases op with
 |call c =>
  obtain⟨a,d,argTypes⟩:=c;cases a with
  |value f =>
   have i:=h f (by simp[Op.operands,Call.operands]);have g:=II (e:=e) (e':=e') d λx hx=>h x (by simp[Op.operands,Call.operands];grind);simp only[QJ,i,g]
  |_=>rfl
 |_=>rfl
def qgt(op){e e'}(h:∀x∈op.operands.toList,e' x=e x):zL op e'=zL op e:=by
 cases op with
 |load t a=>simp only[zL,h a (by simp[Op.operands])]
 |fieldAddr t a f=>simp only[zL,h a (by simp[Op.operands])]
 |nilCheck a=>simp only[zL,h a (by simp[Op.operands])]
 |indexAddr t x i=>simp only[zL,h x (by simp[Op.operands])]
 |slice t x g j d=>simp only[zL,h x (by simp[Op.operands])]
 |lookup t x i c=>simp only[zL,h x (by simp[Op.operands])]
 |_=>rfl
def jl(op){e e'}(h:∀x∈op.operands.toList,e' x=e x)(hp)(v:T):kS op e' hp v=kS op e hp v:=by
 cases op with
 |store t a v=>simp only[kS,h a (by simp[Op.operands])]
 |mapUpdate t x i v=>simp only[kS,h x (by simp[Op.operands])]
 |mapEntry t x i=>simp only[kS,h x (by simp[Op.operands])]
 |entryStore t x i v=>simp only[kS,h x (by simp[Op.operands])]
 |call c =>
  obtain⟨d,_,_⟩:=c;cases d with
  |builtin b=>cases b<;>rfl
  |_=>rfl
 |_=>rfl
def qfl(op){e e'}(h:∀x∈op.operands.toList,e' x=e x)(hp)(v:T)(wr:Bool):zY K op e' hp v wr=zY K op e hp v wr:=by
 cases op with
 |call c =>
  obtain⟨a,d,argTypes⟩:=c;cases a with
  |value f =>
   have g:=h f (by simp[Op.operands,Call.operands]);simp only[zY,g]
  |builtin b=>exact jl (.call ⟨.builtin b,d,argTypes⟩) h hp v
  |invoke r m=>rfl
 |_=>exact jl _ h hp v
def qgu{a}{e}{j}(h:zL a e=some j)(hp:qa)(v:T)(wr:Bool):zY K a e hp v wr=none:=by
 cases a with
 |load=>rfl
 |fieldAddr=>rfl
 |nilCheck=>rfl
 |indexAddr=>rfl
 |slice=>rfl
 |lookup=>rfl
 |_=>cases h
def qdQ{K}{a}{e}(h:QJ K a e=false)(hp:qa)(v:T):zY K a e hp v false=none:=by
 unfold QJ at h;split at h
 .simp only[zY];grind
 .cases h
def Nd(h){x:T}(hx:ZS x=true):Z4 true h x=((Z4 true [] x).1,h):=by
 cases x with
 |fresh=>cases hx
 |iC=>cases hx
 |_=>rfl
def SJ(h:qa):∀{l:t7},l.all ZS=true->Yw true h l=((Yw true [] l).1,h)
 |[],_=>rfl
 |x::l,a=>by
  simp only[xS,wd] at a;simp only[Yw];rw[Nd h a.1,Nd [] a.1];dsimp only;rw[SJ h a.2]
def Nf(h){x:T}(hx:ZT x=true):yO true h x=((yO true [] x).1,h):=by
 cases x with
 |agg l=>simp only[yO];rw[SJ h (show l.all ZS=true from hx)]
 |_=>(simp only[ZT] at hx;simp only[yO];exact Nd h hx)
def SK(h:qa):∀{l:t7},l.all ZT=true->ZD true h l=((ZD true [] l).1,h)
 |[],_=>rfl
 |x::l,a=>by
  simp only[xS,wd] at a;simp only[ZD];rw[Nf h a.1,Nf [] a.1];dsimp only;rw[SK h a.2]
def SL(h){x:T}(hx:Kl x=true):Zw true h x=((Zw true [] x).1,h):=by
 cases x with
 |aJ l=>simp only[Zw];rw[SK h (show l.all ZT=true from hx)]
 |_=>(simp only[Kl] at hx;simp only[Zw];exact Nf h hx)
def Y7(h:qa):∀{l:t7},l.all aF=true->l.map (zr h)=l
 |[],_=>rfl
 |x::l,a=>by
  simp only[xS,wd] at a;simp only[xt,Y7 h a.2,zr,a.1,wp]
def qkd{R}{j}{e:Operand->T}{h h1:qa}{k:Qg R}{r:R}(g:QJ K j e=false)(d:Qh P K j e h k=some r) :
 ∃y h' w,k y h' w=some r/\(w=false->Qh P K j e h1 k=k y h1 false):=by
 cases j with
 |call c =>
  obtain⟨a,args,argTypes⟩:=c;cases a with
  |value f =>
   simp only[QJ] at g;simp only[Qh] at d ⊢;cases u:e f with
   |fn f D =>
    rw[u] at g d;dsimp only at g;simp only[vf,xP] at g;obtain⟨A,o⟩:=g;simp only[Km,A,wq,Y7 _ o,o] at d ⊢;obtain⟨i,d,C⟩:=qM (K.dv f (args.toList.map e++D)) d;refine⟨_,_,_,d,λhw=>?_⟩;have hn:Kl i=true:=by grind
    rw[C];have x:=SL h1 hn;have B:=SL h hn;rw[show(Zw true h1 i).1=(Zw true h i).1 by rw[x,B],show(Zw true h1 i).2=h1 by rw[x],hw]
   |_=>rw[u] at d;cases d
  |_=>cases g
 |_=>cases g
def Ba(h:qa)(j:Nat):Option (Nat×Option (KS×IntKind×(List Int->Int))):=h[j]?.map λb=>(b.aj,b.mp.map λm=>(m.ks,m.q,m.val))
structure ie(s s1:St)(fp:FP):Prop where
 at':∀e∈fp.rs,s1.at e=s.at e
 loc:∀e∈fp.rs,s1.loc e=s.loc e
 used:∀d∈fp.ws,s1.used d=s.used d
 heap:fp.wr=true->s1.h=s.h
 w4:fp.rd=true->s1.h=s.h∨(∃j:Nat,fp.rb.1=some j/\s1.h[j]?=s.h[j]?)∨(fp.rb.2=true/\∀j,Ba s1.h j=Ba s.h j)
variable {P K Gl aa nt}
variable {s s1:St} {f:dJ} {fp:FP}
abbrev two(f:dJ)(fp:FP):Option (dJ×FP):=some (f,fp)
def kW{x}(h:∀t∈zb x,s1.at t=s.at t):ev Gl aa s1 x=ev Gl aa s x:=by
 cases x with
 |tmp t=>simp only[ev,h t (by simp[zb])]
 |_=>rfl
def zs{x}(h:∀t∈zb x,s1.loc t=s.loc t):base aa s1 x=base aa s x:=by
 cases x with
 |tmp t=>simp only[base,h t (by simp[zb])]
 |_=>rfl
def zE{A}{v:T}{k:T->Option A}:EE v k=k v:=by
 cases v with
 |bool b=>cases b<;>rfl
 |_=>rfl
def Zd{o}{v:T}{hp:Option qa}{rs:t8}{rd wr:Bool}(a:done nt o s v hp rs rd wr two=some (f,fp)) :
 fp.rs=rs/\fp.rd=rd/\fp.wr=wr/\((∀d∈fp.ws,s1.used d=s.used d)->done nt o s1 v hp rs rd wr two=some (f,fp)):=by
 unfold done at a ⊢;cases g:o.dst with
 |none =>
  rw[g] at a;grind
 |some d =>
  rw[g] at a;dsimp only at a;cases e:(Nat.blt d nt&&!s.used d) with
  |false=>rw[e] at a;cases a
  |true =>
   rw[e] at a;simp only[wp,zE,wj,wA] at a;obtain⟨rfl,rfl⟩:=a;refine⟨rfl,rfl,rfl,λh=>?_⟩;have:=h d aq;rw[←this] at e;simp only[e,wp,zE]
def qgx{o}{v:T}{hp:Option qa}{rs:t8}{rd wr:Bool}{rb wb:Option Nat×Bool}(a:done nt o s v hp rs rd wr (λf fp=>two f { fp with rb:=rb,wb:=wb })=some (f,fp)) :
 fp.rs=rs/\fp.rd=rd/\fp.wr=wr/\fp.rb=rb/\fp.wb=wb/\((∀d∈fp.ws,s1.used d=s.used d)->done nt o s1 v hp rs rd wr (λf fp=>two f { fp with rb:=rb,wb:=wb })=some (f,fp)):=by
 unfold done at a ⊢;cases g:o.dst with
 |none =>
  rw[g] at a;grind
 |some d =>
  rw[g] at a;dsimp only at a;cases e:(Nat.blt d nt&&!s.used d) with
  |false=>rw[e] at a;cases a
  |true =>
   rw[e] at a;simp only[wp,zE,wj,wA] at a;obtain⟨rfl,rfl⟩:=a;refine⟨rfl,rfl,rfl,rfl,rfl,λh=>?_⟩;have:=h d aq;rw[←this] at e;simp only[e,wp,zE]
def Qc{R}{c}{x}{r:R}(h:(bif c then x else none)=some r):c=true/\x=some r:=by
 grind
def Y8{R}{h}{i aj}{k:ap->Option R}{r:R}(a:Qf h i aj k=some r):∃b,h[i]?=some b/\b.mp=none/\b.aj=aj/\k b=some r:=by
 unfold Qf at a;cases d:h[i]? with
 |none=>rw[d] at a;cases a
 |some b =>
  rw[d] at a;obtain⟨e,a⟩:=Qc a;simp_all
def Ng{A:Type}:∀(n i:Nat) (g:Nat->A),cZ λR (k:A->Option R)=>BK n i λj=>k (g j)
 |0,_,_=>qk
 |1,_,g=>qp (g 0)
 |n+2,i,g=>qQ _ (qp (g (n+1))) (Ng (n+1) i g)
def qgy{A}(n i)(g:Nat->A):cZ λR (k:A->Option R)=>Yu n i λj=>k (g j):=by
 unfold Yu;exact qQ _ (Ng n i g) (qp (g i))
def qke{R}{U}{e:Operand->T}{h h1:qa}{j:Nat}{k:Qg R}{r:R}(g:zL U e=some j)(N:h1[j]?=h[j]?)(d:Qh P K U e h k=some r) :
 ∃y,k y h false=some r/\∀(B:Type) (u:Qg B),Qh P K U e h1 u=u y h1 false:=by
 cases U with
 |load t a =>
  simp only[zL] at g;cases hx:e a with
  |ptr i aj I o =>
   rw[hx] at g;obtain rfl:i=j:=by simpa [jb] using g
   simp only[Qh,Ki,hx] at d ⊢;obtain⟨b,D,E,H,d⟩:=Y8 d;obtain⟨hj,d⟩:=Qc d;obtain⟨y,L,J⟩:=qM (ZU P t ((b.get I).drop o)) d;refine⟨y,L,λB u=>?_⟩;simp only[Qf,N,D,H,wF,E,vW,ul,wp,hj,J]
  |_=>rw[hx] at g;cases g
 |fieldAddr t a f =>
  simp only[zL] at g;cases hx:e a with
  |ptr i aj I o =>
   rw[hx] at g;obtain rfl:i=j:=by simpa [jb] using g
   simp only[Qh,Zk,hx] at d ⊢;cases Y:Zj P t f with
   |none=>rw[Y] at d;cases d
   |some q =>
    obtain⟨C,ty⟩:=q;rw[Y] at d;dsimp only at d ⊢;obtain⟨b,D,E,H,d⟩:=Y8 d;refine⟨_,d,λB u=>?_⟩;simp only[Qf,N,D,H,wF,E,vW,ul,wp]
  |_=>rw[hx] at g;cases g
 |nilCheck a =>
  simp only[zL] at g;cases hx:e a with
  |ptr i aj I o =>
   rw[hx] at g;obtain rfl:i=j:=by simpa [jb] using g
   simp only[Qh,FR,hx] at d ⊢;obtain⟨b,D,E,H,d⟩:=Y8 d;refine⟨_,d,λB u=>?_⟩;simp only[Qf,N,D,H,wF,E,vW,ul,wp]
  |_=>rw[hx] at g;cases g
 |lookup t x i c =>
  simp only[zL] at g;cases hx:e x with
  |mp ii aj =>
   rw[hx] at g;obtain rfl:ii=j:=by simpa [Je] using g
   have same:∀(B:Type) (u:Qg B),QX P t (.mp ii aj) (e i) c h1 u=QX P t (.mp ii aj) (e i) c h (λy _ _=>u y h1 false):=by
    intro B u;simp only[QX,Z5,Y4,y9,N]
   simp only[Qh,hx] at d ⊢;simp only[same];have hd:cZ λ(R:Type) (k:T->Option R)=>QX P t (.mp ii aj) (e i) c h (λy _ _=>k y):=by
    unfold QX;exact kV (kU P h t _ _) λi b m l=>qp _
   have gK:QX P t (.mp ii aj) (e i) c h (λy _ _=>k y h false)=some r:=d;obtain⟨y,L,J⟩:=qM hd (k:=λy=>k y h false) gK;exact⟨y,L,λB u=>J B λy=>u y h1 false⟩
  |_=>rw[hx] at g;cases g
 |slice t x lo V mx =>
  simp only[zL] at g;cases hx:e x with
  |own i aj C len cap =>
   rw[hx] at g;obtain rfl:i=j:=by simpa [ED] using g
   simp only[Qh,zm,hx] at d ⊢;cases he:qZ P t with
   |none=>rw[he] at d;cases d
   |some S =>
    rw[he] at d;dsimp only at d ⊢;obtain⟨Q,D,E,H,d⟩:=Y8 d;obtain⟨O,d⟩:=Qc d;obtain⟨⟨l,r2,c⟩,L,J⟩:=qM (k:=λp=>k (.own i aj (C+p.1) (p.2.1-p.1) p.2.2) h false) (Yx len (Q.n-C) cap _ _ _) d;refine⟨_,L,λB u=>?_⟩;simp only[Qf,N,D,H,wF,E,vW,ul,wp,O];exact J B λp=>u (.own i aj (C+p.1) (p.2.1-p.1) p.2.2) h1 false
  |_=>rw[hx] at g;cases g
 |indexAddr t x i =>
  simp only[zL] at g;cases V:e i with
  |int ki n =>
   cases hx:e x with
   |own b aj C len cap =>
    rw[hx] at g;obtain rfl:b=j:=by grind
    simp only[Qh,zn,hx,V] at d ⊢;cases he:qZ P t with
    |none=>rw[he] at d;cases d
    |some S =>
     rw[he] at d;dsimp only at d ⊢;obtain⟨Q,D,E,H,d⟩:=Y8 d;obtain⟨O,d⟩:=Qc d;obtain⟨X,d⟩:=Qc d;cases M:Q.iN with
     |true =>
      rw[M] at d;simp only[wp] at d;have W:cZ (A:=T) λR k=>BK (R:=R) Q.n (C+n.toNat) λI=>k (.ptr b aj I 0):=Ng _ _ λI=>T.ptr b aj I 0;obtain⟨y,L,J⟩:=qM (k:=λy=>k y h false) W d;refine⟨y,L,λB u=>?_⟩;simp only[Qf,N,D,H,wF,E,vW,ul,wp,O,X,M];exact J B λy=>u y h1 false
     |false =>
      rw[M] at d;simp only[wq] at d;refine⟨_,d,λB u=>?_⟩;simp only[Qf,N,D,H,wF,E,vW,ul,wp,O,X,M,wq]
   |ptr b aj I o =>
    rw[hx] at g;obtain rfl:b=j:=by grind
    simp only[Qh,zn,hx,V] at d ⊢;cases Z:QT P t with
    |none=>rw[Z] at d;cases d
    |some q =>
     obtain⟨nn,S⟩:=q;rw[Z] at d;dsimp only at d ⊢;obtain⟨O,d⟩:=Qc d;obtain⟨Q,D,E,H,d⟩:=Y8 d;cases M:((Q.sz==qS P S)&&Nat.blt 1 Q.n) with
     |true =>
      rw[M] at d;simp only[wp] at d;refine⟨_,d,λB u=>?_⟩;simp only[Qf,N,D,H,wF,E,vW,ul,wp,O,M]
     |false =>
     rw[M] at d;simp only[wq] at d;have W:cZ (A:=T) λR k=>Yu (R:=R) nn n.toNat λi=>k (.ptr b aj I (o+i*qS P S)):=qgy _ _ λi=>T.ptr b aj I (o+i*qS P S);obtain⟨y,L,J⟩:=qM (k:=λy=>k y h false) W d;refine⟨y,L,λB u=>?_⟩;simp only[Qf,N,D,H,wF,E,vW,ul,wp,O,M,wq];exact J B λy=>u y h1 false
   |_=>rw[hx] at g;cases g
  |_=>(simp only[Qh,zn,V] at d;cases d)
 |_=>cases g
def qcM{a}{e}(d:Jf a=true)(hp:qa)(v:T)(wr:Bool):zY K a e hp v wr=none:=by
 cases a with
 |lookup=>rfl
 |_=>cases d
def qh6{R:Type}{u:Op}{e:Operand->T}{h h1:qa}{k:Qg R}{r:R}(E:Jf u=true)(O:∀j,Ba h1 j=Ba h j)(a:Qh P K u e h k=some r) :
 ∃y,k y h false=some r/\∀(U:Type) (B:Qg U),Qh P K u e h1 B=B y h1 false:=by
 cases u with
 |lookup t x i c =>
  have Q:c=false:=by simpa [Jf] using E
  subst Q;cases hx:e x with
  |mp ii aj =>
   simp only[Qh,hx,QX,Z5,Y4,y9,wq] at a ⊢;have d:=O ii;unfold Ba at d;cases I:h[ii]? with
   |none=>rw[I] at a;cases a
   |some b =>
    rw[I] at a d;cases o:h1[ii]? with
    |none=>rw[o] at d;cases d
    |some S =>
     rw[o] at d;simp only[xg,wj,wA] at d;obtain⟨N,g⟩:=d;dsimp only at a ⊢;rw[N];cases H:b.mp with
     |none=>rw[H] at a;cases C:(b.aj==aj)<;>rw[C] at a<;>cases a
     |some m =>
      rw[H] at a g;cases A:S.mp with
      |none=>rw[A] at g;cases g
      |some m1 =>
       rw[A] at g;simp only[xg,wj,wA] at g;obtain⟨M,L,J⟩:=g;dsimp only at a ⊢;rw[M,L,J];obtain⟨C,a⟩:=Qc a;cases D:JZ P t with
       |none=>rw[D] at a;cases a
       |some p =>
        obtain⟨V,ks,q⟩:=p;rw[D] at a;dsimp only at a ⊢;obtain⟨W,a⟩:=Qc a;obtain⟨l,a,X⟩:=qM (Y6 m.ks (e i)) (k:=λl=>k (.int m.q (m.val l)) h false) a;grind
  |_=>(simp only[Qh,hx,QX,Z5,Y4] at a;cases a)
 |_=>cases E
def Qt{o:Oper}(i:Qi P K Gl aa nt o s two=some (f,fp)) :
 (∀t∈Qz o.op,t∈fp.rs)/\(ie s s1 fp->Qi P K Gl aa nt o s1 two=some (f,fp)):=by
 have R:ie s s1 fp->(∀t∈Qz o.op,t∈fp.rs)->∀x∈o.op.operands.toList,ev Gl aa s1 x=ev Gl aa s x:=by
  intro a g x hx;exact kW λt E=>a.at' t (g t (xQ.2 ⟨x,hx,E⟩))
 unfold Qi at i ⊢;cases hn:JA o.op (ev Gl aa s) with
 |true =>
  rw[hn] at i;simp only[wp] at i;obtain⟨⟨y,h',wr⟩,e,C⟩:=qM (Zm P K o.op (ev Gl aa s) []) (k:=λp=>bif p.2.2 then none else done nt o s p.1 none (Qz o.op) false false two) i;dsimp only at e;cases wr with
  |true=>cases e
  |false =>
   simp only[wq] at e;obtain⟨B,N,M,d⟩:=Zd (s1:=s1) e;have g:∀t∈Qz o.op,t∈fp.rs:=λt E=>B▸E;refine⟨g,λa=>?_⟩;have he:=R a g;rw[SI o.op he,hn];simp only[wp];rw[SH P K o.op [] _ he];have:=C _ λp=>bif p.2.2 then none else done nt o s1 p.1 none (Qz o.op) false false two;simp only[wq] at this;rw[this];exact d a.used
 |false =>
  rw[hn] at i;simp only[wq] at i;obtain⟨⟨y,h',wr⟩,e,C⟩:=qM (Zm P K o.op (ev Gl aa s) s.h) (k:=λp=>done nt o s p.1 (bif p.2.2 then some p.2.1 else none) (Qz o.op) (QJ K o.op (ev Gl aa s)) p.2.2 λf fp=>two f { fp with rb:=(zL o.op (ev Gl aa s),Jf o.op),wb:=(zY K o.op (ev Gl aa s) s.h p.1 p.2.2,Ct o.op) }) i;dsimp only at e;obtain⟨B,N,M,Q,W,d⟩:=qgx (s1:=s1) e;have g:∀t∈Qz o.op,t∈fp.rs:=λt E=>B▸E;refine⟨g,λa=>?_⟩;have he:=R a g;have L:zL o.op (ev Gl aa s1)=zL o.op (ev Gl aa s):=qgt o.op he;have J:∀v wr,zY K o.op (ev Gl aa s1) s1.h v wr=zY K o.op (ev Gl aa s) s1.h v wr:=qfl K o.op he s1.h;rw[SI o.op he,hn];simp only[wq];simp only[SH P K o.op s1.h _ he,qb3 K o.op he,L,J];have Y:s1.h=s.h->Qh P K o.op (ev Gl aa s) s1.h (λv h wr=>done nt o s1 v (bif wr then some h else none) (Qz o.op) (QJ K o.op (ev Gl aa s)) wr λf fp=>two f { fp with rb:=(zL o.op (ev Gl aa s),Jf o.op),wb:=(zY K o.op (ev Gl aa s) s1.h v wr,Ct o.op) })=some (f,fp):=λA=>by
   rw[A];have:=C _ λp=>done nt o s1 p.1 (bif p.2.2 then some p.2.1 else none) (Qz o.op) (QJ K o.op (ev Gl aa s)) p.2.2 λf fp=>two f { fp with rb:=(zL o.op (ev Gl aa s),Jf o.op),wb:=(zY K o.op (ev Gl aa s) s.h p.1 p.2.2,Ct o.op) };dsimp only at this;rw[this];exact d a.used
  by_cases hw:fp.wr=true
  .exact Y (a.heap hw)
  .by_cases hr:fp.rd=true
   .rcases a.w4 hr with A|⟨j,u,A⟩|⟨u,A⟩
    .grind
    .rw[Q] at u;obtain⟨U,D,H⟩:=qke (P:=P) (K:=K) (h1:=s1.h) u A (k:=λy h w=>some (y,h,w)) (r:=(y,h',wr)) (C _ some);simp only[wj,wA] at D;obtain⟨rfl,rfl,rfl⟩:=D;rw[H];rw[qgu K u] at d ⊢;exact d a.used
    .rw[Q] at u;obtain⟨U,D,H⟩:=qh6 (P:=P) (K:=K) (h1:=s1.h) u A (k:=λy h w=>some (y,h,w)) (r:=(y,h',wr)) (C _ some);simp only[wj,wA] at D;obtain⟨rfl,rfl,rfl⟩:=D;rw[H];rw[qcM u] at d ⊢;exact d a.used
   .simp only[xv] at hr hw;rw[N] at hr;rw[M] at hw;subst hw;obtain⟨Z,IJ,w3,S,X⟩:=qkd P K (h1:=s1.h) (k:=λy h w=>some (y,h,w)) (r:=(y,h',false)) hr (C _ some);simp only[wj,wA] at S;obtain⟨rfl,rfl,rfl⟩:=S;have V:=X rfl;obtain⟨q,O,I⟩:=qM (Zm P K o.op (ev Gl aa s) s1.h) (k:=some) V;simp only[wj] at O;subst O;have:=I _ λp=>done nt o s1 p.1 (bif p.2.2 then some p.2.1 else none) (Qz o.op) (QJ K o.op (ev Gl aa s)) p.2.2 λf fp=>two f { fp with rb:=(zL o.op (ev Gl aa s),Jf o.op),wb:=(zY K o.op (ev Gl aa s) s1.h p.1 p.2.2,Ct o.op) };dsimp only at this;rw[this];rw[qdQ (K:=K) hr] at d ⊢;exact d a.used
def JC{o}{t off}{rs}(a:z9 aa nt o t off rs two=some (f,fp)):fp.rs=t::rs:=by
 unfold z9 at a;grind
def SP{o}(a:zZ P K Gl aa nt o s two=some (f,fp))(u:ie s s1 fp):zZ P K Gl aa nt o s1 two=some (f,fp):=by
 have E:∀{x:Operand} {rs:t8},(∀t∈zb x,t∈rs)->fp.rs=rs->(∀t∈zb x,s1.at t=s.at t)/\(∀t∈zb x,s1.loc t=s.loc t):=by
  intro x rs r U;exact⟨λt j=>u.at' t (U▸r t j),λt j=>u.loc t (U▸r t j)⟩
 have L:∀{x:Operand},x∈o.op.operands.toList->Qi P K Gl aa nt o s two=some (f,fp)->(∀t∈zb x,s1.at t=s.at t)/\(∀t∈zb x,s1.loc t=s.loc t):=by
  intro x hx I;have:=(Qt (s1:=s1) I).1;exact⟨λt j=>u.at' t (this t (xQ.2 ⟨x,hx,j⟩)),λt j=>u.loc t (this t (xQ.2 ⟨x,hx,j⟩))⟩
 unfold zZ at a ⊢;split at a
 .rename_i B x C;cases H:o.dst with
  |none=>rw[H] at a;cases a
  |some d =>
   rw[H] at a;dsimp only at a ⊢;cases I:aa.contains d with
   |false=>rw[I] at a;simp only[wq] at a ⊢;exact(Qt a).2 u
   |true =>
    rw[I] at a;simp only[wp] at a ⊢;cases k:Zz (ev Gl aa s x) with
    |false=>rw[k] at a;cases a
    |true =>
     rw[k] at a;simp only[wp] at a;obtain⟨r,_,_,M⟩:=Zd (s1:=s1) a;have he:=kW (Gl:=Gl) (aa:=aa) (E (x:=x) (λt j=>j) r).1;rw[he,k];exact M u.used
 .rename_i B C;cases H:o.dst with
  |none=>rw[H] at a;cases a
  |some d =>
   rw[H] at a;dsimp only at a ⊢;cases I:aa.contains d with
   |false=>rw[I] at a;simp only[wq] at a ⊢;exact(Qt a).2 u
   |true =>
    rw[I] at a;simp only[wp] at a ⊢;cases hz:yY P B with
    |false=>rw[hz] at a;cases a
    |true =>
     rw[hz] at a;simp only[wp] at a ⊢;obtain⟨r,_,_,M⟩:=Zd (s1:=s1) a;exact M u.used
 .rename_i B x C;cases g:base aa s x with
  |none =>
   rw[g] at a;dsimp only at a;rw[zs (L (x:=x) (by rw[C];simp[Op.operands]) a).2,g];exact(Qt a).2 u
  |some p =>
   obtain⟨t,A⟩:=p;rw[g] at a;dsimp only at a;cases k:s.at t with
   |ag cells =>
    rw[k] at a;dsimp only at a;obtain⟨v,V,X⟩:=qM (ZU P B (cells.drop A)) a;obtain⟨r,_,_,M⟩:=Zd (s1:=s1) V;have D:=E (x:=x) (rs:=t::zb x) (λt j=>wX _ j) r;rw[zs D.2,g];dsimp only;rw[u.at' t (r▸vO),k];dsimp only;rw[X];exact M u.used
   |_=>rw[k] at a;cases a
 .rename_i B x v C;cases g:base aa s x with
  |none =>
   rw[g] at a;dsimp only at a;rw[zs (L (x:=x) (by rw[C];simp[Op.operands]) a).2,g];exact(Qt a).2 u
  |some p =>
   obtain⟨t,A⟩:=p;rw[g] at a;dsimp only at a;cases k:s.at t with
   |ag cells =>
    rw[k] at a;cases H:o.dst with
    |some d=>rw[H] at a;cases a
    |none =>
     rw[H] at a;dsimp only at a;generalize Q:(zx P B&&((ev Gl aa s v).cells.length==qS P B)&&Zz (ev Gl aa s v)&&Nat.ble (A+qS P B) cells.length)=c at a;cases c with
     |false=>cases a
     |true =>
      simp only[wp,wj,wA] at a;obtain⟨J,Z⟩:=a;have r:fp.rs=t::(zb x++zb v):=by rw[←Z]
      have D:=E (x:=x) (λN j=>wX _ (xH _ j)) r;have R:=E (x:=v) (λN j=>wX _ (ud _ j)) r;rw[zs D.2,g];dsimp only;rw[u.at' t (r▸vO),k];dsimp only;rw[kW R.1,Q];grind
   |_=>rw[k] at a;cases a
 .rename_i B x W C;cases g:base aa s x with
  |none =>
   rw[g] at a;dsimp only at a;rw[zs (L (x:=x) (by rw[C];simp[Op.operands]) a).2,g];exact(Qt a).2 u
  |some p =>
   obtain⟨t,A⟩:=p;rw[g] at a;dsimp only at a;cases k:s.at t with
   |ag cells =>
    rw[k] at a;dsimp only at a;cases J:Zj P B W with
    |none=>rw[J] at a;cases a
    |some q =>
     rw[J] at a;dsimp only at a;have r:=JC a;have D:=E (x:=x) (rs:=t::zb x) (λt j=>wX _ j) r;rw[zs D.2,g];dsimp only;rw[u.at' t (r▸vO),k];exact a
   |_=>rw[k] at a;cases a
 .rename_i B x i C;cases g:base aa s x with
  |none =>
   rw[g] at a;dsimp only at a;rw[zs (L (x:=x) (by rw[C];simp[Op.operands]) a).2,g];exact(Qt a).2 u
  |some p =>
   obtain⟨t,A⟩:=p;rw[g] at a;dsimp only at a;cases k:s.at t with
   |ag cells =>
    rw[k] at a;dsimp only at a;cases O:ev Gl aa s i with
    |int ki S =>
     rw[O] at a;dsimp only at a;cases J:QT P B with
     |none=>rw[J] at a;cases a
     |some q =>
      obtain⟨n,e⟩:=q;rw[J] at a;dsimp only at a;generalize Q:(zx P e&&decide (0<=S)&&decide (S<(n:Int)))=c at a;cases c with
      |false=>cases a
      |true =>
       simp only[wp] at a;have Y:=Q;simp only[wd,wm] at Y;have r:=JC (Zb ab a);have D:=E (x:=x) (λN j=>wX _ (xH _ j)) r;have R:=E (x:=i) (λN j=>wX _ (ud _ j)) r;rw[zs D.2,g];dsimp only;rw[u.at' t (r▸vO),k];dsimp only;rw[kW R.1,O];grind
    |_=>rw[O] at a;cases a
   |_=>rw[k] at a;cases a
 .rename_i x C;cases g:base aa s x with
  |none =>
   rw[g] at a;dsimp only at a;rw[zs (L (x:=x) (by rw[C];simp[Op.operands]) a).2,g];exact(Qt a).2 u
  |some p =>
   obtain⟨t,A⟩:=p;rw[g] at a;dsimp only at a;cases k:s.at t with
   |ag cells =>
    rw[k] at a;dsimp only at a;have r:=JC a;have D:=E (x:=x) (rs:=t::zb x) (λt j=>wX _ j) r;rw[zs D.2,g];dsimp only;rw[u.at' t (r▸vO),k];exact a
   |_=>rw[k] at a;cases a
 .exact(Qt a).2 u
end
def cellAt(w:World)(b n:Nat)(v:Value):Prop:=w.cell? ⟨b,n,none⟩ = some v/\v.oneCell'=true
inductive VI(w:World)(U:Nat->Prop):T->Value->Prop
 |undef (v:Value):VI w U .undef v
 |gone (v:Value) (h:∀b,v≠.bool b):VI w U .gone v
 |bool (b:Bool):VI w U (.bool b) (.bool b)
 |int (k:IntKind) (n:Int):VI w U (.int k n) (.int k n)
 |str (s:List UInt8) (b:ByteArray) (h:b.data.toList=s):VI w U (.str s) (.string b)
 |lz:VI w U .lz (.pointer none)
 |vp (cells:t7) (a:Addr) (vs:Nat->Value) (hs:a.spot=none) (hU:0<cells.length->U a.block)
  (hc:∀o c,cells[o]?=some c->cellAt w a.block (a.off+o) (vs o)) (hv:∀o c,cells[o]?=some c->VI w U c (vs o)):VI w U (.vp cells) (.pointer (some a))
 |ae:VI w U .ae (.slice none 0 0)
 |view (sz n:Nat) (g:Nat->t7) (cap:Option Nat) (a:Addr) (c:Nat) (vs:Nat->Nat->Value) (hs:0<c->a.spot=none) (fJ:∀m,cap=some m->c=m) (hn:n<=c)
  (hU:0<n->0<sz->U a.block) (hl:∀j,j<n->(g j).length=sz)
  (hc:∀j o c,j<n->(g j)[o]?=some c->cellAt w a.block (a.off+j*sz+o) (vs j o)) (hv:∀j o c,j<n->(g j)[o]?=some c->VI w U c (vs j o)) :
  VI w U (.view sz n g cap) (.slice (some a) n c)
 |fg (sz:Nat) (g:Nat->t7) (cap:Option Nat) (hc:cap=none∨cap=some 0):VI w U (.view sz 0 g cap) (.slice none 0 0)
 |eO:VI w U .eO .nilFunc
 |fn (f:FuncId) (aH:t7) (cs:Array Value) (vs:Nat->Value) (hl:aH.length=cs.size)
  (hc:∀(i:Nat) (c:T),aH[i]?=some c->cs[i]?=some (vs i)) (hv:∀(i:Nat) (c:T),aH[i]?=some c->VI w U c (vs i)):VI w U (.fn f aH) (.func (.func f) #[] cs)
 |agg (l:t7) (cs:Array Value) (vs:Nat->Value) (hl:l.length=cs.size) (h1:∀(i:Nat) (v:Value),cs[i]?=some v->v.oneCell'=true)
  (hc:∀(i:Nat) (c:T),l[i]?=some c->cs[i]?=some (vs i)) (hv:∀(i:Nat) (c:T),l[i]?=some c->VI w U c (vs i)):VI w U (.agg l) (.agg cs)
 |aJ (l:t7) (cs:Array Value) (vs:Nat->Value) (hl:l.length=cs.size)
  (hc:∀(i:Nat) (c:T),l[i]?=some c->cs[i]?=some (vs i)) (hv:∀(i:Nat) (c:T),l[i]?=some c->VI w U c (vs i)):VI w U (.aJ l) (.tuple cs)
 |mB:VI w U .mB .nilIface
 |iface (t:TypeId) (x:T) (v:Value) (h:VI w U x v):VI w U (.iface t x) (.iface t v)
 |iV:VI w U .iV (.map none)
 |rZ (l:Nat):VI w U (.rZ l) (.func (.yield l) #[] #[])
def room(w:World)(b n:Nat):Prop:=∃arr e,w.heap[b]?=some (.cells arr e (0,0))/\n<=arr.size
def SS(w:World)(φ:Nat->Option (Nat×Nat))(b:ap)(i off len:Nat)(cap:Option Nat)(v:Value):Prop :=
 ∃cb a c ad,φ i=some (cb,a)/\v = .slice (some ad) len c/\ad.spot=none/\(0<c->ad=⟨cb,a+off*b.sz,none⟩)/\len<=c/\(∀m,cap=some m->c=m/\off+m<=b.n)/\off+len<=b.n/\room w cb (a+(off+c)*b.sz)/\(cap=none->b.n<=off+c)
def qpM(φ:Nat->Option (Nat×Nat))(b:ap)(i off len:Nat)(cap:Option Nat)(v:Value):Prop:=φ i=none/\b.n=0/\off=0/\len=0/\(∀m,cap=some m->m=0)/\v = .slice none 0 0
def Ni(w:World)(φ:Nat->Option (Nat×Nat))(b:ap)(i off len:Nat)(cap:Option Nat)(v:Value):Prop:=SS w φ b i off len cap v∨qpM φ b i off len cap v
def SU(φ:Nat->Option (Nat×Nat))(b:ap)(i j o:Nat)(v:Value):Prop :=
 ∃cb a,φ i=some (cb,a)/\v = .pointer (some ⟨cb,a+j*b.sz+o,none⟩)
inductive VR(w:World)(U:Nat->Prop)(φ:Nat->Option (Nat×Nat))(h:qa):T->Value->Prop
 |aF (x:T) (v:Value) (hv:VI w U x v):VR w U φ h x v
 |own (i aj off len:Nat) (cap:Option Nat) (b:ap) (v:Value) (hb:h[i]?=some b) (aC:aj<=b.aj) (h1:v.oneCell'=true) (al:b.aj=aj->Ni w φ b i off len cap v):VR w U φ h (.own i aj off len cap) v
 |ptr (i aj j o:Nat) (b:ap) (v:Value) (hb:h[i]?=some b) (aC:aj<=b.aj) (h1:v.oneCell'=true) (al:b.aj=aj->SU φ b i j o v):VR w U φ h (.ptr i aj j o) v
 |mp (i aj:Nat) (b:ap) (v:Value) (hb:h[i]?=some b) (aC:aj<=b.aj) (h1:v.oneCell'=true) (al:b.aj=aj->∃cb,φ i=some (cb,0)/\v = .map (some cb)):VR w U φ h (.mp i aj) v
 |fn (f:FuncId) (aH:t7) (cs:Array Value) (vs:Nat->Value) (hl:aH.length=cs.size)
  (hc:∀(i:Nat) (c:T),aH[i]?=some c->cs[i]?=some (vs i)) (hv:∀(i:Nat) (c:T),aH[i]?=some c->VR w U φ h c (vs i)):VR w U φ h (.fn f aH) (.func (.func f) #[] cs)
 |agg (l:t7) (cs:Array Value) (vs:Nat->Value) (hl:l.length=cs.size) (h1:∀(i:Nat) (v:Value),cs[i]?=some v->v.oneCell'=true)
  (hc:∀(i:Nat) (c:T),l[i]?=some c->cs[i]?=some (vs i)) (hv:∀(i:Nat) (c:T),l[i]?=some c->VR w U φ h c (vs i)):VR w U φ h (.agg l) (.agg cs)
 |aJ (l:t7) (cs:Array Value) (vs:Nat->Value) (hl:l.length=cs.size)
  (hc:∀(i:Nat) (c:T),l[i]?=some c->cs[i]?=some (vs i)) (hv:∀(i:Nat) (c:T),l[i]?=some c->VR w U φ h c (vs i)):VR w U φ h (.aJ l) (.tuple cs)
 |iface (t:TypeId) (x:T) (v:Value) (hv:VR w U φ h x v):VR w U φ h (.iface t x) (.iface t v)
def eR(w:World)(U:Nat->Prop)(w':World)(a:Nat->Prop):Prop:=∀b,U b->a b/\w'.heap[b]?=w.heap[b]?
def cellAt.rp{w w'}{b n}{v}(h:cellAt w b n v)(e:w'.heap[b]?=w.heap[b]?):cellAt w' b n v :=
 ⟨by rw[←h.1];exact World.cell?_of_block e,h.2⟩
def VI.av{w w':World}{U J:Nat->Prop}(k:eR w U w' J){x:T}{v:Value}(h:VI w U x v):VI w' J x v:=by
 induction h with
 |undef v=>exact .undef v
 |gone v h=>exact .gone v h
 |bool b=>exact .bool b
 |int k n=>exact .int k n
 |str s b h=>exact .str s b h
 |lz=>exact .lz
 |vp cells a i D u e B d =>
  refine .vp cells a i D (λh=>(k _ (u h)).1) (λo c C=>?_) d;have L:0<cells.length:=by
   grind
  exact(e o c C).rp (k _ (u L)).2
 |ae=>exact .ae
 |view sz n g cap a c i D M hn u r e B d =>
  exact .view sz n g cap a c i D M hn (λh H=>(k _ (u h H)).1) r (λj o x E C=>(e j o x E C).rp (k _ (u ab (by have I:=r j E;have H:=(xK.1 C).1;omega))).2) d
 |fg sz g cap e=>exact .fg sz g cap e
 |eO=>exact .eO
 |fn f N A i r e B d=>exact .fn f N A i r e d
 |agg l A i r I e B d=>exact .agg l A i r I e d
 |aJ l A i r e B d=>exact .aJ l A i r e d
 |mB=>exact .mB
 |iface t x v h d=>exact .iface t x v d
 |iV=>exact .iV
 |rZ l=>exact .rZ l
structure gw(w:World)(U:Nat->Prop)(φ:Nat->Option (Nat×Nat))(h:qa)(w':World)(U':Nat->Prop)(φ':Nat->Option (Nat×Nat))(h':qa):Prop where
 u:eR w U w' U'
 dZ:∀i b,h[i]?=some b->∃b',h'[i]?=some b'/\b.aj<=b'.aj/\(b'.aj=b.aj->b'.sz=b.sz/\b'.n=b.n/\φ' i=φ i)
 rm:∀b n,room w b n->room w' b n
def eR.refl(w:World)(U:Nat->Prop):eR w U w U:=λ_ h=>⟨h,rfl⟩
def eR.trans{w e d:World}{U g f:Nat->Prop}(a:eR w U e g)(b:eR e g d f):eR w U d f :=
 λx h=>⟨(b x (a x h).1).1,(b x (a x h).1).2.trans (a x h).2⟩
def gw.refl(w:World)(U:Nat->Prop)(φ:Nat->Option (Nat×Nat))(h:qa):gw w U φ h w U φ h :=
 ⟨.refl w U,λ_ b a=>⟨b,a,wc _,λ_=>⟨rfl,rfl,rfl⟩⟩,λ_ _ h=>h⟩
def gw.trans{w g f:World}{U o j:Nat->Prop}{φ e d:Nat->Option (Nat×Nat)}{h h1 h2:qa}
 (a:gw w U φ h g o e h1) (b:gw g o e h1 f j d h2):gw w U φ h f j d h2:=by
 refine⟨a.u.trans b.u,λi x hx=>?_,λk n hr=>b.rm k n (a.rm k n hr)⟩;obtain⟨y,s,C,B⟩:=a.dZ i x hx;obtain⟨z,hz,r,A⟩:=b.dZ i y s;grind
def VR.av{w w':World}{U W:Nat->Prop}{φ P:Nat->Option (Nat×Nat)}{h h':qa}(k:gw w U φ h w' W P h'){x:T}{v}
 (hx:VR w U φ h x v):VR w' W P h' x v:=by
 induction hx with
 |aF x v s=>exact .aF x v (s.av k.u)
 |own i aj M len cap b v B V g J =>
  obtain⟨E,C,S,he⟩:=k.dZ i b B;refine .own i aj M len cap E v C ab g (λe=>?_);obtain⟨I,hn,H⟩:=he ab;rcases J ab with⟨cb,L,c,ad,O,N,es,X,e3,R,e5,e6,e7⟩|⟨q1,Z,Y⟩
  rotate_left
  .exact .inr ⟨H.trans q1,hn.trans Z,Y⟩
  refine .inl ?_;exact⟨cb,L,c,ad,H.trans O,N,es,by rw[I];exact X,e3,λm Q=>⟨(R m Q).1,by have:=(R m Q).2;omega⟩,ab,by rw[I];exact k.rm _ _ e6,λd=>by have:=e7 d;omega⟩
 |ptr i aj j o b v B V g J =>
  obtain⟨E,C,S,he⟩:=k.dZ i b B;refine .ptr i aj j o E v C ab g (λe=>?_);obtain⟨I,hn,H⟩:=he ab;obtain⟨cb,L,O,N⟩:=J ab;exact⟨cb,L,H.trans O,by rw[I];exact N⟩
 |mp i aj b v B V g J =>
  obtain⟨E,C,S,he⟩:=k.dZ i b B;refine .mp i aj E v C ab g (λe=>?_);grind
 |fn f aH D r A d s a=>exact .fn f aH D r A d a
 |agg l D r A g d s a=>exact .agg l D r A g d a
 |aJ l D r A d s a=>exact .aJ l D r A d a
 |iface t x v s a=>exact .iface t x v a
section
variable {w:World} {U:Nat->Prop} {φ:Nat->Option (Nat×Nat)} {h:qa}
def VR.bool{b:Bool}{v:Value}(hx:VR w U φ h (.bool b) v):v = .bool b:=by cases hx with|aF _ _ a=>cases a;rfl
def VR.gone{v:Value}(hx:VR w U φ h .gone v):∀b,v≠.bool b:=by cases hx with|aF _ _ a=>cases a;omega
def VR.int{k:IntKind}{n:Int}{v}(hx:VR w U φ h (.int k n) v):v = .int k n:=by cases hx with|aF _ _ a=>cases a;rfl
def VR.str{s:List UInt8}{v:Value}(hx:VR w U φ h (.str s) v):∃b:ByteArray,v = .string b/\b.data.toList=s:=by
 cases hx with|aF _ _ a=>cases a with|str _ b d=>grind
def VR.ae{v:Value}(hx:VR w U φ h .ae v):v = .slice none 0 0:=by cases hx with|aF _ _ a=>cases a;rfl
def VR.eO{v:Value}(hx:VR w U φ h .eO v):v = .nilFunc:=by cases hx with|aF _ _ a=>cases a;rfl
def VR.vp{cells:t7}{v:Value}(hx:VR w U φ h (.vp cells) v):VI w U (.vp cells) v:=by cases hx with|aF _ _ a=>exact a
def VR.view{sz n:Nat}{g:Nat->t7}{cap}{v:Value}(hx:VR w U φ h (.view sz n g cap) v):VI w U (.view sz n g cap) v:=by cases hx with|aF _ _ a=>exact a
def VR.eo{cells:t7}{v:Value}(hx:VR w U φ h (.ag cells) v):False:=by cases hx with|aF _ _ a=>cases a
def VR.tP{fl:Bool}{a b:Nat}{g}{n}{c}{v:Value}(hx:VR w U φ h (.fresh fl a b g n c) v):False:=by cases hx with|aF _ _ d=>cases d
def VR.dK{i aj off len:Nat}{cap:Option Nat}{v}(hx:VR w U φ h (.own i aj off len cap) v) :
 ∃b,h[i]?=some b/\aj<=b.aj/\v.oneCell'=true/\(b.aj=aj->Ni w φ b i off len cap v):=by
 cases hx with
 |aF _ _ a=>cases a
 |own _ _ _ _ _ b _ d g e f=>grind
def VR.dL{i aj j o:Nat}{v:Value}(hx:VR w U φ h (.ptr i aj j o) v) :
 ∃b,h[i]?=some b/\aj<=b.aj/\v.oneCell'=true/\(b.aj=aj->SU φ b i j o v):=by
 cases hx with
 |aF _ _ a=>cases a
 |ptr _ _ _ _ b _ d g e f=>grind
def VR.iD{i aj:Nat}{v:Value}(hx:VR w U φ h (.mp i aj) v) :
 ∃b,h[i]?=some b/\aj<=b.aj/\v.oneCell'=true/\(b.aj=aj->∃cb,φ i=some (cb,0)/\v = .map (some cb)):=by
 cases hx with
 |aF _ _ a=>cases a
 |mp _ _ b _ d g e f=>grind
def VR.bN{l:t7}{v:Value}(hx:VR w U φ h (.agg l) v) :
 ∃cs:Array Value,v = .agg cs/\l.length=cs.size/\(∀(i:Nat) (u:Value),cs[i]?=some u->u.oneCell'=true)/\∀(i:Nat) (c:T),l[i]?=some c->∃u,cs[i]?=some u/\VR w U φ h c u:=by
 cases hx with
 |aF _ _ a=>cases a with|agg _ cs d e j g a=>exact⟨cs,rfl,e,j,λi c f=>⟨d i,g i c f,.aF _ _ (a i c f)⟩⟩
 |agg _ cs d e j g a=>grind
def VR.ng{l:t7}{v:Value}(hx:VR w U φ h (.aJ l) v) :
 ∃cs:Array Value,v = .tuple cs/\l.length=cs.size/\∀(i:Nat) (c:T),l[i]?=some c->∃u,cs[i]?=some u/\VR w U φ h c u:=by
 cases hx with
 |aF _ _ a=>cases a with|aJ _ cs d e g a=>exact⟨cs,rfl,e,λi c f=>⟨d i,g i c f,.aF _ _ (a i c f)⟩⟩
 |aJ _ cs d e g a=>grind
def VR.gZ{f:FuncId}{l:t7}{v}(hx:VR w U φ h (.fn f l) v) :
 ∃cs:Array Value,v = .func (.func f) #[] cs/\l.length=cs.size/\∀(i:Nat) (c:T),l[i]?=some c->∃u,cs[i]?=some u/\VR w U φ h c u:=by
 cases hx with
 |aF _ _ a=>cases a with|fn _ _ cs d e j a=>exact⟨cs,rfl,e,λi c g=>⟨d i,j i c g,.aF _ _ (a i c g)⟩⟩
 |fn _ _ cs d e j a=>grind
def zk{l:t7}{cs:Array Value}{R:T->Value->Prop}(e:∀(i:Nat) (c:T),l[i]?=some c->∃u,cs[i]?=some u/\R c u) :
 (∀(i:Nat) (c:T),l[i]?=some c->cs[i]?=some (cs.getD i Go.undef))/\∀(i:Nat) (c:T),l[i]?=some c->R c (cs.getD i Go.undef):=by
 have key:∀(i:Nat) (c:T),l[i]?=some c->cs[i]?=some (cs.getD i Go.undef)/\R c (cs.getD i Go.undef):=by
  intro i c d;obtain⟨u,a,hr⟩:=e i c d;have:cs.getD i Go.undef=u:=by simp[wG,a]
  rw[this];exact⟨a,hr⟩
 grind
def VR.dh{l:t7}{cs:Array Value}(d:l.length=cs.size)(h1:∀(i:Nat) (u:Value),cs[i]?=some u->u.oneCell'=true)
 (a:∀(i:Nat) (c:T),l[i]?=some c->∃u,cs[i]?=some u/\VR w U φ h c u):VR w U φ h (.agg l) (.agg cs) :=
 .agg l cs (λi=>cs.getD i Go.undef) d h1 (zk a).1 (zk a).2
def VR.iE{l:t7}{cs:Array Value}(d:l.length=cs.size)
 (a:∀(i:Nat) (c:T),l[i]?=some c->∃u,cs[i]?=some u/\VR w U φ h c u):VR w U φ h (.aJ l) (.tuple cs) :=
 .aJ l cs (λi=>cs.getD i Go.undef) d (zk a).1 (zk a).2
def VR.ow{f:FuncId}{l:t7}{cs:Array Value}(d:l.length=cs.size)
 (a:∀(i:Nat) (c:T),l[i]?=some c->∃u,cs[i]?=some u/\VR w U φ h c u):VR w U φ h (.fn f l) (.func (.func f) #[] cs) :=
 .fn f l cs (λi=>cs.getD i Go.undef) d (zk a).1 (zk a).2
def VI.dh{l:t7}{cs:Array Value}(d:l.length=cs.size)(h1:∀(i:Nat) (u:Value),cs[i]?=some u->u.oneCell'=true)
 (a:∀(i:Nat) (c:T),l[i]?=some c->∃u,cs[i]?=some u/\VI w U c u):VI w U (.agg l) (.agg cs) :=
 .agg l cs (λi=>cs.getD i Go.undef) d h1 (zk a).1 (zk a).2
def VI.iE{l:t7}{cs:Array Value}(d:l.length=cs.size)
 (a:∀(i:Nat) (c:T),l[i]?=some c->∃u,cs[i]?=some u/\VI w U c u):VI w U (.aJ l) (.tuple cs) :=
 .aJ l cs (λi=>cs.getD i Go.undef) d (zk a).1 (zk a).2
def VI.ow{f:FuncId}{l:t7}{cs:Array Value}(d:l.length=cs.size)
 (a:∀(i:Nat) (c:T),l[i]?=some c->∃u,cs[i]?=some u/\VI w U c u):VI w U (.fn f l) (.func (.func f) #[] cs) :=
 .fn f l cs (λi=>cs.getD i Go.undef) d (zk a).1 (zk a).2
def VR.eS{x:T}{v:Value}(hx:VR w U φ h x v)(J:Zz x=true) :
 x.cells.length=v.cells.size/\(∀(i:Nat) (u:Value),v.cells[i]?=some u->u.oneCell'=true)/\∀(i:Nat) (c:T),x.cells[i]?=some c->∃u,v.cells[i]?=some u/\VR w U φ h c u:=by
 have single:∀(x:T) (v:Value),x.cells=[x]->v.cells = #[v]->v.oneCell'=true->VR w U φ h x v →
  x.cells.length=v.cells.size/\(∀(i:Nat) (u:Value),v.cells[i]?=some u->u.oneCell'=true)/\∀(i:Nat) (c:T),x.cells[i]?=some c->∃u,v.cells[i]?=some u/\VR w U φ h c u:=by
  grind
 cases hx with
 |aF _ _ d =>
  cases d with
  |undef v=>simp[Zz] at J
  |agg l D A B r e d=>exact⟨B,r,λi c E=>⟨A i,e i c E,.aF _ _ (d i c E)⟩⟩
  |aJ l D A B e d=>simp[Zz] at J
  |vp cells a A M N e d=>exact single _ _ rfl rfl rfl (.aF _ _ (.vp cells a A M N e d))
  |view sz n g cap a c A M P hn N B e d=>exact single _ _ rfl rfl rfl (.aF _ _ (.view sz n g cap a c A M P hn N B e d))
  |fn f O D A B e d=>exact single _ _ rfl rfl rfl (.aF _ _ (.fn f O D A B e d))
  |iface t x v h=>exact single _ _ rfl rfl rfl (.aF _ _ (.iface t x v h))
  |str s b C=>exact single _ _ rfl rfl rfl (.aF _ _ (.str s b C))
  |bool b=>exact single _ _ rfl rfl rfl (.aF _ _ (.bool b))
  |int k n=>exact single _ _ rfl rfl rfl (.aF _ _ (.int k n))
  |lz=>exact single _ _ rfl rfl rfl (.aF _ _ .lz)
  |fg sz g cap e=>exact single _ _ rfl rfl rfl (.aF _ _ (.fg sz g cap e))
  |ae=>exact single _ _ rfl rfl rfl (.aF _ _ .ae)
  |eO=>exact single _ _ rfl rfl rfl (.aF _ _ .eO)
  |mB=>exact single _ _ rfl rfl rfl (.aF _ _ .mB)
  |gone=>cases J
  |iV=>exact single _ _ rfl rfl rfl (.aF _ _ .iV)
  |rZ l=>exact single _ _ rfl rfl rfl (.aF _ _ (.rZ l))
 |own i aj L len cap b v C I r H=>exact single _ _ rfl (by cases v<;>first|rfl|simp[Value.oneCell'] at r) r (.own i aj L len cap b v C I r H)
 |ptr i aj j o b v C I r H=>exact single _ _ rfl (by cases v<;>first|rfl|simp[Value.oneCell'] at r) r (.ptr i aj j o b v C I r H)
 |mp i aj b v C I r H=>exact single _ _ rfl (by cases v<;>first|rfl|simp[Value.oneCell'] at r) r (.mp i aj b v C I r H)
 |fn f O D A B e d=>exact single _ _ rfl rfl rfl (.fn f O D A B e d)
 |agg l D A B r e d=>exact⟨B,r,λi c E=>⟨A i,e i c E,d i c E⟩⟩
 |aJ l D A B e d=>simp[Zz] at J
 |iface t x v d=>exact single _ _ rfl rfl rfl (.iface t x v d)
def Kq(v):VI w U (Kh v) v:=by
 unfold Kh;split<;>first|exact .bool _|exact .int _ _|exact .str _ _ rfl|exact .lz|exact .ae|exact .eO|exact .mB|exact .iV|exact .undef _
def SV(v)(g:Iv v=true):VI w U (KP v) v:=by
 cases v with
 |agg e =>
  refine VI.dh aq ?_ ?_
  .intro i u d;have f:u∈e.toList:=by grind
   have:=(wD.1 g) u f;revert this;cases u<;>simp[Value.oneCell']
  .intro i c a;simp only[wE,wT] at a;obtain⟨u,d,rfl⟩:=a;exact⟨u,rx,Kq u⟩
 |tuple e =>
  refine VI.iE aq ?_;intro i c a;simp only[wE,wT] at a;obtain⟨u,d,rfl⟩:=a;exact⟨u,rx,Kq u⟩
 |_=>simp only[KP];exact Kq _
end
open Go.ChangeMaps (setBlock modify_eq_set)
open Go.MapKept (Stamped stamped_push stamped_modify stamped_erase stamped_empty)
open Go.WideElems (findIdx_arr findIdx_born)
def BL:Value->Int
 |.int _ n=>n
 |.bool b=>bif b then 1 else 0
 |_=>0
def qT:Value->List Int
 |.agg a=>a.toList.map BL
 |v=>[BL v]
structure nC(P:Program)(k:TypeId)(KV:Value->Prop):Prop where
 inj:∀{a b:Value},KV a->KV b->qT a=qT b->a=b
 check:∀(w:World) (em:Bool) {v:Value},KV v->(Instr.checkKey em 10000 k v).run P w = .ok () w
 find:∀(w:World) {x:Value},KV x->∀es:List MapEntry,(∀e∈es,KV e.key) →
  ((Instr.findKey k x es).run P w = .ok none w/\∀e∈es,e.key≠x)∨∃j e,(Instr.findKey k x es).run P w = .ok (some (j,e.val)) w/\es[j]?=some e/\e.key=x
 stays:∀(w:World) {v:Value},KV v->(Instr.keyThatStays v v).run P w = .ok v w
structure gC(KV:Value->Prop)(q:IntKind)(m:bk)(es:Array MapEntry):Prop where
 stamped:Stamped es m.clock
 keys:∀x∈es.toList,KV x.key
 one:∀x∈es.toList,x.val = .int q (m.val (qT x.key))/\m.has (qT x.key)=true/\x.born=m.born (qT x.key)
 all:∀v,KV v->m.has (qT v)=true->∃x∈es.toList,x.key=v
 zero:∀l,m.has l=false->m.val l=0
 last:∀l st,m.last=some (l,st)->m.has l=true/\m.born l=st/\∃v,KV v/\qT v=l
def cL(w:World)(KV:Value->Prop)(q:IntKind)(b:Nat)(m:bk):Prop:=∃es,w.heap[b]?=some (.map es m.clock)/\gC KV q m es
section
variable {P:Program} {k e t:TypeId} {q:IntKind} {w:World} {b:Nat} {m:bk} {KV:Value->Prop}
def cL.of_heap{w':World}(h:cL w KV q b m)(e:w'.heap[b]?=w.heap[b]?):cL w' KV q b m:=by
 obtain⟨es,d,a⟩:=h;exact⟨es,e.trans d,a⟩
def gC.empty(ks)(a):gC KV q (bk.made ks a) #[]:={ stamped:=stamped_empty 0,keys:=by simp,one:=by simp,all:=λv _ h=>Bool.noConfusion h,zero:=λ_ _=>rfl,last:=λ_ _ h=>by cases h }
def gC.find{es}(h:gC KV q m es)(K:nC P k KV)(w){x:Value}(hx:KV x) :
 ((Instr.findKey k x es.toList).run P w = .ok none w/\m.has (qT x)=false/\∀e∈es.toList,e.key≠x) ∨
 ∃j e,(Instr.findKey k x es.toList).run P w = .ok (some (j,.int q (m.val (qT x)))) w/\es.toList[j]?=some e/\e.key=x/\m.has (qT x)=true/\e.born=m.born (qT x)/\e.val = .int q (m.val (qT x)):=by
 rcases K.find w hx es.toList h.keys with⟨d,a⟩|⟨j,u,d,a,s⟩
 .refine .inl ⟨d,?_,a⟩;rw[xV];intro r;obtain⟨y,A,B⟩:=h.all x hx r;grind
 .have o:=wx a;obtain⟨i,g,f⟩:=h.one u o;rw[s] at i g f;grind
def cL.look(h:cL w KV q b m)(K:nC P k KV)(g:P.underlying t=some (.map k e))(hz:(zeroValue e).run P w = .ok (.int q 0) w){key}(f:KV key)(c:Bool) :
 (Instr.lookup t (.map (some b)) key c).run P w = .ok (if c then .tuple #[.int q (m.val (qT key)),.bool (m.has (qT key))] else .int q (m.val (qT key))) w:=by
 obtain⟨es,i,F⟩:=h;rcases F.find K w f with⟨d,a,_⟩|⟨j,s,d,a,r,o,_⟩
 .rw[F.zero _ a,a];simp[Instr.lookup,run_underlying g,MapKept.run_getObj_map i,K.check w _ f,d,hz,Result.andThen]
 .rw[o];simp[Instr.lookup,run_underlying g,MapKept.run_getObj_map i,K.check w _ f,d,Result.andThen]
def gC.push{es}(h:gC KV q m es)(K:nC P k KV){key:Value}(j:KV key)(h2:m.has (qT key)=false)(i:∀e∈es.toList,e.key≠key)(z:Int) :
 gC KV q (m.put (qT key) z) (es.push ⟨key,.int q z,m.clock⟩)/\(m.put (qT key) z).clock=m.clock+1:=by
 have f:(m.put (qT key) z).clock=m.clock+1:=by simp[bk.put,h2]
 have o:∀x∈es.toList,gi (qT x.key) (qT key)=false:=λx hx=>Is λq=>i x hx (K.inj (h.keys x hx) j q);refine⟨⟨?_,?_,?_,?_,?_,λ_ _ h=>by cases h⟩,f⟩
 .rw[f];exact stamped_push h.stamped i
 .intro x hx;simp only[Array.toList_push,wS,wL] at hx;rcases hx with hx|rfl
  .exact h.keys x hx
  omega
 .intro x hx;simp only[Array.toList_push,wS,wL] at hx;rcases hx with hx|rfl
  .obtain⟨u,s,r⟩:=h.one x hx;simp only[bk.put,o x hx,wq,xZ];grind
  .simp[bk.put,yL,bk.lh,h2]
 .intro v g a;simp only[bk.put,vI] at a;rcases a with a|a
  .exact⟨⟨key,.int q z,m.clock⟩,aq,(K.inj g j (jK.1 a)).symm⟩
  .obtain⟨x,hx,e⟩:=h.all v g a;grind
 .intro l d;simp only[bk.put,vf] at d;simp only[bk.put,d.1,wq];exact h.zero l d.2
def gC.modify{es}(h:gC KV q m es)(K:nC P k KV){key:Value}(B:KV key){j:Nat}{f:MapEntry}(h1:es.toList[j]?=some f)(h2:f.key=key)(s:m.has (qT key)=true)(z:Int) :
 gC KV q (m.put (qT key) z) (es.modify j λe=>{ e with key:=key,val:=.int q z })/\(m.put (qT key) z).clock=m.clock:=by
 have u:(m.put (qT key) z).clock=m.clock:=by simp[bk.put,s]
 have J:es[j]?=some f:=by grind
 have a:(es.modify j λe=>{ e with key:=key,val:=.int q z }).toList=es.toList.set j { f with key:=key,val:=.int q z }:=by
  rw[um,modify_eq_set _ _ _ _ h1]
 have H:=h.stamped.2.2;have D:j<es.toList.length:=(xK.1 h1).1;have A:∀x∈(es.modify j λe=>{ e with key:=key,val:=.int q z }).toList,x = { f with key:=key,val:=.int q z }∨(x∈es.toList/\x.key≠key):=by
  intro x hx;rw[a] at hx;obtain⟨i,d⟩:=xo.1 hx;by_cases g:j=i
  .grind
  .rw[vd g] at d;refine .inr ⟨wx d,λQ=>g ?_⟩;have O:(es.toList.map (·.key))[i]?=some key:=by grind
   have E:(es.toList.map (·.key))[j]?=some key:=by grind
   have C:j<(es.toList.map (·.key)).length:=by grind
   exact(List.getElem?_inj C H).1 (E.trans O.symm)
 have M:∀x∈es.toList,x.key≠key->gi (qT x.key) (qT key)=false:=λx hx r=>Is λq=>r (K.inj (h.keys x hx) B q);have L:=h.one f (wx h1);rw[h2] at L;refine⟨⟨?_,?_,?_,?_,?_,λ_ _ h=>by cases h⟩,u⟩
 .rw[u];refine stamped_modify h.stamped j _ (λ_ _=>rfl) λe _ he=>?_;rw[J] at he;grind
 .intro x hx;rcases A x hx with rfl|⟨hx,_⟩
  .exact B
  .exact h.keys x hx
 .intro x hx;rcases A x hx with rfl|⟨hx,r⟩
  .simp only[bk.put,yL,wp,Bool.true_or,bk.lh,s,true_and];omega
  .obtain⟨U,S,R⟩:=h.one x hx;simp only[bk.put,M x hx r,wq,xZ];grind
 ·intro v I o;have N:m.has (qT v)=true:=by
   simp only[bk.put,vI] at o;rcases o with o|o
   ·rw[jK.1 o];exact s
   omega
  obtain⟨x,hx,rfl⟩:=h.all v I N;obtain⟨i,d⟩:=xo.1 hx;by_cases g:j=i
  .subst g;rw[h1] at d;obtain rfl:=we d;exact⟨_,by rw[a];exact wx (wZ D),h2.symm⟩
  .exact⟨x,by rw[a];exact wx ((vd g).trans d),rfl⟩
 .intro l a;simp only[bk.put,vf] at a;simp only[bk.put,a.1,wq];exact h.zero l a.2
def cL.update(h:cL w KV q b m)(K:nC P k KV)(s:P.underlying t=some (.map k e)){key}(a:KV key)(z:Int) :
 ∃es,(Instr.mapUpdate t (.map (some b)) key (.int q z)).run P w = .ok () (setBlock w b (.map es (m.put (qT key) z).clock))/\gC KV q (m.put (qT key) z) es:=by
 obtain⟨es,d,F⟩:=h;rcases F.find K w a with⟨r,o,f⟩|⟨j,A,r,o,f,x,_⟩
 .obtain⟨i,g⟩:=F.push K a o f z;refine⟨_,?_,i⟩;rw[g];simp[Instr.mapUpdate,run_underlying s,MapKept.run_getObj_map d,K.check w _ a,r,MapKept.run_setObj_map _ d,Result.andThen,setBlock]
 .obtain⟨i,g⟩:=F.modify K a o f x z;refine⟨_,?_,i⟩;have u:es[j]?=some A:=by grind
  rw[g];simp[Instr.mapUpdate,run_underlying s,MapKept.run_getObj_map d,K.check w _ a,r,u,f,K.stays w a,MapKept.run_setObj_map _ d,Result.andThen,setBlock]
def gC.entry{es}{key}(a:KV key)(F:gC KV q (m.put (qT key) (m.val (qT key))) es):gC KV q (m.entry (qT key)) es :=
 ⟨F.stamped,F.keys,F.one,F.all,F.zero,λl st h=>by
  cases h;exact⟨by simp[bk.entry,bk.put,yL],by simp[bk.entry,bk.put,yL],key,a,rfl⟩⟩
def cL.entry(h:cL w KV q b m)(K:nC P k KV)(s:P.underlying t=some (.map k e))(hz:(zeroValue e).run P w = .ok (.int q 0) w){key}(a:KV key) :
 ∃es,(Instr.mapEntry t (.map (some b)) key).run P w = .ok (.tuple #[.int q (m.val (qT key)),goInt (m.lh (qT key))]) (setBlock w b (.map es (m.entry (qT key)).clock))/\gC KV q (m.entry (qT key)) es:=by
 obtain⟨es,f,F⟩:=h;rcases F.find K w a with⟨r,d,g⟩|⟨j,x,r,d,g,u,C,B⟩
 .obtain⟨o,i⟩:=F.push K a d g (m.val (qT key));refine⟨_,?_,o.entry a⟩;rw[show(m.entry (qT key)).clock=m.clock+1 from i];rw[show m.lh (qT key)=m.clock by simp[bk.lh,d],F.zero _ d];simp[Instr.mapEntry,run_underlying s,MapKept.run_getObj_map f,K.check w _ a,r,hz,MapKept.run_setObj_map _ f,Result.andThen,setBlock]
 .obtain⟨o,i⟩:=F.modify K a d g u (m.val (qT key));have A:es[j]?=some x:=by grind
  have D:(es.modify j λe=>{ e with key:=key })=es.modify j λe=>{ e with key:=key,val:=.int q (m.val (qT key)) }:=by
   apply Array.ext';rw[um,um,modify_eq_set _ _ _ _ d,modify_eq_set _ _ _ _ d,←B]
  refine⟨_,?_,o.entry a⟩;rw[show(m.entry (qT key)).clock=m.clock from i,←D,show m.lh (qT key)=x.born by simp[bk.lh,u,C]];simp[Instr.mapEntry,run_underlying s,MapKept.run_getObj_map f,K.check w _ a,r,A,g,K.stays w a,MapKept.run_setObj_map _ f,Result.andThen,setBlock]
def cL.store(h:cL w KV q b m)(K:nC P k KV){l:List Int}{st}(r:m.last=some (l,st))(z:Int) :
 ∃es,(Instr.entryStore t (.map (some b)) (goInt st) (.int q z)).run P w = .ok () (setBlock w b (.map es (m.put l z).clock))/\gC KV q (m.put l z) es:=by
 obtain⟨es,d,F⟩:=h;obtain⟨A,x,key,g,rfl⟩:=F.last l st r;rcases F.find K w g with⟨_,a,_⟩|⟨j,B,I,a,f,u,s,H⟩
 .rw[A] at a;cases a
 ·obtain⟨o,i⟩:=F.modify K g a f u z;refine⟨_,?_,o⟩;have D:es.findIdx? (λe=>((e.born:Nat):Int)==((B.born:Nat):Int))=some j:=by
   rw[findIdx_arr];exact findIdx_born F.stamped.2.1 a
  have E:(es.modify j λe=>{ e with val:=.int q z })=es.modify j λC=>{ C with key:=key,val:=.int q z }:=by
   apply Array.ext';rw[um,um,modify_eq_set _ _ _ _ a,modify_eq_set _ _ _ _ a,←f]
  rw[i,←E,←x,←s];simp[Instr.entryStore,MapKept.run_getObj_map d,asInt,asIntOf,goInt,D,MapKept.run_setObj_map _ d,Result.andThen,setBlock]
def cL.drop(h:cL w KV q b m)(K:nC P k KV)(H:P.underlying t=some (.map k e)){key}(o:KV key)(ty:TypeId) :
 ∃es,(Builtin.delete_ #[t,k] ty #[.map (some b),key]).run P w = .ok (.tuple #[]) (setBlock w b (.map es (m.del (qT key)).clock))/\gC KV q (m.del (qT key)) es:=by
 obtain⟨es,g,F⟩:=h;have J:∀x∈es.toList,x.key≠key->gi (qT x.key) (qT key)=false:=λx hx a=>Is λq=>a (K.inj (F.keys x hx) o q);rcases F.find K w o with⟨D,C,B⟩|⟨j,W,D,C,B,V,U,S⟩
 .refine⟨es,?_,⟨F.stamped,F.keys,λx hx=>?_,λv u d=>?_,λl A=>?_,λ_ _ h=>by cases h⟩⟩
  .simp[Builtin.delete_,run_underlying H,MapKept.run_getObj_map g,K.check w _ o,D,MapKept.run_setObj_map _ g,Result.andThen,setBlock,bk.del]
  .simp only[bk.del,J x hx (B x hx),wq,xF,wQ];exact F.one x hx
  .simp only[bk.del,wd] at d;exact F.all v u d.2
  .simp only[bk.del];cases a:gi l (qT key) with
   |true=>rfl
   |false=>exact F.zero l (by simpa [bk.del,a] using A)
 .have R:j<es.toList.length:=(xK.1 C).1;have O:j<es.size:=by omega
  have s:(es.eraseIdxIfInBounds j).toList=es.toList.eraseIdx j:=by
   simp_all
  have E:∀x,x∈es.toList.eraseIdx j↔x∈es.toList/\x.key≠key:=by
   intro x;have N:=F.stamped.2.2;constructor
   .intro hx;obtain⟨i,r,f⟩:=List.mem_eraseIdx_iff_getElem?.1 hx;refine⟨wx f,λI=>r ?_⟩;have Q:(es.toList.map (·.key))[i]?=some key:=by grind
    have M:(es.toList.map (·.key))[j]?=some key:=by grind
    have L:j<(es.toList.map (·.key)).length:=by grind
    exact((List.getElem?_inj L N).1 (M.trans Q.symm)).symm
   .intro ⟨hx,a⟩;obtain⟨i,f⟩:=xo.1 hx;refine List.mem_eraseIdx_iff_getElem?.2 ⟨i,λr=>a ?_,f⟩;subst r;rw[C] at f;rw[←we f,B]
  refine⟨es.eraseIdxIfInBounds j,?_,⟨stamped_erase F.stamped j,λx hx=>?_,λx hx=>?_,λv u d=>?_,λl A=>?_,λ_ _ h=>by cases h⟩⟩
  .simp[Builtin.delete_,run_underlying H,MapKept.run_getObj_map g,K.check w _ o,D,MapKept.run_setObj_map _ g,Result.andThen,setBlock,bk.del]
  .rw[s] at hx;exact F.keys x ((E x).1 hx).1
  .rw[s] at hx;obtain⟨hx,a⟩:=(E x).1 hx;simp only[bk.del,J x hx a,wq,xF,wQ];exact F.one x hx
  .simp only[bk.del,wd,wR] at d;obtain⟨x,hx,e⟩:=F.all v u d.2;refine⟨x,?_,e⟩;rw[s];refine(E x).2 ⟨hx,λI=>?_⟩;rw[←e,I,yL] at d;grind
  .simp only[bk.del];cases a:gi l (qT key) with
   |true=>rfl
   |false=>exact F.zero l (by simpa [bk.del,a] using A)
def cL.made(w:World)(ks)(a):cL (w.alloc (.map #[] 0)) KV q w.heap.size (bk.made ks a):=⟨#[],(MapKept.heap_alloc w _).1,gC.empty ks a⟩
def cL.after{es:Array MapEntry}(a:∃es c,w.heap[b]?=some (.map es c))(F:gC KV q m es):cL (setBlock w b (.map es m.clock)) KV q b m:=by
 obtain⟨d,c,a⟩:=a;exact⟨es,ChangeMaps.heap_setBlock_same a _,F⟩
end
section
variable {P:Program} {k:TypeId} {q:IntKind}
def Nl(q:IntKind)(v:Value):Prop:=∃n,v = .int q n
def SW(q:IntKind)(n:Int):∀(es:List MapEntry) (i:Nat),(∀e∈es,Nl q e.key) →
 (Instr.findNow (.int q) (.int q n) es i=some none/\∀e∈es,e.key≠.int q n)∨∃j e,Instr.findNow (.int q) (.int q n) es i=some (some (i+j,e.val))/\es[j]?=some e/\e.key = .int q n
 |[],_,_=>.inl ⟨rfl,aq⟩
 |x::l,i,h=>by
  obtain⟨a,d⟩:=h x aq;unfold Instr.findNow;rw[d];simp only[Instr.sameNow,vZ];by_cases hn:n=a
  .subst hn;simp only[wF];exact .inr ⟨0,x,rfl,rfl,d⟩
  .rw[show(n==a)=false from beq_false_of_ne hn];dsimp only;rcases SW q n l (i+1) (λe he=>h e (by simp[he])) with⟨f,o⟩|⟨j,e,f,o,g⟩
   .grind
   .exact .inr ⟨j+1,e,by rw[f,show i+1+j=i+(j+1) by omega],rx,g⟩
def qll(d:P.underlying k=some (.int q)):nC P k (Nl q) where
 inj:=by
  rintro a b ⟨n,rfl⟩ ⟨m,rfl⟩ h;simp only[qT,BL,List.cons.injEq,and_true] at h;rw[h]
 check:=by
  rintro w o v ⟨n,rfl⟩;unfold Instr.checkKey;simp[run_underlying d]
 find:=by
  rintro w x ⟨n,rfl⟩ es h;rcases SW q n es 0 h with⟨g,f⟩|⟨j,e,g,f,i⟩
  .exact .inl ⟨by simp[Instr.findKey,run_underlying d,g],f⟩
  .exact .inr ⟨j,e,by simp[Instr.findKey,run_underlying d,g],f,i⟩
 stays:=by
  rintro w v ⟨n,rfl⟩;simp[Instr.keyThatStays,Instr.sameBits]
end
structure Gh where
 U:Nat->Prop
 φ:Nat->Option (Nat×Nat)
 own:Nat->Option (Nat ⊕ Nat)
 base:Nat
 low:Nat
def Gh.bs(g:Gh):Nat×Nat:=(g.base,g.low)
structure mO(w:World)(g:Gh)(h:qa)(i:Nat)(b:ap)(cb sh:Nat)(arr:Array Value)(e:TypeId):Prop where
 φ:g.φ i=some (cb,sh)
 own:g.own cb=some (.inl i)
 heap:w.heap[cb]?=some (.cells arr e (0,0))
 room:sh+b.n*b.sz<=arr.size
 len:∀j,j<b.n->(b.get j).length=b.sz
 cell:∀j o c,j<b.n->(b.get j)[o]?=some c->∃v,arr[sh+j*b.sz+o]?=some v/\v.oneCell'=true/\VR w g.U g.φ h c v
 flat:b.flat=true->∀j,j<b.n->∀c,c∈b.get j->qK c=true
def Yy:List (Option IntKind)->List Value->Prop
 |[],[]=>True
 |x::fs,v::l=>(match x with|some q=>∃n,v = .int q n|none=>∃b,v = .bool b)/\Yy fs l
 |_,_=>False
def EH:KS->Value->Prop
 |.int q,v=>Nl q v
 |.row l,v=>∃a,v = .agg a/\Yy l a.toList
def gM(w:World)(cb:Nat)(m:bk):Prop:=cL w (EH m.ks) m.q cb m
def gM.of_heap{w w'}{cb}{m}(h:gM w cb m)(e:w'.heap[cb]?=w.heap[cb]?):gM w' cb m:=cL.of_heap h e
def gM.heap{w}{cb}{m}(h:gM w cb m):∃es c,w.heap[cb]?=some (.map es c):=by
 obtain⟨es,a,_⟩:=h;grind
structure HR(g:Gh)(h:qa)(w:World):Prop where
 dS:∀i b,h[i]?=some b->b.mp=none->(∃cb sh arr e,mO w g h i b cb sh arr e)∨(g.φ i=none/\b.n=0)
 u:∀b,g.U b->b<w.heap.size/\g.own b=none
 own:∀b o,g.own b=some o->g.base<=b/\b<w.heap.size
 base:g.base<=w.heap.size
 cells:∀b o,g.own b=some o->(∃arr e,w.heap[b]?=some (.cells arr e (0,0)))∨∃i es c,o = .inl i/\w.heap[b]?=some (.map es c)
 lt:∀b i,g.own b=some (.inl i)->i<h.length
 mp:∀i b m,h[i]?=some b->b.mp=some m->∃cb,g.φ i=some (cb,0)/\g.own cb=some (.inl i)/\gM w cb m
def HR.dZ{g}{h}{w}(hr:HR g h w)(i:Nat)(b:ap)(d:h[i]?=some b)(a:b.mp=none)(hn:0<b.n∨g.φ i≠none):∃cb sh arr e,mO w g h i b cb sh arr e:=by
 rcases hr.dS i b d a with q|⟨j,f⟩
 .exact q
 grind
def HR.box{g}{h}{w}(hr:HR g h w){b t:Nat}(a:g.own b=some (.inr t)):∃arr e,w.heap[b]?=some (.cells arr e (0,0)):=by
 rcases hr.cells b _ a with h|⟨i,es,c,h,_⟩
 .exact h
 .cases h
def HR.fK{g}{h}{w w':World}(hr:HR g h w){b:Nat}{o:Nat ⊕ Nat}(d:g.own b=some o)(e:w'.heap[b]?=w.heap[b]?) :
 (∃arr e,w'.heap[b]?=some (.cells arr e (0,0)))∨∃i es c,o = .inl i/\w'.heap[b]?=some (.map es c):=by
 rcases hr.cells b o d with⟨j,f,a⟩|⟨k,es,c,r,a⟩
 .exact .inl ⟨j,f,e.trans a⟩
 grind
def HR.fh{g g':Gh}{h}{w w'}(hr:HR g h w){i:Nat}{b:ap}{m:bk}(j:h[i]?=some b)(f:b.mp=some m)(d:g'.φ i=g.φ i)
 (e:∀c,g.own c=some (.inl i)->g'.own c=some (.inl i)) (he:∀c,c<w.heap.size->g.own c=some (.inl i)->w'.heap[c]?=w.heap[c]?) :
 ∃cb,g'.φ i=some (cb,0)/\g'.own cb=some (.inl i)/\gM w' cb m:=by
 obtain⟨cb,o,a,k⟩:=hr.mp i b m j f;exact⟨cb,d.trans o,e cb a,k.of_heap (he cb (hr.own _ _ a).2 a)⟩
def HR.place{g}{h}{w}(hr:HR g h w){i:Nat}{b:ap}(d:h[i]?=some b):(∃cb sh,g.φ i=some (cb,sh)/\g.own cb=some (.inl i))∨g.φ i=none:=by
 cases a:b.mp with
 |none =>
  rcases hr.dS i b d a with⟨cb,sh,j,e,f⟩|⟨q,_⟩
  .exact .inl ⟨cb,sh,f.φ,f.own⟩
  grind
 |some m =>
  obtain⟨cb,o,k,_⟩:=hr.mp i b m d a;grind
def HR.mE{g}{h}{w}(hr:HR g h w){i cb sh:Nat}{b:ap}(e:h[i]?=some b)(d:g.φ i=some (cb,sh)):g.own cb=some (.inl i):=by
 rcases hr.place e with⟨k,j,a,f⟩|a
 .rw[d] at a;obtain⟨rfl,rfl⟩:=xa (we a);exact f
 grind
def fi(w' w:World):Prop:=w'.output=w.output/\w'.drawn<=w'.drawn
def fi.refl(w:World):fi w w:=⟨rfl,wc _⟩
def fi.trans{a d w}(h2:fi a d)(h1:fi d w):fi a w:=⟨h2.1.trans h1.1,h2.2⟩
structure mF(g:Gh)(w:World)(g':Gh)(w':World):Prop where
 size:w.heap.size<=w'.heap.size
 own:∀b,b<w.heap.size->g'.own b=g.own b
 os:w'.os=w.os
 tape:w'.tape=w.tape
 output:fi w' w
 same:∀b,b<w.heap.size->(∀i,g.own b≠some (.inl i))->w'.heap[b]?=w.heap[b]?
 bs:g'.bs=g.bs
 u:∀b,g'.U b->g.U b∨w.heap.size<=b
 new:∀b,w.heap.size<=b->∀t,g'.own b≠some (.inr t)
def mF.base{g g'}{w w'}(f:mF g w g' w'):g'.base=g.base:=vA Prod.fst f.bs
def mF.refl(g)(w)(hn:∀b o,g.own b=some o->b<w.heap.size):mF g w g w :=
 ⟨wc _,λ_ _=>rfl,rfl,rfl,.refl _,λ_ _ _=>rfl,rfl,λ_ h=>.inl h,λb a t e=>by have:=hn b _ e;omega⟩
abbrev Gh.VR(g:Gh)(h:qa)(w:World)(x:T)(v:Value):Prop:=Ab.VR w g.U g.φ h x v
abbrev Zn(g:Gh)(h:qa)(w:World)(g':Gh)(h':qa)(w':World):Prop:=gw w g.U g.φ h w' g'.U g'.φ h'
def ij(g:Gh)(h:qa)(w:World)(x:T)(h':qa)(v:Value)(w':World):Prop :=
 ∃a,HR a h' w'/\a.VR h' w' x v/\Zn g h w a h' w'/\mF g w a w'
def ij.pure{g}{h}{w}{x:T}{v:Value}(hr:HR g h w)(hx:g.VR h w x v):ij g h w x h v w :=
 ⟨g,hr,hx,.refl _ _ _ _,.refl _ _ λb o e=>(hr.own b o e).2⟩
def QM(r:Option Nat):Fence:={ fn:=λ_=>True,depth:=none,alive:=false,round:=r }
def Yk{P}{r}{a:Act}{o:Oper}{w w':World}{x:Next}(h:(execOp a.eval o).run P w = .ok x w')(hx:∀d,x≠.defer d):(o.semAt r a.eval).run P w = .ok x w':=by
 cases r with
 |none=>exact h
 |some l =>
  rw[Oper.semAt_eq]
  .exact h
  .intro c e;unfold execOp at h;rw[e] at h;simp only[Sem.run_bind] at h;cases hr:(Go.resolve a.eval c o.type).run P w with
   |ok d f =>
    rw[hr] at h;grind[Result.ok.injEq,Sem.run_pure,Result.andThen_ok]
   |_=>rw[hr] at h;simp_all
def Yz(P:Program)(o:Oper)(a:Act)(w:World)(Φ:Value->World->Prop):Prop :=
 ∀(ro:Option Nat) (n:Nat) (next:Act->World->Prop) (Q:Exit->Act->World->Prop),(∀v w',Φ v w'->next (a.put o.dst v) w')->o.wpIn (QM ro) n P a w next Q
def Zo{P}{o:Oper}{a:Act}{w w':World}{v:Value}{Φ:Value->World->Prop}(h:(execOp a.eval o).run P w = .ok (.value v) w')(d:Φ v w'):Yz P o a w Φ:=by
 intro ro n next Q hn
 refine⟨λ_ _=>trivial,?_⟩;rw[Yk h aq];exact hn v w' d
def jm{P}{o:Oper}{a:Act}{w w':World}{Φ:Value->World->Prop}(h:(execOp a.eval o).run P w = .ok .skip w')(d:Φ undef w'):Yz P o a w Φ:=by
 intro ro n next Q hn
 refine⟨λ_ _=>trivial,?_⟩;rw[Yk h aq];exact hn undef w' d
section
variable {P:Program} {R:Type} {g:Gh} {h:qa} {w:World}
def QQ(b o n):(⟨b,o,none⟩:Addr).add n=⟨b,o+n,none⟩:=by
 grind[Addr.add]
def Nm{a:Addr}(d:a.spot=none):a=⟨a.block,a.off,none⟩:=by cases a;simp_all
def qw{c}{x y}{r:R}(h:(bif c then x else y)=some r):(c=true/\x=some r)∨(c=false/\y=some r):=by
 grind
def qo{c}{x}{r:R}(h:(bif c then x else none)=some r):c=true/\x=some r:=by
 grind
def Qr{a b}(h:Nat.ble a b=true):a<=b:=xL h
def Qe{a b}(h:Nat.blt a b=true):a<b:=xL h
def qq{t}{d}(h:P.underlying t=some d):(underlying t).run P w = .ok d w:=run_underlying h w
def YA{t}{d}(h:P.underlying t=some d):∃i,P.info? t=some i:=by
 unfold Program.underlying at h;grind
def jn{t}{i}(h:P.info? t=some i):(sizeOf t).run P w = .ok (qS P t) w:=by
 simp[sizeOf,typeInfo,h,qS]
def kX{t}{d}(h:P.underlying t=some d):(isAgg t).run P w = .ok (ZQ P t) w:=by
 unfold isAgg ZQ;simp only[Sem.run_bind,qq h,Result.andThen_ok,h];cases d<;>rfl
def eu(g:Gh)(h:qa)(w:World)(b off:Nat)(cells:t7):Prop:=∀o c,cells[o]?=some c->∃v,cellAt w b (off+o) v/\g.VR h w c v
def eu.drop{b off:Nat}{cells}(d:eu g h w b off cells)(n:Nat):eu g h w b (off+n) (cells.drop n):=by
 intro o c a;rw[vK] at a;obtain⟨v,e,hr⟩:=d _ _ a;grind
def JD{b off:Nat}{cells}(d:eu g h w b off cells):∀n,n<=cells.length →
 ∃vs:List Value,vs.length=n/\(∀(j:Nat) (v:Value),vs[j]?=some v->cellAt w b (off+j) v)/\∀(j:Nat) (c:T),j<n->cells[j]?=some c->∃v,vs[j]?=some v/\g.VR h w c v
 |0,_=>⟨[],rfl,λj v a=>rx,λj c a=>ab⟩
 |n+1,hn=>by
  obtain⟨vs,k,o,s⟩:=JD d n ab;obtain⟨v,i,hr⟩:=d n cells[n] (wi ab);refine⟨vs++[v],by simp[k],λj u a=>?_,λj c a x=>?_⟩
  .rw[List.getElem?_append] at a;split at a
   .exact o j u a
   ·rename_i r;have:j-vs.length=0:=by
     rcases vY (j-vs.length) with f|f
     ·exact f
     ·rw[wz (by simp;omega)] at a;simp at a
    have e:j=n:=by omega
    subst e;rw[this] at a;simp only[wO,wj] at a;subst a;exact i
  grind
def IL{t:TypeId}{cells:t7}{k:T->Option R}{r:R}{b off:Nat}(a:ld P t cells k=some r)(B:eu g h w b off cells) :
 ∃x,k x=some r/\∃v,(loadVar t ⟨b,off,none⟩).run P w = .ok v w/\g.VR h w x v:=by
 unfold ld at a;cases e:P.underlying t with
 |none=>grind
 |some d =>
  rw[e] at a;dsimp only at a;obtain⟨i,I⟩:=YA e;cases f:ZQ P t with
  |true =>
   simp only[f,wp] at a;obtain⟨s,a⟩:=qo a;have s:=Qr s;refine⟨_,a,?_⟩;obtain⟨A,H,C,J⟩:=JD B _ s;refine⟨.agg A.toArray,?_,?_⟩
   .unfold loadVar;simp only[Sem.run_bind,kX e,Result.andThen_ok,f,vZ,jn I];rw[←H,run_loadCells_list w ⟨b,off,none⟩ A (λj v o=>by rw[QQ];exact(C j v o).1)];rfl
   .refine VR.dh (by simp;omega) (λj u D=>(C j u (by simpa using D)).2) (λj c o=>?_);rw[ub] at o;grind
  |false =>
   simp only[f,wq] at a;cases cells with
   |nil=>grind
   |cons c l =>
    refine⟨c,a,?_⟩;obtain⟨v,E,hr⟩:=B 0 c rfl;refine⟨v,?_,hr⟩;unfold loadVar;simp only[Sem.run_bind,kX e,Result.andThen_ok,f,xG,vn];have:=E.1;simp_all
def Ze{i aj}{k}{r:R}(a:Qf h i aj k=some r):∃b,h[i]?=some b/\b.mp=none/\b.aj=aj/\k b=some r:=by
 unfold Qf at a;cases d:h[i]? with
 |none=>grind
 |some b =>
  rw[d] at a;obtain⟨e,a⟩:=qo a;simp_all
def mO.gy{i:Nat}{b}{cb sh}{arr:Array Value}{e:TypeId}(a:mO w g h i b cb sh arr e){j:Nat}(k:j<b.n) :
 eu g h w cb (sh+j*b.sz) (b.get j):=by
 intro o c f;obtain⟨v,d,r,hr⟩:=a.cell j o c k f;exact⟨v,⟨by simp[World.cell?,a.heap,d],r⟩,hr⟩
def JE{cells:t7}{v}(f:g.VR h w (.vp cells) v):∃b o,v = .pointer (some ⟨b,o,none⟩)/\eu g h w b o cells:=by
 cases f.vp with
 |vp _ a e i r j k =>
  exact⟨a.block,a.off,by rw[←Nm i],λo c d=>⟨e o,j o c d,.aF _ _ (k o c d)⟩⟩
def ku{t:TypeId}{x:T}{k:Qg R}{r:R}{v:Value}(a:Ki P t x h k=some r)(hr:HR g h w)(hx:g.VR h w x v) :
 ∃y,k y h false=some r/\∃u,(Instr.loadAt t v).run P w = .ok u w/\g.VR h w y u:=by
 cases x with
 |vp cells =>
  obtain⟨b,o,rfl,I⟩:=JE hx;obtain⟨y,d,u,f,A⟩:=IL (show ld P t cells (λx=>k x h false)=some r from a) I;exact⟨y,d,u,by simp[Instr.loadAt,Instr.sureAddr,f],A⟩
 |ptr i aj j o =>
  obtain⟨b,B,J,M,a⟩:=Ze a;obtain⟨s,a⟩:=qo a;have s:=Qe s;obtain⟨cb,N,L,e,E⟩:=hr.dZ i b B J (.inl ab);obtain⟨S,D,_,_,H⟩:=hx.dL;rw[B] at D;obtain rfl:=we D;obtain⟨Q,O,C,rfl⟩:=H M;rw[E.φ] at C;obtain⟨rfl,rfl⟩:=xa (we C);obtain⟨y,d,u,f,A⟩:=IL a ((E.gy s).drop o);exact⟨y,d,u,by simp[Instr.loadAt,Instr.sureAddr,f],A⟩
 |_=>simp[Ki] at a
def qP{w:World}{b}{o:Obj}(a:w.heap[b]?=some o):b<w.heap.size:=by
 grind
def HR.change(hr:HR g h w){i}{b:ap}(hb:h[i]?=some b){w':World}{cb sh:Nat}{arr:Array Value}{e:TypeId}{b':ap}
 (V:w.heap.size<=w'.heap.size) (D:∀k,k<w.heap.size->k≠cb->w'.heap[k]?=w.heap[k]?) (H:w'.heap[cb]?=some (.cells arr e (0,0)))
 (O:g.own cb=some (.inl i)∨w.heap.size<=cb) (lX:∀n,room w cb n->n<=arr.size) (aC:b.aj<=b'.aj)
 (c9:b'.aj=b.aj->b'.sz=b.sz/\b'.n=b.n/\g.φ i=some (cb,sh)) (dD:sh+b'.n*b'.sz<=arr.size) (aY:∀j,j<b'.n->(b'.get j).length=b'.sz)
 (fB:∀j o c,j<b'.n->(b'.get j)[o]?=some c->∃v,arr[sh+j*b'.sz+o]?=some v/\v.oneCell'=true/\g.VR h w c v)
 (nD:b'.flat=true->∀j,j<b'.n->∀c,c∈b'.get j->qK c=true)
 (Z:w'.os=w.os) (nE:w'.tape=w.tape) (nF:fi w' w) (cG:b'.mp=none:=by first|rfl|assumption) :
 ∃g',g'.φ i=some (cb,sh)/\(∀k,k≠i->g'.φ k=g.φ k)/\g'.U=g.U/\HR g' (h.set i b') w'/\Zn g h w g' (h.set i b') w'/\mF g w g' w':=by
 have X:i<h.length:=by
  grind
 have W:cb<w'.heap.size:=qP H
 let g':Gh:={ g with φ:=λk=>if k=i then some (cb,sh) else g.φ k,own:=λk=>if k=cb then some (.inl i) else g.own k }
 have hU:eR w g.U w' g.U:=by
  intro k a;obtain⟨A,f⟩:=hr.u k a;grind
 have DC:∀k n,room w k n->room w' k n:=by
  intro k n S;by_cases a:k=cb
  .subst a;exact⟨arr,e,H,lX n S⟩
  .obtain⟨a',e',A,f⟩:=S;exact⟨a',e',by rw[D k (qP A) a];exact A,f⟩
 have Q:Zn g h w g' (h.set i b') w':=by
  refine⟨hU,λk x hx=>?_,DC⟩;grind
 refine⟨g',by simp[g'],λk a=>rx,rfl,?_,Q,?_⟩
 .refine⟨λk x hx N=>?_,λk a=>?_,λk o d=>?_,wM hr.base V,λk o d=>?_,λk j d=>?_,λk x m hx N=>?_⟩
  .by_cases a:k=i
   .subst a;simp only[wZ X,wj] at hx;subst hx;refine .inl ⟨cb,sh,arr,e,by simp[g'],by simp[g'],H,dD,aY,λj o c I J=>?_,nD⟩;obtain⟨v,A,f,L⟩:=fB j o c I J;exact⟨v,A,f,L.av Q⟩
   .rw[vd (λe=>a e.symm)] at hx;rcases hr.dS k x hx N with⟨B,oR,fj,M,r⟩|⟨q1,q2⟩
    rotate_left
    .grind
    refine .inl ?_;have C:B≠cb:=by
     rintro rfl;rcases O with s|s
     .rw[r.own] at s;grind
     .have:=qP r.heap;omega
    refine⟨B,oR,fj,M,by simp[g',a,r.φ],by simp[g',C,r.own],by rw[D B (qP r.heap) C];exact r.heap,r.room,r.len,λj o c I J=>?_,r.flat⟩;obtain⟨v,A,f,L⟩:=r.cell j o c I J;exact⟨v,A,f,L.av Q⟩
  ·obtain⟨A,f⟩:=hr.u k a;grind
  .by_cases a:k=cb
   .subst a;refine⟨?_,W⟩;rcases O with s|s
    .exact(hr.own k _ s).1
    .exact wM hr.base s
   .simp only[g',a,vn] at d;exact⟨(hr.own k o d).1,by have:=(hr.own k o d).2;omega⟩
  .by_cases a:k=cb
   .grind
   .simp only[g',a,vn] at d;rcases hr.cells k o d with⟨a2,M,f⟩|⟨i2,es,c,A,f⟩
    .exact .inl ⟨a2,M,by rw[D k (qP f) a];exact f⟩
    grind
  .rw[ue];by_cases a:k=cb
   .grind
   .simp only[g',a,vn] at d;exact hr.lt k j d
  .by_cases a:k=i
   .grind
   ·rw[vd (λe=>a e.symm)] at hx;obtain⟨B,o1,E,o3⟩:=hr.mp k x m hx N;have C:B≠cb:=by
     rintro rfl;rcases O with s|s
     ·rw[E] at s;grind
     ·have:=(hr.own _ _ E).2;omega
    exact⟨B,rx,rx,o3.of_heap (D B (hr.own _ _ E).2 C)⟩
 .refine⟨V,λk a=>?_,Z,nE,nF,λk a uM=>?_,rfl,λ_ a=>.inl a,λk a t=>?_⟩
  .grind
  .grind
  .by_cases Y:k=cb
   .grind
   .simp only[g',Y,vn];intro d;have:=(hr.own k _ d).2;omega
def HR.alloc(hr:HR g h w){w'}{cb sh:Nat}{arr:Array Value}{e:TypeId}{b':ap}
 (N:w.heap.size<=w'.heap.size) (A:∀k,k<w.heap.size->w'.heap[k]?=w.heap[k]?) (M:w'.heap[cb]?=some (.cells arr e (0,0)))
 (cN:w.heap.size<=cb) (dD:sh+b'.n*b'.sz<=arr.size) (aY:∀j,j<b'.n->(b'.get j).length=b'.sz)
 (fB:∀j o c,j<b'.n->(b'.get j)[o]?=some c->∃v,arr[sh+j*b'.sz+o]?=some v/\v.oneCell'=true/\g.VR h w c v)
 (nD:b'.flat=true->∀j,j<b'.n->∀c,c∈b'.get j->qK c=true)
 (S:w'.os=w.os) (Z:w'.tape=w.tape) (Y:fi w' w) (cG:b'.mp=none:=by first|rfl|assumption) :
 ∃g',g'.φ h.length=some (cb,sh)/\g'.U=g.U/\HR g' (h++[b']) w'/\Zn g h w g' (h++[b']) w'/\mF g w g' w':=by
 have O:cb<w'.heap.size:=qP M
 let g':Gh:={ g with φ:=λk=>if k=h.length then some (cb,sh) else g.φ k,own:=λk=>if k=cb then some (.inl h.length) else g.own k }
 have hU:eR w g.U w' g.U:=λk a=>⟨a,A k (hr.u k a).1⟩;have L:Zn g h w g' (h++[b']) w':=by
  refine⟨hU,λk x hx=>?_,λk n cz=>?_⟩
  ·grind
  .obtain⟨a',e',r,f⟩:=cz;exact⟨a',e',by rw[A k (qP r)];exact r,f⟩
 refine⟨g',by simp[g'],rfl,?_,L,?_⟩
 .refine⟨λk x hx I=>?_,λk a=>?_,λk o d=>?_,wM hr.base N,λk o d=>?_,λk j d=>?_,λk x m hx I=>?_⟩
  .rcases wu k h.length with a|a
   .rw[wy a] at hx;rcases hr.dS k x hx I with⟨s,V,fj,H,i⟩|⟨q1,q2⟩
    rotate_left
    .grind
    refine .inl ?_;have J:s≠cb:=by have:=qP i.heap;omega
    refine⟨s,V,fj,H,by simp[g',vB a,i.φ],by simp[g',J,i.own],by rw[A s (qP i.heap)];exact i.heap,i.room,i.len,λj o c C D=>?_,i.flat⟩;obtain⟨v,r,f,E⟩:=i.cell j o c C D;exact⟨v,r,f,E.av L⟩
   ·have gK:k=h.length:=by
     grind
    subst gK;simp only[wH (wc _),va,wO,wj] at hx;subst hx;refine .inl ⟨cb,sh,arr,e,by simp[g'],by simp[g'],M,dD,aY,λj o c C D=>?_,nD⟩;obtain⟨v,r,f,E⟩:=fB j o c C D;exact⟨v,r,f,E.av L⟩
  .obtain⟨r,f⟩:=hr.u k a;grind
  .by_cases a:k=cb
   .subst a;exact⟨wM hr.base cN,O⟩
   .simp only[g',a,vn] at d;exact⟨(hr.own k o d).1,by have:=(hr.own k o d).2;omega⟩
  .by_cases a:k=cb
   .grind
   .simp only[g',a,vn] at d;rcases hr.cells k o d with⟨a2,H,f⟩|⟨i2,es,c,r,f⟩
    .exact .inl ⟨a2,H,by rw[A k (qP f)];exact f⟩
    grind
  .rw[wC,xM];by_cases a:k=cb
   .grind
   .simp only[g',a,vn] at d;have:=hr.lt k j d;omega
  .rcases wu k h.length with a|a
   .rw[wy a] at hx;obtain⟨s,X,B,W⟩:=hr.mp k x m hx I;have J:s≠cb:=by have:=(hr.own _ _ B).2;omega
    exact⟨s,by simp[g',vB a,X],by simp[g',J,B],W.of_heap (A s (hr.own _ _ B).2)⟩
   grind
 .refine⟨N,λk a=>?_,S,Z,Y,λk a _=>A k a,rfl,λ_ a=>.inl a,λk a t=>?_⟩
  .grind
  .by_cases Q:k=cb
   .grind
   .simp only[g',Q,vn];intro d;have:=(hr.own k _ d).2;omega
end
section
variable {P:Program} {R:Type} {g:Gh} {h:qa} {w:World}
def Kr{t}(a:zx P t=true):∃i,P.info? t=some i:=by
 unfold zx at a;grind
def Qj{t}(a:zx P t=true):(sizeOf t).run P w = .ok (qS P t) w:=by
 obtain⟨i,d⟩:=Kr a;exact jn d
def qfm(v):(Kh v).cells=[Kh v]:=by unfold Kh;split<;>rfl
def Zx{t}(hz:yY P t=true):∃z:Value,(zeroValue t).run P w = .ok z w/\zx P t=true/\(Ql P t).length=z.cells.size/\z.cells.size=qS P t ∧
 (∀(i:Nat) (u:Value),z.cells[i]?=some u->u.oneCell'=true)/\∀(i:Nat) (c:T),(Ql P t)[i]?=some c->∃u,z.cells[i]?=some u/\g.VR h w c u:=by
 unfold yY at hz;cases a:P.info? t with
 |none=>grind
 |some i =>
  rw[a] at hz;dsimp only at hz;cases d:i.zero with
  |none=>grind
  |some z =>
   rw[d] at hz;simp only[wd,vm] at hz;obtain⟨⟨k,r⟩,D⟩:=hz;have e:Ql P t=(KP z).cells:=by simp[Ql,a,d]
   have o:qS P t=i.size:=by simp[qS,a]
   refine⟨z,by simp[zeroValue,typeInfo,a,d],by simp[zx,a],?_⟩;rw[e,o];have B:g.VR h w (KP z) z:=.aF _ _ (SV z r)
   have EC:∀v:Value,KP v=Kh v->v.cells = #[v]->v.oneCell'=true->(KP v).cells.length=v.cells.size/\v.cells.size=v.cells.size/\(∀(i:Nat) (u:Value),v.cells[i]?=some u->u.oneCell'=true) ∧
    ∀(i:Nat) (c:T),(KP v).cells[i]?=some c->∃u,v.cells[i]?=some u/\g.VR h w c u:=by
    intro v x s k;rw[x,qfm,s];refine⟨rfl,rfl,λj u C=>?_,λj c f=>?_⟩
    .grind
    .cases j with
     |zero=>simp at f;subst f;exact⟨v,rfl,.aF _ _ (Kq v)⟩
     |succ j=>grind
   rw[←k];cases z with
   |agg A =>
    obtain⟨I,H,E⟩:=B.eS rfl;grind
   |tuple A=>grind
   |_=>exact EC _ rfl rfl rfl
def zo(w:World)(o):(w.alloc o).heap[w.heap.size]?=some o:=by
 show(w.heap.push o)[w.heap.size]?=some o;simp
def YC(h)(b:ap):(h++[b])[h.length]?=some b:=by simp
def jo{cells}{k}{r:R}{vs:Array Value}{e:TypeId}(a:JU cells h k=some r)(hr:HR g h w)(d:cells.length=vs.size)
 (h1:∀(i:Nat) (u:Value),vs[i]?=some u->u.oneCell'=true) (L:∀(i:Nat) (c:T),cells[i]?=some c->∃u,vs[i]?=some u/\g.VR h w c u) :
 ∃y h',k y h' true=some r/\ij g h w y h' (.pointer (some ⟨w.heap.size,0,none⟩)) (w.alloc (.cells vs e)):=by
 refine⟨_,_,a,?_⟩;obtain⟨f,s,_,x,C,A⟩:=hr.alloc (w':=w.alloc (.cells vs e)) (cb:=w.heap.size) (sh:=0) (arr:=vs) (e:=e) (b':=⟨0,cells.length,1,λ_=>cells,cells.all qK,false,none⟩)
  aq (λk a=>RowKit.Below.heap_alloc _ _ _ a) (zo w _) (wc _) (by simp[d]) (λ_ _=>rfl)
  (λj o c I H=>by
   grind)
  (λJ j _ c D=>rx) rfl rfl ⟨rfl,wc _⟩
 refine⟨f,x,.ptr _ _ _ _ _ _ (YC h _) (wc _) rfl λ_=>⟨_,_,s,?_⟩,C,A⟩;simp
def qkf{a b:T}(h:M2 a b=true):a=b:=by
 unfold M2 at h;grind
def SX:∀{l m:t7},EA l m=true->l=m
 |[],[],_=>rfl
 |a::l,b::m,h=>by
  simp only[EA,wd] at h;rw[qkf h.1,SX h.2]
 |[],_::_,h=>by simp[EA] at h
 |_::_,[],h=>by simp[EA] at h
def qlm{z:t7}:∀{n j o:Nat},j<n->o<z.length->((List.replicate n z).flatten)[j*z.length+o]?=z[o]?:=by
 intro n
 induction n with
 |zero=>omega
 |succ n d =>
  intro j o e a;rw[List.replicate_succ,List.flatten_cons];cases j with
  |zero=>rw[Nat.zero_mul,wo,wy a]
  |succ j =>
   rw[Nat.succ_mul,wH ab,show j*z.length+z.length+o-z.length=j*z.length+o by omega];grind
def qgz{P}{ty}{n sz}{z}(h:M3 P ty=some (n,sz,z)):z.length=sz/\Ql P ty=(List.replicate n z).flatten:=by
 unfold M3 at h;split at h
 .rename_i d e _;obtain⟨a,h⟩:=qo h;simp only[wd,vm] at a;simp only[wj,wA] at h;obtain⟨rfl,rfl,rfl⟩:=h;exact⟨a.1.2,SX a.2⟩
 .cases h
def qb4{P:Program}{ty:TypeId}{k:Qg R}{r:R}{vs:Array Value}{e:TypeId}(a:Yi P ty h k=some r)(hr:HR g h w)(s:(Ql P ty).length=vs.size)
 (h1:∀(i:Nat) (u:Value),vs[i]?=some u->u.oneCell'=true) (x:∀(i:Nat) (c:T),(Ql P ty)[i]?=some c->∃u,vs[i]?=some u/\g.VR h w c u) :
 ∃y h',k y h' true=some r/\ij g h w y h' (.pointer (some ⟨w.heap.size,0,none⟩)) (w.alloc (.cells vs e)):=by
 unfold Yi at a;split at a
 .rename_i n sz z B;obtain⟨hz,d⟩:=qgz B;subst hz;refine⟨_,_,a,?_⟩;have H:n*z.length=vs.size:=by rw[←s,d];simp
  obtain⟨C,D,_,E,M,I⟩:=hr.alloc (w':=w.alloc (.cells vs e)) (cb:=w.heap.size) (sh:=0) (arr:=vs) (e:=e) (b':=⟨0,z.length,n,λ_=>z,z.all qK,false,none⟩)
   aq (λk a=>RowKit.Below.heap_alloc _ _ _ a) (zo w _) (wc _) (by simp[H]) (λ_ _=>rfl)
   (λj o c A f=>by
    have L:o<z.length:=by
     rcases wu o z.length with q|q
     .exact q
     .simp[wz q] at f
    obtain⟨u,Q,S⟩:=x (j*z.length+o) c (by rw[d,qlm A L];exact f);grind)
   (λd j _ c N=>rx) rfl rfl ⟨rfl,wc _⟩
  refine⟨C,E,.ptr _ _ _ _ _ _ (YC h _) (wc _) rfl λ_=>⟨_,_,D,?_⟩,M,I⟩;simp
 .exact jo a hr s h1 x
def JF(cells new)(o i)(a:o+new.length<=cells.length) :
 (yZ cells o new)[i]?=if o<=i/\i<o+new.length then new[i-o]? else cells[i]?:=by
 unfold yZ;have d:(cells.take o).length=o:=by simp;omega
 grind
def kw(cells new)(o)(a:o+new.length<=cells.length):(yZ cells o new).length=cells.length:=by
 grind[yZ]
def Yl(w:World)(b)(a arr)(e:TypeId)(d:w.heap[b]?=some (.cells a e (0,0))):(w.setRow b arr).heap[b]?=some (.cells arr e (0,0)):=setRow_heap w b a arr e _ d
def IM(a:Array Value)(vs)(p i)(hp:p+vs.length<=a.size) :
 (a.toList.take p++vs++a.toList.drop (p+vs.length)).toArray[i]?=if p<=i/\i<p+vs.length then vs[i-p]? else a[i]?:=by
 grind
def Zp(a:Array Value)(vs)(p)(hp:p+vs.length<=a.size):(a.toList.take p++vs++a.toList.drop (p+vs.length)).toArray.size=a.size:=by
 grind
def SY{t}{v}{b off}{a:Array Value}{e:TypeId}(j:zx P t=true)(f:v.cells.size=qS P t)(k:w.heap[b]?=some (.cells a e (0,0)))
 (o:off+v.cells.size<=a.size) (h1:∀(i:Nat) (u:Value),v.cells[i]?=some u->u.oneCell'=true) :
 (storeVar t ⟨b,off,none⟩ v).run P w = .ok () (w.setRow b (a.toList.take off++v.cells.toList++a.toList.drop (off+v.cells.toList.length)).toArray):=by
 unfold storeVar;have:=run_storeCells_at P b off e v.cells.toList 0 a w k (by omega) (λu d=>by
  obtain⟨i,r⟩:=xo.1 d;grind)
 simp only[Nat.add_zero] at this;simp[Qj j,f,this]
def qcO{t:TypeId}{a v:T}{k:Qg R}{r:R}{X H:Value}(D:K2 P t a v h k=some r)(hr:HR g h w)(ha:g.VR h w a X)(hv:g.VR h w v H) :
 ∃h',k .undef h' true=some r/\∃w',(Instr.storeAt t X H).run P w = .ok () w'/\ij g h w .undef h' undef w':=by
 cases a with
 |ptr i aj j o =>
  obtain⟨b,M,cG,aC,D⟩:=Ze D;obtain⟨d,D⟩:=qo D;simp only[wd,vm] at d;obtain⟨⟨⟨⟨cz,E⟩,I⟩,al⟩,O⟩:=d;have E:=Qe E;have O:=Qr O;obtain⟨cb,A,arr,e,f⟩:=hr.dZ i b M cG (.inl ab);rw[qpK (f.len j E)] at D;rw[←f.len j E] at O;refine⟨_,D,?_⟩;obtain⟨b',W,_,_,hp⟩:=ha.dL;rw[M] at W;obtain rfl:=we W;obtain⟨gF,ig,N,rfl⟩:=hp aC;rw[f.φ] at N;obtain⟨rfl,rfl⟩:=xa (we N);obtain⟨L,Y,c3⟩:=hv.eS al;have aY:=f.len j E;have DD:(j+1)*b.sz<=b.n*b.sz:=wI _ E;rw[vb,xB] at DD;have dD:=f.room;have gn:A+j*b.sz+o+H.cells.size<=arr.size:=by rw[←L,I];omega
  have az:=SY (P:=P) (w:=w) (v:=H) cz (by rw[←L,I]) f.heap gn Y;refine⟨_,by simp[Instr.storeAt,Instr.sureAddr];exact az,?_⟩;have Q:A+j*b.sz+o+H.cells.toList.length<=arr.size:=by omega
  have Z:=Zp arr H.cells.toList (A+j*b.sz+o) Q;obtain⟨g',N,e2,_,dq,aI,bK⟩:=hr.change M (w':=w.setRow cb _) (cb:=cb) (sh:=A) (e:=e) (b':=b.gY j (yZ (b.get j) o v.cells)) (by simp[World.setRow]) (λk _ bh=>setRow_other w cb k _ bh)
   (Yl w cb arr _ e f.heap) (.inl f.own) (λn hn=>by
    obtain⟨a',e',J,S⟩:=hn;rw[f.heap] at J;simp only[wj,Obj.cells.injEq] at J;rw[Z,J.1];exact S) (wc _) (λ_=>⟨rfl,rfl,f.φ⟩) (by rw[Z];exact dD)
   (λs C=>by
    simp only[ap.gY,kM];by_cases x:s=j
    .subst x;simp only[wF,wp];rw[kw _ _ _ (by rw[I];omega)];exact aY
    .simp only[x,vm,vo,vn];exact f.len s C)
   (λs B c C d=>by
    simp only[ap.gY,kM] at d ⊢;rw[IM arr _ _ _ Q];by_cases x:s=j
    .subst x;simp only[wF,wp] at d;rw[JF _ _ _ _ (by rw[I];omega)] at d;by_cases U:o<=B/\B<o+v.cells.length
     .rw[wl U] at d;obtain⟨u,hu,cX⟩:=c3 _ c d;refine⟨u,?_,Y _ _ hu,cX⟩;rw[wl ⟨ab,by simp only[xz,←L];omega⟩];rw[show A+s*b.sz+B-(A+s*b.sz+o)=B-o by omega];grind
     .rw[wh U] at d;rw[wh rx];exact f.cell s B c C d
    ·simp only[x,vm,vo,vn] at d;have ru:B<b.sz:=by
      have:=f.len s C;grind
     rw[wh ?_]
     .exact f.cell s B c C d
     .simp only[xz,←L,I];rintro⟨J,S⟩;rcases Nat.lt_or_gt_of_ne x with aM|r9
      .have:(s+1)*b.sz<=j*b.sz:=wI _ aM;rw[vb,xB] at this;omega
      .have:(j+1)*b.sz<=s*b.sz:=wI _ r9;rw[vb,xB] at this;omega)
   (λV s C c d=>by
    simp only[ap.gY,kM,wd] at V d;by_cases x:s=j
    .grind
    .simp only[x,vm,vo,vn] at d;exact f.flat V.1 s C c d) rfl rfl ⟨rfl,wc _⟩
  exact⟨g',dq,.aF _ _ (.undef _),aI,bK⟩
 |_=>simp[K2] at D
def SZ(cs:Array Value)(off)(vs:Array Value)(j:off+vs.size<=cs.size) :
 (vs.zipIdx.foldl (λcs (p:Value×Nat)=>cs.setIfInBounds (off+p.2) p.1) cs).size=cs.size ∧
 ∀i,(vs.zipIdx.foldl (λcs (p:Value×Nat)=>cs.setIfInBounds (off+p.2) p.1) cs)[i]?=if off<=i/\i<off+vs.size then vs[i-off]? else cs[i]?:=by
 rw[←Array.foldl_toList,Array.toList_zipIdx]
 have key:∀(l:List Value) (s:Nat) (cs:Array Value),off+s+l.length<=cs.size →
  ((l.zipIdx s).foldl (λcs (p:Value×Nat)=>cs.setIfInBounds (off+p.2) p.1) cs).size=cs.size ∧
  ∀i,((l.zipIdx s).foldl (λcs (p:Value×Nat)=>cs.setIfInBounds (off+p.2) p.1) cs)[i]?=if off+s<=i/\i<off+s+l.length then l[i-(off+s)]? else cs[i]?:=by
  intro l
  induction l with
  |nil=>intro s cs _;exact⟨rfl,λi=>by simp;intro d a;omega⟩
  |cons v l e =>
   intro s cs f;simp only[vc] at f;simp only[List.zipIdx_cons,List.foldl_cons];obtain⟨o,k⟩:=e (s+1) (cs.setIfInBounds (off+s) v) (by simp;omega);refine⟨by rw[o];simp,λi=>?_⟩;rw[k];simp only[vc];by_cases d:i=off+s
   .subst d;rw[wh ab,wl ab,Array.getElem?_setIfInBounds,wl rfl,wl ab];simp
   .by_cases a:off+(s+1)<=i/\i<off+(s+1)+l.length
    .rw[wl a,wl ab];rw[show i-(off+s)=(i-(off+(s+1)))+1 by omega];simp
    .rw[wh a,wh ab];simp[Ne.symm d]
 have:=key vs.toList 0 cs (by simpa using j);grind
def kz{pl:Nat->Option (Nat×Nat)}:∀(parts:List (Nat×T)) (bc:List (Nat×Value)) (cells:t7) (cs:Array Value) (k:t7->Option R) (r:R),
 YZ pl cells parts k=some r->parts.length=bc.length->(∀(n:Nat) (p:Nat×T),parts[n]?=some p->∃q:Nat×Value,bc[n]?=some q/\q.1=p.1/\g.VR h w p.2 q.2) →
 cells.length=cs.size->(∀(i:Nat) (u:Value),cs[i]?=some u->u.oneCell'=true)->(∀(i:Nat) (c:T),cells[i]?=some c->∃u,cs[i]?=some u/\g.VR h w c u) →
 ∃l d,k l=some r/\Instr.fill pl cs bc=some d/\l.length=d.size/\(∀(i:Nat) (u:Value),d[i]?=some u->u.oneCell'=true)/\∀(i:Nat) (c:T),l[i]?=some c->∃u,d[i]?=some u/\g.VR h w c u
 |[],bc,cells,cs,k,r,a,L,_,j,C,B=>by
  cases bc with
  |nil=>exact⟨cells,cs,a,rfl,j,C,B⟩
  |cons q l=>grind
 |(i,v)::parts,bc,cells,cs,k,r,a,L,x,j,C,B=>by
  cases bc with
  |nil=>grind
  |cons q bc =>
   obtain⟨W,E,I,H⟩:=x 0 _ rfl;simp only[wO,wj] at E;subst E;obtain⟨J,N⟩:=q;dsimp only at I H;subst I;simp only[YZ] at a;cases s:pl J with
   |none=>grind
   |some os =>
    obtain⟨e,size⟩:=os;rw[s] at a;obtain⟨A,a⟩:=qo a;simp only[wd,vm] at A;obtain⟨⟨o,Q⟩,f⟩:=A;have f:=Qr f;obtain⟨O,Y,X⟩:=H.eS Q;obtain⟨M,D⟩:=SZ cs e N.cells (by rw[←O,o,←j];exact f);obtain⟨l,d,V,U,S⟩:=kz parts bc (yZ cells e v.cells) _ k r a rx (λn p hn=>x (n+1) p hn)
     (by rw[kw _ _ _ (by rw[o];exact f),M,j])
     (λn u hn=>by
      rw[D] at hn;grind)
     (λn c hn=>by
      rw[JF _ _ _ _ (by rw[o];exact f)] at hn;rw[D];grind)
    refine⟨l,d,V,?_,S⟩;simp only[Instr.fill,s];rw[wh rx];exact U
end
section
variable {P:Program} {R:Type} {g:Gh} {h:qa} {w:World}
def Jj{α β}(f:α->Sem β)(a):∀(l:List α),(∀x∈l,(f x).run P w = .ok (a x) w)->(l.mapM f).run P w = .ok (l.map a) w
 |[],_=>by simp
 |x::l,hx=>by
  have e:=Jj f a l (λy d=>hx y (by simp[d]));simp_all
def qcQ{α β:Type}(f:α->Sem β)(a)(l:Array α)(hx:∀x∈l.toList,(f x).run P w = .ok (a x) w):(l.mapM f).run P w = .ok (l.map a) w:=by
 rw[Array.mapM_eq_mapM_toList];simp only[Sem.run_map,Jj f a l.toList hx,Result.andThen_ok];congr 1;grind
def qcR{t}{parts}{bc}{k}{r:R}(a:K3 P t parts h k=some r)
 (J:parts.length=bc.size) (hp:∀(n:Nat) (p:Nat×T),parts[n]?=some p->∃q:Nat×Value,bc.toList[n]?=some q/\q.1=p.1/\g.VR h w p.2 q.2) :
 ∃y,k y h false=some r/\∃v,(Instr.build t bc).run P w = .ok v w/\g.VR h w y v:=by
 unfold K3 at a;cases x:P.underlying t with
 |none=>grind
 |some d =>
  rw[x] at a;cases d with
  |struct fs =>
   dsimp only at a;obtain⟨j,a⟩:=qo a;simp only[wd] at j;obtain⟨z,hz,M,u,I,s,o⟩:=Zx (P:=P) (g:=g) (h:=h) (w:=w) j.1;obtain⟨l,A,E,H,D,C,B⟩:=kz parts bc.toList _ z.cells _ r a (by simpa using J) hp u s o;refine⟨_,E,.agg A,?_,VR.dh D C B⟩;unfold Instr.build;have N:=qcQ (P:=P) (w:=w) (λf:Field=>do pure (f.offset,←sizeOf f.type)) (λf:Field=>(f.offset,qS P f.type)) fs (λf L=>by
    have:=(wD.1 j.2) f L;simp[Qj this])
   have he:(λi=>(fs.map (λf:Field=>(f.offset,qS P f.type)))[i]?)=M4 P fs:=by
    funext i;rw[Array.getElem?_map];unfold M4;cases fs[i]?<;>rfl
   simp only[Sem.run_bind,hz,Result.andThen_ok,qq x];simp_all
  |array n e =>
   dsimp only at a;obtain⟨j,a⟩:=qo a;simp only[wd] at j;obtain⟨z,hz,M,u,I,s,o⟩:=Zx (P:=P) (g:=g) (h:=h) (w:=w) j.1;obtain⟨l,A,E,H,D,C,B⟩:=kz parts bc.toList _ z.cells _ r a (by omega) hp u s o;refine⟨_,E,.agg A,?_,VR.dh D C B⟩;unfold Instr.build;simp only[Sem.run_bind,hz,Result.andThen_ok,qq x];simp only[Qj j.2,Result.andThen_ok];rw[show(λi=>some (i*qS P e,qS P e))=Sm (qS P e) from rfl,H];rfl
  |_=>simp at a
def YD{α}(f:Nat->α):(Array.range 0).map f = #[]:=rx
def ZB{a:t7}{z:Array Value}{sz:Nat}(i:a.length=z.size)(k:z.size=sz)(len:Nat)(j o:Nat)(c:T)(f:j<len)(e:a[o]?=some c) :
 ((Array.range (len*sz)).map (z[·%z.size]!))[j*sz+o]?=z[o]?:=by
 have d:o<sz:=by
  rcases wu o a.length with h|h
  .omega
  .simp[wz h] at e
 have r:j*sz+o<len*sz:=by
  have:(j+1)*sz<=len*sz:=wI _ f;rw[vb,xB] at this;omega
 have s:(j*sz+o)%sz=o:=by rw[Nat.add_comm,Nat.add_mul_mod_self_right];exact Nat.mod_eq_of_lt d
 rw[Array.getElem?_map];grind
def YE{sz}:∀(parts:List (Nat×T)) (bc:List (Nat×Value)) (a:List t7) (cs:Array Value) (k:List t7->Option R) (r:R),
 Yr sz a parts k=some r->parts.length=bc.length->(∀(n:Nat) (p:Nat×T),parts[n]?=some p->∃q:Nat×Value,bc[n]?=some q/\q.1=p.1/\g.VR h w p.2 q.2) →
 a.length*sz<=cs.size->(∀l∈a,l.length=sz)->(∀(i:Nat) (u:Value),cs[i]?=some u->u.oneCell'=true) →
 (∀(j o:Nat) (l:t7) (c:T),a[j]?=some l->l[o]?=some c->∃u,cs[j*sz+o]?=some u/\g.VR h w c u) →
 ∃es s,k es=some r/\Instr.fill (λi=>some (i*sz,sz)) cs bc=some s/\es.length=a.length/\s.size=cs.size/\(∀l∈es,l.length=sz)/\(∀(i:Nat) (u:Value),s[i]?=some u->u.oneCell'=true) ∧
  ∀(j o:Nat) (l:t7) (c:T),es[j]?=some l->l[o]?=some c->∃u,s[j*sz+o]?=some u/\g.VR h w c u
 |[],bc,a,cs,k,r,f,V,_,W,x,H,E=>by
  cases bc with
  |nil=>exact⟨a,cs,f,rfl,rfl,rfl,x,H,E⟩
  |cons q l=>grind
 |(i,v)::parts,bc,a,cs,k,r,f,V,B,W,x,H,E=>by
  cases bc with
  |nil=>grind
  |cons q bc =>
   obtain⟨q',O,S,Q⟩:=B 0 (i,v) rfl;simp only[wO,wj] at O;subst O;obtain⟨d,Y⟩:=q;dsimp only at S Q;subst S;simp only[Yr] at f;obtain⟨D,f⟩:=qo f;simp only[wd,vm] at D;obtain⟨⟨L,Z⟩,A⟩:=D;have A:=Qe A;obtain⟨M,c2,c3⟩:=Q.eS Z;have X:(d+1)*sz<=a.length*sz:=wI _ A;rw[vb,xB] at X;obtain⟨J,I⟩:=SZ cs (d*sz) Y.cells (by rw[←M,L];omega);obtain⟨es,s,a1,a2,a3,a4,a5,a6,a7⟩:=YE parts bc (a.set d v.cells) _ k r f rx (λn p hn=>B (n+1) p hn)
    (by rw[J];grind)
    (λl oa=>by
     grind)
    (λn u hn=>by
     rw[I] at hn;grind)
    (λj o l c C ho=>by
     rw[I];by_cases N:j=d
     ·grind
     ·rw[vd (λe=>N e.symm)] at C;have Nq:o<sz:=by
       have:=x l (wx C);grind
      rw[wh ?_]
      .grind
      .rw[←M,L];rintro⟨q1,q2⟩;rcases Nat.lt_or_gt_of_ne N with Nr|U
       .have:(j+1)*sz<=d*sz:=wI _ Nr;rw[vb,xB] at this;omega
       .have:(d+1)*sz<=j*sz:=wI _ U;rw[vb,xB] at this;omega)
   refine⟨es,s,a1,?_,rx,by rw[a4,J],a5,a6,a7⟩;simp only[Instr.fill];rw[wh rx];exact a2
def qkg{es:List t7}(d:(es.all (·.all qK))=true){l}(a:l∈es){c:T}(e:c∈l):qK c=true :=
 (wD.1 ((wD.1 d) l a)) c e
def j9{t:TypeId}{len:Nat}{parts:List (Nat×T)}{bc:Array (Nat×Value)}{k:Qg R}{r:R}(a:zM P t len parts h k=some r)(hr:HR g h w)
 (hl:parts.length=bc.size) (hp:∀(n:Nat) (p:Nat×T),parts[n]?=some p->∃q:Nat×Value,bc.toList[n]?=some q/\q.1=p.1/\g.VR h w p.2 q.2) :
 ∃y h',k y h' true=some r/\∃v w',(Instr.buildSlice t len bc).run P w = .ok v w'/\ij g h w y h' v w':=by
 unfold zM qZ at a;cases E:P.underlying t with
 |none=>grind
 |some d =>
  rw[E] at a;cases d with
  |slice e =>
   dsimp only at a;obtain⟨B,a⟩:=qo a;simp only[wd] at B;obtain⟨hz,W⟩:=B;have W:=Qr W;obtain⟨z,hz,V,M,O,Y,sa⟩:=Zx (P:=P) (g:=g) (h:=h) (w:=w) hz
   let s:Array Value:=(Array.range (len*qS P e)).map (z.cells[·%z.cells.size]!)
   obtain⟨es,A,a1,J,a3,a4,a5,a6,a7⟩:=YE (sz:=qS P e) parts bc.toList (List.replicate len (Ql P e)) s _ r a (by omega) hp
    (by simp[s]) (λl Z=>by rw[(List.mem_replicate.1 Z).2,M,O])
    (λi u N=>by
     simp only[s,Array.getElem?_map,wT] at N;obtain⟨n,hn,rfl⟩:=N;have fy:n=i/\i<len*qS P e:=by
      grind
     have sC:0<qS P e:=by
      grind
     rw[Array.getElem!_eq_getD,wG];have H:n%z.cells.size<z.cells.size:=Nat.mod_lt _ ab;rw[wK H];exact Y _ _ (wK H))
    (λj o l c f S=>by
     have D:j<len:=by
      rcases wu j len with x|x
      .exact x
      .rw[wz (by simpa using x)] at f;simp at f
     have:l=Ql P e:=(List.mem_replicate.1 (wx f)).2;subst this;rw[ZB M O len j o c D S];grind)
   refine⟨_,_,a1,.slice (some ⟨w.heap.size,0,none⟩) len len,w.alloc (.cells A e),?_,?_⟩
   .unfold Instr.buildSlice;have x:¬(len*qS P e > 2 ^ 24):=by omega
    by_cases C:len*qS P e=0
    .have I:s = #[]:=by grind
     rw[I] at J;have U:(Array.range (len*qS P e)).map ((#[]:Array Value)[·%(#[]:Array Value).size]!) = #[]:=by rw[C];grind
     simp only[Sem.run_bind,qq E,Result.andThen_ok,Qj V,C,vZ];rw[wh (by decide)];rw[C] at U;simp only[Sem.run_bind,Sem.run_pure,Result.andThen_ok,U,J];rfl
    .simp only[Sem.run_bind,qq E,Result.andThen_ok,Qj V,x,vn,Sem.run_pure,C,hz];rw[show(Array.range (len*qS P e)).map (z.cells[·%z.cells.size]!)=s from rfl,J];rfl
   .have X:A.size=len*qS P e:=by rw[a4];simp[s]
    obtain⟨g',I,_,dq,aI,bK⟩:=hr.alloc (w':=w.alloc (.cells A e)) (cb:=w.heap.size) (sh:=0) (arr:=A) (e:=e) (b':=⟨0,qS P e,len,λj=>es.getD j [],es.all (·.all qK),Nat.ble len 8,none⟩)
     aq (λk a=>RowKit.Below.heap_alloc _ _ _ a) (zo w _) (wc _) (by simp[X])
     (λj f=>by
      grind)
     (λj o c f S=>by
      grind)
     (λhf j f c L=>by
      have D:j<es.length:=by grind
      have Q:es[j]?=some es[j]:=wi D;simp only[List.getD,Q,xw] at L;exact qkg hf (wx Q) L) rfl rfl ⟨rfl,wc _⟩
    refine⟨g',dq,.own _ _ _ _ _ _ _ (YC h _) (wc _) rfl λ_=>.inl ⟨_,_,len,_,I,rfl,rfl,aq,wc _,λm H=>?_,aq,?_,λB=>by cases B⟩,aI,bK⟩
    .grind
    .exact⟨A,e,zo w _,by simp[X]⟩
  |_=>simp at a
def HR.DF(hr:HR g h w)(i)(e:TypeId) :
 HR { g with U:=λb=>g.U b∨b=w.heap.size } h (w.alloc (.cells i e))/\Zn g h w { g with U:=λb=>g.U b∨b=w.heap.size } h (w.alloc (.cells i e))/\mF g w { g with U:=λb=>g.U b∨b=w.heap.size } (w.alloc (.cells i e)):=by
 have r:∀k,k<w.heap.size->(w.alloc (.cells i e)).heap[k]?=w.heap[k]?:=λk a=>RowKit.Below.heap_alloc _ _ _ a;have E:(w.alloc (.cells i e)).heap.size=w.heap.size+1:=by simp
 have H:Zn g h w { g with U:=λb=>g.U b∨b=w.heap.size } h (w.alloc (.cells i e)):=by
  refine⟨λk a=>⟨.inl a,r k (hr.u k a).1⟩,λk x hx=>⟨x,hx,wc _,λ_=>⟨rfl,rfl,rfl⟩⟩,λk n V=>?_⟩;obtain⟨W,S,s,B⟩:=V;exact⟨W,S,by rw[r k (qP s)];exact s,B⟩
 have X:g.own w.heap.size=none:=by
  cases f:g.own w.heap.size with
  |none=>rfl
  |some o=>have:=(hr.own _ o f).2;omega
 refine⟨⟨λk x hx C=>?_,λk a=>?_,λk o f=>?_,by rw[E];exact Nat.le_succ_of_le hr.base,λk o f=>hr.fK f (r k (hr.own k o f).2),hr.lt,λk x m hx C=>hr.fh hx C rfl (λ_ h=>h) λc A _=>r c A⟩,H,by rw[E];omega,λ_ _=>rfl,rfl,rfl,⟨rfl,wc _⟩,λk a _=>r k a,rfl,λb M=>?_,λb M t J=>?_⟩
 .rcases hr.dS k x hx C with⟨D,I,O,Q,d⟩|q
  rotate_left
  .grind
  refine .inl ⟨D,I,O,Q,d.φ,d.own,by rw[r D (qP d.heap)];exact d.heap,d.room,d.len,λj o c L A=>?_,d.flat⟩;obtain⟨v,s,B,N⟩:=d.cell j o c L A;exact⟨v,s,B,N.av H⟩
 .rcases a with a|a
  .exact⟨by have:=(hr.u k a).1;omega,(hr.u k a).2⟩
  grind
 .exact⟨(hr.own k o f).1,by have:=(hr.own k o f).2;omega⟩
 .grind
 .have:=(hr.own b _ J).2;omega
def jN{c:T}{v}(hp:zV c=true)(a:g.VR h w c v):VI w g.U c v:=by
 cases a with
 |aF _ _ a=>exact a
 |fn f o k d e r a =>
  have:o=[]:=by simpa [zV] using hp
  subst this;exact .fn f [] k d e (λi c j=>rx) (λi c j=>rx)
 |_=>simp[zV] at hp
def yf{c:T}{v:Value}(hp:aF c=true)(a:g.VR h w c v):VI w g.U c v:=by
 cases a with
 |aF _ _ a=>exact a
 |fn f r o e j k a =>
  have:=wD.1 (show r.all zV=true from hp);exact .fn f r o e j k (λi c d=>jN (this c (wx d)) (a i c d))
 |agg l o e j s k a =>
  have:=wD.1 (show l.all zV=true from hp);exact .agg l o e j s k (λi c d=>jN (this c (wx d)) (a i c d))
 |aJ l o e j k a =>
  have:=wD.1 (show l.all zV=true from hp);exact .aJ l o e j k (λi c d=>jN (this c (wx d)) (a i c d))
 |iface t x v a=>exact .iface t x v (jN (show zV x=true from hp) a)
 |_=>simp[aF,zV] at hp
def qam{t:TypeId}{len:Nat}{parts:List (Nat×T)}{bc:Array (Nat×Value)}{k:T->Option R}{r:R}(x:yM P t len parts k=some r)(hr:HR g h w)
 (hl:parts.length=bc.size) (hp:∀(n:Nat) (p:Nat×T),parts[n]?=some p->∃q:Nat×Value,bc.toList[n]?=some q/\q.1=p.1/\g.VR h w p.2 q.2) :
 ∃y,k y=some r/\∃v w',(Instr.buildSlice t len bc).run P w = .ok v w'/\ij g h w y h v w':=by
 unfold yM qZ at x;cases H:P.underlying t with
 |none=>grind
 |some d =>
  rw[H] at x;cases d with
  |slice e =>
   dsimp only at x;obtain⟨O,x⟩:=qo x;simp only[wd] at O;obtain⟨hz,V⟩:=O;have V:=Qr V;obtain⟨z,hz,S,M,N,Y,sa⟩:=Zx (P:=P) (g:=g) (h:=h) (w:=w) hz
   let C:Array Value:=(Array.range (len*qS P e)).map (z.cells[·%z.cells.size]!)
   obtain⟨es,A,L,J,a3,a4,a5,a6,X⟩:=YE (sz:=qS P e) parts bc.toList (List.replicate len (Ql P e)) C _ r x (by omega) hp
    (by simp[C]) (λl oa=>by rw[(List.mem_replicate.1 oa).2,M,N])
    (λi u f=>by
     simp only[C,Array.getElem?_map,wT] at f;obtain⟨n,hn,rfl⟩:=f;have fy:n=i/\i<len*qS P e:=by
      grind
     have sC:0<qS P e:=by
      grind
     rw[Array.getElem!_eq_getD,wG];have I:n%z.cells.size<z.cells.size:=Nat.mod_lt _ ab;rw[wK I];exact Y _ _ (wK I))
    (λj o l c B a=>by
     have Z:j<len:=by
      rcases wu j len with D|D
      .exact D
      .rw[wz (by simpa using D)] at B;simp at B
     have:l=Ql P e:=(List.mem_replicate.1 (wx B)).2;subst this;rw[ZB M N len j o c Z a];grind)
   obtain⟨n9,L⟩:=qo L;refine⟨_,L,.slice (some ⟨w.heap.size,0,none⟩) len len,w.alloc (.cells A e),?_,?_⟩
   .unfold Instr.buildSlice;have D:¬(len*qS P e > 2 ^ 24):=by omega
    by_cases E:len*qS P e=0
    .have e1:C = #[]:=by grind
     rw[e1] at J;have Q:(Array.range (len*qS P e)).map ((#[]:Array Value)[·%(#[]:Array Value).size]!) = #[]:=by rw[E];grind
     simp only[Sem.run_bind,qq H,Result.andThen_ok,Qj S,E,vZ];rw[wh (by decide)];rw[E] at Q;simp only[Sem.run_bind,Sem.run_pure,Result.andThen_ok,Q,J];rfl
    .simp only[Sem.run_bind,qq H,Result.andThen_ok,Qj S,D,vn,Sem.run_pure,E,hz];rw[show(Array.range (len*qS P e)).map (z.cells[·%z.cells.size]!)=C from rfl,J];rfl
   .have DE:A.size=len*qS P e:=by rw[a4];simp[C]
    obtain⟨dq,W,bK⟩:=hr.DF A e;have bH:es.length=len:=by grind
    refine⟨_,dq,.aF _ _ (.view _ _ _ _ ⟨w.heap.size,0,none⟩ len (λj o=>A.getD (j*qS P e+o) undef) (λ_=>rfl) (λm I=>rx) (wc _) (λ_ _=>.inr rfl) (λj B=>?_) (λj o c B a=>?_) (λj o c B a=>?_)),W,bK⟩
    .have s:es[j]?=some (es[j]'ab):=wi ab;grind
    .have s:es[j]?=some (es[j]'ab):=wi ab;simp only[List.getD,s,xw] at a;obtain⟨u,f,U⟩:=X j o _ c s a;rw[show A.getD (j*qS P e+o) undef=u by rw[wG,f];rfl];exact⟨by simp_all,a6 _ _ f⟩
    .have s:es[j]?=some (es[j]'ab):=wi ab;simp only[List.getD,s,xw] at a;obtain⟨u,f,U⟩:=X j o _ c s a;show VI _ _ c (A.getD (j*qS P e+o) undef);rw[show A.getD (j*qS P e+o) undef=u by rw[wG,f];rfl];exact(yf (wD.1 (wD.1 n9 _ (wx s)) _ (wx a)) U).av W.1
  |_=>simp at x
end
section
variable {P:Program} {R:Type} {g:Gh} {h:qa} {w:World}
def Qa{t e}(h:qZ P t=some e):P.underlying t=some (.slice e):=by
 unfold qZ at h;grind
def yg{t e}{n}(h:QT P t=some (n,e)):P.underlying t=some (.array n e):=by
 unfold QT at h;grind
def S0{n}(h1:-9223372036854775808<=n)(h2:n<=9223372036854775807):IntKind.i64.wrap n=n:=by
 exact IntWalk.i64_in n ⟨h1,h2⟩
def qdR{t}{l c:T}{k}{r:R}{cl cc:Value}(a:JV P t l c h k=some r)(hr:HR g h w)(I:g.VR h w l cl)(d:g.VR h w c cc) :
 ∃y h',k y h' true=some r/\∃v w',(Instr.makeSlice t cl cc).run P w = .ok v w'/\ij g h w y h' v w':=by
 unfold JV at a;cases he:qZ P t with
 |none=>grind
 |some e =>
  rw[he] at a;cases l with
  |int kl l =>
   cases c with
   |int kc c =>
    dsimp only at a;obtain⟨hz,a⟩:=qo a;obtain⟨D,a⟩:=qo a;simp only[wd,wm] at D;obtain⟨⟨⟨q1,q2⟩,E⟩,q4⟩:=D;obtain rfl:=I.int;obtain rfl:=d.int;obtain⟨z,hz,C,s,u,Z,Y⟩:=Zx (P:=P) (g:=g) (h:=h) (w:=w) hz;obtain⟨i,A⟩:=Kr C;have M:YY P e=i.bytes:=by simp[YY,A]
    refine⟨_,_,a,.slice (some ⟨w.heap.size,0,none⟩) l.toNat c.toNat,w.alloc (.cells ((Array.range (c.toNat*qS P e)).map (z.cells[·%z.cells.size]!)) e),?_,?_⟩
    ·unfold Instr.makeSlice;simp only[Sem.run_bind,qq (Qa he),Result.andThen_ok];have f:=S0 (n:=l) ab ab;have O:=S0 (n:=c) ab ab;have hn:¬((decide (c<0) || decide ((i.bytes:Int)*c > 2 ^ 48) || decide (l<0) || decide (l > c))=true):=by
      rw[M] at E;grind
     have W:(typeInfo e).run P w = .ok i w:=by simp[typeInfo,A]
     simp only[asInt,asIntOf,Sem.run_bind,Sem.run_pure,Result.andThen_ok,W,f,O,hn,vn,run_askRoom,Qj C,xG];by_cases B:c.toNat*qS P e=0
     .simp only[B,vZ,Sem.run_bind,Sem.run_pure,Result.andThen_ok,YD];rfl
     .simp only[B,vn,Sem.run_bind,hz,Sem.run_pure,Result.andThen_ok];rfl
    ·obtain⟨N,f,_,Q,V,S⟩:=hr.alloc (w':=w.alloc (.cells ((Array.range (c.toNat*qS P e)).map (z.cells[·%z.cells.size]!)) e)) (cb:=w.heap.size) (sh:=0) (arr:=(Array.range (c.toNat*qS P e)).map (z.cells[·%z.cells.size]!)) (e:=e)
      (b':=⟨0,qS P e,c.toNat,λ_=>Ql P e,(Ql P e).all qK,false,none⟩)
      aq (λk a=>RowKit.Below.heap_alloc _ _ _ a) (zo w _) (wc _) aq
      (λj _=>by rw[s,u])
      (λj o x J H=>by
       have hq:=ZB s u c.toNat j o x J H;grind)
      (λL j _ x hx=>(wD.1 L) x hx) rfl rfl ⟨rfl,wc _⟩
     refine⟨N,Q,.own _ _ _ _ _ _ _ (YC h _) (wc _) rfl λ_=>.inl ⟨_,_,c.toNat,_,f,rfl,rfl,aq,ab,λm hm=>?_,rx,?_,λd=>by cases d⟩,V,S⟩
     .grind
     .exact⟨_,e,zo w _,aq⟩
   |_=>simp at a
  |_=>simp at a
def zJ{x}{d}{k}{r:R}(e:Kk x d k=some r):(x=none/\k d=some r)∨∃a i,x=some (.int a i)/\k i=some r:=by
 cases x with
 |none=>exact .inl ⟨rfl,e⟩
 |some x =>
  cases x with
  |int a i=>exact .inr ⟨a,i,rfl,e⟩
  |_=>simp[Kk] at e
def Bb(g:Gh)(h:qa)(w:World)(x:Option T)(v:Option Value):Prop:=(x=none/\v=none)∨∃y u,x=some y/\v=some u/\g.VR h w y u
def Zq{isS:Bool}{len gm ccap}{cap:Option Nat}{M J s:Option T}{U S V:Option Value}{k:Nat->Nat->Option Nat->Option R}{r:R}
 (a:Yt len gm cap M J s k=some r) (C:Bb g h w M U) (B:Bb g h w J S) (O:Bb g h w s V) (Z:∀m,cap=some m->ccap=m) (aY:len<=ccap) (W:len<=gm) (Ns:cap=none->gm<=ccap) :
 ∃l d c m,k l d c=some r/\(Instr.sliceBounds isS len ccap U S V).run P w = .ok (l,d,m) w/\l<=d/\d<=m/\m<=ccap ∧
  (s=none->m=ccap/\c=cap.map (·-l)/\(cap=none->d<=gm))/\(s≠none->c=some (m-l)/\(cap=none->m<=gm)):=by
 have o:∀{x:Option T} {v:Option Value} {E:IntKind} {i:Int},Bb g h w x v->x=some (.int E i)->v=some (.int E i):=by
  intro x v E i hx e;rcases hx with⟨j,f⟩|⟨y,u,j,f,hr⟩
  .rw[j] at e;cases e
  .rw[j] at e;obtain rfl:=we e;rw[f,hr.int]
 have A:∀{x:Option T} {v:Option Value},Bb g h w x v->x=none->v=none:=by
  intro x v hx e;rcases hx with⟨j,f⟩|⟨y,u,j,f,hr⟩
  .exact f
  grind
 have sb:∀(E:IntKind) (i:Int) (y:Nat) (code:BoundsCode),0<=i->i<=(y:Int)->(Instr.sliceBound (.int E i) y code).run P w = .ok i.toNat w:=by
  intro E i y code Y X;simp[Instr.sliceBound,asIntOf,Y,X]
 have ac6:(cap.getD gm:Int)<=(ccap:Int):=by
  cases cap with
  |none=>have:=Ns rfl;grind
  |some c=>have:=Z c rfl;grind
 unfold Yt at a;cases s with
 |none =>
  obtain rfl:=A O rfl;rcases zJ a with⟨j,a⟩|⟨D,l,j,a⟩<;>rcases zJ a with⟨f,a⟩|⟨H,d,f,a⟩ <;>
   (dsimp only at a;obtain⟨I,a⟩:=qo a;simp only[wd,wm] at I;obtain⟨⟨L,Q⟩,c3⟩:=I)
  .refine⟨_,_,_,ccap,a,?_,ab,ab,wc _,λ_=>⟨rfl,?_,λhn=>by omega⟩,λd=>absurd rfl d⟩
   .rw[A C j,A B f];rfl
   .rfl
  .refine⟨_,_,_,ccap,a,?_,ab,ab,wc _,λ_=>⟨rfl,?_,λhn=>rx⟩,λd=>absurd rfl d⟩
   .rw[A C j,o B f];simp[Instr.sliceBounds,sb H d ccap _ ab ab]
   .rfl
  .refine⟨_,_,_,ccap,a,?_,ab,ab,wc _,λ_=>⟨rfl,?_,λhn=>by omega⟩,λd=>absurd rfl d⟩
   .rw[o C j,A B f];simp[Instr.sliceBounds,sb D l len _ L Q]
   .rfl
  .refine⟨_,_,_,ccap,a,?_,ab,ab,wc _,λ_=>⟨rfl,?_,λhn=>rx⟩,λd=>absurd rfl d⟩
   .rw[o C j,o B f];simp[Instr.sliceBounds,sb H d ccap _ ab ab,sb D l d.toNat _ L ab]
   .rfl
 |some s =>
  cases s with
  |int km m =>
   cases J with
   |none =>
    rcases zJ a with⟨j,a⟩|⟨D,l,j,a⟩<;>simp[Kk] at a
   |some J =>
    have N:=o O rfl;rcases zJ a with⟨j,a⟩|⟨D,l,j,a⟩<;>rcases zJ a with⟨f,a⟩|⟨H,d,f,a⟩ <;>
     (dsimp only at a;obtain⟨I,a⟩:=qo a;simp only[wd,wm] at I;obtain⟨⟨⟨L,Q⟩,c3⟩,c4⟩:=I)
    .cases f
    .refine⟨_,_,_,m.toNat,a,?_,ab,ab,ab,(λhn=>by cases hn),λ_=>⟨rfl,λhn=>rx⟩⟩;rw[A C j,o B f,N];simp[Instr.sliceBounds,sb km m ccap _ ab ab,sb H d m.toNat _ ab ab]
    .cases f
    .refine⟨_,_,_,m.toNat,a,?_,ab,ab,ab,(λhn=>by cases hn),λ_=>⟨rfl,λhn=>rx⟩⟩;rw[o C j,o B f,N];simp[Instr.sliceBounds,sb km m ccap _ ab ab,sb H d m.toNat _ ab ab,sb D l d.toNat _ L ab]
  |_ =>
   rcases zJ a with⟨j,a⟩|⟨D,l,j,a⟩<;>rcases zJ a with⟨f,a⟩|⟨H,d,f,a⟩<;>simp at a
def Ym{s}{b:ByteArray}(a:b.data.toList=s):b.size=s.length:=by
 show b.data.size=_;rw[←a];grind
def Ks(b:ByteArray)(l r):(b.extract l r).data.toList=(b.data.toList.take r).drop l:=by
 simp[List.extract,List.drop_take]
def jp{t}(h:JT P t=true):P.underlying t=some .string:=by
 unfold JT at h;grind
def Nt(a:Addr)(d:a.spot=none)(n:Nat):a.add n=⟨a.block,a.off+n,none⟩:=by
 cases a with
 |mk b o s=>dsimp only at d;subst d;exact QQ b o n
def jq{t:TypeId}{x:T}{lo hi J:Option T}{v:Value}{F2 F3 EI:Option Value}{k:Qg R}{r:R}(d:zm P t x lo hi J h k=some r)
 (hx:g.VR h w x v) (Y:Bb g h w lo F2) (W:Bb g h w hi F3) (dt:Bb g h w J EI) :
 ∃y,k y h false=some r/\∃u,(Instr.sliceAt t v F2 F3 EI).run P w = .ok u w/\g.VR h w y u:=by
 cases x with
 |str s =>
  obtain⟨b,rfl,U⟩:=hx.str;cases J with
  |some J=>simp[zm] at d
  |none =>
   obtain rfl:EI=none:=by
    rcases dt with⟨_,e⟩|⟨y,u,e,_⟩
    .exact e
    .cases e
   obtain⟨hs,d⟩:=qo d;have hu:=jp hs;have dY:=Ym U;obtain⟨l,B,c,m,d,E,h1,h2,h3,N,_⟩:=Zq (P:=P) (isS:=false) (ccap:=b.size) d Y W (.inl ⟨rfl,rfl⟩) (λm H=>by simp only[wj] at H;omega) ab (wc _) (λA=>by cases A);rw[←dY] at E;refine⟨_,d,.string (b.extract l B),?_,.aF _ _ (.str _ _ (by rw[Ks,U]))⟩;simp only[Instr.sliceAt,Instr.slice,Sem.run_bind,qq hu,Result.andThen_ok];simp_all
 |ae =>
  obtain rfl:=hx.ae;simp only[zm] at d;cases he:qZ P t with
  |none=>grind
  |some e =>
   rw[he] at d;obtain⟨V,d⟩:=qo d;obtain⟨l,B,c,m,d,E,h1,h2,h3,_,_⟩:=Zq (P:=P) (isS:=true) (ccap:=0) d Y W dt (λm H=>by simp only[wj] at H;omega) ab (wc _) (λA=>by cases A);refine⟨_,d,.slice none 0 0,?_,.aF _ _ .ae⟩;simp only[Instr.sliceAt,Instr.slice,Sem.run_bind,qq (Qa he),Result.andThen_ok];simp only[E,Result.andThen_ok,Qj V];simp_all
 |view sz n g' cap =>
  simp only[zm] at d;cases he:qZ P t with
  |none=>grind
  |some e =>
   rw[he] at d;obtain⟨A,d⟩:=qo d;simp only[wd,vm] at A;obtain⟨V,dY⟩:=A;cases hx.view with
   |fg _ _ _ sd =>
    obtain⟨l,B,c,m,d,E,h1,h2,h3,N,h5⟩:=Zq (P:=P) (isS:=true) (ccap:=0) d Y W dt (λm H=>by rcases sd with h|h<;>rw[h] at H<;>cases H;rfl) (wc _) (wc _) (λ_=>wc _);obtain⟨bz,d⟩:=qo d;have ni:c=none∨c=some 0:=by
     grind
    have Q:B-l=0:=by omega
    have Z:m-l=0:=by omega
    refine⟨_,d,.slice none 0 0,?_,?_⟩
    .simp only[Instr.sliceAt,Instr.slice,Sem.run_bind,qq (Qa he),Result.andThen_ok];simp only[E,Result.andThen_ok,Qj V];simp_all
    .rw[Q];exact .aF _ _ (.fg _ _ _ ni)
   |view _ _ _ _ a cc vs hs fJ hn hU hl A hv =>
    obtain⟨l,B,c,m,d,E,h1,h2,h3,N,h5⟩:=Zq (P:=P) (isS:=true) (ccap:=cc) d Y W dt fJ hn (wc _) (λ_=>hn);obtain⟨bz,d⟩:=qo d;have bz:=Qr bz;refine⟨_,d,.slice (if m=l then some a else(some a).map (·.add (l*qS P e))) (B-l) (m-l),?_,?_⟩
    .simp only[Instr.sliceAt,Instr.slice,Sem.run_bind,qq (Qa he),Result.andThen_ok];simp only[E,Result.andThen_ok,Qj V];rfl
    ·have CA:∀C,c=some C->m-l=C:=by
      intro C O;cases M:J with
      |none =>
       obtain⟨Q,Z,_⟩:=N M;rw[Z] at O;cases cap with
       |none=>cases O
       |some S=>have:=fJ S rfl;grind
      |some y =>
       grind
     by_cases F4:m=l
     .rw[wl F4];exact .aF _ _ (.view sz (B-l) _ c a _ (λj o=>vs (l+j) o) (λh0=>ab) CA ab (λhp _=>ab) (λj hj=>ab) (λj o c hj=>ab) (λj o c hj=>ab))
     ·rw[wh F4];simp only[xg];rw[Nt a (hs ab)];exact .aF _ _ (.view sz (B-l) _ c _ _ (λj o=>vs (l+j) o) (λ_=>rfl) CA ab (λhp=>hU ab) (λj hj=>hl (l+j) ab)
       (λj o c hj ho=>by
        have:=A (l+j) o c ab ho;rw[←dY];grind)
       (λj o c hj ho=>hv (l+j) o c ab ho))
 |own i aj I len cap =>
  simp only[zm] at d;cases he:qZ P t with
  |none=>grind
  |some e =>
   rw[he] at d;obtain⟨b,U,cG,aC,d⟩:=Ze d;obtain⟨A,d⟩:=qo d;simp only[wd,vm] at A;obtain⟨V,dY⟩:=A;obtain⟨b',dR,_,_,hp⟩:=hx.dK;rw[U] at dR;obtain rfl:=we dR;rcases hp aC with⟨cb,sh,cc,ad,Q,rfl,es,Z,e3,e4,e5,e6,e7⟩|⟨X,L,rfl,rfl,q5,rfl⟩
   rotate_left
   ·obtain⟨l,B,c,m,d,E,h1,h2,h3,N,h5⟩:=Zq (P:=P) (isS:=true) (ccap:=0) d Y W dt (λm H=>(q5 m H).symm) (wc _) (wN _) (λ_=>ab);have ni:∀C,c=some C->C=0:=by
     intro C O;cases J with
     |none =>
      simp_all
     |some x =>
      grind
    have Q:B-l=0:=by omega
    have Z:m-l=0:=by omega
    have e3:l=0:=by omega
    refine⟨_,d,.slice none 0 0,?_,?_⟩
    .simp only[Instr.sliceAt,Instr.slice,Sem.run_bind,qq (Qa he),Result.andThen_ok];simp only[E,Result.andThen_ok,Qj V];simp[Q,Z]
    .rw[Q,e3];exact .own _ _ _ _ _ b _ U (Nat.le_of_eq aC.symm) rfl λ_=>.inr ⟨X,L,rfl,rfl,ni,rfl⟩
   obtain⟨l,B,c,m,d,E,h1,h2,h3,N,h5⟩:=Zq (P:=P) (isS:=true) (ccap:=cc) d Y W dt (λm H=>(e4 m H).1) e3 ab (λA=>by have:=e7 A;omega);refine⟨_,d,.slice (if m=l then some ad else(some ad).map (·.add (l*qS P e))) (B-l) (m-l),?_,?_⟩
   .simp only[Instr.sliceAt,Instr.slice,Sem.run_bind,qq (Qa he),Result.andThen_ok];simp only[E,Result.andThen_ok,Qj V];rfl
   ·have Bc:∀C,c=some C->m-l=C/\I+l+C<=b.n:=by
     intro C O;cases M:J with
     |none =>
      obtain⟨X,L,_⟩:=N M;rw[L] at O;cases cap with
      |none=>cases O
      |some S=>have:=e4 S rfl;grind
     |some y =>
      obtain⟨X,L⟩:=h5 (by rw[M];simp);rw[X] at O;have:=we O;cases cap with
      |none=>have:=L rfl;omega
      |some S=>have:=e4 S rfl;omega
    have aY:I+l+(B-l)<=b.n:=by
     cases M:J with
     |none =>
      obtain⟨X,L,q3⟩:=N M;cases cap with
      |none=>have:=q3 rfl;omega
      |some S=>have:=e4 S rfl;omega
     |some y =>
      grind
    have sd:c=none->b.n<=I+l+(m-l):=by
     intro A;cases M:J with
     |none =>
      obtain⟨X,L,q3⟩:=N M;rw[L] at A;cases cap with
      |none=>have:=e7 rfl;omega
      |some S=>cases A
     |some y =>
      grind
    have lX:room w cb (sh+(I+l+(m-l))*b.sz):=by
     obtain⟨arr,e',r1,r2⟩:=e6;refine⟨arr,e',r1,wM ?_ r2⟩;exact Nat.add_le_add_left (wI _ ab) _
    by_cases F4:m=l
    .rw[wl F4];exact .own _ _ _ _ _ b _ U (Nat.le_of_eq aC.symm) rfl λ_=>.inl ⟨cb,sh,m-l,ad,Q,rfl,es,λhp=>ab,ab,Bc,aY,lX,sd⟩
    .rw[wh F4];have s9:=Z ab;subst s9;simp only[xg,QQ];exact .own _ _ _ _ _ b _ U (Nat.le_of_eq aC.symm) rfl λ_=>.inl ⟨cb,sh,m-l,_,Q,rfl,rfl,λ_=>by rw[dY,vb,vX],ab,Bc,aY,lX,sd⟩
 |_=>simp[zm] at d
end
section
variable {P:Program} {R:Type} {g:Gh} {h:qa} {w:World}
def JG{t}{f off}{ty}(a:Zj P t f=some (off,ty)) :
 ∃fs x,P.underlying t=some (.struct fs)/\fs[f]?=some x/\x.offset=off/\x.type=ty/\zx P ty=true/\qS P ty≠0:=by
 unfold Zj at a;grind
def jO{t}{l:t7}{cs}{off}{k:T->Option R}{r:R}(a:ld P t (l.drop off) k=some r)(I:l.length=cs.size)
 (h1:∀(i:Nat) (u:Value),cs[i]?=some u->u.oneCell'=true) (E:∀(i:Nat) (c:T),l[i]?=some c->∃u,cs[i]?=some u/\g.VR h w c u) :
 ∃x,k x=some r/\∃v,(part t cs off).run P w = .ok v w/\g.VR h w x v:=by
 unfold ld at a;cases e:P.underlying t with
 |none=>grind
 |some d =>
  rw[e] at a;dsimp only at a;obtain⟨i,D⟩:=YA e;cases o:ZQ P t with
  |true =>
   simp only[o,wp] at a;obtain⟨A,a⟩:=qo a;have A:=Qr A;refine⟨_,a,.agg (cs.extract off (off+qS P t)),?_,?_⟩
   .unfold part;simp only[Sem.run_bind,kX e,Result.andThen_ok,o,vZ,jn D];rfl
   .simp only[vv] at A;refine VR.dh (by simp;omega) ?_ ?_
    .intro j u f;rw[Array.getElem?_extract] at f;split at f
     .exact h1 _ u f
     .simp at f
    grind
  |false =>
   simp only[o,wq] at a;cases s:l.drop off with
   |nil=>rw[s] at a;grind
   |cons c H =>
    rw[s] at a;refine⟨c,a,?_⟩;have B:l[off]?=some c:=by
     have:=vA (·[0]?) s;grind
    obtain⟨u,C,hr⟩:=E _ c B;refine⟨u,?_,hr⟩;unfold part;simp only[Sem.run_bind,kX e,Result.andThen_ok,o,xG,vn,C];rfl
def qcS{t}{x:T}{f:Nat}{v}{k:Qg R}{r:R}(a:K4 P t x f h k=some r)(hx:g.VR h w x v) :
 ∃y,k y h false=some r/\∃u,(Instr.field t v f).run P w = .ok u w/\g.VR h w y u:=by
 unfold K4 at a;cases x with
 |agg l =>
  cases d:Zj P t f with
  |none=>grind
  |some p =>
   obtain⟨e,D⟩:=p;rw[d] at a;obtain⟨fs,x,o,i,rfl,rfl,E,I⟩:=JG d;obtain⟨H,rfl,s,B,A⟩:=hx.bN;obtain⟨y,j,u,C,hr⟩:=jO (g:=g) (h:=h) (w:=w) (P:=P) a s B A;refine⟨y,j,u,?_,hr⟩;simp[Instr.field,qq o,i,asAgg,C]
 |_=>simp at a
def YH{t}{x:T}{f}{v}{k}{r:R}(d:Zk P t x f h k=some r)(hx:g.VR h w x v) :
 ∃y,k y h false=some r/\∃u,(Instr.fieldAt t v f).run P w = .ok u w/\g.VR h w y u:=by
 unfold Zk at d;cases A:Zj P t f with
 |none=>cases x<;>simp[A] at d
 |some p =>
  obtain⟨N,V⟩:=p;obtain⟨fs,e,D,C,rfl,rfl,S,U⟩:=JG A;have J:∀a:Addr,(fieldPlace a e).run P w = .ok (a.add e.offset) w:=by
   intro a;simp[fieldPlace,Qj S,U]
  rw[A] at d;cases x with
  |ptr i aj j o =>
   obtain⟨b,H,Y,L,d⟩:=Ze d;obtain⟨Z,I,_,_,s⟩:=hx.dL;rw[H] at I;obtain rfl:=we I;obtain⟨cb,B,Q,rfl⟩:=s L;refine⟨_,d,.pointer (some ((⟨cb,B+j*b.sz+o,none⟩:Addr).add e.offset)),?_,?_⟩
   .simp[Instr.fieldAt,Instr.sureAddr,qq D,C,J]
   .rw[QQ];exact .ptr _ _ _ _ b _ H (Nat.le_of_eq L.symm) rfl λ_=>⟨cb,B,Q,by rw[vX]⟩
  |vp cells =>
   obtain⟨b,o,rfl,E⟩:=JE hx;refine⟨_,d,.pointer (some ((⟨b,o,none⟩:Addr).add e.offset)),?_,?_⟩
   .simp[Instr.fieldAt,Instr.sureAddr,qq D,C,J]
   .rw[QQ];cases hx.vp with
    |vp _ a M X O E W =>
     refine .aF _ _ (.vp _ _ (λn=>M (e.offset+n)) rfl (λs=>O (by simp at s;omega)) (λn c hn=>?_) (λn c hn=>?_))
     .rw[vK] at hn;have:=E _ c hn;dsimp only at this ⊢;rw[vX];exact this
     grind
  |_=>simp at d
def YI{t}{x i:T}{v vi}{k}{r:R}(d:zn P t x i h k=some r)(hx:g.VR h w x v)(hi:g.VR h w i vi) :
 ∃y,k y h false=some r/\∃u,(Instr.indexAt t v vi).run P w = .ok u w/\g.VR h w y u:=by
 unfold zn at d;cases i with
 |int kk i =>
  obtain rfl:=hi.int;cases x with
  |own b aj I len cap =>
   dsimp only at d;cases he:qZ P t with
   |none=>grind
   |some e =>
    rw[he] at d;obtain⟨dZ,D,cG,H,d⟩:=Ze d;obtain⟨f,d⟩:=qo d;simp only[wd,vm] at f;obtain⟨s,U⟩:=f;obtain⟨f,d⟩:=qo d;simp only[wd,wm] at f;obtain⟨b',J,_,_,B⟩:=hx.dK;rw[D] at J;obtain rfl:=we J;rcases B H with⟨cb,A,cc,ad,M,rfl,es,e2,e3,e4,e5,e6⟩|⟨_,_,_,q4,_⟩
    rotate_left
    .omega
    have Z:=e2 ab;subst Z;have d:k (.ptr b aj (I+i.toNat) 0) h false=some r:=by
     rcases qw d with⟨_,d⟩|⟨_,d⟩
     .exact Sn ab d
     omega
    refine⟨_,d,.pointer (some ((⟨cb,A+I*dZ.sz,none⟩:Addr).add (i.toNat*qS P e))),?_,?_⟩
    .simp[Instr.indexAt,asIntOf,qq (Qa he),f.1,f.2,Qj s]
    .rw[QQ];exact .ptr _ _ _ _ dZ _ D (Nat.le_of_eq H.symm) rfl λ_=>⟨cb,A,M,by rw[←U,vb];simp[vX]⟩
  |view sz n g' cap =>
   dsimp only at d;cases he:qZ P t with
   |none=>grind
   |some e =>
    rw[he] at d;obtain⟨f,d⟩:=qo d;simp only[wd,vm] at f;obtain⟨s,U⟩:=f;obtain⟨f,d⟩:=qo d;simp only[wd,wm] at f;cases hx.view with
    |fg _ _ _ _=>omega
    |view _ _ _ _ a cc N O fJ hn S hl W X =>
     refine⟨_,d,.pointer (some (a.add (i.toNat*qS P e))),?_,?_⟩
     .simp[Instr.indexAt,asIntOf,qq (Qa he),f.1,f.2,Qj s]
     .rw[Nt a (O ab)];have C:i.toNat<n:=by omega
      refine .aF _ _ (.vp _ _ (N i.toNat) rfl (λB=>S ab (by rw[←hl i.toNat C];exact B)) (λo c Y=>?_) (λo c Y=>X _ o c C Y));rw[←U];grind
  |ptr b aj j o =>
   dsimp only at d;cases E:QT P t with
   |none=>grind
   |some p =>
    obtain⟨n,e⟩:=p;rw[E] at d;obtain⟨f,d⟩:=qo d;simp only[wd,wm] at f;obtain⟨⟨s,L⟩,C⟩:=f;obtain⟨dZ,D,cG,H,d⟩:=Ze d;obtain⟨b',J,_,_,B⟩:=hx.dL;rw[D] at J;obtain rfl:=we J;obtain⟨cb,A,M,rfl⟩:=B H;rcases qw d with⟨V,d⟩|⟨_,d⟩
    .simp only[wd,vm] at V;refine⟨_,d,.pointer (some ((⟨cb,A+j*dZ.sz+o,none⟩:Addr).add (i.toNat*qS P e))),?_,?_⟩
     .simp[Instr.indexAt,Instr.sureAddr,asIntOf,qq (yg E),L,C,Qj s]
     .rw[QQ];exact .ptr _ _ _ _ dZ _ D (Nat.le_of_eq H.symm) rfl λ_=>⟨cb,A,M,by rw[←V.1,vb];grind⟩
    have d:=Zb ab d;refine⟨_,d,.pointer (some ((⟨cb,A+j*dZ.sz+o,none⟩:Addr).add (i.toNat*qS P e))),?_,?_⟩
    .simp[Instr.indexAt,Instr.sureAddr,asIntOf,qq (yg E),L,C,Qj s]
    .rw[QQ];exact .ptr _ _ _ _ dZ _ D (Nat.le_of_eq H.symm) rfl λ_=>⟨cb,A,M,by rw[vX]⟩
  |vp cells =>
   dsimp only at d;cases E:QT P t with
   |none=>grind
   |some p =>
    obtain⟨n,e⟩:=p;rw[E] at d;obtain⟨f,d⟩:=qo d;simp only[wd,wm] at f;obtain⟨⟨s,L⟩,C⟩:=f;have d:=Zb ab d;cases hx.vp with
    |vp _ a N O S W X =>
     refine⟨_,d,.pointer (some (a.add (i.toNat*qS P e))),?_,?_⟩
     .simp[Instr.indexAt,Instr.sureAddr,asIntOf,qq (yg E),L,C,Qj s]
     .rw[Nt a O];refine .aF _ _ (.vp _ _ (λm=>N (i.toNat*qS P e+m)) rfl (λB=>S (by simp at B;omega)) (λm c Q=>?_) (λm c Q=>?_))
      .rw[vK] at Q;have:=W _ c Q;dsimp only;rw[vX];exact this
      grind
  |_=>simp at d
 |_=>simp at d
def qcT{t}{x i:T}{v vi}{k}{r:R}(a:K5 P t x i h k=some r)(hx:g.VR h w x v)(o:g.VR h w i vi) :
 ∃y,k y h false=some r/\∃u,(Instr.index t v vi).run P w = .ok u w/\g.VR h w y u:=by
 unfold K5 at a;cases x with
 |str s =>
  cases i with
  |int B i =>
   dsimp only at a;obtain⟨D,a⟩:=qo a;obtain⟨d,a⟩:=qo a;simp only[wd,wm] at d;obtain rfl:=o.int;obtain⟨b,rfl,H⟩:=hx.str;refine⟨_,a,.int .u8 ((s.getD i.toNat 0).toNat:Int),?_,.aF _ _ (.int _ _)⟩;have N:=Ym H;have j:i.toNat<b.size:=by omega
   have e:b[i.toNat]?=some (s.getD i.toNat 0):=by
    have f:b[i.toNat]?=some b[i.toNat]:=getElem?_pos b i.toNat j;rw[f];congr 1;have I:b[i.toNat]=b.data[i.toNat]:=rfl;rw[I];grind
   simp[Instr.index,asIntOf,qq (jp D),d.1,e]
  |_=>simp at a
 |agg l =>
  cases i with
  |int B i =>
   dsimp only at a;cases A:QT P t with
   |none=>grind
   |some p =>
    obtain⟨n,e⟩:=p;rw[A] at a;obtain⟨d,a⟩:=qo a;simp only[wd,wm] at d;obtain⟨⟨L,J⟩,j⟩:=d;have a:=Zb ab a;obtain rfl:=o.int;obtain⟨O,rfl,E,f,d⟩:=hx.bN;obtain⟨y,C,u,M,hr⟩:=jO (g:=g) (h:=h) (w:=w) (P:=P) a E f d;refine⟨y,C,u,?_,hr⟩;simp[Instr.index,asIntOf,qq (yg A),J,j,Qj L,M]
  |_=>simp at a
 |_=>cases i<;>simp at a
def qa9{x:T}{a}{v}{k}{r:R}(d:Z7 x a h k=some r)(hx:g.VR h w x v) :
 ∃y,k y h false=some r/\∃u,(Instr.extract v a).run P w = .ok u w/\g.VR h w y u:=by
 cases x with
 |aJ l =>
  simp only[Z7] at d;cases e:l[a]? with
  |none=>grind
  |some y =>
   rw[e] at d;obtain⟨j,rfl,o,i⟩:=hx.ng;obtain⟨u,f,hr⟩:=i a y e;exact⟨y,d,u,by simp[Instr.extract,f],hr⟩
 |_=>simp[Z7] at d
end
section
variable {P:Program} {R:Type} {g:Gh} {h:qa} {w:World}
def zp(b:ByteArray):b.toList=b.data.toList:=ByteArray.toList_eq b
def qkh{t}(h:M5 P t=true):P.underlying t=some .bool:=by
 unfold M5 at h;grind
def qln{t}(h:M6 P t=true):∃k,P.underlying t=some (.int k):=by
 unfold M6 at h;grind
def Nu{t}(h:Iw P t=true):∃a b c,P.underlying t=some (.func a b c):=by
 unfold Iw at h;grind
def qgB{t}{fs}(h:K6 P t=some fs):∃a,P.underlying t=some (.struct a)/\a.toList=fs:=by
 unfold K6 at h;grind
def Nv(a b):(bif a then b else !b)=(a==b):=by cases a<;>cases b<;>rfl
def YJ{d}{I}
 (s:∀{t x y k r u v},I t x y k=some r->g.VR h w x u->g.VR h w y v->∃b,k b=some r/\(Op.equalIn d t u v).run P w = .ok b w)
 {l m:t7} {xs e:Array Value} (B:l.length=xs.size) (o:∀(i:Nat) (u:Value),xs[i]?=some u->u.oneCell'=true) (C:∀(i:Nat) (c:T),l[i]?=some c->∃u,xs[i]?=some u/\g.VR h w c u)
 (A:m.length=e.size) (j:∀(i:Nat) (u:Value),e[i]?=some u->u.oneCell'=true) (D:∀(i:Nat) (c:T),m[i]?=some c->∃u,e[i]?=some u/\g.VR h w c u) :
 ∀(fs:List Field) (k:Bool->Option R) (r:R),eqFields P I l m fs k=some r->∃b,k b=some r/\(Op.eqFields d xs e fs).run P w = .ok b w
 |[],k,r,a=>⟨true,a,by rfl⟩
 |f::fs,k,r,a=>by
  simp only[eqFields] at a;rcases qw a with⟨hn,a⟩|⟨hn,a⟩
  .obtain⟨b,H,E⟩:=YJ s B o C A j D fs k r a;grind[Op.eqFields]
  .obtain⟨x,a,u,L,O⟩:=jO a B o C;obtain⟨y,a,v,J,N⟩:=jO a A j D;obtain⟨b,a,M⟩:=s a O N;simp only[Op.eqFields];rw[wl (by simpa using hn)];rcases qw a with⟨rfl,a⟩|⟨rfl,a⟩
   .obtain⟨b,H,E⟩:=YJ s B o C A j D fs k r a;exact⟨b,H,by simp[L,J,M,E]⟩
   simp_all
def Jk{d}{D:TypeId->T->T->(Bool->Option R)->Option R}
 (A:∀{t x y k r u v},D t x y k=some r->g.VR h w x u->g.VR h w y v->∃b,k b=some r/\(Op.equalIn d t u v).run P w = .ok b w)
 {l m:t7} {xs f:Array Value} (C:l.length=xs.size) (s:∀(i:Nat) (u:Value),xs[i]?=some u->u.oneCell'=true) (E:∀(i:Nat) (c:T),l[i]?=some c->∃u,xs[i]?=some u/\g.VR h w c u)
 (B:m.length=f.size) (o:∀(i:Nat) (u:Value),f[i]?=some u->u.oneCell'=true) (H:∀(i:Nat) (c:T),m[i]?=some c->∃u,f[i]?=some u/\g.VR h w c u) (e:TypeId) :
 ∀(j:t8) (k:Bool->Option R) (r:R),eqItems P D l m e j k=some r->∃b,k b=some r/\(Op.eqItems d e (P.cellsOf e) xs f j).run P w = .ok b w
 |[],k,r,a=>⟨true,a,by rfl⟩
 |i::j,k,r,a=>by
  simp only[eqItems] at a;obtain⟨x,a,u,J,Q⟩:=jO a C s E;obtain⟨y,a,v,I,O⟩:=jO a B o H;obtain⟨b,a,N⟩:=A a Q O;simp only[Op.eqItems];rcases qw a with⟨rfl,a⟩|⟨rfl,a⟩
  .obtain⟨b,M,L⟩:=Jk A C s E B o H e j k r a;exact⟨b,M,by simp[J,I,N,L]⟩
  simp_all
def qlo{t}{n}{e}(h:FM P t=some (n,e)):P.underlying t=some (.array n e)/\∃i,P.info? e=some i:=by
 unfold FM at h;grind
def Kt:∀(d n:Nat) {t:TypeId} {x y:T} {k:Bool->Option R} {r:R} {u v:Value},KY P d t x y k=some r->g.VR h w x u->g.VR h w y v →
 ∃b,k b=some r/\(Op.equalIn (d+n) t u v).run P w = .ok b w
 |0,_,_,_,_,_,_,_,_,f,_,_=>by simp[KY] at f
 |d+1,n,t,x,y,k,r,u,v,f,hx,j=>by
  rw[show d+1+n=(d+n)+1 by omega];cases x with
  |int V a =>
   cases y with
   |int ky b =>
    simp only[KY] at f;obtain⟨s,S⟩:=qo f;clear f;have f:=S;clear S;simp only[wd,wm] at s;obtain⟨o,F5⟩:=s;subst F5;obtain⟨W,o⟩:=qln o;obtain rfl:=hx.int;obtain rfl:=j.int;exact⟨_,f,by rw[run_equalIn_int w (d+n) t V W a b o];rfl⟩
   |_=>simp[KY] at f
  |bool a =>
   cases y with
   |bool b =>
    simp only[KY] at f;obtain⟨o,f⟩:=qo f;obtain rfl:=hx.bool;obtain rfl:=j.bool;exact⟨_,f,by rw[run_equalIn_bool' w (d+n) t a b (qkh o),Nv]⟩
   |_=>simp[KY] at f
  |str a =>
   cases y with
   |str b =>
    simp only[KY] at f;obtain⟨o,f⟩:=qo f;obtain⟨ba,rfl,A⟩:=hx.str;obtain⟨bb,rfl,Z⟩:=j.str;refine⟨_,f,?_⟩;rw[run_equalIn_string w (d+n) t ba bb (jp o),zp,zp,A,Z];grind
   |_=>simp[KY] at f
  |agg l =>
   cases y with
   |agg m =>
    simp only[KY] at f;cases E:K6 P t with
    |none =>
     rw[E] at f;dsimp only at f;cases A:FM P t with
     |none=>rw[A] at f;cases f
     |some ne =>
      rw[A] at f;obtain⟨B,i,Y⟩:=qlo (n:=ne.1) (e:=ne.2) A;obtain⟨O,rfl,H,L,s⟩:=hx.bN;obtain⟨M,rfl,D,C,N⟩:=j.bN;obtain⟨b,J,I⟩:=Jk (d:=d+n) (λ{t x y k r u v} f hx j=>Kt d n f hx j) H L s D C N ne.2 (List.range ne.1) k r f;exact⟨b,J,by rw[run_equalIn_array w (d+n) O M B Y];exact I⟩
    |some fs =>
     rw[E] at f;rcases qw f with⟨_,f⟩|⟨X,f⟩
     .cases f
     obtain⟨a,B,U⟩:=qgB E;obtain⟨O,rfl,H,L,s⟩:=hx.bN;obtain⟨M,rfl,D,C,N⟩:=j.bN;have Q:P.fieldsOf t=a:=by simp[Program.fieldsOf,B]
     obtain⟨b,J,I⟩:=YJ (d:=d+n) (λ{t x y k r u v} f hx j=>Kt d n f hx j) H L s D C N fs k r f;exact⟨b,J,by rw[run_equalIn_struct w (d+n) t O M (by rw[Q];exact B) X,Q,U];exact I⟩
   |_=>simp[KY] at f
  |_=>simp[KY] at f
def zP{i aj off len}{cap}{b}{v}(a:h[i]?=some b)(j:b.aj=aj)(hx:g.VR h w (.own i aj off len cap) v) :
 Ni w g.φ b i off len cap v:=by
 obtain⟨f,d,_,_,e⟩:=hx.dK;rw[a] at d;grind
def S1{i aj off len}{cap}{b}{v}(a:h[i]?=some b)(d:b.aj=aj)(hx:g.VR h w (.own i aj off len cap) v)(hn:0<b.n) :
 SS w g.φ b i off len cap v:=by
 rcases zP a d hx with q|⟨_,q,_⟩
 .exact q
 .omega
def yh(w)(d){t e}(f:P.underlying t=some (.slice e))(a:Option Addr)(l c:Nat):(Op.equalIn (d+1) t (.slice none 0 0) (.slice a l c)).run P w = .ok a.isNone w:=by
 simp[Op.equalIn,qq f]
def Y9(w)(d){t e}(f:P.underlying t=some (.slice e))(a:Addr)(l c:Nat):(Op.equalIn (d+1) t (.slice (some a) l c) (.slice none 0 0)).run P w = .ok false w:=by
 simp[Op.equalIn,qq f]
def qbb(w)(d){t}{a b}{c:Bool}(e:P.underlying t=some (.func a b c)):(Op.equalIn (d+1) t .nilFunc .nilFunc).run P w = .ok true w:=by
 simp[Op.equalIn,qq e]
def qan(w)(d){t}{a b}{c}(e:P.underlying t=some (.func a b c))(f:FuncId)(cs:Array Value):(Op.equalIn (d+1) t .nilFunc (.func (.func f) #[] cs)).run P w = .ok false w:=by
 simp[Op.equalIn,qq e]
def qao(w)(d){t}{a b}{c}(e:P.underlying t=some (.func a b c))(f:FuncId)(cs:Array Value):(Op.equalIn (d+1) t (.func (.func f) #[] cs) .nilFunc).run P w = .ok false w:=by
 simp[Op.equalIn,qq e]
def S2{E:BinOp}{t:TypeId}{x y:T}{ox oy:Operand}{u v:Value}{k:Bool->Option R}{r:R}(D:E = .eql∨E = .neq)(d:Dz P t x y h k=some r)(hx:g.VR h w x u)(C:g.VR h w y v) :
 ∃b,k b=some r/\(do eqGuard E t ox oy u v;binOp E t u v:Sem Value).run P w = .ok (.bool (if E = .eql then b else !b)) w:=by
 have j:∀(u v:Value) (b:Bool),(eqGuard E t ox oy u v).run P w = .ok () w->(binOp .eql t u v).run P w = .ok (.bool b) w->(binOp .neq t u v).run P w = .ok (.bool (!b)) w →
  (do eqGuard E t ox oy u v;binOp E t u v:Sem Value).run P w = .ok (.bool (if E = .eql then b else !b)) w:=by
  intro u v b h1 Z h3;rcases D with rfl|rfl
  .simp[h1,Z]
  simp_all
 have s:∀(u v:Value) (b:Bool),(Op.equalIn 10000 t u v).run P w = .ok b w->(do pure (.bool (←Op.equal t u v)):Sem Value).run P w = .ok (.bool b) w/\(do pure (.bool (!(←Op.equal t u v))):Sem Value).run P w = .ok (.bool (!b)) w:=by
  intro u v b H;constructor<;>simp[Op.equal,Op.maxDepth,H]
 unfold Dz at d;cases x with
 |int kx a =>
  cases y with
  |int ky b =>
   obtain⟨J,gK⟩:=qo d;clear d;have F5:=xX J;subst F5;obtain rfl:=hx.int;obtain rfl:=C.int;refine⟨_,gK,j _ _ _ ?_ ?_ ?_⟩
   .rcases D with rfl|rfl<;>simp[eqGuard]
   .simp[binOp,Op.intCmp];rfl
   .simp[binOp,Op.intCmp,bne];rfl
  |_=>simp at d
 |str a =>
  cases y with
  |str b =>
   dsimp only at d;obtain⟨ba,rfl,Y⟩:=hx.str;obtain⟨bb,rfl,H⟩:=C.str;have e:(ba.toList==bb.toList)=decide (a=b):=by rw[zp,zp,Y,H,Bool.eq_iff_iff];simp
   refine⟨_,d,j _ _ _ ?_ ?_ ?_⟩
   .rcases D with rfl|rfl<;>simp[eqGuard]
   .rw[binOp_string_eql,e];rfl
   .rw[binOp_string_neq,e];rfl
  |_=>simp at d
 |bool a =>
  cases y with
  |bool b =>
   dsimp only at d;obtain⟨c,J,Q⟩:=Kt 1 9999 d hx C;obtain rfl:=hx.bool;obtain rfl:=C.bool;obtain⟨B,A⟩:=s _ _ _ Q;refine⟨_,J,j _ _ _ ?_ B A⟩;rcases D with rfl|rfl<;>simp[eqGuard]
  |_=>simp at d
 |agg a =>
  cases y with
  |agg b =>
   dsimp only at d;rcases qw d with⟨_,d⟩|⟨X,d⟩
   .cases d
   obtain⟨c,J,Q⟩:=Kt 10 9990 d hx C;obtain⟨I,rfl,_⟩:=hx.bN;obtain⟨gz,rfl,_⟩:=C.bN;obtain⟨B,A⟩:=s _ _ _ Q;exact⟨_,J,j _ _ _ (run_eqGuard_agg w E t ox oy I gz X) B A⟩
  |_=>simp at d
 |ae =>
  obtain rfl:=hx.ae;cases y with
  |ae =>
   obtain⟨o,d⟩:=qo d;obtain⟨e,he⟩:=vq.1 o;obtain rfl:=C.ae;obtain⟨B,A⟩:=s (.slice none 0 0) (.slice none 0 0) true (yh w 9999 (Qa he) _ _ _);exact⟨_,d,j _ _ _ (by rcases D with rfl|rfl<;>simp[eqGuard]) B A⟩
  |view sz n g' cap =>
   obtain⟨o,d⟩:=qo d;simp only[wd] at o;obtain⟨o,O⟩:=o;obtain⟨e,he⟩:=vq.1 o;cases C.view with
   |fg _ _ _ L=>rcases L with h|h<;>simp[h] at O
   |view _ _ _ _ a cc U _ _ _ _ _ _ _ =>
    obtain⟨B,A⟩:=s (.slice none 0 0) (.slice (some a) n cc) false (yh w 9999 (Qa he) _ _ _);exact⟨_,d,j _ _ _ (by rcases D with rfl|rfl<;>simp[eqGuard]) B A⟩
  |own i aj N len cap =>
   obtain⟨o,d⟩:=qo d;obtain⟨e,he⟩:=vq.1 o;obtain⟨b,H,cG,S,d⟩:=Ze d;obtain⟨M,d⟩:=qo d;obtain⟨cb,V,cc,ad,W,rfl,_⟩:=S1 H S C (Qe M);obtain⟨B,A⟩:=s (.slice none 0 0) (.slice (some ad) len cc) false (yh w 9999 (Qa he) _ _ _);exact⟨_,d,j _ _ _ (by rcases D with rfl|rfl<;>simp[eqGuard]) B A⟩
  |_=>simp at d
 |view sz n g' cap =>
  cases y with
  |ae =>
   obtain⟨o,d⟩:=qo d;simp only[wd] at o;obtain⟨o,O⟩:=o;obtain⟨e,he⟩:=vq.1 o;obtain rfl:=C.ae;cases hx.view with
   |fg _ _ _ L=>rcases L with h|h<;>simp[h] at O
   |view _ _ _ _ a cc U _ _ _ _ _ _ _ =>
    obtain⟨B,A⟩:=s (.slice (some a) n cc) (.slice none 0 0) false (Y9 w 9999 (Qa he) _ _ _);exact⟨_,d,j _ _ _ (by rcases D with rfl|rfl<;>simp[eqGuard]) B A⟩
  |_=>simp at d
 |own i aj N len cap =>
  cases y with
  |ae =>
   obtain⟨o,d⟩:=qo d;obtain⟨e,he⟩:=vq.1 o;obtain rfl:=C.ae;obtain⟨b,H,cG,S,d⟩:=Ze d;obtain⟨M,d⟩:=qo d;obtain⟨cb,V,cc,ad,W,rfl,_⟩:=S1 H S hx (Qe M);obtain⟨B,A⟩:=s (.slice (some ad) len cc) (.slice none 0 0) false (Y9 w 9999 (Qa he) _ _ _);exact⟨_,d,j _ _ _ (by rcases D with rfl|rfl<;>simp[eqGuard]) B A⟩
  |_=>simp at d
 |eO =>
  obtain rfl:=hx.eO;cases y with
  |eO =>
   obtain⟨o,d⟩:=qo d;obtain⟨a,b,c,he⟩:=Nu o;obtain rfl:=C.eO;obtain⟨B,A⟩:=s .nilFunc .nilFunc true (qbb w 9999 he);exact⟨_,d,j _ _ _ (by rcases D with rfl|rfl<;>simp[eqGuard]) B A⟩
  |fn f aH =>
   obtain⟨o,d⟩:=qo d;obtain⟨a,b,c,he⟩:=Nu o;obtain⟨I,rfl,_⟩:=C.gZ;obtain⟨B,A⟩:=s .nilFunc (.func (.func f) #[] I) false (qan w 9999 he f I);exact⟨_,d,j _ _ _ (by rcases D with rfl|rfl<;>simp[eqGuard]) B A⟩
  |_=>simp at d
 |fn f aH =>
  cases y with
  |eO =>
   obtain⟨o,d⟩:=qo d;obtain⟨a,b,c,he⟩:=Nu o;obtain rfl:=C.eO;obtain⟨I,rfl,_⟩:=hx.gZ;obtain⟨B,A⟩:=s (.func (.func f) #[] I) .nilFunc false (qao w 9999 he f I);exact⟨_,d,j _ _ _ (by rcases D with rfl|rfl<;>simp[eqGuard]) B A⟩
  |_=>simp at d
 |_=>cases y<;>simp at d
end
section
variable {P:Program} {R:Type} {g:Gh} {h:qa} {w:World}
def qfo{i}{f}{a b}{t:TypeId}{ox oy:Operand}{k:Qg R}{r:R}(e:Ix i f a b h k=some r) :
 ∃y,k y h false=some r/\∃u,(do eqGuard i t ox oy (.int f a) (.int f b);binOp i t (.int f a) (.int f b):Sem Value).run P w = .ok u w/\g.VR h w y u:=by
 have d:∀(y:T) (u:Value),k y h false=some r->(eqGuard i t ox oy (.int f a) (.int f b)).run P w = .ok () w->(binOp i t (.int f a) (.int f b)).run P w = .ok u w->g.VR h w y u →
  ∃y,k y h false=some r/\∃u,(do eqGuard i t ox oy (.int f a) (.int f b);binOp i t (.int f a) (.int f b):Sem Value).run P w = .ok u w/\g.VR h w y u :=
  λy u s A x o=>⟨y,s,u,by simp_all,o⟩
 cases i<;>simp only[Ix] at e
 case add=>exact d _ _ e rfl (by simp[binOp,Op.intArith]) (.aF _ _ (.int _ _))
 case sub=>exact d _ _ e rfl (by simp[binOp,Op.intArith]) (.aF _ _ (.int _ _))
 case mul=>exact d _ _ e rfl (by simp[binOp,Op.intArith]) (.aF _ _ (.int _ _))
 case quo =>
  rcases qw e with⟨_,e⟩|⟨j,e⟩
  .cases e
  have j:b≠0:=of_decide_eq_false j;exact d _ _ e rfl (by simp[binOp,Op.intDiv,j]) (.aF _ _ (.int _ _))
 case rem =>
  rcases qw e with⟨_,e⟩|⟨j,e⟩
  .cases e
  have j:b≠0:=of_decide_eq_false j;exact d _ _ e rfl (by simp[binOp,Op.intDiv,j]) (.aF _ _ (.int _ _))
 case and=>exact d _ _ e rfl (by simp[binOp,Op.intBits,FN]) (.aF _ _ (.int _ _))
 case or=>exact d _ _ e rfl (by simp[binOp,Op.intBits,FN]) (.aF _ _ (.int _ _))
 case xor=>exact d _ _ e rfl (by simp[binOp,Op.intBits,FN]) (.aF _ _ (.int _ _))
 case andNot=>exact d _ _ e rfl (by simp[binOp,Op.intBits,FN]) (.aF _ _ (.int _ _))
 case lss=>exact d _ _ e rfl (by simp[binOp,Op.intCmp]) (.aF _ _ (.bool _))
 case leq=>exact d _ _ e rfl (by simp[binOp,Op.intCmp]) (.aF _ _ (.bool _))
 case gtr=>exact d _ _ e rfl (by simp[binOp,Op.intCmp]) (.aF _ _ (.bool _))
 case geq=>exact d _ _ e rfl (by simp[binOp,Op.intCmp]) (.aF _ _ (.bool _))
 all_goals cases e
def qfp{j}{a b}{f e}{t:TypeId}{ox oy:Operand}{k:Qg R}{r:R}(i:Iy j a b h k=some r)(x:f.data.toList=a)(s:e.data.toList=b) :
 ∃y,k y h false=some r/\∃u,(do eqGuard j t ox oy (.string f) (.string e);binOp j t (.string f) (.string e):Sem Value).run P w = .ok u w/\g.VR h w y u:=by
 have d:∀(y:T) (u:Value),k y h false=some r->(eqGuard j t ox oy (.string f) (.string e)).run P w = .ok () w->(binOp j t (.string f) (.string e)).run P w = .ok u w->g.VR h w y u →
  ∃y,k y h false=some r/\∃u,(do eqGuard j t ox oy (.string f) (.string e);binOp j t (.string f) (.string e):Sem Value).run P w = .ok u w/\g.VR h w y u :=
  λy u D I H C=>⟨y,D,u,by simp_all,C⟩
 have o:Op.bytesLess f.toList e.toList=Op.bytesLess a b:=by rw[zp,zp,x,s]
 have A:(f.toList==e.toList)=decide (a=b):=by rw[zp,zp,x,s,Bool.eq_iff_iff];simp
 cases j<;>simp only[Iy] at i
 case add =>
  obtain⟨B,i⟩:=qo i;have B:=Qr B;have s1:=Ym x;have E:=Ym s;refine d _ (.string (f++e)) i (by simp[eqGuard]) ?_ (.aF _ _ (.str _ _ ?_))
  .rw[binOp_string_add];exact run_string_add_sum w f e ab
  simp_all
 case lss=>exact d _ _ i rfl (by rw[binOp_string_lss,o];rfl) (.aF _ _ (.bool _))
 case leq=>exact d _ _ i rfl (by rw[binOp_string_leq,o,A];rfl) (.aF _ _ (.bool _))
 case gtr=>exact d _ _ i rfl (by rw[binOp_string_gtr,o,A];rfl) (.aF _ _ (.bool _))
 case geq=>exact d _ _ i rfl (by rw[binOp_string_geq,o];rfl) (.aF _ _ (.bool _))
 all_goals cases i
def S3{e}{t}{x y:T}{ox oy}{u v:Value}{k:Qg R}{r:R}(d:Iz P e t x y h k=some r)(hx:g.VR h w x u)(f:g.VR h w y v) :
 ∃z,k z h false=some r/\∃c,(do eqGuard e t ox oy u v;binOp e t u v:Sem Value).run P w = .ok c w/\g.VR h w z c:=by
 have arith:K7 e x y h k=some r →
  ∃z,k z h false=some r/\∃c,(do eqGuard e t ox oy u v;binOp e t u v:Sem Value).run P w = .ok c w/\g.VR h w z c:=by
  intro d;unfold K7 at d;cases x with
  |int D a =>
   cases y with
   |int C b =>
    obtain⟨j,o⟩:=qo d;have H:=xX j;subst H;obtain rfl:=hx.int;obtain rfl:=f.int;exact qfo o
   |_=>simp at d
  |str a =>
   cases y with
   |str b =>
    obtain⟨J,rfl,E⟩:=hx.str;obtain⟨I,rfl,i⟩:=f.str;exact qfp d E i
   |_=>simp at d
  |_=>cases y<;>simp at d
 have s:(e = .shl∨e = .shr)->kO e x y h k=some r →
  ∃z,k z h false=some r/\∃c,(do eqGuard e t ox oy u v;binOp e t u v:Sem Value).run P w = .ok c w/\g.VR h w z c:=by
  intro B d;unfold kO at d;cases x with
  |int D a =>
   cases y with
   |int C b =>
    simp only[JW] at d;obtain⟨j,o⟩:=qo d;have j:=xX j;obtain rfl:=hx.int;obtain rfl:=f.int;have hn:¬b<0:=by omega
    rcases B with rfl|rfl
    .exact⟨_,o,_,by simp[eqGuard,binOp,Op.shift,hn],.aF _ _ (.int _ _)⟩
    .exact⟨_,o,_,by simp[eqGuard,binOp,Op.shift,hn],.aF _ _ (.int _ _)⟩
   |_=>simp at d
  |_=>cases y<;>simp at d
 cases e<;>simp only[Iz] at d
 case eql =>
  obtain⟨b,i,A⟩:=S2 (ox:=ox) (oy:=oy) (.inl rfl) d hx f;exact⟨_,i,_,A,.aF _ _ (.bool _)⟩
 case neq =>
  obtain⟨b,i,A⟩:=S2 (ox:=ox) (oy:=oy) (.inr rfl) d hx f;exact⟨_,i,_,A,by simp only[reduceCtorEq,vn];exact .aF _ _ (.bool _)⟩
 case shl=>grind
 case shr=>grind
 all_goals exact arith d
def qgC{e}{x:T}{u}{k}{r:R}(d:FO e x h k=some r)(hx:g.VR h w x u) :
 ∃z,k z h false=some r/\∃c,(Op.unary e u).run P w = .ok c w/\g.VR h w z c:=by
 unfold FO at d;cases e with
 |not =>
  cases x with
  |bool b =>
   obtain rfl:=hx.bool;exact⟨_,d,_,by rfl,.aF _ _ (.bool _)⟩
  |_=>simp at d
 |neg =>
  cases x with
  |int f a =>
   obtain rfl:=hx.int;exact⟨_,d,_,by rfl,.aF _ _ (.int _ _)⟩
  |_=>simp at d
 |_=>cases x<;>simp at d
def S4{R:Type}:∀(l:List t7) (k:List UInt8->Option R) (r:R),(l.all λe=>(K8 e).isSome)=true->k (l.map λe=>UInt8.ofNat ((K8 e).getD 0).toNat)=some r->ZR l k=some r
 |[],_,_,_,a=>a
 |e::l,k,r,d,a=>by
  simp only[xS,wd] at d;simp only[ZR];cases he:K8 e with
  |none=>rw[he] at d;grind
  |some x =>
   refine S4 l (λm=>k (UInt8.ofNat x.toNat::m)) r d.2 ?_;rw[xt,he] at a;exact a
def S5{R}{gg}{n}{k:List UInt8->Option R}{r:R}(a:Jy gg n k=some r):ZR (yw gg n) k=some r:=by
 unfold Jy at a;obtain⟨d,a⟩:=qo a;exact S4 _ _ _ d a
def Jl:∀(l:List t7) (k:List UInt8->Option R) (r:R),ZR l k=some r->∃d:List Int,k (d.map λn=>UInt8.ofNat n.toNat)=some r/\l=d.map λn=>[T.int .u8 n]
 |[],k,r,a=>⟨[],a,rfl⟩
 |e::l,k,r,a=>by
  simp only[ZR] at a;cases he:K8 e with
  |none=>rw[he] at a;cases a
  |some n =>
   rw[he] at a;have j:e=[T.int .u8 n]:=by
    unfold K8 at he;grind
   subst j;obtain⟨d,i,f⟩:=Jl l _ r a;exact⟨n::d,i,by simp[f]⟩
def qh8(a:List Int):∀b:ByteArray,(a.foldl (λr n=>r.push (UInt8.ofNat n.toNat)) b).data.toList=b.data.toList++a.map λn=>UInt8.ofNat n.toNat:=by
 induction a with
 |nil=>grind
 |cons n a d =>
  simp_all
def S6{b off n c}{gg}{k:List UInt8->Option R}{r:R}(C:ZR (yw gg n) k=some r)
 (D:∀j,j<n->eu g h w b (off+j) (gg j)) :
 ∃s,k s=some r/\∃A:ByteArray,(Conv.bytesToString (.slice (some ⟨b,off,none⟩) n c)).run P w = .ok (.string A) w/\A.data.toList=s:=by
 obtain⟨a,E,x⟩:=Jl _ _ _ C;refine⟨_,E,_,run_bytesToString w _ n c a ?_,?_⟩
 .have hn:a.length=n:=by have:=vA List.length x;simp[yw] at this;exact this.symm
  have:=run_loadCells_list (P:=P) w ⟨b,off,none⟩ (a.map (Value.int .u8)) (λj v o=>by
   rw[QQ];simp only[wE,wT] at o;obtain⟨m,i,rfl⟩:=o;have B:j<n:=by
    rcases wu j a.length with f|f
    .omega
    .simp[wz f] at i
   have e:gg j=[T.int .u8 m]:=by
    have:=vA (·[j]?) x;simp only[yw,wE,xc B,xg,i,wj] at this;exact this
   obtain⟨u,d,hr⟩:=D j B 0 (.int .u8 m) (by rw[e];rfl);rw[hr.int] at d;exact d.1)
  rw[←hn];grind
 .rw[qh8];simp
def kY{B A}{x:T}{u}{k}{r:R}(f:Yv P B A x h k=some r)(hr:HR g h w)(hx:g.VR h w x u)(D:∃d,P.underlying B=some d) :
 ∃z,k z h false=some r/\∃c,(convert B A u).run P w = .ok c w/\g.VR h w z c:=by
 obtain⟨ds,D⟩:=D;unfold Yv at f;cases x with
 |int kx n =>
  dsimp only at f;cases C:P.underlying A with
  |none=>grind
  |some d =>
   rw[C] at f;cases d with
   |int kd =>
    obtain rfl:=hx.int;exact⟨_,f,_,by simp[convert,qq D,qq C,Conv.intToInt],.aF _ _ (.int _ _)⟩
   |_=>simp at f
 |str s =>
  dsimp only at f;cases C:P.underlying A with
  |none=>grind
  |some d =>
   rw[C] at f;cases d with
   |string =>
    obtain⟨b,rfl,L⟩:=hx.str;exact⟨_,f,.string b,by simp[convert,qq D,qq C],.aF _ _ (.str _ _ L)⟩
   |_=>simp at f
 |ae =>
  dsimp only at f;rw[D] at f;cases C:P.underlying A with
  |none=>cases ds<;>simp[C] at f
  |some d =>
   rw[C] at f;cases ds with
   |slice e =>
    cases d with
    |string =>
     dsimp only at f;cases he:P.underlying e with
     |none=>grind
     |some H =>
      rw[he] at f
      match H,f with
      |.int .u8,f =>
       obtain rfl:=hx.ae;exact⟨_,f,.string .empty,by rw[run_convert_bytes_string w B A e none 0 0 D he C];rfl,.aF _ _ (.str _ _ rfl)⟩
    |_=>simp at f
   |_=>simp at f
 |view sz n gg cap =>
  dsimp only at f;rw[D] at f;cases C:P.underlying A with
  |none=>cases ds<;>simp[C] at f
  |some d =>
   rw[C] at f;cases ds with
   |slice e =>
    cases d with
    |string =>
     dsimp only at f;cases he:P.underlying e with
     |none=>grind
     |some H =>
      rw[he] at f
      match H,f with
      |.int .u8,f =>
       obtain⟨hz,Z⟩:=qo f;have I:=S5 Z;clear f Z;have hz:sz=1:=by grind
       subst hz;cases hx.view with
       |fg _ _ _ _ =>
        simp only[yw,List.range_zero,List.map_nil,ZR] at I;exact⟨_,I,.string .empty,by rw[run_convert_bytes_string w B A e none 0 0 D he C];rfl,.aF _ _ (.str _ _ rfl)⟩
       |view _ _ _ _ a cc vs sJ fJ hn hU hl nX hv =>
        rcases vY n with Y|Y
        .subst Y;simp only[yw,List.range_zero,List.map_nil,ZR] at I;refine⟨_,I,.string .empty,?_,.aF _ _ (.str _ _ rfl)⟩;rw[run_convert_bytes_string w B A e _ 0 cc D he C];rfl
        .obtain⟨s,Q,U,O,N⟩:=S6 (P:=P) (g:=g) (h:=h) (w:=w) (b:=a.block) (off:=a.off) (c:=cc) I (λj M o c J=>⟨vs j o,by have:=nX j o c M J;rwa[Nat.mul_one] at this,.aF _ _ (hv j o c M J)⟩);refine⟨_,Q,.string U,?_,.aF _ _ (.str _ _ N)⟩;rw[run_convert_bytes_string w B A e _ n cc D he C,Nm (sJ ab)];exact O
    |_=>simp at f
   |_=>simp at f
 |own i aj E len cap =>
  dsimp only at f;rw[D] at f;cases C:P.underlying A with
  |none=>cases ds<;>simp[C] at f
  |some d =>
   rw[C] at f;cases ds with
   |slice e =>
    cases d with
    |string =>
     dsimp only at f;cases he:P.underlying e with
     |none=>grind
     |some H =>
      rw[he] at f
      match H,f with
      |.int .u8,f =>
       obtain⟨b,L,cG,aC,f⟩:=Ze f;obtain⟨V,f⟩:=qo f;simp only[wd,vm] at V;obtain⟨hz,W⟩:=V;have W:=Qr W;replace f:=S5 f;rcases zP L aC hx with⟨cb,sh,cc,ad,S,rfl,es,e2,e3,e4,e5,e6,e7⟩|⟨_,_,_,rfl,_,rfl⟩
       rotate_left
       .simp only[yw,List.range_zero,List.map_nil,ZR] at f;exact⟨_,f,.string .empty,by rw[run_convert_bytes_string w B A e none 0 0 D he C];rfl,.aF _ _ (.str _ _ rfl)⟩
       obtain⟨gF,ig,arr,e',X⟩:=hr.dZ i b L cG (.inr (by rw[S];simp));rw[X.φ] at S;obtain⟨rfl,rfl⟩:=xa (we S);by_cases h0:0<cc
       ·have s9:=e2 h0;subst s9;obtain⟨s,Q,U,O,N⟩:=S6 (P:=P) (g:=g) (h:=h) (w:=w) (b:=gF) (off:=ig+E*b.sz) (c:=cc) f (λj M o c J=>by
         have:=X.gy (j:=E+j) ab o c J;rw[hz] at this ⊢;grind)
        refine⟨_,Q,.string U,?_,.aF _ _ (.str _ _ N)⟩;rw[run_convert_bytes_string w B A e _ len cc D he C];exact O
       .have F7:len=0:=by omega
        subst F7;simp only[yw,List.range_zero,List.map_nil,ZR] at f;refine⟨_,f,.string .empty,?_,.aF _ _ (.str _ _ rfl)⟩;rw[run_convert_bytes_string w B A e _ 0 cc D he C];rfl
    |_=>simp at f
   |_=>simp at f
 |_=>simp at f
def S9{t ty}{x:T}{u}{k}{r:R}{ts:Array TypeId}(d:Jz P t x h k=some r)(hx:g.VR h w x u)(f:ts[0]?=some t) :
 ∃z,k z h false=some r/\∃c,(Builtin.len_ ts ty #[u]).run P w = .ok c w/\g.VR h w z c:=by
 unfold Jz at d;cases x with
 |str s =>
  obtain⟨j,d⟩:=qo d;obtain⟨b,rfl,o⟩:=hx.str;refine⟨_,d,goInt b.size,by simp[Builtin.len_,f,qq (jp j)],?_⟩;rw[Ym o];exact .aF _ _ (.int _ _)
 |ae =>
  obtain⟨j,d⟩:=qo d;obtain⟨e,he⟩:=vq.1 j;obtain rfl:=hx.ae;exact⟨_,d,goInt 0,by simp[Builtin.len_,f,qq (Qa he)],.aF _ _ (.int _ _)⟩
 |view sz n I cap =>
  obtain⟨j,B⟩:=qo d;clear d;have d:=B;clear B;obtain⟨e,he⟩:=vq.1 j;cases hx.view with
  |fg _ _ _ _=>exact⟨.int .i64 0,d,goInt 0,by simp[Builtin.len_,f,qq (Qa he)],.aF _ _ (.int _ _)⟩
  |view _ _ _ _ a cc E _ _ _ _ _ _ _=>exact⟨_,d,goInt n,by simp[Builtin.len_,f,qq (Qa he)],.aF _ _ (.int _ _)⟩
 |own i aj C len cap =>
  obtain⟨j,d⟩:=qo d;obtain⟨e,he⟩:=vq.1 j;obtain⟨b,o,M,D,d⟩:=Ze d;rcases zP o D hx with⟨cb,H,cc,ad,J,rfl,_⟩|⟨_,_,_,rfl,_,rfl⟩
  rotate_left
  .exact⟨_,d,goInt 0,by simp[Builtin.len_,f,qq (Qa he)],.aF _ _ (.int _ _)⟩
  exact⟨_,d,goInt len,by simp[Builtin.len_,f,qq (Qa he)],.aF _ _ (.int _ _)⟩
 |agg l =>
  dsimp only at d;cases A:QT P t with
  |none=>grind
  |some p =>
   obtain⟨n,e⟩:=p;rw[A] at d;obtain⟨L,rfl,_⟩:=hx.bN;exact⟨_,d,goInt n,by simp[Builtin.len_,f,qq (yg A)],.aF _ _ (.int _ _)⟩
 |_=>simp at d
def Ta{t ty}{x:T}{u}{k}{r:R}{ts:Array TypeId}(d:IC P t x h k=some r)(hx:g.VR h w x u)(f:ts[0]?=some t) :
 ∃z,k z h false=some r/\∃c,(Builtin.cap_ ts ty #[u]).run P w = .ok c w/\g.VR h w z c:=by
 unfold IC at d;obtain⟨A,d⟩:=qo d;obtain⟨e,he⟩:=vq.1 A;cases x with
 |ae =>
  obtain rfl:=hx.ae;exact⟨_,d,goInt 0,by simp[Builtin.cap_,f,qq (Qa he)],.aF _ _ (.int _ _)⟩
 |view sz n M cap =>
  cases cap with
  |none=>grind
  |some c =>
   cases hx.view with
   |fg _ _ _ L =>
    have C:c=0:=by grind
    subst C;exact⟨_,d,goInt 0,by simp[Builtin.cap_,f,qq (Qa he)],.aF _ _ (.int _ _)⟩
   |view _ _ _ _ a cc I _ D _ _ _ _ _ =>
    obtain rfl:=D c rfl;exact⟨_,d,goInt _,by simp[Builtin.cap_,f,qq (Qa he)],.aF _ _ (.int _ _)⟩
 |own i aj s len cap =>
  cases cap with
  |none=>grind
  |some c =>
   obtain⟨b,B,O,H,j⟩:=Ze d;rcases zP B H hx with⟨cb,J,cc,ad,N,rfl,_,_,_,E,_⟩|⟨_,_,_,rfl,o,rfl⟩
   rotate_left
   .obtain rfl:=o c rfl;exact⟨_,j,goInt 0,by simp[Builtin.cap_,f,qq (Qa he)],.aF _ _ (.int _ _)⟩
   obtain rfl:=(E c rfl).1;exact⟨_,j,goInt _,by simp[Builtin.cap_,f,qq (Qa he)],.aF _ _ (.int _ _)⟩
 |_=>simp at d
def yx{e}{ty}{ts}{x y:T}{u v:Value}{k:Qg R}{r:R}(d:jM e x y h k=some r)(hx:g.VR h w x u)(f:g.VR h w y v) :
 ∃z,k z h false=some r/\∃c,(if e then Builtin.max_ ts ty #[u,v] else Builtin.min_ ts ty #[u,v]).run P w = .ok c w/\g.VR h w z c:=by
 unfold jM at d;cases x with
 |int j a =>
  cases y with
  |int i b =>
   obtain⟨o,d⟩:=qo d;obtain rfl:=hx.int;obtain rfl:=f.int;refine⟨_,d,_,?_,.aF _ _ (.int _ _)⟩;cases e
   .simp[Builtin.min_,Builtin.min2,vo]
   .simp[Builtin.max_,Builtin.max2,vo]
  |_=>simp at d
 |_=>cases y<;>simp at d
def Tb{x:T}{u}{k}{r:R}(d:FR x h k=some r)(hx:g.VR h w x u) :
 k x h false=some r/\((∃a,u = .pointer (some a))∨∃f cs,u = .func (.func f) #[] cs):=by
 unfold FR at d;cases x with
 |vp cells =>
  obtain⟨b,o,rfl,_⟩:=JE hx;grind
 |ptr i aj j o =>
  obtain⟨b,A,E,B,d⟩:=Ze d;obtain⟨H,e,_,_,s⟩:=hx.dL;rw[A] at e;obtain rfl:=we e;obtain⟨cb,C,D,rfl⟩:=s B;grind
 |fn f I =>
  obtain⟨cs,rfl,_⟩:=hx.gZ;grind
 |_=>simp at d
end
section
variable {P:Program} {R:Type} {g:Gh} {h:qa} {w:World}
def KQ(gg:Nat->t7)(n:Nat):t7:=(List.range n).flatMap gg
def JH(gg)(n):KQ gg (n+1)=KQ gg n++gg n:=by simp[KQ,vV]
def Yb{gg:Nat->t7}{sz:Nat}:∀{n:Nat},(∀j,j<n->(gg j).length=sz)->(KQ gg n).length=n*sz
 |0,_=>by simp[KQ]
 |n+1,a=>by rw[JH,wC,Yb (λj d=>a j ab),a n ab,vb,xB]
def Tc{gg}{sz}:∀{n:Nat},(∀j,j<n->(gg j).length=sz)->∀j o,j<n->o<sz->(KQ gg n)[j*sz+o]?=(gg j)[o]?
 |0,_,j,o,a,_=>by omega
 |n+1,d,j,o,a,f=>by
  have k:=Yb (λj a=>d j ab) (n:=n);rw[JH];rcases wu j n with e|i
  .have:(j+1)*sz<=n*sz:=wI _ e;rw[vb,xB] at this;rw[wy ab];exact Tc (λj a=>d j ab) j o e f
  grind
def Td{gg}{sz}:∀{n:Nat},(∀j,j<n->(gg j).length=sz)->∀p c,(KQ gg n)[p]?=some c->∃j o,j<n/\o<sz/\p=j*sz+o/\(gg j)[o]?=some c
 |0,_,p,c,a=>by simp[KQ] at a
 |n+1,d,p,c,a=>by
  have s:=Yb (λj e=>d j ab) (n:=n) (sz:=sz);rw[JH] at a;rcases wu p (KQ gg n).length with i|k
  .rw[wy i] at a;obtain⟨j,o,r,f⟩:=Td (λj e=>d j ab) p c a;exact⟨j,o,ab,f⟩
  grind
structure Src(P:Program)(g:Gh)(h:qa)(w:World)(sz:Nat)(v:Value)(m:Nat)(gx:Nat->t7)(fl:Bool)(news:List Value):Prop where
 len:(Builtin.lenOf v).run P w = .ok m w
 run:∀m',m'<=m->(Builtin.firstCells sz m' v).run P w = .ok (news.take (m'*sz)).toArray w
 w7:(Builtin.firstCells sz m v).run P w.drew = .ok news.toArray w.drew
 size:news.length=m*sz
 one:∀u∈news,u.oneCell'=true
 lens:∀j,j<m->(gx j).length=sz
 cell:∀j o c,j<m->(gx j)[o]?=some c->∃u,news[j*sz+o]?=some u/\g.VR h w c u
 flat:fl=true->∀j,j<m->∀c,c∈gx j->qK c=true
def Te{sz m cc b off}{gx}{fl}{ad}(B:0<cc->ad=⟨b,off,none⟩)(U:m<=cc)(k:∀j,j<m->(gx j).length=sz)
 (I:∀j,j<m->eu g h w b (off+j*sz) (gx j)) (H:fl=true->∀j,j<m->∀c,c∈gx j->qK c=true):∃news,Src P g h w sz (.slice (some ad) m cc) m gx fl news:=by
 have s:=Yb k;have eF:eu g h w b off (KQ gx m):=by
  intro p c x;obtain⟨j,o,i,r,rfl,J⟩:=Td k p c x;obtain⟨v,Q,hr⟩:=I j i o c J;grind
 obtain⟨d,i,r,L⟩:=JD eF _ (wc _);refine⟨d,by rfl,λf M=>?_,?_,by rw[i,s],λu D=>?_,k,λj o c a E=>?_,H⟩
 .simp only[Builtin.firstCells];by_cases A:0<cc
  .rw[B A];have S:f*sz<=m*sz:=wI _ M;have e:(d.take (f*sz)).length=f*sz:=by rw[vL,i,s];omega
   have:=run_loadCells_list (P:=P) w ⟨b,off,none⟩ (d.take (f*sz)) (λj v a=>by
    rw[QQ];rw[ub] at a;split at a
    .exact(r j v a).1
    .cases a)
   rw[e] at this;omega
  .have e:f=0:=by omega
   subst e;simp[loadCells,loadCellsFrom]
 .simp only[Builtin.firstCells];by_cases A:0<cc
  .rw[B A];have:=run_loadCells_list (P:=P) w.drew ⟨b,off,none⟩ d (λj v a=>by rw[QQ];exact(r j v a).1);rw[i,s] at this;omega
  .have e:m=0:=by omega
   subst e;have N:d=[]:=by grind
   simp[loadCells,loadCellsFrom,N]
 .obtain⟨p,x⟩:=xo.1 D;exact(r p u x).2
 ·have C:o<sz:=by
   grind
  have O:j*sz+o<m*sz:=by
   have:(j+1)*sz<=m*sz:=wI _ a;rw[vb,xB] at this;omega
  exact L _ c (by rw[s];exact O) (by rw[Tc k j o a C];exact E)
def Ku{sz:Nat}{x:T}{v:Value}{k:Nat->(Nat->t7)->Bool->Option R}{r:R}(e:K9 sz x h k=some r)(hr:HR g h w)(hx:g.VR h w x v) :
 ∃m gx fl news,k m gx fl=some r/\Src P g h w sz v m gx fl news:=by
 unfold K9 at e;cases x with
 |ae =>
  obtain rfl:=hx.ae;refine⟨0,_,true,[],e,⟨by rfl,λI _=>by simp[Builtin.firstCells],by rfl,aq,aq,λj d=>ab,λj o c d=>ab,λ_ j d=>ab⟩⟩
 |view M n N cap =>
  obtain⟨A,J⟩:=qo e;clear e;have A:M=sz:=by grind
  subst A;cases hx.view with
  |fg _ _ _ _=>exact⟨0,N,false,[],J,⟨by rfl,λI _=>by simp[Builtin.firstCells],by rfl,aq,aq,λj d=>ab,λj o c d=>ab,λD=>by cases D⟩⟩
  |view _ _ _ _ a cc Q S fJ hn hU Y U W =>
   obtain⟨news,br⟩:=Te (P:=P) (g:=g) (h:=h) (w:=w) (sz:=M) (m:=n) (cc:=cc) (b:=a.block) (off:=a.off) (gx:=N) (fl:=false) (ad:=a) (λZ=>Nm (S Z)) hn Y
    (λj d o c C=>⟨Q j o,U j o c d C,.aF _ _ (W j o c d C)⟩) (λD=>by cases D)
   grind
 |own i aj f len cap =>
  obtain⟨b,B,cG,aC,e⟩:=Ze e;obtain⟨E,J⟩:=qo e;clear e;simp only[wd,vm] at E;obtain⟨A,O⟩:=E;have O:=Qr O;subst A;rcases zP B aC hx with⟨cb,sh,cc,ad,L,rfl,es,e2,e3,e4,e5,e6,e7⟩|⟨_,q2,_,rfl,_,rfl⟩
  rotate_left
  .exact⟨0,_,b.flat,[],J,⟨by simp[Builtin.lenOf],λI _=>by simp[Builtin.firstCells],by simp[Builtin.firstCells],aq,aq,λj d=>ab,λj o c d=>ab,λ_ j d=>ab⟩⟩
  obtain⟨gF,V,arr,e',H⟩:=hr.dZ i b B cG (.inr (by rw[L];simp));rw[H.φ] at L;obtain⟨rfl,rfl⟩:=xa (we L);obtain⟨news,br⟩:=Te (P:=P) (g:=g) (h:=h) (w:=w) (sz:=b.sz) (m:=len) (cc:=cc) (b:=gF) (off:=V+f*b.sz) (gx:=λj=>b.get (f+j)) (fl:=b.flat) (ad:=ad) e2 e3
   (λj d=>H.len _ ab) (λj d=>by
    have:=H.gy (j:=f+j) ab;rw[vb,←vX] at this;exact this) (λD j d=>H.flat D _ ab)
  grind
 |str s =>
  obtain⟨A,e⟩:=qo e;have A:sz=1:=by grind
  subst A;obtain⟨b,rfl,B⟩:=hx.str;have dY:=Ym B;refine⟨s.length,_,true,s.map λc=>.int .u8 c.toNat,e,⟨by simp[Builtin.lenOf,dY],λI gp=>?_,?_,aq,λu X=>?_,λj d=>rfl,λj o c d C=>?_,λ_ j d c E=>?_⟩⟩
  .simp only[Builtin.firstCells,Sem.run_pure];congr 1;apply Array.ext';rw[uo,Ks,B];simp
  .simp only[Builtin.firstCells,Sem.run_pure];congr 1;apply Array.ext';rw[uo,Ks,B];simp
  .obtain⟨c,_,rfl⟩:=wY.1 X;rfl
  .cases o with
   |zero =>
    simp only[wO,wj] at C;subst C;refine⟨.int .u8 ((s.getD j 0).toNat:Int),?_,.aF _ _ (.int _ _)⟩;have:s[j]?=some s[j]:=wi d;grind
   |succ o=>grind
  .simp at E;subst E;rfl
 |_=>simp at e
def Jm(c:T):qK (Qk c)=true:=by
 unfold Qk;cases a:qK c with
 |true=>exact a
 |false=>rfl
def Tf{c:T}{v}(a:g.VR h w c v):g.VR h w (Qk c) v:=by
 unfold Qk;cases d:qK c with
 |true=>exact a
 |false=>exact .aF _ _ (.undef _)
def Src.plain{sz}{v}{m}{gx}{fl:Bool}{news:List Value}(a:Src P g h w sz v m gx fl news):Src P g h w sz v m (λj=>(gx j).map Qk) true news:=by
 refine⟨a.len,a.run,a.w7,a.size,a.one,λj d=>by rw[wW];exact a.lens j d,λj o c d f=>?_,λ_ j d c k=>?_⟩
 .rw[wE] at f;obtain⟨e,i,rfl⟩:=wT.1 f;obtain⟨u,s,r⟩:=a.cell j o e d i;exact⟨u,s,Tf r⟩
 .obtain⟨e,i,rfl⟩:=wY.1 k;exact Jm e
def Jn{pl:Bool}{sz:Nat}{x:T}{v}{k:Nat->(Nat->t7)->Bool->Option R}{r:R}(d:Y3 pl sz x h k=some r)(hr:HR g h w)(hx:g.VR h w x v) :
 ∃m gx fl news,k m gx fl=some r/\Src P g h w sz v m gx fl news:=by
 unfold Y3 at d;obtain⟨m,gx,fl,news,d,a⟩:=Ku (P:=P) d hr hx;cases fl with
 |true=>grind
 |false =>
  cases pl with
  |false=>grind
  |true =>
   refine⟨m,_,true,news,d,a.len,a.run,a.w7,a.size,a.one,λj e=>by rw[wW];exact a.lens j e,λj o c e i=>?_,λ_ j e c A=>?_⟩
   .rw[wE] at i;obtain⟨f,s,rfl⟩:=wT.1 i;obtain⟨u,C,B⟩:=a.cell j o f e s;exact⟨u,C,Tf B⟩
   .obtain⟨f,s,rfl⟩:=wY.1 A;exact Jm f
def Tg(iF:Nat)(hn:256<=iF):∀r c,c<=2*iF->Builtin.growBy iF r c<=2*iF
 |0,c,a=>a
 |r+1,c,a=>by
  unfold Builtin.growBy;split
  .exact a
  .exact Tg iF hn r _ ab
def qh9{iF a}(d:a<iF):Builtin.nextslicecap iF a<=2*iF:=by
 unfold Builtin.nextslicecap;split
 .omega
 .split
  .omega
  .exact Tg iF ab 4 a ab
def Src.all{sz m}{v}{gx}{fl}{news}(a:Src P g h w sz v m gx fl news):(Builtin.firstCells sz m v).run P w = .ok news.toArray w:=by
 have:=a.run m (wc _);rwa[←a.size,xh] at this
def zQ{t tx ty e}{base}{len cc m}{v}{gx}{fl}{news}{w'}(i:P.underlying t=some (.slice e))(j:zx P e=true)
 (hx:∃d,P.underlying tx=some d/\∀k,d≠.int k) (f:Src P g h w (qS P e) v m gx fl news) (r:len+m<=cc)
 (u:match base with|some a=>(storeCells (a.add (len*qS P e)) news).run P w = .ok () w'|none=>w'=w) :
 (Builtin.append_ #[t,tx] ty #[.slice base len cc,v]).run P w = .ok (.slice base (len+m) cc) w':=by
 obtain⟨d,o,s⟩:=hx;have hz:(match d with|.int _=>true|_=>false)=false:=by
  cases d<;>first|rfl|grind
 unfold Builtin.append_;simp only[xD,wO,xj,Sem.run_bind,qq i,Result.andThen_ok,Qj j,qq o,Sem.run_pure,f.len,xG,vn,xF,vZ,r,f.all];cases base with
 |none=>simp_all
 |some a=>simp_all
def Zf{t tx ty e:TypeId}{base:Option Addr}{len cc m}{v:Value}{gx:Nat->t7}{fl:Bool}{news dx:List Value}{z:Value}(x:P.underlying t=some (.slice e))(j:zx P e=true)
 (hz:(zeroValue e).run P w.drew = .ok z w.drew) (hx:∃d,P.underlying tx=some d/\∀k,d≠.int k) (f:Src P g h w (qS P e) v m gx fl news)
 (r:(Builtin.firstCells (qS P e) len (.slice base len cc)).run P w.drew = .ok dx.toArray w.drew)
 (s:cc<len+m) (E:(len+m)*(YY P e+1)<=70368744177664) :
 ∃nc,len+m<=nc/\(Builtin.append_ #[t,tx] ty #[.slice base len cc,v]).run P w =
  .ok (.slice (some ⟨w.heap.size,0,none⟩) (len+m) nc) (w.drew.alloc (.cells (dx.toArray++news.toArray++Builtin.zeroCells z.cells (nc-(len+m))) e)):=by
 obtain⟨d,B,I⟩:=hx;obtain⟨i,o⟩:=Kr j;have C:YY P e=i.bytes:=by simp[YY,o]
 rw[C,Nat.mul_add,Nat.mul_one] at E;have a:∀w:World,(typeInfo e).run P w = .ok i w:=λw=>by simp[typeInfo,o]
 have u:=qh9 s;have D:¬(Builtin.nextslicecap (len+m) cc*i.bytes > 2 ^ 48):=by
  have L:Builtin.nextslicecap (len+m) cc*i.bytes<=2*(len+m)*i.bytes:=wI _ u;have J:2*(len+m)*i.bytes=2*((len+m)*i.bytes):=Nat.mul_assoc _ _ _;omega
 have H:¬((((len+m:Nat):Int) > IntKind.i64.max)/\(False∨i.bytes=0)):=by
  have:IntKind.i64.max=9223372036854775807:=by decide
  rw[this];omega
 have A:(Question.appendCap (len+m) cc e).forced=false:=rfl;refine⟨(Question.appendCap (len+m) cc e).cut (w.tape w.drawn (.appendCap (len+m) cc e)),by grind[Question.cut],?_⟩;unfold Builtin.append_;simp only[xD,wO,xj,Sem.run_bind,qq x,Result.andThen_ok,Qj j,qq B,Sem.run_pure,f.len,xG,vn,xF,vZ];rw[wh ab];simp only[Sem.run_bind,a,Result.andThen_ok];rw[wh H];simp only[Sem.run_bind,a,Result.andThen_ok];rw[wh D];simp only[Sem.run_bind,run_choose,A,xG,vn,Result.andThen_ok,run_askRoom,a];change ((Builtin.firstCells (qS P e) len (.slice base len cc)).run P w.drew).andThen _=_;simp only[r,f.w7,Result.andThen_ok,hz];rfl
end
section
variable {P:Program} {R:Type} {g:Gh} {h:qa} {w:World}
def Qu{m}{gx}{fl}(a:Qd m gx fl=true)(d:fl=true->∀j,j<m->∀c,c∈gx j->qK c=true):∀j,j<m->∀c,c∈gx j->qK c=true:=by
 unfold Qd at a;grind
def Nz{sz len m nc}{gs gx}{dx news:List Value}{z:Array Value}(C:dx.length=len*sz)
 (D:∀j o c,j<len->(gs j)[o]?=some c->∃u,dx[j*sz+o]?=some u/\u.oneCell'=true/\g.VR h w c u)
 {v:Value} {fl:Bool} (k:Src P g h w sz v m gx fl news) (aj:Nat) (s:Bool) {j o:Nat} {c:T} (E:j<len+m) (d:((QB aj sz len m gs gx s).get j)[o]?=some c) :
 ∃u,(dx.toArray++news.toArray++Builtin.zeroCells z (nc-(len+m)))[0+j*sz+o]?=some u/\u.oneCell'=true/\g.VR h w c u:=by
 simp only[QB,vo] at d;have key:∀(l:List Value) (i:Nat) (u:Value) (A:Array Value),l[i]?=some u->(l.toArray++A)[i]?=some u:=by
  grind
 rw[Array.append_assoc];split at d
 .rename_i r;have r:=Qe r;grind
 ·rename_i f;have f:len<=j:=by
   rcases wu j len with a|a
   ·exact absurd (xb a) f
   ·exact a
  obtain⟨u,B,x⟩:=k.cell (j-len) o c ab d;refine⟨u,?_,k.one u (wx B),x⟩;rw[wo];have e:j*sz+o=dx.length+((j-len)*sz+o):=by
   rw[C,←vX,←vb];congr 2;omega
  rw[Array.getElem?_append_right (by simp[e])];grind
def js{sz len m}{gs gx}{news:List Value}(i:∀j,j<len->(gs j).length=sz){v:Value}{fl:Bool}(e:Src P g h w sz v m gx fl news)(aj:Nat)(d:Bool) :
 ∀j,j<len+m->((QB aj sz len m gs gx d).get j).length=sz:=by
 intro j f;simp only[QB,vo];split
 .simp_all
 ·rename_i a;have a:len<=j:=by
   simp_all
  exact e.lens _ ab
def IP{sz len m}{gs gx}(aj)(f)(h1:∀j,j<len->∀c,c∈gs j->qK c=true)(h2:∀j,j<m->∀c,c∈gx j->qK c=true) :
 ∀j,j<len+m->∀c,c∈(QB aj sz len m gs gx f).get j->qK c=true:=by
 intro j k c d;simp only[QB,vo] at d;split at d
 .rename_i i;exact h1 j (Qe i) c d
 ·rename_i e;have e:len<=j:=by
   rcases wu j len with a|a
   ·exact absurd (xb a) e
   ·exact a
  grind
def NB{sz len m nc}{dx news:List Value}{z:Array Value}(a:dx.length=len*sz)(hn:news.length=m*sz)(hz:z.size=sz)(d:len+m<=nc) :
 (dx.toArray++news.toArray++Builtin.zeroCells z (nc-(len+m))).size=nc*sz:=by
 simp only[Array.size_append,List.size_toArray,a,hn,size_zeroCells,hz];rw[←vb,←vb];grind
def YK(hr:HR g h w){sz len m nc:Nat}{gs gx:Nat->t7}{dx news:List Value}{z:Array Value}{e:TypeId}(x:dx.length=len*sz)
 (N:∀j,j<len->(gs j).length=sz) (A:∀j o c,j<len->(gs j)[o]?=some c->∃u,dx[j*sz+o]?=some u/\u.oneCell'=true/\g.VR h w c u)
 {v:Value} {fl:Bool} (f:Src P g h w sz v m gx fl news) (a:Bool) (s:a=true->(∀j,j<len->∀c,c∈gs j->qK c=true)/\∀j,j<m->∀c,c∈gx j->qK c=true)
 (hz:z.size=sz) (d:len+m<=nc) :
 ij g h w (.own h.length 0 0 (len+m) none) (h++[QB 0 sz len m gs gx a]) (.slice (some ⟨w.heap.size,0,none⟩) (len+m) nc)
  (w.drew.alloc (.cells (dx.toArray++news.toArray++Builtin.zeroCells z (nc-(len+m))) e)):=by
 have r:=NB x f.size hz d;obtain⟨H,I,_,J,M,L⟩:=hr.alloc (w':=w.drew.alloc (.cells (dx.toArray++news.toArray++Builtin.zeroCells z (nc-(len+m))) e)) (cb:=w.heap.size) (sh:=0) (e:=e)
  (b':=QB 0 sz len m gs gx a) aq (λk D=>RowKit.Below.heap_alloc w.drew _ _ D) (zo w.drew _) (wc _)
  (by rw[r,wo];exact wI _ d) (js N f 0 a) (λj o c E B=>Nz x A f 0 a E B) (λi=>IP 0 a (s i).1 (s i).2) rfl rfl ⟨rfl,wc _⟩
 exact⟨H,J,.own _ _ _ _ _ _ _ (YC h _) (wc _) rfl λ_=>.inl ⟨_,_,nc,_,I,rfl,rfl,λ_=>by simp,d,λ_ C=>(by cases C),by simp[QB],⟨_,e,zo w.drew _,by rw[r];simp[QB]⟩,λ_=>by simpa [QB] using d⟩,M,L⟩
def Src.fk{sz m}{v}{gx}{fl}{news}(a:Src P g h w sz v m gx fl news) :
 ∀j o c,j<m->(gx j)[o]?=some c->∃u,news[j*sz+o]?=some u/\u.oneCell'=true/\g.VR h w c u:=by
 intro j o c f e;obtain⟨u,d,i⟩:=a.cell j o c f e;exact⟨u,d,a.one u (wx d),i⟩
def qpN{tx}(hx:((qZ P tx).isSome || JT P tx)=true):∃d,P.underlying tx=some d/\∀k,d≠.int k:=by
 rcases vI _ _▸hx with f|f
 .obtain⟨e,he⟩:=vq.1 f;exact⟨_,Qa he,λk a=>by cases a⟩
 .exact⟨_,jp f,λk a=>by cases a⟩
def qC{α}{l:List α}{i:Nat}{x:α}(a:l[i]?=some x):i<l.length:=by
 grind
def Kv{cb n}{arr}{e}(d:w.heap[cb]?=some (.cells arr e (0,0)))(hn:room w cb n):n<=arr.size:=by
 obtain⟨i,j,a,f⟩:=hn;rw[d] at a;grind
def IQ(hr:HR g h w){i:Nat}{b:ap}(U:h[i]?=some b){cb sh:Nat}{arr:Array Value}{e:TypeId}(f:mO w g h i b cb sh arr e){p m:Nat}{gx:Nat->t7}{news:List Value}
 (E:∀j,j<m->(gx j).length=b.sz) (hn:news.length=m*b.sz) (S:∀j o c,j<m->(gx j)[o]?=some c->∃u,news[j*b.sz+o]?=some u/\u.oneCell'=true/\g.VR h w c u)
 (C:Bool) (J:C=true->b.flat=true/\∀j,j<m->∀c,c∈gx j->qK c=true) (I:sh+p*b.sz+news.length<=arr.size) (Q:b.mp=none:=by assumption) :
 ∃g',g'.φ i=some (cb,sh)/\HR g' (h.set i { b with get:=λj=>bif Nat.ble p j&&Nat.blt j (p+m) then gx (j-p) else b.get j,flat:=C }) (w.setRow cb (arr.toList.take (sh+p*b.sz)++news++arr.toList.drop (sh+p*b.sz+news.length)).toArray) ∧
  Zn g h w g' (h.set i { b with get:=λj=>bif Nat.ble p j&&Nat.blt j (p+m) then gx (j-p) else b.get j,flat:=C }) (w.setRow cb (arr.toList.take (sh+p*b.sz)++news++arr.toList.drop (sh+p*b.sz+news.length)).toArray) ∧
  mF g w g' (w.setRow cb (arr.toList.take (sh+p*b.sz)++news++arr.toList.drop (sh+p*b.sz+news.length)).toArray):=by
 have L:=Zp arr news _ I;have inr:∀j,(Nat.ble p j&&Nat.blt j (p+m))=true↔p<=j/\j<p+m:=by
  intro j;simp only[wd];exact⟨λ⟨B,A⟩=>⟨Qr B,Qe A⟩,λ⟨B,A⟩=>⟨xb B,xb A⟩⟩
 obtain⟨g',f1,Z,_,dq,aI,bK⟩:=hr.change U (w':=w.setRow cb (arr.toList.take (sh+p*b.sz)++news++arr.toList.drop (sh+p*b.sz+news.length)).toArray) (cb:=cb) (sh:=sh) (e:=e)
  (b':={ b with get:=λj=>bif Nat.ble p j&&Nat.blt j (p+m) then gx (j-p) else b.get j,flat:=C })
  (by simp[World.setRow]) (λk _ V=>setRow_other w cb k _ V) (Yl w cb arr _ e f.heap) (.inl f.own) (λn hn=>by rw[L];exact Kv f.heap hn) (wc _) (λ_=>⟨rfl,rfl,f.φ⟩) (by rw[L];exact f.room)
  (λj s=>by
   simp only[vo];split
   .rename_i a;have:=(inr j).1 a;exact E _ ab
   .exact f.len j s)
  (λj o c s d=>by
   simp only[vo] at d s ⊢;rw[IM arr _ _ _ I];have Y:o<b.sz:=by
    have x:=qC d;split at x
    .rename_i a;rw[E (j-p) (by have:=(inr j).1 a;omega)] at x;exact x
    .rw[f.len j s] at x;exact x
   split at d
   .rename_i a;have a:=(inr j).1 a;obtain⟨u,O,N,M⟩:=S (j-p) o c ab d;have Ti:p*b.sz<=j*b.sz:=wI _ a.1;have X:(j+1)*b.sz<=(p+m)*b.sz:=wI _ a.2;rw[vb,xB,vb p] at X;have W:(j-p)*b.sz=j*b.sz-p*b.sz:=Nat.sub_mul _ _ _;rw[wl ⟨ab,by rw[hn];omega⟩];refine⟨u,?_,N,M⟩;rw[←O,W];congr 1;omega
   .rename_i D;have D:=λq=>D ((inr j).2 q);rw[wh ?_]
    .exact f.cell j o c s d
    .rw[hn];rintro⟨B,A⟩;apply D;constructor
     .rcases wu j p with r|r
      .have:(j+1)*b.sz<=p*b.sz:=wI _ r;rw[vb,xB] at this;omega
      .exact r
     .rcases wu j (p+m) with r|r
      .exact r
      .have:(p+m)*b.sz<=j*b.sz:=wI _ r;rw[vb p] at this;omega)
  (λH j s c d=>by
   simp only[vo] at d;split at d
   .rename_i a;exact(J H).2 _ (by have:=(inr j).1 a;omega) c d
   .exact f.flat (J H).1 j s c d) rfl rfl ⟨rfl,wc _⟩ Q
 grind
def Tj(hr:HR g h w){i:Nat}{b b':ap}(E:h[i]?=some b)(M:g.φ i=none)(hn:b.n=0)(e1:b'.mp=none)(Q:b'.aj=b.aj)(O:b'.sz=b.sz)(N:b'.n=b.n) :
 HR g (h.set i b') w/\Zn g h w g (h.set i b') w/\mF g w g w:=by
 have L:=qC E;have s:Zn g h w g (h.set i b') w:=by
  refine⟨.refl _ _,λk x hx=>?_,λ_ _ q=>q⟩;grind
 refine⟨⟨λk x hx f=>?_,hr.u,hr.own,hr.base,hr.cells,λc j B=>by rw[ue];exact hr.lt c j B,λk x m hx f=>?_⟩,s,.refl _ _ λc o e=>(hr.own c o e).2⟩
 .by_cases d:k=i
  .grind
  .rw[vd (λe=>d e.symm)] at hx;rcases hr.dS k x hx f with⟨cb,A,r,e,a⟩|q
   ·exact .inl ⟨cb,A,r,e,a.φ,a.own,a.heap,a.room,a.len,λj o c C D=>by
     obtain⟨v,J,I,H⟩:=a.cell j o c C D;exact⟨v,J,I,H.av s⟩,a.flat⟩
   grind
 .by_cases d:k=i
  .grind
  .rw[vd (λe=>d e.symm)] at hx;exact hr.mp k x m hx f
def JI(hr:HR g h w){i:Nat}{b:ap}(r:h[i]?=some b){len m:Nat}{gs gx:Nat->t7}{w':World}{cb sh:Nat}{arr:Array Value}{e:TypeId}(a:Bool)(M:w.heap.size<=w'.heap.size)
 (Q:∀k,k<w.heap.size->k≠cb->w'.heap[k]?=w.heap[k]?) (d:w'.heap[cb]?=some (.cells arr e (0,0))) (N:g.own cb=some (.inl i)∨w.heap.size<=cb) (B:∀n,room w cb n->n<=arr.size)
 (L:sh+(len+m)*b.sz<=arr.size) (S:∀j,j<len+m->((QB (b.aj+1) b.sz len m gs gx a).get j).length=b.sz)
 (H:∀j o c,j<len+m->((QB (b.aj+1) b.sz len m gs gx a).get j)[o]?=some c->∃v,arr[sh+j*b.sz+o]?=some v/\v.oneCell'=true/\g.VR h w c v)
 (A:a=true->∀j,j<len+m->∀c,c∈(QB (b.aj+1) b.sz len m gs gx a).get j->qK c=true) (s:w'.os=w.os) (x:w'.tape=w.tape) (u:fi w' w)
 {nc:Nat} {ad:Addr} (V:ad.spot=none) (W:0<nc->ad=⟨cb,sh,none⟩) (f:len+m<=nc) (E:sh+nc*b.sz<=arr.size) :
 ij g h w (.own i (b.aj+1) 0 (len+m) none) (h.set i (QB (b.aj+1) b.sz len m gs gx a)) (.slice (some ad) (len+m) nc) w':=by
 obtain⟨D,I,Y,_,J,U,O⟩:=hr.change r (w':=w') (cb:=cb) (sh:=sh) (e:=e) (b':=QB (b.aj+1) b.sz len m gs gx a) M Q d N B
  (Nat.le_succ _) (λq=>by simp[QB] at q) L S H A s x u
 exact⟨D,J,.own _ _ _ _ _ _ _ (wZ (qC r)) (wc _) rfl λ_=>.inl ⟨cb,sh,nc,ad,I,rfl,V,λX=>rx,f,λ_ C=>(by cases C),by simp[QB],⟨arr,e,d,by simpa [QB] using E⟩,λ_=>by simpa [QB] using f⟩,U,O⟩
def qb5{t tx ty:TypeId}{s x:T}{cs cx:Value}{k:Qg R}{r:R}(d:Z8 P t s x h k=some r)(oA:((qZ P tx).isSome || JT P tx)=true)(hr:HR g h w)(hs:g.VR h w s cs)(hx:g.VR h w x cx) :
 ∃y h' wr,k y h' wr=some r/\(wr=false->h'=h)/\∃v w',(Builtin.append_ #[t,tx] ty #[cs,cx]).run P w = .ok v w'/\ij g h w y h' v w':=by
 unfold Z8 at d;have O:=qpN oA;cases he:qZ P t with
 |none=>grind
 |some e =>
  rw[he] at d;obtain⟨hz,d⟩:=qo d;obtain⟨z,tU,N,nG,Q,rA,sa⟩:=Zx (P:=P) (g:=g) (h:=h) (w:=w) hz;obtain⟨z',sK,_⟩:=Zx (P:=P) (g:=g) (h:=h) (w:=w.drew) hz;have NE:z'=z:=by
   obtain⟨i,hi⟩:=Kr N;cases Tk:i.zero with
   |none=>simp[zeroValue,typeInfo,hi,Tk] at tU
   |some q =>
    simp only[zeroValue,typeInfo,Sem.run_bind,run_program,Result.andThen_ok,hi,Sem.run_pure,Tk,Result.ok.injEq] at tU sK;grind
  subst NE;obtain⟨m,U,fl,news,d,f⟩:=Jn (P:=P) d hr hx;have S:=Qa he;have nK:∀n,Kn P e n=true->n*(YY P e+1)<=70368744177664:=λn hn=>Qr hn;cases s with
  |ae =>
   dsimp only at d;obtain rfl:=hs.ae;rcases qw d with⟨C,d⟩|⟨C,d⟩
   .have C:m=0:=by grind
    subst C;exact⟨_,_,_,d,λ_=>rfl,_,w,zQ (P:=P) S N O f (wc _) rfl,.pure hr (.aF _ _ .ae)⟩
   .have C:m≠0:=by simpa using C
    obtain⟨dD,d⟩:=qo d;obtain⟨nc,H,I⟩:=Zf (P:=P) (w:=w) (ty:=ty) (base:=none) (len:=0) (cc:=0) (dx:=[]) S N sK O f (by simp[Builtin.firstCells]) ab (by simpa using nK _ dD);refine⟨_,_,_,d,(λJ=>by cases J),_,_,I,?_⟩;have:=YK (P:=P) (e:=e) hr (sz:=qS P e) (len:=0) (gs:=λ_=>[]) (dx:=[]) aq (λj D=>ab) (λj o c D=>ab) f (Qd m U fl)
     (λB=>⟨λj D=>ab,Qu B f.flat⟩) Q H
    have eb:QB 0 (qS P e) 0 m (λ_=>[]) U (Qd m U fl)=⟨0,qS P e,m,U,Qd m U fl,false,none⟩:=by
     simp only[QB,wo,Nat.sub_zero];rfl
    rw[eb] at this;grind
  |view sz n gs cap =>
   dsimp only at d;obtain⟨dY,d⟩:=qo d;have dY:sz=qS P e:=by grind
   subst dY;obtain⟨n',gs',fl0,L,e0,E⟩:=Ku (P:=P) (R:=Nat×(Nat->t7)×Bool) (sz:=qS P e) (x:=.view (qS P e) n gs cap) (k:=λa b c=>some (a,b,c)) (r:=(n,gs,false)) (by simp[K9]) hr hs;simp only[wj,wA] at e0;obtain⟨rfl,rfl,rfl⟩:=e0;cases hs.view with
   |fg _ gs0 _ sd =>
    rcases qw d with⟨C,d⟩|⟨C,d⟩
    .have C:m=0:=by grind
     subst C;exact⟨_,_,_,d,λ_=>rfl,_,w,zQ (P:=P) S N O f (wc _) rfl,.pure hr hs⟩
    .have C:m≠0:=by grind
     cases cap with
     |none=>cases d
     |some c =>
      obtain⟨Z,d⟩:=qo d;simp only[wd] at Z;obtain⟨X,dD⟩:=Z;obtain⟨nc,H,I⟩:=Zf (P:=P) (w:=w) (ty:=ty) (base:=none) (len:=0) (cc:=0) (dx:=[]) S N sK O f rfl ab rx;refine⟨_,_,_,d,(λJ=>by cases J),_,_,I,?_⟩;unfold IB;cases (Ql P e).all qK with
      |true =>
       simp only[wp];exact YK (P:=P) (e:=e) hr (sz:=qS P e) (len:=0) (gs:=_) (dx:=[]) aq (λj D=>ab) (λj o c D=>ab) f _
        (λB=>⟨λj D=>ab,Qu B f.flat⟩) Q H
      |false =>
       simp only[wq];exact YK (P:=P) (e:=e) hr (sz:=qS P e) (len:=0) (gs:=_) (dx:=[]) aq (λj D=>ab) (λj o c D=>ab) f _
        (λB=>⟨λj D=>ab,Qu rx f.flat⟩) Q H
   |view _ _ _ _ a cc vs sJ fJ hn hU hl nX hv =>
    rcases qw d with⟨C,d⟩|⟨C,d⟩
    .have C:m=0:=by simpa using C
     subst C;refine⟨_,_,_,d,λ_=>rfl,_,w,zQ (P:=P) S N O f ab ?_,.pure hr hs⟩;have:news=[]:=by have:=f.size;simp at this;exact this
     subst this;rfl
    .cases cap with
     |none=>cases d
     |some c =>
      obtain rfl:=fJ c rfl;obtain⟨Z,d⟩:=qo d;simp only[wd] at Z;obtain⟨X,dD⟩:=Z;have X:=Qe X;obtain⟨nc,H,I⟩:=Zf (P:=P) (w:=w) (ty:=ty) (dx:=L) S N sK O f E.w7 X (nK _ dD);refine⟨_,_,_,d,(λJ=>by cases J),_,_,I,?_⟩;unfold IB;cases (Ql P e).all qK with
      |true =>
       have td:=E.plain;simp only[wp];exact YK hr td.size td.lens td.fk f _ (λB=>⟨td.flat rfl,Qu B f.flat⟩) Q H
      |false =>
       simp only[wq];exact YK hr E.size E.lens E.fk f _ (λB=>by
        simp only[wd] at B;exact⟨Qu B.1 E.flat,Qu B.2 f.flat⟩) Q H
  |own i aj A len cap =>
   dsimp only at d;obtain⟨b,hb,cG,aC,d⟩:=Ze d;obtain⟨Z,d⟩:=qo d;simp only[wd,vm] at Z;obtain⟨dY,bz⟩:=Z;have bz:=Qr bz;obtain⟨n',gs',fl0,L,e0,E⟩:=Ku (P:=P) (R:=Nat×(Nat->t7)×Bool) (sz:=qS P e) (x:=.own i aj A len cap) (k:=λa b c=>some (a,b,c)) (r:=(len,(λj=>b.get (A+j)),b.flat))
    (by simp[K9,Qf,hb,aC,cG,dY,xb bz]) hr hs
   have e0:=e0.symm;simp only[wj,wA] at e0;obtain⟨rfl,rfl,rfl⟩:=e0;rcases zP hb aC hs with⟨cb,sh,cc,ad,e1,rfl,es,e2,e3,e4,e5,e6,e7⟩|⟨q1,q2,rfl,rfl,q5,rfl⟩
   rotate_left
   .rcases qw d with⟨C,d⟩|⟨C,d⟩
    .have C:m=0:=by grind
     subst C;exact⟨_,_,_,d,λ_=>rfl,_,w,zQ (P:=P) S N O f (wc _) rfl,.pure hr hs⟩
    .have C:m≠0:=by grind
     obtain⟨dD,d⟩:=qo d;obtain⟨nc,H,I⟩:=Zf (P:=P) (w:=w) (ty:=ty) (base:=none) (len:=0) (cc:=0) (dx:=[]) S N sK O f rfl ab rx;have cE:(b.flat&&Qd m U fl)=true->(∀j,j<0->∀c,c∈b.get (0+j)->qK c=true)/\∀j,j<m->∀c,c∈U j->qK c=true:=by
      intro B;simp only[wd] at B;exact⟨λj D=>ab,Qu B.2 f.flat⟩
     rw[←dY] at f Q;cases cap with
     |some c =>
      obtain rfl:=q5 c rfl;dsimp only at d;rw[show Nat.ble (0+m) 0=false by
       rw[xV];simp_all] at d
      refine⟨_,_,_,d,(λJ=>by cases J),_,_,I,?_⟩;exact YK (P:=P) (e:=e) hr (sz:=b.sz) (len:=0) (gs:=_) (dx:=[]) aq (λj D=>ab) (λj o c D=>ab) f _ cE Q H
     |none =>
      dsimp only at d;rw[←aC] at d;rw[show Nat.ble (0+0+m) b.n=false by
       rw[xV];simp_all] at d
      refine⟨_,_,_,d,(λJ=>by cases J),_,_,I,?_⟩;have w9:=NB (len:=0) (dx:=[]) (nc:=nc) aq f.size Q H;exact JI hr hb (cb:=w.heap.size) (sh:=0) (arr:=([]:List Value).toArray++news.toArray++Builtin.zeroCells z'.cells (nc-(0+m))) (e:=e) _ aq (λk d _=>RowKit.Below.heap_alloc w.drew _ _ d) (zo w.drew _) (.inr (wc _))
       (λn hn=>by obtain⟨a',Th,q1,_⟩:=hn;have:=qP q1;omega) (by rw[w9,wo];exact wI _ H)
       (js (λj D=>ab) f _ _) (λj o c D ho=>Nz (len:=0) (dx:=[]) aq (λj o c D=>ab) f _ _ D ho) (λB=>IP _ _ (cE B).1 (cE B).2) rfl rfl ⟨rfl,wc _⟩ rfl (λ_=>rfl) H (by rw[w9,wo];omega)
   obtain⟨gF,Y,arr,e',W⟩:=hr.dZ i b hb cG (.inr (by rw[e1];simp));rw[W.φ] at e1;obtain⟨rfl,rfl⟩:=xa (we e1);rcases qw d with⟨C,d⟩|⟨C,d⟩
   .have C:m=0:=by simpa using C
    subst C;refine⟨_,_,_,d,λ_=>rfl,_,w,zQ (P:=P) S N O f ab ?_,.pure hr hs⟩;have:news=[]:=by have:=f.size;simp at this;exact this
    subst this;rfl
   .have C:m≠0:=by grind
    obtain⟨dD,d⟩:=qo d;have fM:=Kv W.heap e6;rw[←dY] at f E Q
    have oU:len+m<=cc->(Builtin.append_ #[t,tx] ty #[.slice (some ad) len cc,cx]).run P w =
     .ok (.slice (some ad) (len+m) cc) (w.setRow gF (arr.toList.take (Y+(A+len)*b.sz)++news++arr.toList.drop (Y+(A+len)*b.sz+news.length)).toArray)/\Y+(A+len)*b.sz+news.length<=arr.size:=by
     intro M;have V:Y+(A+len)*b.sz+news.length<=arr.size:=by
      rw[f.size];refine wM ?_ fM;have:(A+len)*b.sz+m*b.sz<=(A+cc)*b.sz:=by rw[←vb];exact wI _ ab
      omega
     refine⟨zQ (P:=P) S N O (dY▸f) M ?_,V⟩;rw[e2 ab];dsimp only;rw[QQ,←dY,vX,←vb];have:=run_storeCells_at P gF (Y+(A+len)*b.sz) e' news 0 arr w W.heap (by simpa using V) f.one;omega
    have CB:cc<len+m →
     ∃nc,len+m<=nc/\(Builtin.append_ #[t,tx] ty #[.slice (some ad) len cc,cx]).run P w = .ok (.slice (some ⟨w.heap.size,0,none⟩) (len+m) nc) (w.drew.alloc (.cells (L.toArray++news.toArray++Builtin.zeroCells z'.cells (nc-(len+m))) e)) :=
     λX=>Zf (P:=P) (w:=w) (ty:=ty) (dx:=L) S N sK O (dY▸f) (dY▸E).w7 X (nK _ dD)
    have cE:(b.flat&&Qd m U fl)=true->(∀j,j<len->∀c,c∈b.get (A+j)->qK c=true)/\∀j,j<m->∀c,c∈U j->qK c=true:=by
     intro B;simp only[wd] at B;exact⟨E.flat B.1,Qu B.2 f.flat⟩
    cases cap with
    |some c =>
     obtain⟨rfl,sd⟩:=e4 c rfl;dsimp only at d;rcases qw d with⟨M,d⟩|⟨M,d⟩
     ·have M:=Qr M;obtain⟨_,d⟩:=qo d;obtain⟨I,V⟩:=oU M;obtain⟨g',f1,dq,aI,bK⟩:=IQ hr hb W (p:=A+len) (m:=m) f.lens f.size f.fk (b.flat&&Qd m U fl) (λB=>by
       simp only[wd] at B;exact⟨B.1,Qu B.2 f.flat⟩) V
      refine⟨_,_,_,d,(λJ=>by cases J),_,_,I,g',dq,.own _ _ _ _ _ _ _ (wZ (qC hb)) (Nat.le_of_eq aC.symm) rfl λ_=>.inl ⟨gF,Y,cc,ad,f1,rfl,es,e2,M,λm' gp=>?_,?_,⟨_,e',Yl w gF arr _ e' W.heap,by rw[Zp arr news _ V];exact fM⟩,λZ=>(by cases Z)⟩,aI,bK⟩
      .simp only[wj] at gp;subst gp;exact⟨rfl,sd⟩
      grind
     ·have X:cc<len+m:=by
       rcases wu cc (len+m) with hq|hq
       ·exact hq
       ·rw[xb hq] at M;cases M
      obtain⟨nc,H,I⟩:=CB X;exact⟨_,_,_,d,(λJ=>by cases J),_,_,I,YK (P:=P) (e:=e) hr E.size E.lens E.fk f _ cE Q H⟩
    |none =>
     dsimp only at d;rw[←aC] at d;rcases qw d with⟨lC,d⟩|⟨_,d⟩
     ·have lC:=Qr lC;have lW:=e7 rfl;obtain⟨I,V⟩:=oU ab;obtain⟨g',f1,dq,aI,bK⟩:=IQ hr hb W (p:=A+len) (m:=m) f.lens f.size f.fk (b.flat&&Qd m U fl) (λB=>by
       grind) V
      exact⟨_,_,_,d,(λJ=>by cases J),_,_,I,g',dq,.own _ _ _ _ _ _ _ (wZ (qC hb)) (wc _) rfl λ_=>.inl ⟨gF,Y,cc,ad,f1,rfl,es,e2,ab,λm' gp=>(by cases gp),rx,⟨_,e',Yl w gF arr _ e' W.heap,by rw[Zp arr news _ V];exact fM⟩,λ_=>lW⟩,aI,bK⟩
     refine⟨_,_,_,d,(λJ=>by cases J),?_⟩;rcases wu cc (len+m) with X|M
     ·obtain⟨nc,H,I⟩:=CB X;refine⟨_,_,I,?_⟩;have w9:=NB (nc:=nc) E.size f.size Q H;exact JI hr hb (cb:=w.heap.size) (sh:=0) (arr:=L.toArray++news.toArray++Builtin.zeroCells z'.cells (nc-(len+m))) (e:=e) _ aq (λk d _=>RowKit.Below.heap_alloc w.drew _ _ d) (zo w.drew _) (.inr (wc _))
       (λn hn=>by obtain⟨a',Th,q1,_⟩:=hn;have:=qP q1;omega) (by rw[w9,wo];exact wI _ H)
       (js E.lens f _ _) (λj o c D ho=>Nz E.size E.fk f _ _ D ho) (λB=>IP _ _ (cE B).1 (cE B).2) rfl rfl ⟨rfl,wc _⟩ rfl (λ_=>rfl) H (by rw[w9,wo];omega)
     ·obtain⟨I,V⟩:=oU M;refine⟨_,_,I,?_⟩;have BM:=Zp arr news _ V;refine JI hr hb (cb:=gF) (sh:=Y+A*b.sz) (arr:=(arr.toList.take (Y+(A+len)*b.sz)++news++arr.toList.drop (Y+(A+len)*b.sz+news.length)).toArray) (e:=e') _ (by simp[World.setRow]) (λk _ bh=>setRow_other w gF k _ bh) (Yl w gF arr _ e' W.heap) (.inl W.own)
       (λn hn=>by rw[BM];exact Kv W.heap hn) ?_ (js E.lens f _ _) (λj o c D ho=>?_) (λB=>IP _ _ (cE B).1 (cE B).2) rfl rfl ⟨rfl,wc _⟩ es e2 M ?_
      .rw[BM];refine wM ?_ fM;have:A*b.sz+(len+m)*b.sz<=(A+cc)*b.sz:=by rw[←vb];exact wI _ ab
       omega
      ·rw[IM arr _ _ _ V];have s7:o<b.sz:=by
        have aM:=qC ho;rw[js E.lens f _ _ j D] at aM;exact aM
       simp only[QB,vo] at ho;rw[vb A len] at *
       split at ho
       .rename_i aM;have aM:=Qe aM;have Bf:(j+1)*b.sz<=len*b.sz:=wI _ aM;rw[vb,xB] at Bf;rw[wh ab];have:=W.cell (A+j) o c ab ho;rw[vb,←vX] at this;exact this
       ·rename_i oz;have oz:len<=j:=by
         rcases wu j len with hq|hq
         ·exact absurd (xb hq) oz
         ·exact hq
        obtain⟨u,u1,u2,u3⟩:=f.fk (j-len) o c ab ho;have Ti:len*b.sz<=j*b.sz:=wI _ oz;have Bf:(j+1)*b.sz<=(len+m)*b.sz:=wI _ D;rw[vb,xB,vb len] at Bf;have NC:(j-len)*b.sz=j*b.sz-len*b.sz:=Nat.sub_mul _ _ _;rw[wl ⟨ab,by rw[f.size];omega⟩];refine⟨u,?_,u2,u3⟩;rw[←u1,NC];congr 1;omega
      grind
  |_=>simp at d
def qdT{t tx ty:TypeId}{d x:T}{cd Z:Value}{k:Qg R}{r:R}(a:JY P t d x h k=some r)(hr:HR g h w)(S:g.VR h w d cd)(hx:g.VR h w x Z) :
 ∃y h' wr,k y h' wr=some r/\(wr=false->h'=h)/\∃v w',(Builtin.copy_ #[t,tx] ty #[cd,Z]).run P w = .ok v w'/\ij g h w y h' v w':=by
 unfold JY at a;cases he:qZ P t with
 |none=>grind
 |some e =>
  rw[he] at a;obtain⟨O,a⟩:=qo a;have H:=Qa he;obtain⟨m,B,V,news,a,s⟩:=Jn (P:=P) a hr hx;cases d with
  |ae =>
   dsimp only at a;obtain rfl:=S.ae;refine⟨_,_,_,a,λ_=>rfl,goInt 0,w,?_,.pure hr (.aF _ _ (.int _ _))⟩;have A:=s.run 0 (wN _);simp only[Nat.zero_mul,List.take_zero] at A;unfold Builtin.copy_;simp only[xD,wO,xj,Sem.run_bind,qq H,Result.andThen_ok,s.len,Qj O];rw[show Nat.min m 0=0 from Nat.min_zero m,A];rfl
  |own i aj f len cap =>
   dsimp only at a;obtain⟨b,E,cG,aC,a⟩:=Ze a;obtain⟨U,a⟩:=qo a;simp only[wd,vm] at U;obtain⟨X,bz⟩:=U;have bz:=Qr bz;rcases zP E aC S with⟨cb,sh,cc,ad,N,rfl,es,e2,e3,e4,e5,e6,e7⟩|⟨q1,q2,rfl,rfl,q5,rfl⟩
   rotate_left
   .obtain⟨n1,n2,n3⟩:=Tj (b':={ b with get:=λj=>bif Nat.ble 0 j&&Nat.blt j (0+Nat.min m 0) then B (j-0) else b.get j,flat:=b.flat&&Qd m B V }) hr E q1 q2 cG rfl rfl rfl;refine⟨_,_,_,a,(λJ=>by cases J),goInt (Nat.min m 0:Nat),w,?_,g,n1,.aF _ _ (.int _ _),n2,n3⟩;have A:=s.run 0 (wN _);simp only[Nat.zero_mul,List.take_zero] at A;unfold Builtin.copy_;simp only[xD,wO,xj,Sem.run_bind,qq H,Result.andThen_ok,s.len,Qj O];rw[show Nat.min m 0=0 from Nat.min_zero m,A];rfl
   obtain⟨M,D,arr,W,C⟩:=hr.dZ i b E cG (.inr (by rw[N];simp));rw[C.φ] at N;obtain⟨rfl,rfl⟩:=xa (we N);have fM:=Kv C.heap e6;rw[←X] at s;have F8:Nat.min m len<=m:=Nat.min_le_left _ _;have Tl:Nat.min m len<=len:=Nat.min_le_right _ _;have F9:(news.take (Nat.min m len*b.sz)).length=Nat.min m len*b.sz:=by
    rw[vL,s.size];exact uf (wI _ F8)
   have Y:D+f*b.sz+(news.take (Nat.min m len*b.sz)).length<=arr.size:=by
    rw[F9];refine wM ?_ fM;have:f*b.sz+Nat.min m len*b.sz<=(f+cc)*b.sz:=by rw[←vb];exact wI _ ab
    omega
   obtain⟨g',f1,dq,aI,bK⟩:=IQ hr E C (p:=f) (m:=Nat.min m len) (gx:=B) (news:=news.take (Nat.min m len*b.sz)) (λj I=>s.lens j ab) F9 (λj o c I Q=>by
    obtain⟨u,u1,u2,u3⟩:=s.fk j o c ab Q;refine⟨u,?_,u2,u3⟩;rw[ub,wl ?_]
    .exact u1
    .have ru:=qC Q;rw[s.lens j ab] at ru;have:(j+1)*b.sz<=Nat.min m len*b.sz:=wI _ I;rw[vb,xB] at this;omega) (b.flat&&Qd m B V) (λL=>by
    simp only[wd] at L;exact⟨L.1,λj I=>Qu L.2 s.flat j ab⟩) Y
   refine⟨_,_,_,a,(λJ=>by cases J),goInt (Nat.min m len:Nat),_,?_,g',dq,.aF _ _ (.int _ _),aI,bK⟩;have io:(storeCells ad (news.take (Nat.min m len*b.sz))).run P w = .ok () (w.setRow M (arr.toList.take (D+f*b.sz)++news.take (Nat.min m len*b.sz)++arr.toList.drop (D+f*b.sz+(news.take (Nat.min m len*b.sz)).length)).toArray):=by
    by_cases A:0<cc
    .rw[e2 A];have:=run_storeCells_at P M (D+f*b.sz) W (news.take (Nat.min m len*b.sz)) 0 arr w C.heap (by simpa using Y) (λv hv=>s.one v (ug hv));simpa using this
    .have e0:Nat.min m len=0:=by omega
     rw[e0];simp only[Nat.zero_mul,List.take_zero,storeCells,vu,vM,Nat.add_zero,xE,Array.toArray_toList];rw[setRow_self w M arr W (0,0) C.heap];rfl
   unfold Builtin.copy_;simp only[xD,wO,xj,Sem.run_bind,qq H,Result.andThen_ok,s.len,Qj O];rw[←X,s.run _ F8];simp_all
  |_=>simp at a
def qcX{t ty:TypeId}{d:T}{cd:Value}{k:Qg R}{r:R}(f:ja P t d h k=some r)(hr:HR g h w)(W:g.VR h w d cd) :
 ∃y h' wr,k y h' wr=some r/\(wr=false->h'=h)/\∃v w',(Builtin.clear_ #[t] ty #[cd]).run P w = .ok v w'/\ij g h w y h' v w':=by
 unfold ja at f;cases he:qZ P t with
 |none=>grind
 |some e =>
  rw[he] at f;obtain⟨hz,f⟩:=qo f;obtain⟨z,tU,cz,Q,s,N,sa⟩:=Zx (P:=P) (g:=g) (h:=h) (w:=w) hz;have C:=Qa he;have L:∀{I:Gh} {h':qa} {w':World},I.VR h' w' (.aJ []) (.tuple #[]):=λ{_ _ _}=>VR.iE rfl (λi c hi=>rx);cases d with
  |ae =>
   dsimp only at f;obtain rfl:=W.ae;refine⟨_,_,_,f,λ_=>rfl,.tuple #[],w,?_,.pure hr L⟩;unfold Builtin.clear_;simp[qq C]
  |own i aj a len cap =>
   dsimp only at f;obtain⟨b,B,cG,aC,f⟩:=Ze f;obtain⟨X,f⟩:=qo f;simp only[wd,vm] at X;obtain⟨dY,bz⟩:=X;have bz:=Qr bz;rcases zP B aC W with⟨cb,sh,cc,ad,J,rfl,es,e2,e3,e4,e5,e6,e7⟩|⟨q1,q2,rfl,rfl,q5,rfl⟩
   rotate_left
   .obtain⟨n1,n2,n3⟩:=Tj (b':={ b with get:=λj=>bif Nat.ble 0 j&&Nat.blt j (0+0) then Ql P e else b.get j,flat:=b.flat&&(Ql P e).all qK }) hr B q1 q2 cG rfl rfl rfl;refine⟨_,_,_,f,(λD=>by cases D),.tuple #[],w,?_,g,n1,L,n2,n3⟩;unfold Builtin.clear_;simp[qq C]
   obtain⟨H,A,arr,Y,x⟩:=hr.dZ i b B cG (.inr (by rw[J];simp));rw[x.φ] at J;obtain⟨rfl,rfl⟩:=xa (we J);have fM:=Kv x.heap e6;rw[←dY] at s;have F9:(Builtin.zeroCells z.cells len).toList.length=len*b.sz:=by rw[xz,size_zeroCells,s]
   have Z:A+a*b.sz+(Builtin.zeroCells z.cells len).toList.length<=arr.size:=by
    rw[F9];refine wM ?_ fM;have:a*b.sz+len*b.sz<=(a+cc)*b.sz:=by rw[←vb];exact wI _ ab
    omega
   have fB:∀j o c,j<len->(Ql P e)[o]?=some c->∃u,(Builtin.zeroCells z.cells len).toList[j*b.sz+o]?=some u/\u.oneCell'=true/\g.VR h w c u:=by
    intro j o c V U;obtain⟨u,M,u2⟩:=sa o c U;refine⟨u,?_,N o u M,u2⟩;have:=ZB Q s len j o c V U;rw[vD];unfold Builtin.zeroCells;rw[s];rw[s] at this;rw[this,M]
   obtain⟨I,f1,dq,aI,bK⟩:=IQ hr B x (p:=a) (m:=len) (gx:=λ_=>Ql P e) (news:=(Builtin.zeroCells z.cells len).toList) (λj V=>by rw[Q,s]) F9 fB
    (b.flat&&(Ql P e).all qK) (λhf=>by
     grind) Z
   refine⟨_,_,_,f,(λD=>by cases D),.tuple #[],_,?_,I,dq,L,aI,bK⟩;have DI:∀v,v∈(Builtin.zeroCells z.cells len).toList->v.oneCell'=true:=by
    intro v S;simp only[Builtin.zeroCells,uo,wY] at S;obtain⟨q,hq,rfl⟩:=S;have hql:q<len*z.cells.size:=by grind
    have Ga:0<z.cells.size:=by
     grind
    have Tm:=Nat.mod_lt q Ga;rw[Array.getElem!_eq_getD,wG,wK Tm];exact N _ _ (wK Tm)
   have io:0<len->(storeCells ad (Builtin.zeroCells z.cells len).toList).run P w = .ok () (w.setRow H (arr.toList.take (A+a*b.sz)++(Builtin.zeroCells z.cells len).toList++arr.toList.drop (A+a*b.sz+(Builtin.zeroCells z.cells len).toList.length)).toArray):=by
    intro E;rw[e2 ab];have:=run_storeCells_at P H (A+a*b.sz) Y (Builtin.zeroCells z.cells len).toList 0 arr w x.heap (by simpa using Z) DI;omega
   unfold Builtin.clear_;simp only[xD,wO,Sem.run_bind,qq C,Result.andThen_ok];rcases vY len with E|E
   .subst E;have e0:(Builtin.zeroCells z.cells 0).toList=[]:=by grind
    rw[e0];simp only[vu,vM,Nat.add_zero,xE,Array.toArray_toList];rw[setRow_self w H arr Y (0,0) x.heap];simp
   .cases len with
    |zero=>omega
    |succ n =>
     simp_all
  |_=>simp at f
end
section
variable {P:Program} {R:Type} {g:Gh} {h:qa} {w:World}
def NF{c:T}{v}{U d}(hp:qK c=true)(a:VI w U c v):VI w d c v:=by
 cases a<;>first
  |exact .undef _|exact .bool _|exact .int _ _|exact .str _ _ ‹_›
  |(simp[qK] at hp;done)
def yk{c:T}{v}{d}(hp:qK c=true)(a:g.VR h w c v):VI w d c v:=by
 cases a with
 |aF _ _ a=>exact NF hp a
 |_=>simp[qK] at hp
structure Reads(g:Gh)(h:qa)(w:World)(ex:t8)(V:Nat->Prop):Prop where
 u:∀b,g.U b->V b
 own:∀i b cb sh,h[i]?=some b->i∉ex->g.φ i=some (cb,sh)->V cb
def IR{V:Nat->Prop}(d:∀b,g.U b->V b):eR w g.U w V:=λb a=>⟨d b a,rfl⟩
def QE{f}{l:t7}{o:Nat}{c:T}(d:(l.map f)[o]?=some c):∃a,l[o]?=some a/\c=f a:=by
 rw[wE] at d;grind
def qnz(hr:HR g h w){V}{i aj off len:Nat}{cap:Option Nat}{b:ap}{v:Value}(C:h[i]?=some b)(W:b.aj=aj)(hx:g.VR h w (.own i aj off len cap) v)(bz:off+len<=b.n)
 (N:∀cb sh,g.φ i=some (cb,sh)->V cb) (gg:Nat->t7) (B:∀j,j<len->(gg j).length=b.sz)
 (L:∀(j o:Nat) (c:T) (u:Value),j<len->(gg j)[o]?=some c->∀x:T,(b.get (off+j))[o]?=some x->g.VR h w x u->(b.flat=true->qK x=true)->VI w V c u) (S:b.mp=none:=by assumption) :
 VI w V (.view b.sz len gg cap) v:=by
 rcases zP C W hx with⟨cb,sh,cc,ad,s,rfl,es,D,Q,O,e5,e6,e7⟩|⟨Z,Y,rfl,rfl,X,rfl⟩
 rotate_left
 .refine .fg _ _ _ ?_;cases cap with
  |none=>grind
  |some c=>grind
 obtain⟨gF,ig,U,e',f⟩:=hr.dZ i b C S (.inr (by rw[s];simp));rw[f.φ] at s;obtain⟨rfl,rfl⟩:=xa (we s);have key:∀j o c,j<len->(gg j)[o]?=some c->∃u,cellAt w ad.block (ad.off+j*b.sz+o) u/\VI w V c u:=by
  intro j o c d a;have k:=D ab;subst k;have I:=qC a;rw[B j d] at I;have aY:=f.len (off+j) ab;have r:(b.get (off+j))[o]?=some (b.get (off+j))[o]:=wi ab;obtain⟨u,A,E⟩:=f.gy (j:=off+j) ab o _ r;refine⟨u,?_,L j o c u d a _ r E (λM=>f.flat M _ ab _ (wx r))⟩;grind
 let e:Nat->Nat->Value:=λj o=>(w.cell? ⟨ad.block,ad.off+j*b.sz+o,none⟩).getD Go.undef
 have H:∀j o c,j<len->(gg j)[o]?=some c->cellAt w ad.block (ad.off+j*b.sz+o) (e j o)/\VI w V c (e j o):=by
  intro j o c d a;obtain⟨u,A,E⟩:=key j o c d a;have:e j o=u:=by simp[e,A.1]
  rw[this];grind
 refine .view b.sz len gg cap ad cc e (λ_=>es) (λm J=>(O m J).1) Q (λhp _=>?_) B (λj o c d a=>(H j o c d a).1) (λj o c d a=>(H j o c d a).2);have k:=D ab;subst k;exact N _ _ f.φ
def qrE(hr:HR g h w){V}{i aj j o:Nat}{b:ap}{v:Value}(x:h[i]?=some b)(Q:b.aj=aj)(hx:g.VR h w (.ptr i aj j o) v)(s:j<b.n)
 (M:∀cb sh,g.φ i=some (cb,sh)->V cb) (cells:t7)
 (J:∀(n:Nat) (c:T),cells[n]?=some c->∃d:T,(b.get j)[o+n]?=some d/\∀u:Value,g.VR h w d u->(b.flat=true->qK d=true)->VI w V c u) (N:b.mp=none:=by assumption) :
 VI w V (.vp cells) v:=by
 obtain⟨U,C,_,_,I⟩:=hx.dL;rw[x] at C;obtain rfl:=we C;obtain⟨cb,sh,B,rfl⟩:=I Q;obtain⟨r,f,O,S,e⟩:=hr.dZ i b x N (.inl ab);rw[e.φ] at B;obtain⟨rfl,rfl⟩:=xa (we B);have key:∀n c,cells[n]?=some c->∃u,cellAt w r (f+j*b.sz+o+n) u/\VI w V c u:=by
  intro n c hn;obtain⟨d,A,H⟩:=J n c hn;obtain⟨u,k,D⟩:=e.gy s (o+n) d A;exact⟨u,by rw[vX];exact k,H u D (λL=>e.flat L _ s _ (wx A))⟩
 let a:Nat->Value:=λn=>(w.cell? ⟨r,f+j*b.sz+o+n,none⟩).getD Go.undef
 have E:∀n c,cells[n]?=some c->cellAt w r (f+j*b.sz+o+n) (a n)/\VI w V c (a n):=by
  intro n c hn;obtain⟨u,k,D⟩:=key n c hn;have:a n=u:=by simp[a,k.1]
  rw[this];grind
 exact .vp cells _ a rfl (λ_=>M _ _ e.φ) (λn c hn=>(E n c hn).1) (λn c hn=>(E n c hn).2)
def Tn{x:T}{v}{V}(d:∀b,g.U b->V b)(hx:g.VR h w x v):VI w V (bif zV x then x else .undef) v:=by
 cases a:zV x with
 |true=>exact(jN a hx).av (IR d)
 |false=>exact .undef _
def Zg(hr:HR g h w){ex:t8}{V:Nat->Prop}(s:Reads g h w ex V):∀(d:Nat) (x:T) (v:Value),g.VR h w x v->VI w V (resolve d ex h x) v
 |0,x,v,hx=>Tn s.u hx
 |d+1,x,v,hx=>by
  have M:=Zg hr s d;cases x with
  |own i aj H len cap =>
   simp only[resolve];cases Bg:ex.contains i with
   |true=>exact .undef _
   |false =>
    have E:i∉ex:=by grind
    simp only[wq];cases e:h[i]? with
    |none=>exact .undef _
    |some b =>
     dsimp only;cases S:b.mp with
     |some m=>exact .undef _
     |none =>
     simp only[vW,wQ];cases a:(b.aj==aj&&Nat.ble (H+len) b.n) with
     |false=>exact .undef _
     |true =>
      simp only[wd,vm] at a;have W:=Qr a.2;have CD:∀j,j<b.n->(b.get j).length=b.sz:=λj L=>by
       obtain⟨cb,B,X,e',Y⟩:=hr.dZ i b e S (.inl ab);exact Y.len j L
      refine qnz hr e a.1 hx W (λcb B I=>s.own i b cb B e E I) _ (λj L=>?_) (λj o c u L D c0 O J C=>?_)
      .cases b.flat with
       |true=>grind
       |false=>grind
      .cases A:b.flat with
       |true =>
        rw[A] at D C;simp only[wp] at D;rw[D] at O;obtain rfl:=we O;exact yk (C rfl) J
       |false =>
        rw[A] at D;grind
  |ptr i aj j o =>
   simp only[resolve];cases Bg:ex.contains i with
   |true=>exact .undef _
   |false =>
    have E:i∉ex:=by grind
    simp only[wq];cases e:h[i]? with
    |none=>exact .undef _
    |some b =>
     dsimp only;cases S:b.mp with
     |some m=>exact .undef _
     |none =>
     simp only[vW,wQ];cases a:(b.aj==aj&&Nat.blt j b.n) with
     |false=>exact .undef _
     |true =>
      simp only[wd,vm] at a;have Z:=Qe a.2;refine qrE hr e a.1 hx Z (λcb B I=>s.own i b cb B e E I) _ (λn c hn=>?_);cases A:b.flat with
      |true =>
       rw[A] at hn;simp only[wp,vK] at hn;exact⟨c,hn,λu k C=>yk (C rfl) k⟩
      |false =>
       rw[A] at hn;grind
  |agg l =>
   obtain⟨Q,rfl,r,U,a⟩:=hx.bN;simp only[resolve];refine VI.dh (by simpa using r) U (λi c N=>?_);grind
  |aJ l =>
   obtain⟨Q,rfl,r,a⟩:=hx.ng;simp only[resolve];refine VI.iE (by simpa using r) (λi c N=>?_);grind
  |fn f l =>
   obtain⟨Q,rfl,r,a⟩:=hx.gZ;simp only[resolve];refine VI.ow (by simpa using r) (λi c N=>?_);grind
  |iface t x =>
   simp only[resolve];cases hx with
   |aF _ _ J=>cases J with|iface _ _ u k=>exact .iface _ _ _ (M _ _ (.aF _ _ k))
   |iface _ _ u k=>exact .iface _ _ _ (M _ _ k)
  |_=>exact Tn s.u hx
def NG(hr:HR g h w):Reads g h w [] (λb=>b<w.heap.size) :=
 ⟨λb d=>(hr.u b d).1,λi b cb s d _ a=>by
  cases e:b.mp with
  |none =>
   obtain⟨o,x,r,B,f⟩:=hr.dZ i b d e (.inr (by rw[a];simp));rw[f.φ] at a;obtain⟨rfl,rfl⟩:=xa (we a);exact qP f.heap
  |some m =>
   obtain⟨o,k,j,A⟩:=hr.mp i b m d e;rw[k] at a;obtain⟨rfl,rfl⟩:=xa (we a);exact(hr.own _ _ j).2⟩
def qdU(hr:HR g h w){x:T}{v:Value}(hx:g.VR h w x v):VI w (λb=>b<w.heap.size) (zr h x) v:=by
 unfold zr;cases a:aF x with
 |true=>exact(yf a hx).av (IR (NG hr).u)
 |false=>exact Zg hr (NG hr) 4 x v hx
inductive g4(w:World)(B:Nat)(U:Nat->Prop):T->Value->t8->Prop
 |vi (x:T) (v:Value) (hv:VI w U x v):g4 w B U x v []
 |nw (x:T) (v:Value) (hv:VI w (λb=>U b/\B<=b) x v):g4 w B U (.new x) v []
 |fresh (flat:Bool) (sz n:Nat) (gg:Nat->t7) (len:Nat) (cap:Option Nat) (cb sh cc:Nat) (ad:Addr) (arr:Array Value) (e:TypeId)
  (es:ad.spot=none) (e2:0<cc->ad=⟨cb,sh,none⟩) (e3:len<=cc) (e4:∀m,cap=some m->cc=m/\m<=n) (e5:len<=n) (e7:cap=none->n<=cc) (hh:w.heap[cb]?=some (.cells arr e (0,0)))
  (r1:sh+n*sz<=arr.size) (r2:sh+cc*sz<=arr.size) (hl:∀j,j<n->(gg j).length=sz)
  (hc:∀j o c,j<n->(gg j)[o]?=some c->∃u,arr[sh+j*sz+o]?=some u/\u.oneCell'=true/\VI w U c u) (hf:flat=true->∀j,j<n->∀c,c∈gg j->qK c=true) :
  g4 w B U (.fresh flat sz n gg len cap) (.slice (some ad) len cc) [cb]
 |CE (flat:Bool) (sz:Nat) (gg:Nat->t7) (cap:Option Nat) (e4:∀m,cap=some m->m=0):g4 w B U (.fresh flat sz 0 gg 0 cap) (.slice none 0 0) []
 |x7 (m:bk) (cb:Nat) (hm:gM w cb m):g4 w B U (.iC m) (.map (some cb)) [cb]
inductive nk(Q:T->Value->t8->Prop):t7->List Value->t8->Prop
 |nil:nk Q [] [] []
 |cons (x:T) (v:Value) (X:t8) (l:t7) (vs:List Value) (Y:t8) (hx:Q x v X) (hl:nk Q l vs Y):nk Q (x::l) (v::vs) (X++Y)
def mj(w:World)(B:Nat)(U:Nat->Prop)(x:T)(v:Value)(X:t8):Prop :=
 match x with
 |.agg l=>∃a:Array Value,v = .agg a/\(∀(i:Nat) (u:Value),a[i]?=some u->u.oneCell'=true)/\nk (g4 w B U) l a.toList X
 |x=>g4 w B U x v X
def oV(w:World)(B:Nat)(U:Nat->Prop)(x:T)(v:Value)(X:t8):Prop :=
 match x with
 |.aJ l=>∃a:Array Value,v = .tuple a/\nk (mj w B U) l a.toList X
 |x=>mj w B U x v X
def RV(w:World)(U:Nat->Prop)(r:T)(v:Value)(w':World):Prop :=
 (RowKit.Below w.heap.size w w'/\w'.drawn<=w'.drawn)/\∃(a:Nat->Prop) (X:t8),(∀b,U b->a b)/\(∀b,a b->(U b∨w.heap.size<=b)/\b<w'.heap.size)/\X.Nodup ∧
  (∀b,b∈X->w.heap.size<=b/\b<w'.heap.size/\¬a b)/\oV w' w.heap.size a r v X
def HR.rD(hr:HR g h w){cb sh}{arr:Array Value}{e:TypeId}{b':ap}(I:w.heap[cb]?=some (.cells arr e (0,0)))(r:g.own cb=none)(hU:¬g.U cb)(fO:g.base<=cb)
 (V:sh+b'.n*b'.sz<=arr.size) (X:∀j,j<b'.n->(b'.get j).length=b'.sz)
 (Q:∀j o c,j<b'.n->(b'.get j)[o]?=some c->∃v,arr[sh+j*b'.sz+o]?=some v/\v.oneCell'=true/\g.VR h w c v)
 (M:b'.flat=true->∀j,j<b'.n->∀c,c∈b'.get j->qK c=true) (cG:b'.mp=none:=by first|rfl|assumption) :
 ∃g',g'.φ h.length=some (cb,sh)/\g'.U=g.U/\g'.bs=g.bs/\(∀k,g'.own k=if k=cb then some (.inl h.length) else g.own k)/\HR g' (h++[b']) w/\Zn g h w g' (h++[b']) w:=by
 have Y:cb<w.heap.size:=qP I
 let g':Gh:={ g with φ:=λk=>if k=h.length then some (cb,sh) else g.φ k,own:=λk=>if k=cb then some (.inl h.length) else g.own k }
 have H:Zn g h w g' (h++[b']) w:=by
  refine⟨λk a=>⟨a,rfl⟩,λk x hx=>?_,λk n W=>W⟩;have a:=qC hx;grind
 refine⟨g',by simp[g'],rfl,rfl,λk=>rfl,?_,H⟩;refine⟨λk x hx D=>?_,λk a=>?_,λk o d=>?_,hr.base,λk o d=>?_,λk j d=>?_,λk x m hx D=>?_⟩
 .rcases wu k h.length with a|a
  .rw[wy a] at hx;rcases hr.dS k x hx D with⟨J,L,O,S,f⟩|⟨q1,Z⟩
   rotate_left
   .grind
   have E:J≠cb:=by rintro rfl;rw[f.own] at r;cases r
   refine .inl ⟨J,L,O,S,by simp[g',vB a,f.φ],by simp[g',E,f.own],f.heap,f.room,f.len,λj o c B i=>?_,f.flat⟩;obtain⟨v,A,s,C⟩:=f.cell j o c B i;exact⟨v,A,s,C.av H⟩
  ·have N:k=h.length:=by
    have:=qC hx;grind
   subst N;simp only[wH (wc _),va,wO,wj] at hx;subst hx;refine .inl ⟨cb,sh,arr,e,by simp[g'],by simp[g'],I,V,X,λj o c B i=>?_,M⟩;obtain⟨v,A,s,C⟩:=Q j o c B i;exact⟨v,A,s,C.av H⟩
 .obtain⟨A,s⟩:=hr.u k a;grind
 .by_cases a:k=cb
  .grind
  .simp only[g',a,vn] at d;exact hr.own k o d
 .by_cases a:k=cb
  .grind
  .simp only[g',a,vn] at d;exact hr.cells k o d
 .rw[wC,xM];by_cases a:k=cb
  .grind
  .simp only[g',a,vn] at d;have:=hr.lt k j d;omega
 .rcases wu k h.length with a|a
  .rw[wy a] at hx;refine hr.fh hx D (by simp[g',vB a]) (λc i=>?_) λ_ _ _=>rfl;have E:c≠cb:=by rintro rfl;rw[i] at r;cases r
   simp[g',E,i]
  grind
def HR.nM(hr:HR g h w){b'}(hn:b'.n=0)(N:b'.mp=none) :
 ∃g',g'.φ h.length=none/\(∀k,k≠h.length->g'.φ k=g.φ k)/\g'.U=g.U/\g'.bs=g.bs/\g'.own=g.own/\HR g' (h++[b']) w/\Zn g h w g' (h++[b']) w:=by
 let g':Gh:={ g with φ:=λk=>if k=h.length then none else g.φ k }
 have i:Zn g h w g' (h++[b']) w:=by
  refine⟨λk a=>⟨a,rfl⟩,λk x hx=>?_,λk n M=>M⟩;have a:=qC hx;grind
 have last:∀{k:Nat} {x:ap},h.length<=k->(h++[b'])[k]?=some x->k=h.length/\x=b':=by
  grind
 refine⟨g',by simp[g'],λk a=>rx,rfl,rfl,rfl,?_,i⟩;refine⟨λk x hx f=>?_,hr.u,hr.own,hr.base,hr.cells,λk j B=>by rw[wC];exact vg (hr.lt k j B) (xR _ _),λk x m hx f=>?_⟩
 .rcases wu k h.length with a|a
  .rw[wy a] at hx;rcases hr.dS k x hx f with⟨J,A,I,L,d⟩|⟨s,r⟩
   .refine .inl ⟨J,A,I,L,by simp[g',vB a,d.φ],d.own,d.heap,d.room,d.len,λj o c C e=>?_,d.flat⟩;obtain⟨v,H,E,D⟩:=d.cell j o c C e;exact⟨v,H,E,D.av i⟩
   .exact .inr ⟨by simp[g',s],r⟩
  grind
 .rcases wu k h.length with a|a
  .rw[wy a] at hx;exact hr.fh hx f (by simp[g',vB a]) (λc e=>e) λ_ _ _=>rfl
  grind
def HR.x8(hr:HR g h w){cb aj}{f:bk}(hm:gM w cb f)(s:g.own cb=none)(W:¬g.U cb)(X:g.base<=cb) :
 ∃g',g'.φ h.length=some (cb,0)/\g'.U=g.U/\g'.bs=g.bs/\(∀k,g'.own k=if k=cb then some (.inl h.length) else g.own k)/\HR g' (h++[yX aj f]) w/\Zn g h w g' (h++[yX aj f]) w:=by
 have Q:cb<w.heap.size:=by obtain⟨es,c,q⟩:=hm.heap;grind
 let g':Gh:={ g with φ:=λk=>if k=h.length then some (cb,0) else g.φ k,own:=λk=>if k=cb then some (.inl h.length) else g.own k }
 have E:Zn g h w g' (h++[yX aj f]) w:=by
  refine⟨λk a=>⟨a,rfl⟩,λk x hx=>?_,λk n N=>N⟩;have a:=qC hx;grind
 refine⟨g',by simp[g'],rfl,rfl,λk=>rfl,?_,E⟩;refine⟨λk x hx i=>?_,λk a=>?_,λk o d=>?_,hr.base,λk o d=>?_,λk j d=>?_,λk x m hx i=>?_⟩
 .rcases wu k h.length with a|a
  .rw[wy a] at hx;rcases hr.dS k x hx i with⟨D,H,L,M,e⟩|⟨V,S⟩
   rotate_left
   .grind
   have O:D≠cb:=by rintro rfl;rw[e.own] at s;cases s
   refine .inl ⟨D,H,L,M,by simp[g',vB a,e.φ],by simp[g',O,e.own],e.heap,e.room,e.len,λj o c I A=>?_,e.flat⟩;obtain⟨v,C,B,J⟩:=e.cell j o c I A;exact⟨v,C,B,J.av E⟩
  ·have r:k=h.length:=by
    have:=qC hx;grind
   subst r;simp only[wH (wc _),va,wO,wj] at hx;subst hx;cases i
 .obtain⟨C,B⟩:=hr.u k a;grind
 .by_cases a:k=cb
  .grind
  .simp only[g',a,vn] at d;exact hr.own k o d
 .by_cases a:k=cb
  .subst a;simp only[g',vZ,wj] at d;subst d;obtain⟨es,c,q⟩:=hm.heap;grind
  .simp only[g',a,vn] at d;exact hr.cells k o d
 .rw[wC,xM];by_cases a:k=cb
  .grind
  .simp only[g',a,vn] at d;have:=hr.lt k j d;omega
 .rcases wu k h.length with a|a
  .rw[wy a] at hx;refine hr.fh hx i (by simp[g',vB a]) (λc A=>?_) λ_ _ _=>rfl;grind
  ·have r:k=h.length:=by
    have:=qC hx;simp at this;omega
   subst r;simp only[wH (wc _),va,wO,wj] at hx;subst hx;obtain rfl:f=m:=we i;grind
end
section
variable {P:Program} {R:Type} {g:Gh} {h:qa} {w:World}
structure m7(g0:Gh)(w0:World)(g:Gh)(h:qa)(w:World)(g':Gh)(h':qa)(X:t8):Prop where
 hr:HR g' h' w
 av:Zn g h w g' h' w
 fr:mF g0 w0 g' w
 u:g'.U=g.U
 own:∀b,b∉X->g'.own b=g.own b
def m7.refl{g0}{w0}(hr:HR g h w)(a:mF g0 w0 g w):m7 g0 w0 g h w g h []:=⟨hr,.refl _ _ _ _,a,rfl,λ_ _=>rfl⟩
def rF(g0:Gh)(w0:World)(g:Gh)(b:Nat):Prop:=g.own b=none/\¬g.U b/\w0.heap.size<=b/\g0.base<=w0.heap.size
def To{x:T}{v}{U d}(a:VI w U x v) :
 VI w d (EC x) v:=by
 cases a<;>first|exact .bool _|exact .int _ _|exact .str _ _ ‹_›|exact .lz|exact .ae|exact .eO|exact .mB|exact .iV|exact .undef _
def qlp{x:T}{v}{U u:Nat->Prop}(d:VI w U x v):VI w u (IA x) v:=by
 have s:=d;cases d with
 |fg sz g cap r=>exact .fg _ _ _ (.inl rfl)
 |view sz n g cap a c e f C hn B A r d=>exact .view 0 n (λ_=>[]) none a c e f (λm k=>by cases k) hn (λ_ h=>absurd h (Nat.lt_irrefl 0)) (λ_ _=>rfl) (λj o x _ i=>rx) (λj o x _ i=>rx)
 |_=>exact To s
def Tp{g0:Gh}{w0:World}{safe:Bool}{B}{U'}{x:T}{v}{X:t8}(hx:g4 w B U' x v X)(hr:HR g h w)(a:mF g0 w0 g w)(Y:∀b,b∈X->rF g0 w0 g b)
 (fm:safe=true->∀b,U' b->g.U b) (gr:∀b,U' b->B<=b->g.U b):∃g',m7 g0 w0 g h w g' (Z4 safe h x).2 X/\g'.VR (Z4 safe h x).2 w (Z4 safe h x).1 v:=by
 cases hx with
 |vi x v A =>
  have e:(Z4 safe h x).2=h:=by cases A<;>rfl
  rw[e];refine⟨g,.refl hr a,.aF _ _ ?_⟩;cases safe with
  |true =>
   have Z:(Z4 true h x).1=x:=by cases A<;>rfl
   rw[Z];exact A.av (λb d=>⟨fm rfl b d,rfl⟩)
  |false =>
   have Z:(Z4 false h x).1=EC x:=by cases A<;>rfl
   rw[Z];exact To A
 |nw x v A =>
  refine⟨g,.refl hr a,.aF _ _ ?_⟩;exact A.av (λb d=>⟨gr b d.1 d.2,rfl⟩)
 |fresh flat sz n E len cap cb sh cc ad M e es e2 e3 L e5 e7 Q r1 r2 hl S hf =>
  simp only[Z4];cases NH:(safe || flat) with
  |false =>
   simp only[wq];obtain⟨J,I,f3,f4⟩:=Y cb aq;have H:g.base<=cb:=by rw[a.base];omega
   obtain⟨g',s,i,r,f,k,q6⟩:=hr.rD (b':=⟨0,sz,n,λj=>(E j).map IA,false,false,none⟩) Q J I H r1 (λj D=>by rw[wW];grind) (λj o c D O=>by
    obtain⟨c0,ni,rfl⟩:=QE O;obtain⟨u,W,V,N⟩:=S j o c0 D ni;exact⟨u,W,V,.aF _ _ (qlp N)⟩) (λh=>by cases h)
   refine⟨g',⟨k,q6,?_,i,λb d=>by rw[f,wh rx]⟩,?_⟩
   .refine⟨a.size,λb d=>?_,a.os,a.tape,a.output,a.same,r.trans a.bs,λb d=>a.u b (i▸d),λb d t=>?_⟩
    .rw[f,wh ab];exact a.own b d
    .rw[f];split
     .simp
     .exact a.new b d t
   .exact .own _ _ _ _ _ _ _ (YC h _) (wc _) rfl λ_=>.inl ⟨cb,sh,cc,ad,s,rfl,es,λhp=>rx,e3,λm C=>⟨(L m C).1,rx⟩,rx,⟨M,e,Q,rx⟩,λS=>rx⟩
  |true =>
   simp only[wp];obtain⟨J,I,f3,f4⟩:=Y cb aq;have H:g.base<=cb:=by rw[a.base];omega
   obtain⟨g',s,i,r,f,k,q6⟩:=hr.rD (b':=⟨0,sz,n,E,flat,false,none⟩) Q J I H r1 hl (λj o c D O=>by
    obtain⟨u,W,V,N⟩:=S j o c D O;refine⟨u,W,V,.aF _ _ ?_⟩;cases cE:flat with
    |true=>exact NF (hf cE j D c (wx O)) N
    |false =>
     rw[cE] at NH;exact N.av (λb d=>⟨fm rx b d,rfl⟩)) hf
   refine⟨g',⟨k,q6,?_,i,λb d=>by rw[f,wh rx]⟩,?_⟩
   .refine⟨a.size,λb d=>?_,a.os,a.tape,a.output,a.same,r.trans a.bs,λb d=>a.u b (i▸d),λb d t=>?_⟩
    .rw[f,wh ab];exact a.own b d
    .rw[f];split
     .simp
     .exact a.new b d t
   .exact .own _ _ _ _ _ _ _ (YC h _) (wc _) rfl λ_=>.inl ⟨cb,sh,cc,ad,s,rfl,es,λhp=>rx,e3,λm C=>⟨(L m C).1,rx⟩,rx,⟨M,e,Q,rx⟩,λS=>rx⟩
 |CE flat sz E cap L =>
  simp only[Z4];cases NH:(safe || flat) with
  |false =>
   simp only[wq];obtain⟨g',s,q0,i,r,f,k,q6⟩:=hr.nM (b':=⟨0,sz,0,λj=>(E j).map IA,false,false,none⟩) rfl rfl;refine⟨g',⟨k,q6,?_,i,λb d=>by rw[f]⟩,?_⟩
   .exact⟨a.size,λb d=>by rw[f];exact a.own b d,a.os,a.tape,a.output,a.same,r.trans a.bs,λb d=>a.u b (i▸d),λb d t=>by rw[f];exact a.new b d t⟩
   .exact .own _ _ _ _ _ _ _ (YC h _) (wc _) rfl λ_=>.inr ⟨s,rfl,rfl,rfl,L,rfl⟩
  |true =>
   simp only[wp];obtain⟨g',s,q0,i,r,f,k,q6⟩:=hr.nM (b':=⟨0,sz,0,E,flat,false,none⟩) rfl rfl;refine⟨g',⟨k,q6,?_,i,λb d=>by rw[f]⟩,?_⟩
   .exact⟨a.size,λb d=>by rw[f];exact a.own b d,a.os,a.tape,a.output,a.same,r.trans a.bs,λb d=>a.u b (i▸d),λb d t=>by rw[f];exact a.new b d t⟩
   .exact .own _ _ _ _ _ _ _ (YC h _) (wc _) rfl λ_=>.inr ⟨s,rfl,rfl,rfl,L,rfl⟩
 |x7 m cb C =>
  simp only[Z4];obtain⟨J,I,f3,f4⟩:=Y cb aq;have H:g.base<=cb:=by rw[a.base];omega
  obtain⟨g',s,i,r,f,k,q6⟩:=hr.x8 (aj:=0) C J I H;refine⟨g',⟨k,q6,?_,i,λb d=>by rw[f,wh rx]⟩,?_⟩
  .refine⟨a.size,λb d=>?_,a.os,a.tape,a.output,a.same,r.trans a.bs,λb d=>a.u b (i▸d),λb d t=>?_⟩
   .rw[f,wh ab];exact a.own b d
   .rw[f];split
    .simp
    .exact a.new b d t
  .exact .mp _ _ _ _ (YC h _) (wc _) rfl λ_=>⟨cb,s,rfl⟩
def m7.trans{g0}{w0}{e g2}{h1 h2}{X Y}(a:m7 g0 w0 g h w e h1 X)(b:m7 g0 w0 e h1 w g2 h2 Y):m7 g0 w0 g h w g2 h2 (X++Y) :=
 ⟨b.hr,a.av.trans b.av,b.fr,b.u.trans a.u,λk d=>by
  simp only[wS,not_or] at d;rw[b.own k d.2,a.own k d.1]⟩
def rF.after{g0:Gh}{w0:World}{g':Gh}{h'}{X}{b:Nat}(a:rF g0 w0 g b)(t:m7 g0 w0 g h w g' h' X)(d:b∉X):rF g0 w0 g' b :=
 ⟨by rw[t.own b d];exact a.1,by rw[t.u];exact a.2.1,a.2.2⟩
def qgE{g0:Gh}{w0:World}{safe:Bool}{B:Nat}{f:Nat->Prop}:∀{l:t7} {vs:List Value} {X:t8},nk (g4 w B f) l vs X->∀{g:Gh} {h:qa},HR g h w->mF g0 w0 g w->(∀b,b∈X->rF g0 w0 g b)->X.Nodup →
 (safe=true->∀b,f b->g.U b)->(∀b,f b->B<=b->g.U b)->∃g',m7 g0 w0 g h w g' (Yw safe h l).2 X/\(Yw safe h l).1.length=vs.length/\∀(i:Nat) (c:T),(Yw safe h l).1[i]?=some c->∃u,vs[i]?=some u/\g'.VR (Yw safe h l).2 w c u:=by
 intro l vs X k
 induction k with
 |nil =>
  intro g h hr e _ _ _ _;exact⟨g,.refl hr e,rfl,λi c d=>by simp[Yw] at d⟩
 |cons x v X l vs Y hx k C =>
  intro g h hr e o D J E;obtain⟨I,t1,s⟩:=Tp hx hr e (λb a=>o b (by simp[a])) J E;have j:=xq.1 D;obtain⟨H,t2,A,r⟩:=C (g:=I) (h:=(Z4 safe h x).2) t1.hr t1.fr (λb a=>(o b (by simp[a])).after t1 (λL=>j.2.2 b L b a rfl)) j.2.1 (λM b a=>by rw[t1.u];grind) (λb a hB=>by rw[t1.u];grind);refine⟨H,t1.trans t2,by simp[Yw,A],λi c d=>?_⟩;cases i with
  |zero =>
   simp only[Yw,wO,wj] at d;subst d;exact⟨v,rfl,s.av t2.av⟩
  |succ i=>exact r i c (by simpa [Yw] using d)
def Tq{g0:Gh}{w0:World}{safe:Bool}{B}{a}{x:T}{v:Value}{X:t8}(hx:mj w B a x v X)(hr:HR g h w)(j:mF g0 w0 g w)(f:∀b,b∈X->rF g0 w0 g b)(k:X.Nodup)
 (e:safe=true->∀b,a b->g.U b) (d:∀b,a b->B<=b->g.U b):∃g',m7 g0 w0 g h w g' (yO safe h x).2 X/\g'.VR (yO safe h x).2 w (yO safe h x).1 v:=by
 cases x with
 |agg l =>
  obtain⟨E,rfl,A,o⟩:=hx;obtain⟨g',t,H,s⟩:=qgE o hr j f k e d;refine⟨g',t,VR.dh (by omega) A (λi c r=>?_)⟩;obtain⟨u,D,C⟩:=s i c r;exact⟨u,rx,C⟩
 |_=>exact Tp hx hr j f e d
def qfq{g0:Gh}{w0:World}{safe:Bool}{B:Nat}{j:Nat->Prop}:∀{l:t7} {vs:List Value} {X:t8},nk (mj w B j) l vs X->∀{g:Gh} {h:qa},HR g h w->mF g0 w0 g w->(∀b,b∈X->rF g0 w0 g b)->X.Nodup →
 (safe=true->∀b,j b->g.U b)->(∀b,j b->B<=b->g.U b)->∃g',m7 g0 w0 g h w g' (ZD safe h l).2 X/\(ZD safe h l).1.length=vs.length/\∀(i:Nat) (c:T),(ZD safe h l).1[i]?=some c->∃u,vs[i]?=some u/\g'.VR (ZD safe h l).2 w c u:=by
 intro l vs X k
 induction k with
 |nil =>
  intro g h hr f _ _ _ _;exact⟨g,.refl hr f,rfl,λi c d=>by simp[ZD] at d⟩
 |cons x v X l vs Y hx k C =>
  intro g h hr f o D J E;have e:=xq.1 D;obtain⟨I,t1,s⟩:=Tq hx hr f (λb a=>o b (by simp[a])) e.1 J E;obtain⟨H,t2,A,r⟩:=C (g:=I) (h:=(yO safe h x).2) t1.hr t1.fr (λb a=>(o b (by simp[a])).after t1 (λL=>e.2.2 b L b a rfl)) e.2.1 (λM b a=>by rw[t1.u];grind) (λb a hB=>by rw[t1.u];grind);refine⟨H,t1.trans t2,by simp[ZD,A],λi c d=>?_⟩;cases i with
  |zero =>
   simp only[ZD,wO,wj] at d;subst d;exact⟨v,rfl,s.av t2.av⟩
  |succ i=>exact r i c (by simpa [ZD] using d)
def qgF{g0:Gh}{w0:World}{safe:Bool}{B}{a}{x:T}{v}{X:t8}(hx:oV w B a x v X)(hr:HR g h w)(k:mF g0 w0 g w)(j:∀b,b∈X->rF g0 w0 g b)(d:X.Nodup)
 (f:safe=true->∀b,a b->g.U b) (e:∀b,a b->B<=b->g.U b):∃g',m7 g0 w0 g h w g' (Zw safe h x).2 X/\g'.VR (Zw safe h x).2 w (Zw safe h x).1 v:=by
 cases x with
 |aJ l =>
  obtain⟨D,rfl,o⟩:=hx;obtain⟨g',t,E,s⟩:=qfq o hr k j d f e;refine⟨g',t,VR.iE (by omega) (λi c r=>?_)⟩;obtain⟨u,C,A⟩:=s i c r;exact⟨u,rx,A⟩
 |_=>exact Tq hx hr k j d f e
def Ts{safe:Bool}{U:Nat->Prop}{r:T}{v:Value}{w'}(hr:HR g h w)(DJ:RV w U r v w')(S:safe=true->U=g.U):ij g h w (Zw safe h r).1 (Zw safe h r).2 v w':=by
 obtain⟨⟨x,L⟩,W,X,h1,h2,h3,h4,h5⟩:=DJ
 let f:Gh:=if safe=true then { g with U:=W } else { g with U:=λb=>g.U b∨(W b/\w.heap.size<=b) }
 have N:∀b,g.U b->f.U b:=by
  intro b a;by_cases s:safe=true
  .simp only[f,s,vZ];exact h1 b (by rw[S s];exact a)
  grind
 have O:∀b,f.U b->(g.U b∨w.heap.size<=b)/\b<w'.heap.size:=by
  intro b a;by_cases s:safe=true
  .simp only[f,s,vZ] at a;have:=h2 b a;rw[S s] at this;omega
  .simp only[f,s] at a;rcases a with a|a
   .exact⟨.inl a,by have:=(hr.u b a).1;have:=x.size;omega⟩
   grind
 have A:f.own=g.own:=by by_cases s:safe=true<;>simp[f,s]
 have Q:f.φ=g.φ:=by by_cases s:safe=true<;>simp[f,s]
 have Y:f.bs=g.bs:=by by_cases s:safe=true<;>simp[f,s,Gh.bs]
 have Aa:f.base=g.base:=vA Prod.fst Y;have V:Zn g h w f h w':=by
  refine⟨λb a=>⟨N b a,x.block b (hr.u b a).1⟩,λi b D=>⟨b,D,wc _,λ_=>⟨rfl,rfl,by rw[Q]⟩⟩,λk n cz=>?_⟩;obtain⟨C,e,E,J⟩:=cz;exact⟨C,e,by rw[x.block k (qP E)];exact E,J⟩
 have Tt:HR f h w':=by
  refine⟨λi b D cG=>?_,λb a=>⟨(O b a).2,?_⟩,λb o d=>?_,by rw[Aa];exact wM hr.base x.size,λb o d=>?_,λb j d=>hr.lt b j (by rw[A] at d;exact d),λi b m D hm=>hr.fh D hm (by rw[Q]) (λc H=>by rw[A];exact H) λc H _=>x.block c H⟩
  .rcases hr.dS i b D cG with⟨cb,sh,C,e,B⟩|⟨E,J⟩
   rotate_left
   .grind
   exact .inl ⟨cb,sh,C,e,by rw[Q];exact B.φ,by rw[A];exact B.own,by rw[x.block cb (qP B.heap)];exact B.heap,B.room,B.len,λj o c hj H=>by
    obtain⟨u,u1,u2,u3⟩:=B.cell j o c hj H;exact⟨u,u1,u2,u3.av V⟩,B.flat⟩
  .rw[A];rcases (O b a).1 with q|q
   .exact(hr.u b q).2
   .cases d:g.own b with
    |none=>rfl
    |some o=>have:=(hr.own b o d).2;omega
  .rw[A] at d;have:=hr.own b o d;rw[Aa];exact⟨this.1,by have:=x.size;omega⟩
  .rw[A] at d;exact hr.fK d (x.block b (hr.own b o d).2)
 have NK:mF g w f w':=by
  refine⟨x.size,λb _=>by rw[A],x.os,x.tape,⟨x.output,L⟩,λb Z _=>x.block b Z,Y,λb a=>(O b a).1,λb Z t d=>?_⟩;rw[A] at d;have:=(hr.own b _ d).2;omega
 obtain⟨g',t,mG⟩:=qgF (g0:=g) (w0:=w) (safe:=safe) h5 Tt NK (λb M=>by
  obtain⟨E,J,q3⟩:=h4 b M;refine⟨?_,λI=>?_,E,hr.base⟩
  .rw[A];cases d:g.own b with
   |none=>rfl
   |some o=>have:=(hr.own b o d).2;omega
  .by_cases s:safe=true
   .grind
   .simp only[f,s] at I;rcases I with I|I
    .have:=(hr.u b I).1;omega
    grind) h3 (λs b a=>rx) (λb a hB=>by
  grind)
 exact⟨g',t.hr,mG,V.trans t.av,t.fr⟩
end
end Go.Ab
