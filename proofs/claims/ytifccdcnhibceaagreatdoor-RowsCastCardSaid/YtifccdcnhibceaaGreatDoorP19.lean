/- A part of the proof: nothing is assumed. -/
import Derived.Test.YtifccdcnhibceaaGreatDoorP17
import Derived.Test.YtifccdcnhibceaaGreatDoorP18
set_option linter.all false
namespace Go.Ab
open IntKind(i64 u8)
open Int(ofNat)
open Go.Proofs
def qoT:List Nat:=[115,83,36,64,37,38,39,40,85,48,62,98,52,105,123,143,149,150,153,154,138,139,140,141,109,125,74,127,68,122,90,97,53]
def qoU:List Nat:=[13,21,51,35]
def qmn(s:St):List Nat:=match s.at 4,s.at 5,s.at 7,s.at 9 with
 |.ptr b4 _ _ _,.ptr b5 _ _ _,.ptr b7 _ _ _,.ptr b9 _ _ _=>match s.h[b9]? with
  |some x=>match x.get 0 with
   |.ptr sb _ _ _::_=>match s.h[sb]? with
    |some y=>match y.get 0 with
     |[_,_,_,.own tb _ _ _ _,_]=>[b4,b5,b7,b9,sb,tb]
     |_=>[]
    |none=>[]
   |_=>[]
  |none=>[]
 |_,_,_,_=>[]
def Z16:FuncId->Option Plan:=fun f=>bif f==51 then some ⟨4,[4,5,7,9],1,[4,5,7,9],qmn,[68]⟩ else none
noncomputable def qeu:Orc:=ka P16 G16 A16 qdo Z16 (fun f=>!(qoT.contains f)) (fun f=>qoU.contains f) (fun _=>false) 40 qp 10
theorem YX:OrcOk P16 G16 qeu:=qga qu qX y9 40 qa 10
def qfz(l:List (List T)):Blk:=⟨0,(l.headD []).length,l.length,fun j=>l.getD j [],false,Nat.ble l.length 8,none⟩
def stK(y:Int):List T:=[uI 1,uI y,iI 0,iI 0,.bool false]
def qmo:T:=.view 5 2 (fun j=>bif j==0 then stK 1 else stK 1) none
def idv(y n:Int):List T:=[uI y,iI n]
def lst(l:List (List T)):T:=.view (l.headD []).length l.length (fun j=>l.getD j []) none
def hx:qk:=[qfz [[qmo,.own 3 0 0 2 (some 2),.own 1 0 0 6 (some 6),.own 2 0 0 6 (some 6),uI 0]],
 qfz ([.bool true,iI 179,iI 2,.bool false,.nils]::List.replicate 5 [.bool false,iI 0,iI 0,.bool false,.nils]),
 qfz ([.own 6 0 0 2 (some 2)]::List.replicate 5 [.nils]),
 qfz [[.own 4 0 0 1 (some 1)],[.own 5 0 0 1 (some 1)]],
 qfz [[uI 0,lst [idv 1 0]]],qfz [[uI 0,lst [idv 1 1]]],
 qfz [[uI 0,.bool true,.nils,.nils],[uI 0,.bool false,.nils,.nils]]]
end Go.Ab

