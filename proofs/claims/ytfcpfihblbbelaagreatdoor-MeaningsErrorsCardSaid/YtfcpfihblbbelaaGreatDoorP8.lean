/- A part of the proof: nothing is assumed. -/
import Derived.Test.YtfcpfihblbbelaaGreatDoorP6
import Derived.Test.YtfcpfihblbbelaaGreatDoorP7
set_option linter.all false
namespace Go.Ab
open IntKind(i64 u8)
open Int(ofNat)
open Go.Proofs
def qig:List Nat:=[150,114,71,104,72,73,74,75,118,80,83,120,139,92,168,185,188,189,190,191,174,175,176,177,97,170,112,172,109,167,145,113,116,87,125,151,48,52,55]
def qih:List Nat:=[40,42,79,36,17,12,78]
def qii(s:St):List Nat:=match s.at 4,s.at 5,s.at 7,s.at 9 with
 |.ptr b4 _ _ _,.ptr b5 _ _ _,.ptr b7 _ _ _,.ptr b9 _ _ _=>match s.h[b9]? with
  |some x=>match x.get 0 with
   |.ptr sb _ _ _::_=>match s.h[sb]? with
    |some y=>match y.get 0 with
     |[_,_,_,.own tb _ _ _ _,_]=>[b4,b5,b7,b9,sb,tb]
     |_=>[]
    |none=>[]
   |_=>[]
  |none=>[]
 |_,_,_,_=>[]
def Z17:FuncId->Option Plan:=fun f=>bif f==79 then some ⟨4,[4,5,7,9],1,[4,5,7,9],qii,[109]⟩ else none
noncomputable def KQ:Orc:=YE P17 G17 A17 jK Z17 (fun f=>!(qig.contains f)) (fun f=>qih.contains f) (fun _=>false) 40 qy 10
theorem zh:OrcOk P17 G17 KQ:=qcV qG Qm zg 40 qh 10
def qeK(l:List (List T)):Blk:=⟨0,(l.headD []).length,l.length,fun j=>l.getD j [],false,Nat.ble l.length 8,none⟩
def stK(y:Int):List T:=[uI 1,uI y,iI 0,iI 0,.bool false]
def qij:T:=.view 5 2 (fun j=>bif j==0 then stK 1 else stK 1) none
def idv(y n:Int):List T:=[uI y,iI n]
def lst(l:List (List T)):T:=.view (l.headD []).length l.length (fun j=>l.getD j []) none
def hx:qa:=[qeK [[qij,.own 3 0 0 2 (some 2),.own 1 0 0 6 (some 6),.own 2 0 0 6 (some 6),uI 0]],
 qeK ([.bool true,iI 179,iI 2,.bool false,.nils]::List.replicate 5 [.bool false,iI 0,iI 0,.bool false,.nils]),
 qeK ([.own 6 0 0 2 (some 2)]::List.replicate 5 [.nils]),
 qeK [[.own 4 0 0 1 (some 1)],[.own 5 0 0 1 (some 1)]],
 qeK [[uI 0,lst [idv 1 0]]],qeK [[uI 0,lst [idv 1 1]]],
 qeK [[uI 0,.bool true,.nils,.nils],[uI 0,.bool false,.nils,.nils]]]
end Go.Ab

