/- A part of the proof: nothing is assumed. -/
import Derived.Test.YtifccdcnhibceaaGreatDoorP9
import Derived.Test.YtifccdcnhibceaaGreatDoorP10
set_option linter.all false
namespace Go.Ab
open Go.Proofs
def rf16:List Nat:=[115,83,36,64,37,38,39,40,85,48,62,98,52,105,123,143,149,150,153,154,138,139,140,141,109,125,74,127,68,122,90,97,53]
def fz16:List Nat:=[13,21,51,35]
def sig51 (s:St):List Nat:=match s.at 4,s.at 5,s.at 7,s.at 9 with
 | .ptr b4 _ _ _,.ptr b5 _ _ _,.ptr b7 _ _ _,.ptr b9 _ _ _=>match s.h[b9]? with
  | some x=>match x.get 0 with
   | .ptr sb _ _ _ :: _=>match s.h[sb]? with
    | some y=>match y.get 0 with
     | [_,_,_,.own tb _ _ _ _,_]=>[b4,b5,b7,b9,sb,tb]
     | _=>[]
    | none=>[]
   | _=>[]
  | none=>[]
 | _,_,_,_=>[]
def Z16:FuncId->Option Plan:=fun f=>bif f==51 then some ⟨4,[4,5,7,9],1,[4,5,7,9],sig51,[68]⟩ else none
noncomputable def K16i:Orc:=inlZ P16 G16 A16 sq16 Z16 (fun f=>!(rf16.contains f)) (fun f=>fz16.contains f) (fun _=>false) 40 noneO 10
theorem K16i_ok:OrcOk P16 G16 K16i:=inlZ_ok hm16 hn16 sq16_ok 40 none_ok 10
def tBlk (l:List (List T)):Blk:=⟨0,(l.headD []).length,l.length,fun j=>l.getD j [],false,Nat.ble l.length 8,none⟩
def stK (y:Int):List T:=[.int .u8 1,.int .u8 y,.int .i64 0,.int .i64 0,.bool false]
def rowKK:T:=.view 5 2 (fun j=>bif j==0 then stK 1 else stK 1) none
def idv (y n:Int):List T:=[.int .u8 y,.int .i64 n]
def lst (l:List (List T)):T:=.view (l.headD []).length l.length (fun j=>l.getD j []) none
def hx:Heap:=[tBlk [[rowKK,.own 3 0 0 2 (some 2),.own 1 0 0 6 (some 6),.own 2 0 0 6 (some 6),.int .u8 0]],
 tBlk ([.bool true,.int .i64 179,.int .i64 2,.bool false,.nils] :: List.replicate 5 [.bool false,.int .i64 0,.int .i64 0,.bool false,.nils]),
 tBlk ([.own 6 0 0 2 (some 2)] :: List.replicate 5 [.nils]),
 tBlk [[.own 4 0 0 1 (some 1)],[.own 5 0 0 1 (some 1)]],
 tBlk [[.int .u8 0,lst [idv 1 0]]],tBlk [[.int .u8 0,lst [idv 1 1]]],
 tBlk [[.int .u8 0,.bool true,.nils,.nils],[.int .u8 0,.bool false,.nils,.nils]]]
open Go.Proofs
end Go.Ab

