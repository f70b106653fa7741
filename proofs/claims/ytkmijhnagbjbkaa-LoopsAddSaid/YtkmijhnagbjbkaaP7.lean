/- A part of the proof: nothing is assumed. -/
import Derived.Test.YtkmijhnagbjbkaaP5
import Derived.Test.YtkmijhnagbjbkaaP6
set_option linter.all false
namespace Go.Ab
open Go.Proofs
def tmpI (a:Idd):Blk:=⟨0,2,1,fun j=>[[T.int .u8 a.y,T.int .i64 a.n]].getD j [],true,true,none⟩
open Go.Proofs
section
variable (LL:List T->Nat) (GG:List T->Nat->List T) (t:Tbl) (a b:Idd) (x:List T->Heap->Ex->List T->Heap->Prop) (p q:List T->T->Prop) (s u:List T->Heap->T->Heap->Prop) (g g1 g2:Nat->Idd) (n k v:Nat)
end
open Go.Proofs
def lenOf:List T->Nat | [.view _ n _ _]=>n | _=>0
open Go.Proofs
end Go.Ab

