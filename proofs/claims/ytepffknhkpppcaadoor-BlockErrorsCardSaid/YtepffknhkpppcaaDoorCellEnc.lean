/-
  Encode.
-/
import Derived.Test.YtepffknhkpppcaaDoorCellKey
import Derived.Test.YtepffknhkpppcaaDoorBytesStep
namespace Go.Proofs.YtepffknhkpppcaaDoor
open Go.RowKit

def delN (d : Bool) : UInt8 := if d then 1 else 0
def encL (c : Cel) : List UInt8 :=
  UInt8.ofNat c.row.size :: c.row.data.toList ++ (UInt8.ofNat c.col.size :: c.col.data.toList) ++ le8 c.ts ++ le8 c.seq ++ [delN c.del, UInt8.ofNat c.val.size] ++ c.val.data.toList
def encB (c : Cel) : ByteArray := if mayB c = true then ⟨(encL c).toArray⟩ else ⟨#[]⟩
def encE (c : Cel) : Int := if mayB c = true then 0 else 1

end Go.Proofs.YtepffknhkpppcaaDoor
