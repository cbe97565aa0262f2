/-
  Same: one coordinate.
-/
import Derived.Test.YtepffknhkpppcaaDoorCellB
namespace Go.Proofs.YtepffknhkpppcaaDoor
open Go.RowKit

def sameC (a b : Cel) : Bool := (a.row.toList == b.row.toList) && ((a.col.toList == b.col.toList) && (a.ts == b.ts))

end Go.Proofs.YtepffknhkpppcaaDoor
