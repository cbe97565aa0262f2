/-
  The reader of bytes: numbers and flags.
-/
import Derived.Test.YtepffknhkpppcaaDoorCellRead
namespace Go.Proofs.YtepffknhkpppcaaDoor
open Go.RowKit

def Rd.flag (r : Rd) : Bool × Rd := (atB (r.take 1).1 0 == 1, if (r.take 1).2.e = 0 ∧ 1 < (atB (r.take 1).1 0).toNat then ⟨(r.take 1).2.rest, 1⟩ else (r.take 1).2)

end Go.Proofs.YtepffknhkpppcaaDoor
