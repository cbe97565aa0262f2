/-
 Cells as data: which may be, how they stand.
-/
import Derived.Test.YtigajcabgaddgaaGreatDoorWMem
import Derived.Lib.Bytealg
set_option maxRecDepth 100000
set_option maxHeartbeats 8000000
namespace Go.Proofs.YtigajcabgaddgaaGreatDoor
structure Cel where
 row : ByteArray
 col : ByteArray
 ts : Nat
 seq : Nat
 del : Bool
 val : ByteArray
def cellV (c : Cel) : Value := .agg #[.string c.row, .string c.col, .int .u64 c.ts, .int .u64 c.seq, .bool c.del, .string c.val]
structure CelOK (c : Cel) : Prop where
 ts : c.ts < 18446744073709551616
 seq : c.seq < 18446744073709551616
 row : c.row.size ≤ 9223372036854775807
 col : c.col.size ≤ 9223372036854775807
 val : c.val.size ≤ 9223372036854775807
end Go.Proofs.YtigajcabgaddgaaGreatDoor
