/-
 Cells as data: which may be, how they stand.
-/
import Derived.Test.YtkjmgbifoaoefaaGreatDoorQMem
import Derived.Lib.Bytealg
set_option maxRecDepth 100000
set_option maxHeartbeats 8000000
namespace Go.Proofs.YtkjmgbifoaoefaaGreatDoor
structure Cel where
 row : ByteArray
 col : ByteArray
 ts : Nat
 seq : Nat
 del : Bool
 val : ByteArray
def cellV (c : Cel) : Value := .agg #[.string c.row, .string c.col, .int .u64 c.ts, .int .u64 c.seq, .bool c.del, .string c.val]
def zeroC : Cel := ⟨⟨#[]⟩, ⟨#[]⟩, 0, 0, false, ⟨#[]⟩⟩
structure CelOK (c : Cel) : Prop where
 ts : c.ts < 18446744073709551616
 seq : c.seq < 18446744073709551616
 row : c.row.size ≤ 9223372036854775807
 col : c.col.size ≤ 9223372036854775807
 val : c.val.size ≤ 9223372036854775807
def nmB (s : ByteArray) : Bool := decide (1 ≤ s.size ∧ s.size ≤ 40)
def mayB (c : Cel) : Bool := nmB c.row && nmB c.col && decide (c.val.size ≤ 100) && (!c.del || decide (c.val.size = 0))
theorem nmB_zero {s : ByteArray} (h : s.size = 0) : nmB s = false := by unfold nmB; exact decide_eq_false (by omega)
theorem nmB_fit {s : ByteArray} (h : ¬ s.size = 0) (h2 : s.size ≤ 40) : nmB s = true := by unfold nmB; exact decide_eq_true (by omega)
theorem nmB_great {s : ByteArray} (h2 : ¬ s.size ≤ 40) : nmB s = false := by unfold nmB; exact decide_eq_false (by omega)
def cmpN (a b : Nat) : Int := if a < b then -1 else if b < a then 1 else 0
def cmpS (a b : ByteArray) : Int := Lib.compareBytes a.data.toList b.data.toList
def firstN : List Int → Int
 |[] => 0
 |x :: r => if x ≠ 0 then x else firstN r
def cmpC (a b : Cel) : Int := firstN [cmpS a.row b.row, cmpS a.col b.col, cmpN b.ts a.ts, cmpN b.seq a.seq]
end Go.Proofs.YtkjmgbifoaoefaaGreatDoor
