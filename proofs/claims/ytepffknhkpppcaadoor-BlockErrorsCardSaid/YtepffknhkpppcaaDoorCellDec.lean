/-
  Decode.
-/
import Derived.Test.YtepffknhkpppcaaDoorCellKey
import Derived.Test.YtepffknhkpppcaaDoorCellRead2
import Derived.Deep.RegionHeld3
namespace Go.Proofs.YtepffknhkpppcaaDoor
open Go.RowKit

def decO (c : Cel) (r : Rd) : Cel × ByteArray × Int :=
  if r.e = 0 then (if mayB c = true then (c, r.rest, 0) else (zeroC, ⟨#[]⟩, 1)) else (zeroC, ⟨#[]⟩, r.e)
def decP (s : ByteArray) : Cel × ByteArray × Int :=
  decO ⟨(⟨s, 0⟩ : Rd).text.1, (⟨s, 0⟩ : Rd).text.2.text.1, (⟨s, 0⟩ : Rd).text.2.text.2.number.1, (⟨s, 0⟩ : Rd).text.2.text.2.number.2.number.1, (⟨s, 0⟩ : Rd).text.2.text.2.number.2.number.2.flag.1, (⟨s, 0⟩ : Rd).text.2.text.2.number.2.number.2.flag.2.text.1⟩
    (⟨s, 0⟩ : Rd).text.2.text.2.number.2.number.2.flag.2.text.2

theorem text_size (r : Rd) : r.text.1.size ≤ 255 := by
  unfold Rd.text
  rw [take_size]
  have : (atB (r.take 1).1 0).toNat < 256 := (atB (r.take 1).1 0).toNat_lt
  omega
theorem text_rest (r : Rd) : r.text.2.rest.size ≤ r.rest.size := Nat.le_trans (take_rest _ _) (take_rest _ _)
theorem number_rest (r : Rd) : r.number.2.rest.size ≤ r.rest.size := take_rest _ _
theorem flag_rest (r : Rd) : r.flag.2.rest.size ≤ r.rest.size := by
  unfold Rd.flag
  show (if _ then _ else _ : Rd).rest.size ≤ _
  split
  · exact take_rest r 1
  · exact take_rest r 1
theorem number_lt (r : Rd) : r.number.1 < 18446744073709551616 := leN_lt _ 8

end Go.Proofs.YtepffknhkpppcaaDoor
