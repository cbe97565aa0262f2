/-
  The small case of layer 1, and the bound.
-/
import Derived.Test.YtepffknhkpppcaaDoorCellLaw2
import Derived.Outline
namespace Go.Proofs.YtepffknhkpppcaaDoor
open Go.RowKit

def bdB (c : Cel) : Bool := decide (c.row.size ≤ 200 ∧ c.col.size ≤ 200 ∧ c.val.size ≤ 300)

def ca : Cel := ⟨⟨#[114]⟩, ⟨#[99]⟩, 5, 0, false, ⟨#[118]⟩⟩
def cb : Cel := ⟨⟨#[114]⟩, ⟨#[99]⟩, 4, 0, false, ⟨#[]⟩⟩
theorem ca_ok : CelOK ca := ⟨by decide, by decide, by decide, by decide, by decide⟩
theorem cb_ok : CelOK cb := ⟨by decide, by decide, by decide, by decide, by decide⟩
theorem ca_may : mayB ca = true := by decide
theorem ca_key : (⟨(keyL ca).toArray⟩ : ByteArray).size = 22 := by decide

end Go.Proofs.YtepffknhkpppcaaDoor
