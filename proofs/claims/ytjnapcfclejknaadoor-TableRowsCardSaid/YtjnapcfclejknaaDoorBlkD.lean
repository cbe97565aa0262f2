/-
  The reference of layer 4: two, Build.
-/
import Derived.Test.YtjnapcfclejknaaDoorBlkC
import Derived.Test.YtjnapcfclejknaaDoorRefH
import Derived.Test.YtjnapcfclejknaaDoorRegionN
namespace Go.Proofs.YtjnapcfclejknaaDoor
open Go.RowKit Go.Lib

theorem ofNat_mod (n : Nat) : UInt8.ofNat (n % 256) = UInt8.ofNat n := by
  apply UInt8.toNat_inj.1
  rw [UInt8.toNat_ofNat', UInt8.toNat_ofNat']
  omega
theorem append_data' (a b : ByteArray) : (a ++ b).data.toList = a.data.toList ++ b.data.toList := by simp
theorem dat_inj {a b : ByteArray} (h : a.data.toList = b.data.toList) : a = b := by
  obtain ⟨⟨a⟩⟩ := a
  obtain ⟨⟨b⟩⟩ := b
  simpa using h
def prevK (l : List Cel) (k : Nat) : List UInt8 := keyL (l.getD (k - 1) zeroC)
theorem body_prev (l : List Cel) (x : List UInt8) : bodyL 0 x l = bodyL 0 [] l := by
  cases l with
  | nil => rfl
  | cons c r => rfl

end Go.Proofs.YtjnapcfclejknaaDoor
