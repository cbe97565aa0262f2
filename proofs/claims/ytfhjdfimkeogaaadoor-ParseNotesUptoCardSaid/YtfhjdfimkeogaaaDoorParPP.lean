/-
  Print: what it prints (plain).
-/
import Derived.Test.YtfhjdfimkeogaaaDoorParCells
import Derived.Test.YtfhjdfimkeogaaaDoorEqC
import Derived.Lib.ItoaNum
import Derived.Lib.Join
namespace Go.Proofs.YtfhjdfimkeogaaaDoor
open Go.RowKit Go.Lib

def endB (c : Cel) : ByteArray := (if c.del = true then ⟨#[45]⟩ else ⟨#[61]⟩) ++ c.val
def decB (n : Nat) : ByteArray := ⟨(decDigits n).toArray⟩
def textOf (c : Cel) : ByteArray := c.row ++ ⟨#[32]⟩ ++ c.col ++ ⟨#[32]⟩ ++ decB c.ts ++ ⟨#[32]⟩ ++ endB c
/-- it is told just so -/
def okP (c : Cel) : Bool := match lineP (textOf c) with
  | none => false
  | some x => eqC x c && !(c.row.data.toList.head? == some 35)
def printGo (acc : ByteArray) : List Cel → ByteArray × Nat
  | [] => (acc, 0)
  | c :: r => if okP c = true then printGo (acc ++ (textOf c ++ ⟨#[10]⟩)) r else (⟨#[]⟩, 1)
def printP (l : List Cel) : ByteArray × Nat := printGo ⟨#[]⟩ l
theorem print_step {acc : ByteArray} {c : Cel} {r : List Cel} (h : okP c = true) : printGo acc (c :: r) = printGo (acc ++ (textOf c ++ ⟨#[10]⟩)) r := by
  conv => lhs; unfold printGo
  rw [if_pos h]
theorem print_stop {acc : ByteArray} {c : Cel} {r : List Cel} (h : okP c = false) : printGo acc (c :: r) = (⟨#[]⟩, 1) := by
  conv => lhs; unfold printGo
  rw [if_neg (by simp [h])]
theorem endB_size (c : Cel) : (endB c).size = 1 + c.val.size := by
  unfold endB
  rw [ByteArray.size_append]
  split <;> rfl
theorem decB_size (n : Nat) (h : n < 18446744073709551616) : (decB n).size ≤ 20 := by
  show (decDigits n).toArray.size ≤ 20
  rw [List.size_toArray, decDigits_length]
  by_cases h0 : n = 0
  · subst h0; decide +kernel
  · have := numDigits_eq n (by omega) h
    split at this <;> omega
theorem textOf_size (c : Cel) (h : c.ts < 18446744073709551616) : (textOf c).size ≤ c.row.size + c.col.size + c.val.size + 24 := by
  have h1 := decB_size c.ts h
  have h2 := endB_size c
  have e : (⟨#[32]⟩ : ByteArray).size = 1 := rfl
  unfold textOf
  simp only [ByteArray.size_append]
  omega
theorem join_text (c : Cel) : (⟨(join ([c.row, c.col, decB c.ts, endB c].map (·.data.toList)) [32]).toArray⟩ : ByteArray) = textOf c := by
  apply data_inj
  unfold textOf
  simp only [append_data, List.map_cons, List.map_nil, join, List.intercalate]
  simp
end Go.Proofs.YtfhjdfimkeogaaaDoor
