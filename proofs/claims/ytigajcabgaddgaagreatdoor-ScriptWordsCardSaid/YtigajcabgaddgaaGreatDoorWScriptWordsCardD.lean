/-
 Closed facts of the card of ScriptWords.
-/
import Derived.Test.YtigajcabgaddgaaGreatDoorRows
import Derived.Test.YtigajcabgaddgaaGreatDoorCards
import Derived.Test.YtigajcabgaddgaaGreatDoorChecked
import Derived.SevenTiedAt
set_option maxRecDepth 100000
set_option maxHeartbeats 8000000
namespace Go.Proofs.YtigajcabgaddgaaGreatDoor
open Go
theorem scriptWords_c7 : (Tryz.pinned.checked.prog.funcs.toList.all fun f => !f.goes) = true := by kernel_rfl
theorem goes_none {P : Program} (h : (P.funcs.toList.all fun f => !f.goes) = true) (f : FuncId) : P.goes f = false := by
 have h2 : ∀ fn ∈ P.funcs, fn.goes = false := fun fn hm => by simpa using List.all_eq_true.1 h fn (Array.mem_toList_iff.2 hm)
 unfold Program.goes
 rw [Bool.or_eq_false_iff]
 constructor
 ·rw [List.any_eq_false]
  intro g _
  cases hg : P.funcs[g]? with
  |none => simp
  |some fn => simpa using h2 fn (Array.mem_of_getElem? hg)
 ·rw [Bool.and_eq_false_iff]
  refine .inr ?_
  rw [Array.any_eq_false]
  intro i hi
  simpa using h2 _ (Array.getElem_mem hi)
theorem goesBy_none {P : Program} (h : (P.funcs.toList.all fun f => !f.goes) = true) (c : OpenClaim) (hs : c.start = .entering) : false = c.goesBy P := by
 unfold OpenClaim.goesBy Program.goesAt Program.goesFrom
 rw [hs]
 cases hf : P.funcNamed c.func with
 |none => rfl
 |some f => simp [goes_none h]
theorem scriptWords_c5 : false = Rows.scriptWordsRow.goesBy Tryz.pinned.checked.prog := goesBy_none scriptWords_c7 _ rfl
end Go.Proofs.YtigajcabgaddgaaGreatDoor
