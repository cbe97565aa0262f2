/-
  No cell of these rows narrows 'for every input' (looked for: loops, veiled, ifaces, maps, wideKeys, modest, calm, conditions, laid).
  DERIVED. THE GIVEN ROWS OF THIS SEAT. 5 by the template 'for every input the law returns true; each argument reads behind the call as it read before'; 0 by the template 'total and deterministic' (their statements: YtmadkoebopfhoaaTotals.lean).
  GIVEN WITH THE SEED: the statements are not yours to turn. If you find one false, say at which input.
  Laid BY PROGRAM, IN A SANDBOX (cutbox-rows.mjs): the forced cells as the released guide's own fill.sh prints them over the translation d08bd1c2dcc64692… (all of the seat's roots in one cut). By AI agents, Wed Nov 11 2026. No macro, syntax, notation, axiom, sorry.
-/
import Derived.Test.YtmadkoebopfhoaaChecked
import GoSem.Claim
import GoSem.ClaimJoined
import GoSem.ClaimMapViews
import Derived.JoinedTies
import Derived.KernelRfl
namespace Go.Proofs.Ytmadkoebopfhoaa
/- THE CELL 'sum', in the pinned program and in every row, IS THE sha256 OF THE DUMP (.gsa) THAT YtmadkoebopfhoaaProg.lean LOADS. Nothing in Lean hashes anything: it is a label: what it is worth is what the hold of that sum in a sandbox is worth. -/
noncomputable def Try.pinned : Pinned := { name := "ytmadkoebopfhoaa", sum := "d08bd1c2dcc6469201ec358d75a435e2914000308ff861cdc64489fd7591db53", checked := Try.checked }
namespace Rows
def none {H : Type} : Left H := { results := [], args := [] }

/-- 'rickyardlaw06.VdiskKeeps': WHATEVER THE INPUT: true; the input reads as it did. -/
def vdiskKeepsSpec : ChangeSpec := { name := "vdiskKeeps", fn := fun _ => fun
  | [d1, d2, d3] => { results := [.lit (.bool true)], args := [d1, d2, d3] }
  | _ => none }
def vdiskKeepsRow : OpenClaim := { program := "ytmadkoebopfhoaa", sum := "d08bd1c2dcc6469201ec358d75a435e2914000308ff861cdc64489fd7591db53", func := "rickyard/rickyardlaw06.VdiskKeeps", spec := "vdiskKeeps", unfollowed := true, recurses := true, apart := false }
def VdiskKeepsSaid : Prop := vdiskKeepsRow.holds Try.pinned (OpenSpec.ofChange vdiskKeepsSpec)

/-- ITS FALSE NEIGHBOUR: 'it returns false'. Refute it at one input. -/
def vdiskKeepsWrong : ChangeSpec := { name := "vdiskKeeps", fn := fun _ => fun
  | [d1, d2, d3] => { results := [.lit (.bool false)], args := [d1, d2, d3] }
  | _ => none }
def VdiskKeepsWrongFalsely : Prop := vdiskKeepsRow.holds Try.pinned (OpenSpec.ofChange vdiskKeepsWrong)

/-- 'rickyardlaw06.VdiskRenames': WHATEVER THE INPUT: true; the input reads as it did. -/
def vdiskRenamesSpec : ChangeSpec := { name := "vdiskRenames", fn := fun _ => fun
  | [d1, d2, d3, d4] => { results := [.lit (.bool true)], args := [d1, d2, d3, d4] }
  | _ => none }
def vdiskRenamesRow : OpenClaim := { program := "ytmadkoebopfhoaa", sum := "d08bd1c2dcc6469201ec358d75a435e2914000308ff861cdc64489fd7591db53", func := "rickyard/rickyardlaw06.VdiskRenames", spec := "vdiskRenames", unfollowed := true, recurses := true, apart := false }
def VdiskRenamesSaid : Prop := vdiskRenamesRow.holds Try.pinned (OpenSpec.ofChange vdiskRenamesSpec)

/-- ITS FALSE NEIGHBOUR: 'it returns false'. Refute it at one input. -/
def vdiskRenamesWrong : ChangeSpec := { name := "vdiskRenames", fn := fun _ => fun
  | [d1, d2, d3, d4] => { results := [.lit (.bool false)], args := [d1, d2, d3, d4] }
  | _ => none }
def VdiskRenamesWrongFalsely : Prop := vdiskRenamesRow.holds Try.pinned (OpenSpec.ofChange vdiskRenamesWrong)

/-- 'rickyardlaw06.VdiskFull': WHATEVER THE INPUT: true; the input reads as it did. -/
def vdiskFullSpec : ChangeSpec := { name := "vdiskFull", fn := fun _ => fun
  | [d1, d2, d3] => { results := [.lit (.bool true)], args := [d1, d2, d3] }
  | _ => none }
def vdiskFullRow : OpenClaim := { program := "ytmadkoebopfhoaa", sum := "d08bd1c2dcc6469201ec358d75a435e2914000308ff861cdc64489fd7591db53", func := "rickyard/rickyardlaw06.VdiskFull", spec := "vdiskFull", unfollowed := true, recurses := true, apart := false }
def VdiskFullSaid : Prop := vdiskFullRow.holds Try.pinned (OpenSpec.ofChange vdiskFullSpec)

/-- ITS FALSE NEIGHBOUR: 'it returns false'. Refute it at one input. -/
def vdiskFullWrong : ChangeSpec := { name := "vdiskFull", fn := fun _ => fun
  | [d1, d2, d3] => { results := [.lit (.bool false)], args := [d1, d2, d3] }
  | _ => none }
def VdiskFullWrongFalsely : Prop := vdiskFullRow.holds Try.pinned (OpenSpec.ofChange vdiskFullWrong)

/-- 'rickyardlaw06.VdiskNames': WHATEVER THE INPUT: true; the input reads as it did. -/
def vdiskNamesSpec : ChangeSpec := { name := "vdiskNames", fn := fun _ => fun
  | [d] => { results := [.lit (.bool true)], args := [d] }
  | _ => none }
def vdiskNamesRow : OpenClaim := { program := "ytmadkoebopfhoaa", sum := "d08bd1c2dcc6469201ec358d75a435e2914000308ff861cdc64489fd7591db53", func := "rickyard/rickyardlaw06.VdiskNames", spec := "vdiskNames", unfollowed := true, recurses := true, apart := false }
def VdiskNamesSaid : Prop := vdiskNamesRow.holds Try.pinned (OpenSpec.ofChange vdiskNamesSpec)

/-- ITS FALSE NEIGHBOUR: 'it returns false'. Refute it at one input. -/
def vdiskNamesWrong : ChangeSpec := { name := "vdiskNames", fn := fun _ => fun
  | [d] => { results := [.lit (.bool false)], args := [d] }
  | _ => none }
def VdiskNamesWrongFalsely : Prop := vdiskNamesRow.holds Try.pinned (OpenSpec.ofChange vdiskNamesWrong)

/-- 'rickyardlaw06.VdiskSizes': WHATEVER THE INPUT: true; the input reads as it did. -/
def vdiskSizesSpec : ChangeSpec := { name := "vdiskSizes", fn := fun _ => fun
  | [d] => { results := [.lit (.bool true)], args := [d] }
  | _ => none }
def vdiskSizesRow : OpenClaim := { program := "ytmadkoebopfhoaa", sum := "d08bd1c2dcc6469201ec358d75a435e2914000308ff861cdc64489fd7591db53", func := "rickyard/rickyardlaw06.VdiskSizes", spec := "vdiskSizes", unfollowed := true, recurses := true, apart := false }
def VdiskSizesSaid : Prop := vdiskSizesRow.holds Try.pinned (OpenSpec.ofChange vdiskSizesSpec)

/-- ITS FALSE NEIGHBOUR: 'it returns false'. Refute it at one input. -/
def vdiskSizesWrong : ChangeSpec := { name := "vdiskSizes", fn := fun _ => fun
  | [d] => { results := [.lit (.bool false)], args := [d] }
  | _ => none }
def VdiskSizesWrongFalsely : Prop := vdiskSizesRow.holds Try.pinned (OpenSpec.ofChange vdiskSizesWrong)

/- THE SECOND FORM. 'bulk': how many values and letters a reading holds, each counted each time it is reached (what is shared counts as often as it is met; a slice's spare places count too). A statement '..UptoSaid' is the law's where the arguments, and the package variables that the reading takes, are together of bulk at most 1048576: NARROWER than '..Said'. Prove '..Said' where nothing that the law and all that it calls make is longer than what came in: it says more and counts as full. Else prove '..UptoSaid'. A law counts once. -/
mutual
def uptoBulk {H : Type} : DataW H → Nat
  | .lit (.string bytes) => bytes.length + 1
  | .lit _ => 1
  | .nil => 1
  | .ptr d => uptoBulk d + 1
  | .slice elems spare => uptoBulkAll elems + uptoBulkAll spare + 1
  | .agg parts => uptoBulkAll parts + 1
  | .iface _ d => uptoBulk d + 1
  | .map entries => uptoBulkEntries entries + 1
  | .held _ => 1
def uptoBulkAll {H : Type} : List (DataW H) → Nat
  | [] => 0
  | d :: r => uptoBulk d + uptoBulkAll r
def uptoBulkEntries {H : Type} : List (Lit × DataW H) → Nat
  | [] => 0
  | x :: r => uptoBulkEntry x + uptoBulkEntries r
def uptoBulkEntry {H : Type} : Lit × DataW H → Nat
  | (.string bytes, d) => bytes.length + uptoBulk d + 1
  | (_, d) => uptoBulk d + 1
 end
def uptoSmall : (H : Type) → List (DataW H) → Bool := fun _ ds => decide (uptoBulkAll ds ≤ 1048576)
def OpenSpec.upto (s : _root_.Go.ChangeSpec) : _root_.Go.OpenSpec := { _root_.Go.OpenSpec.ofChange s with cond := some uptoSmall }

/-- 'rickyardlaw06.VdiskKeeps', WHERE WHAT IT READS IS OF BULK AT MOST 1048576: true; the input reads as it did. -/
def vdiskKeepsUptoRow : OpenClaim := { program := "ytmadkoebopfhoaa", sum := "d08bd1c2dcc6469201ec358d75a435e2914000308ff861cdc64489fd7591db53", func := "rickyard/rickyardlaw06.VdiskKeeps", spec := "vdiskKeeps", unfollowed := true, recurses := true, apart := false, narrowed := true }
def VdiskKeepsUptoSaid : Prop := vdiskKeepsUptoRow.holds Try.pinned (OpenSpec.upto vdiskKeepsSpec)

/-- 'rickyardlaw06.VdiskRenames', WHERE WHAT IT READS IS OF BULK AT MOST 1048576: true; the input reads as it did. -/
def vdiskRenamesUptoRow : OpenClaim := { program := "ytmadkoebopfhoaa", sum := "d08bd1c2dcc6469201ec358d75a435e2914000308ff861cdc64489fd7591db53", func := "rickyard/rickyardlaw06.VdiskRenames", spec := "vdiskRenames", unfollowed := true, recurses := true, apart := false, narrowed := true }
def VdiskRenamesUptoSaid : Prop := vdiskRenamesUptoRow.holds Try.pinned (OpenSpec.upto vdiskRenamesSpec)

/-- 'rickyardlaw06.VdiskFull', WHERE WHAT IT READS IS OF BULK AT MOST 1048576: true; the input reads as it did. -/
def vdiskFullUptoRow : OpenClaim := { program := "ytmadkoebopfhoaa", sum := "d08bd1c2dcc6469201ec358d75a435e2914000308ff861cdc64489fd7591db53", func := "rickyard/rickyardlaw06.VdiskFull", spec := "vdiskFull", unfollowed := true, recurses := true, apart := false, narrowed := true }
def VdiskFullUptoSaid : Prop := vdiskFullUptoRow.holds Try.pinned (OpenSpec.upto vdiskFullSpec)

/-- 'rickyardlaw06.VdiskNames', WHERE WHAT IT READS IS OF BULK AT MOST 1048576: true; the input reads as it did. -/
def vdiskNamesUptoRow : OpenClaim := { program := "ytmadkoebopfhoaa", sum := "d08bd1c2dcc6469201ec358d75a435e2914000308ff861cdc64489fd7591db53", func := "rickyard/rickyardlaw06.VdiskNames", spec := "vdiskNames", unfollowed := true, recurses := true, apart := false, narrowed := true }
def VdiskNamesUptoSaid : Prop := vdiskNamesUptoRow.holds Try.pinned (OpenSpec.upto vdiskNamesSpec)

/-- 'rickyardlaw06.VdiskSizes', WHERE WHAT IT READS IS OF BULK AT MOST 1048576: true; the input reads as it did. -/
def vdiskSizesUptoRow : OpenClaim := { program := "ytmadkoebopfhoaa", sum := "d08bd1c2dcc6469201ec358d75a435e2914000308ff861cdc64489fd7591db53", func := "rickyard/rickyardlaw06.VdiskSizes", spec := "vdiskSizes", unfollowed := true, recurses := true, apart := false, narrowed := true }
def VdiskSizesUptoSaid : Prop := vdiskSizesUptoRow.holds Try.pinned (OpenSpec.upto vdiskSizesSpec)

end Rows
end Go.Proofs.Ytmadkoebopfhoaa
