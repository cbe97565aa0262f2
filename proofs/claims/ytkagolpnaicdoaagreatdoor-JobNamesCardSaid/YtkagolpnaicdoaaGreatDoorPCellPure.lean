/-
 Cells as data: which may be, how they stand.
-/
import Derived.Test.YtkagolpnaicdoaaGreatDoorPMaps
import Derived.Lib.Bytealg
set_option maxRecDepth 100000
set_option maxHeartbeats 8000000
namespace Go.Proofs.YtkagolpnaicdoaaGreatDoor
structure Ac where
 row:ByteArray
 col:ByteArray
 ts:Nat
 seq:Nat
 del:Bool
 val:ByteArray
def D4(c:Ac):Value:=.agg #[.string c.row,.string c.col,.int .u64 c.ts,.int .u64 c.seq,.bool c.del,.string c.val]
def Bv:Ac:=⟨⟨#[]⟩,⟨#[]⟩,0,0,false,⟨#[]⟩⟩
structure Dn(c:Ac):Prop where
 ts:c.ts<18446744073709551616
 seq:c.seq<18446744073709551616
 row:c.row.size≤9223372036854775807
 col:c.col.size≤9223372036854775807
 val:c.val.size≤9223372036854775807
def Il(s:ByteArray):Bool:=decide (1≤s.size∧s.size≤40)
def Di(c:Ac):Bool:=Il c.row&&Il c.col&&decide (c.val.size≤100)&&(!c.del||decide (c.val.size=0))
theorem nR{s:ByteArray}(h:s.size=0):Il s=false:=by unfold Il;exact decide_eq_false (by omega)
theorem nS{s:ByteArray}(h:¬s.size=0)(h2:s.size≤40):Il s=true:=by unfold Il;exact decide_eq_true (by omega)
theorem nT{s:ByteArray}(h2:¬s.size≤40):Il s=false:=by unfold Il;exact decide_eq_false (by omega)
def Du(a b:Nat):Int:=if a<b then -1 else if b<a then 1 else 0
def Gu(a b:ByteArray):Int:=Lib.compareBytes a.data.toList b.data.toList
def Ff:List Int→Int
 |[]=>0
 |x::r=>if x≠0 then x else Ff r
def Ez(a b:Ac):Int:=Ff [Gu a.row b.row,Gu a.col b.col,Du b.ts a.ts,Du b.seq a.seq]
end Go.Proofs.YtkagolpnaicdoaaGreatDoor
