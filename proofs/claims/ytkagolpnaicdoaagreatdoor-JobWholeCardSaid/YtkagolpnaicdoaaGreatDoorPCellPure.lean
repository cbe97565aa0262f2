/-
 Cells as data: which may be, how they stand.
-/
import Derived.Test.YtkagolpnaicdoaaGreatDoorPMem
import Derived.Lib.Bytealg
set_option maxRecDepth 100000
set_option maxHeartbeats 8000000
namespace Go.Proofs.YtkagolpnaicdoaaGreatDoor
structure Aa where
 row:ByteArray
 col:ByteArray
 ts:Nat
 seq:Nat
 del:Bool
 val:ByteArray
def Bm(c:Aa):Value:=.agg #[.string c.row,.string c.col,.int .u64 c.ts,.int .u64 c.seq,.bool c.del,.string c.val]
def Az:Aa:=⟨⟨#[]⟩,⟨#[]⟩,0,0,false,⟨#[]⟩⟩
structure B3(c:Aa):Prop where
 ts:c.ts<18446744073709551616
 seq:c.seq<18446744073709551616
 row:c.row.size<=9223372036854775807
 col:c.col.size<=9223372036854775807
 val:c.val.size<=9223372036854775807
def Im(s:ByteArray):Bool:=decide (1<=s.size/\s.size<=40)
def B8(c:Aa):Bool:=Im c.row&&Im c.col&&decide (c.val.size<=100)&&(!c.del||decide (c.val.size=0))
theorem vA{s:ByteArray}(h:s.size=0):Im s=false:=by unfold Im;exact decide_eq_false (by omega)
theorem vB{s:ByteArray}(h:¬s.size=0)(a:s.size<=40):Im s=true:=by unfold Im;exact decide_eq_true (by omega)
theorem vC{s:ByteArray}(a:¬s.size<=40):Im s=false:=by unfold Im;exact decide_eq_false (by omega)
def Ds(a b:Nat):Int:=if a<b then -1 else if b<a then 1 else 0
def Bo(a b:ByteArray):Int:=Lib.compareBytes a.data.toList b.data.toList
def Ew:List Int->Int
 |[]=>0
 |x::r=>if x≠0 then x else Ew r
def Df(a b:Aa):Int:=Ew [Bo a.row b.row,Bo a.col b.col,Ds b.ts a.ts,Ds b.seq a.seq]
end Go.Proofs.YtkagolpnaicdoaaGreatDoor
