/-
 Cells as data: which may be, how they stand.
-/
import Derived.Test.YtkagolpnaicdoaaGreatDoorMMaps
import Derived.Lib.Bytealg
set_option maxRecDepth 100000
set_option maxHeartbeats 8000000
namespace Go.Proofs.YtkagolpnaicdoaaGreatDoor
structure Ac where
 row:ByteArray
 col:ByteArray
 ts:Nat
 seq:Nat
 del:Bool
 val:ByteArray
def Dz(c:Ac):Value:=.agg #[.string c.row,.string c.col,.int .u64 c.ts,.int .u64 c.seq,.bool c.del,.string c.val]
def Bo:Ac:=⟨⟨#[]⟩,⟨#[]⟩,0,0,false,⟨#[]⟩⟩
structure Dm(c:Ac):Prop where
 ts:c.ts<18446744073709551616
 seq:c.seq<18446744073709551616
 row:c.row.size≤9223372036854775807
 col:c.col.size≤9223372036854775807
 val:c.val.size≤9223372036854775807
def H9(s:ByteArray):Bool:=decide (1≤s.size∧s.size≤40)
def Db(c:Ac):Bool:=H9 c.row&&H9 c.col&&decide (c.val.size≤100)&&(!c.del||decide (c.val.size=0))
theorem kY{s:ByteArray}(h:s.size=0):H9 s=false:=by unfold H9;exact decide_eq_false (by omega)
theorem kZ{s:ByteArray}(h:¬s.size=0)(h2:s.size≤40):H9 s=true:=by unfold H9;exact decide_eq_true (by omega)
theorem lA{s:ByteArray}(h2:¬s.size≤40):H9 s=false:=by unfold H9;exact decide_eq_false (by omega)
def Dq(a b:Nat):Int:=if a<b then -1 else if b<a then 1 else 0
def Ee(a b:ByteArray):Int:=Lib.compareBytes a.data.toList b.data.toList
def E5:List Int→Int
 |[]=>0
 |x::r=>if x≠0 then x else E5 r
def Ep(a b:Ac):Int:=E5 [Ee a.row b.row,Ee a.col b.col,Dq b.ts a.ts,Dq b.seq a.seq]
end Go.Proofs.YtkagolpnaicdoaaGreatDoor
