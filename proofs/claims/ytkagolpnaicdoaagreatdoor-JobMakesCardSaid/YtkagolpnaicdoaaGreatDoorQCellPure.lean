/- Lemmas. -/
import Derived.Test.YtkagolpnaicdoaaGreatDoorQMem
import Derived.Lib.Bytealg
set_option maxRecDepth 100000
set_option maxHeartbeats 8000000
namespace Go.Proofs.YtkagolpnaicdoaaGreatDoor
structure Ac where
 row:ByteArray
 col:ByteArray
 ts:Nat
 seq:Nat
 del:Bool
 val:ByteArray
def A7(c:Ac):Value:=.agg #[.string c.row,.string c.col,.int .u64 c.ts,.int .u64 c.seq,.bool c.del,.string c.val]
def Aq:Ac:=⟨⟨#[]⟩,⟨#[]⟩,0,0,false,⟨#[]⟩⟩
structure Di(c:Ac):Prop where
 ts:c.ts<18446744073709551616
 seq:c.seq<18446744073709551616
 row:c.row.size<=9223372036854775807
 col:c.col.size<=9223372036854775807
 val:c.val.size<=9223372036854775807
def Jg(s:ByteArray):Bool:=decide (1<=s.size/\s.size<=40)
def Bh(c:Ac):Bool:=Jg c.row&&Jg c.col&&decide (c.val.size<=100)&&(!c.del||decide (c.val.size=0))
theorem uI{s:ByteArray}(h:s.size=0):Jg s=false:=by unfold Jg;exact decide_eq_false (by omega)
theorem uJ{s:ByteArray}(h:¬s.size=0)(a:s.size<=40):Jg s=true:=by unfold Jg;exact decide_eq_true (by omega)
theorem uK{s:ByteArray}(a:¬s.size<=40):Jg s=false:=by unfold Jg;exact decide_eq_false (by omega)
def Du(a b:Nat):Int:=if a<b then -1 else if b<a then 1 else 0
def Bq(a b:ByteArray):Int:=Lib.compareBytes a.data.toList b.data.toList
def E2:List Int->Int
 |[]=>0
 |x::r=>if x≠0 then x else E2 r
def Db(a b:Ac):Int:=E2 [Bq a.row b.row,Bq a.col b.col,Du b.ts a.ts,Du b.seq a.seq]
end Go.Proofs.YtkagolpnaicdoaaGreatDoor
