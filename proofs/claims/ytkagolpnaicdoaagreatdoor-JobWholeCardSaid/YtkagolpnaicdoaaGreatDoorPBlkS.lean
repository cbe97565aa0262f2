/-
 What two texts share.
-/
import Derived.Test.YtkagolpnaicdoaaGreatDoorPRegion
import Derived.Test.YtkagolpnaicdoaaGreatDoorPCellPure
import Derived.Test.YtkagolpnaicdoaaGreatDoorRows
import Derived.Lib.IndexBytes
import Derived.Laws.DeepStrings4
set_option maxRecDepth 100000
set_option maxHeartbeats 8000000
open Go.Lib renaming hid->a0z
open List renaming take_succ_eq_append_getElem->a0x,getElem?_eq_getElem->a0w
open Nat renaming zero_le->a0v
namespace Go.Proofs.YtkagolpnaicdoaaGreatDoor
open Go.RowKit Go.Lib
def Eo:List UInt8->List UInt8->Nat
 |x::a,y::b=>if x=y then Eo a b+1 else 0
 |_,_=>0
theorem aA:∀(k:Nat) (a b:List UInt8),k≤a.length→k≤b.length→a.take k=b.take k→(∀x y,a[k]?=some x→b[k]?=some y→x≠y)→Eo a b=k
 |0,a,b,_,_,_,h=>by
  match a,b with
  |[],_=>rfl
  |_ ::_,[]=>rfl
  |x::a,y::b=>unfold Eo;rw[if_neg (h x y rfl rfl)]
 |k+1,a,b,h1,h2,ht,h=>by
  match a,b,h1,h2,ht,h with
  |x::a,y::b,h1,h2,ht,h=>
   simp only[List.take_succ_cons,List.cons.injEq] at ht;unfold Eo;rw[if_pos ht.1,aA k a b (by simpa using h1) (by simpa using h2) ht.2 (fun u v f d=>h u v (by simpa using f) (by simpa using d))]
theorem Q0:∀(a b:List UInt8),Eo a b≤a.length∧Eo a b≤b.length
 |[],_=>⟨a0v _,a0v _⟩
 |_ ::_,[]=>⟨a0v _,a0v _⟩
 |x::a,y::b=>by
  have:=Q0 a b;unfold Eo
  split<;>simp<;>omega
def Eu(a b:ByteArray):Nat:=Eo a.data.toList b.data.toList
theorem Xj{s:ByteArray}{i:Nat}(h:i<s.size):s.data.toList[i]?=some s[i]:=Lib.data_getElem? s i h
theorem aB{a b:ByteArray}{k:Nat}(f:k<a.size)(d:k<b.size)(h:a.data.toList.take k=b.data.toList.take k)(e:a[k]=b[k]):a.data.toList.take (k+1)=b.data.toList.take (k+1):=by
 have i:k<a.data.toList.length:=f;have g:k<b.data.toList.length:=d;rw[a0x i,a0x g,h];have l:=Xj f;have j:=Xj d;rw[a0w i] at l;rw[a0w g] at j;rw[Option.some.inj l,Option.some.inj j,e]
theorem aC{a b:ByteArray}{k:Nat}(i:k<a.size)(g:k<b.size)(h:a.data.toList.take k=b.data.toList.take k)(e:a[k]≠b[k]):Eu a b=k:=
 aA k _ _ (Nat.le_of_lt i) (Nat.le_of_lt g) h (fun x y f d=>by
  rw[Xj i] at f;rw[Xj g] at d
  rw[<-Option.some.inj f,<-Option.some.inj d];exact e)
theorem tV{a b:ByteArray}{k:Nat}(i:k≤a.size)(g:k≤b.size)(h:a.data.toList.take k=b.data.toList.take k)(e:k=a.size∨k=b.size):Eu a b=k:=
 aA k _ _ i g h (fun x y f d=>by
  rcases e with e|e
  ·subst e;have:=(List.getElem?_eq_some_iff.1 f).1;exact absurd this (Nat.lt_irrefl _)
  ·subst e;have:=(List.getElem?_eq_some_iff.1 d).1
   exact absurd this (Nat.lt_irrefl _))
theorem tW(a b:ByteArray)(w:World)(F:a.size≤9223372036854775807)(E:b.size≤9223372036854775807):
  Calls Tryz.prog 153 #[.string a,.string b] w fun e w'=>e=.returned (.int .i64 (Eu a b:Nat))/\Fp [] w w':=by
 obtain⟨m,u,t,s⟩:∃m:Nat,(m=a.size∨m=b.size)/\m<=a.size/\m<=b.size:=by
  by_cases h:a.size<=b.size
  ·exact⟨a.size,Or.inl rfl,Nat.le_refl _,h⟩
  ·exact⟨b.size,Or.inr rfl,by omega,Nat.le_refl _⟩
 have o:Hid (a.data.toList.take m=b.data.toList.take m->Eu a b=m):=fun h=>tV t s h u
 have v:=a0z u;clear u
 by_cases D:a.size<b.size
 ·obtain rfl:m=a.size:=by rcases v.out with h|h<;>omega
  have B:(a.size:Int)<(b.size:Int):=by omega
  have A:¬(b.size:Int)<=(a.size:Int):=by omega
  go_enter Tryz.func153,Tryz.ntmps153;go_wp2_with (fail)
  go_loopg [13] a.size (fun g r wr=>∃k:Nat,g+k=a.size/\r=.int .i64 k/\Fp [] w wr/\a.data.toList.take k=b.data.toList.take k)
  case atStart=>exact⟨0,by omega,rfl,Fp.refl _ _,rfl⟩
  case round=>
   obtain⟨k,y,rfl,q,p⟩:=hrel;have n:=a0z q;have l:=a0z p;clear q p
   by_cases x:k<a.size
   ·have i:k<a.size:=by omega
    have f:k<b.size:=by omega
    by_cases d:a[k]=b[k]
    ·have j:=a0z (aB i f l.out d)
     have z:(a[k].toNat:Int)=(b[k].toNat:Int):=by rw[d]
     clear d;go_wp2_with (fail)
     go_region
     go_wp2_with (fail)
     go_roundg (gk-1)
     case measure=>omega
     case rel=>exact⟨k+1,by omega,by simp,n.out.drew',j.out⟩
    ·have j:=a0z (aC i f l.out d)
     have z:¬(a[k].toNat:Int)=(b[k].toNat:Int):=fun e=>d (UInt8.toNat_inj.1 (by omega))
     have z2:((a[k].toNat:Int)==(b[k].toNat:Int))=false:=beq_eq_false_iff_ne.2 z;clear d;go_wp2_with (fail)
     go_region
     go_wp2_with (fail);go_ret;exact⟨by rw[j.out];rfl,n.out.drew'⟩
   ·obtain rfl:k=a.size:=by omega
    have j:=a0z (o.out l.out);go_wp2_with (fail);go_ret;exact⟨by rw[j.out];rfl,n.out⟩
 by_cases C:b.size<a.size
 ·obtain rfl:m=b.size:=by rcases v.out with h|h<;>omega
  have B:¬(a.size:Int)<(b.size:Int):=by omega
  have A:(b.size:Int)<=(a.size:Int):=by omega
  have I:(b.size:Int)<(a.size:Int):=by omega
  have G:¬(a.size:Int)<=(b.size:Int):=by omega
  go_enter Tryz.func153,Tryz.ntmps153;go_wp2_with (fail)
  go_loopg [13] b.size (fun g r wr=>∃k:Nat,g+k=b.size/\r=.int .i64 k/\Fp [] w wr/\a.data.toList.take k=b.data.toList.take k)
  case atStart=>exact⟨0,by omega,rfl,Fp.refl _ _,rfl⟩
  case round=>
   obtain⟨k,y,rfl,q,p⟩:=hrel;have n:=a0z q;have l:=a0z p;clear q p
   by_cases x:k<b.size
   ·have i:k<a.size:=by omega
    have f:k<b.size:=by omega
    by_cases d:a[k]=b[k]
    ·have j:=a0z (aB i f l.out d)
     have z:(a[k].toNat:Int)=(b[k].toNat:Int):=by rw[d]
     clear d;go_wp2_with (fail)
     go_region
     go_wp2_with (fail)
     go_roundg (gk-1)
     case measure=>omega
     case rel=>exact⟨k+1,by omega,by simp,n.out.drew',j.out⟩
    ·have j:=a0z (aC i f l.out d)
     have z:¬(a[k].toNat:Int)=(b[k].toNat:Int):=fun e=>d (UInt8.toNat_inj.1 (by omega))
     have z2:((a[k].toNat:Int)==(b[k].toNat:Int))=false:=beq_eq_false_iff_ne.2 z;clear d;go_wp2_with (fail)
     go_region
     go_wp2_with (fail);go_ret;exact⟨by rw[j.out];rfl,n.out.drew'⟩
   ·obtain rfl:k=b.size:=by omega
    have j:=a0z (o.out l.out);go_wp2_with (fail);go_ret;exact⟨by rw[j.out];rfl,n.out⟩
 ·obtain rfl:m=b.size:=by rcases v.out with h|h<;>omega
  have J:(a.size:Int)=(b.size:Int):=by omega
  have K:Hid (a.size=b.size):=by unfold Hid;omega
  go_enter Tryz.func153,Tryz.ntmps153;go_wp2_with (fail)
  go_loopg [13] b.size (fun g r wr=>∃k:Nat,g+k=b.size/\r=.int .i64 k/\Fp [] w wr/\a.data.toList.take k=b.data.toList.take k)
  case atStart=>exact⟨0,by omega,rfl,Fp.refl _ _,rfl⟩
  case round=>
   obtain⟨k,y,rfl,q,p⟩:=hrel;have n:=a0z q;have l:=a0z p;clear q p
   by_cases x:k<b.size
   ·have i:k<a.size:=by omega
    have f:k<b.size:=by omega
    by_cases d:a[k]=b[k]
    ·have j:=a0z (aB i f l.out d)
     have z:(a[k].toNat:Int)=(b[k].toNat:Int):=by rw[d]
     clear d;go_wp2_with (fail)
     go_region
     go_wp2_with (fail)
     go_roundg (gk-1)
     case measure=>omega
     case rel=>exact⟨k+1,by omega,by simp,n.out.drew',j.out⟩
    ·have j:=a0z (aC i f l.out d)
     have z:¬(a[k].toNat:Int)=(b[k].toNat:Int):=fun e=>d (UInt8.toNat_inj.1 (by omega))
     have z2:((a[k].toNat:Int)==(b[k].toNat:Int))=false:=beq_eq_false_iff_ne.2 z;clear d;go_wp2_with (fail)
     go_region
     go_wp2_with (fail);go_ret;exact⟨by rw[j.out];rfl,n.out.drew'⟩
   ·obtain rfl:k=b.size:=by omega
    have j:=a0z (o.out l.out);go_wp2_with (fail);go_ret;exact⟨by rw[j.out];rfl,n.out⟩
end Go.Proofs.YtkagolpnaicdoaaGreatDoor
