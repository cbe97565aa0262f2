/- Lemmas. -/
import Derived.Test.YtkagolpnaicdoaaGreatDoorQRegion
import Derived.Test.YtkagolpnaicdoaaGreatDoorQCellPure
import Derived.Test.YtkagolpnaicdoaaGreatDoorRows
import Derived.Lib.IndexBytes
import Derived.Laws.DeepStrings4
set_option maxRecDepth 100000
set_option maxHeartbeats 8000000
open Go.Lib renaming hid->X
open List renaming take_succ_eq_append_getElem->Y,getElem?_eq_getElem->a0z
open Nat renaming zero_le->Z,le_of_lt->a0x
namespace Go.Proofs.YtkagolpnaicdoaaGreatDoor
open Go.RowKit Go.Lib
def L6:List UInt8->List UInt8->Nat
 |x::a,y::b=>if x=y then L6 a b+1 else 0
 |_,_=>0
theorem Zv:∀(k:Nat) (a b:List UInt8),k≤a.length→k≤b.length→a.take k=b.take k→(∀x y,a[k]?=some x→b[k]?=some y→x≠y)→L6 a b=k
 |0,a,b,_,_,_,h=>by
  match a,b with
  |[],_=>rfl
  |_ ::_,[]=>rfl
  |x::a,y::b=>unfold L6;rw[if_neg (h x y rfl rfl)]
 |k+1,a,b,h1,h2,ht,h=>by
  match a,b,h1,h2,ht,h with
  |x::a,y::b,h1,h2,ht,h=>
   simp only[List.take_succ_cons,List.cons.injEq] at ht;unfold L6;rw[if_pos ht.1,Zv k a b (by simpa using h1) (by simpa using h2) ht.2 (fun u v d c=>h u v (by simpa using d) (by simpa using c))]
theorem Qr:∀(a b:List UInt8),L6 a b≤a.length∧L6 a b≤b.length
 |[],_=>⟨Z _,Z _⟩
 |_ ::_,[]=>⟨Z _,Z _⟩
 |x::a,y::b=>by
  have:=Qr a b;unfold L6
  split<;>simp<;>omega
def Da(a b:ByteArray):Nat:=L6 a.data.toList b.data.toList
theorem Ws{s:ByteArray}{i:Nat}(h:i<s.size):s.data.toList[i]?=some s[i]:=Lib.data_getElem? s i h
theorem Wt{a b:ByteArray}{k:Nat}(d:k<a.size)(c:k<b.size)(h:a.data.toList.take k=b.data.toList.take k)(e:a[k]=b[k]):a.data.toList.take (k+1)=b.data.toList.take (k+1):=by
 have i:k<a.data.toList.length:=d;have g:k<b.data.toList.length:=c;rw[Y i,Y g,h];have l:=Ws d;have j:=Ws c;rw[a0z i] at l;rw[a0z g] at j;rw[Option.some.inj l,Option.some.inj j,e]
theorem Wu{a b:ByteArray}{k:Nat}(i:k<a.size)(g:k<b.size)(h:a.data.toList.take k=b.data.toList.take k)(e:a[k]≠b[k]):Da a b=k:=
 Zv k _ _ (a0x i) (a0x g) h (fun x y d c=>by
  rw[Ws i] at d;rw[Ws g] at c
  rw[<-Option.some.inj d,<-Option.some.inj c];exact e)
theorem Zw{a b:ByteArray}{k:Nat}(i:k≤a.size)(g:k≤b.size)(h:a.data.toList.take k=b.data.toList.take k)(e:k=a.size∨k=b.size):Da a b=k:=
 Zv k _ _ i g h (fun x y d c=>by
  rcases e with e|e
  .subst e;have:=(List.getElem?_eq_some_iff.1 d).1;exact absurd this (Nat.lt_irrefl _)
  .subst e;have:=(List.getElem?_eq_some_iff.1 c).1
   exact absurd this (Nat.lt_irrefl _))
theorem sT(a b:ByteArray)(w:World)(I:a.size≤9223372036854775807)(G:b.size≤9223372036854775807):
  Calls Tryz.prog 153 #[.string a,.string b] w fun e w'=>e=.returned (.int .i64 (Da a b:Nat))/\Fp [] w w':=by
 obtain⟨m,v,u,t⟩:∃m:Nat,(m=a.size∨m=b.size)/\m<=a.size/\m<=b.size:=by
  by_cases h:a.size<=b.size
  .exact⟨a.size,Or.inl rfl,Nat.le_refl _,h⟩
  .exact⟨b.size,Or.inr rfl,by omega,Nat.le_refl _⟩
 have p:Hid (a.data.toList.take m=b.data.toList.take m->Da a b=m):=fun h=>Zw u t h v;have x:=X v;clear v;by_cases F:a.size<b.size
 .obtain rfl:m=a.size:=by rcases x.o with h|h<;>omega
  have D:(a.size:Int)<(b.size:Int):=by omega
  have C:¬(b.size:Int)<=(a.size:Int):=by omega
  go_in;go_wp2_with fail
  go_loopg [13] a.size (fun g s wr=>∃k:Nat,g+k=a.size/\s=.int .i64 k/\Fp [] w wr/\a.data.toList.take k=b.data.toList.take k)
  case atStart=>exact⟨0,by omega,rfl,Fp.refl _ _,rfl⟩
  case round=>
   obtain⟨k,B,rfl,r,q⟩:=hrel;have n:=X r;have l:=X q;clear r q;by_cases A:k<a.size
   .have i:k<a.size:=(by omega)
    have d:k<b.size:=(by omega)
    by_cases c:a[k]=b[k]
    .have j:=X (Wt i d l.o c)
     have z:(a[k].toNat:Int)=(b[k].toNat:Int):=(by rw[c])
     clear c;go_wp2_with fail
     go_region
     go_wp2_with fail
     go_roundg (gk-1)
     case measure=>omega
     case rel=>exact⟨k+1,by omega,by simp,n.o.drew',j.o⟩
    .have j:=X (Wu i d l.o c);have z:¬(a[k].toNat:Int)=(b[k].toNat:Int):=fun e=>c (UInt8.toNat_inj.1 (by omega));have y:((a[k].toNat:Int)==(b[k].toNat:Int))=false:=beq_eq_false_iff_ne.2 z;clear c;go_wp2_with fail
     go_region
     go_wp2_with fail;go_ret;exact⟨by rw[j.o];rfl,n.o.drew'⟩
   .obtain rfl:k=a.size:=by omega
    have j:=X (p.o l.o);go_wp2_with fail;go_ret;exact⟨by rw[j.o];rfl,n.o⟩
 by_cases E:b.size<a.size
 .obtain rfl:m=b.size:=by rcases x.o with h|h<;>omega
  have D:¬(a.size:Int)<(b.size:Int):=by omega
  have C:(b.size:Int)<=(a.size:Int):=by omega
  have K:(b.size:Int)<(a.size:Int):=by omega
  have J:¬(a.size:Int)<=(b.size:Int):=by omega
  go_in;go_wp2_with fail
  go_loopg [13] b.size (fun g s wr=>∃k:Nat,g+k=b.size/\s=.int .i64 k/\Fp [] w wr/\a.data.toList.take k=b.data.toList.take k)
  case atStart=>exact⟨0,by omega,rfl,Fp.refl _ _,rfl⟩
  case round=>
   obtain⟨k,B,rfl,r,q⟩:=hrel;have n:=X r;have l:=X q;clear r q;by_cases A:k<b.size
   .have i:k<a.size:=(by omega)
    have d:k<b.size:=(by omega)
    by_cases c:a[k]=b[k]
    .have j:=X (Wt i d l.o c)
     have z:(a[k].toNat:Int)=(b[k].toNat:Int):=(by rw[c])
     clear c;go_wp2_with fail
     go_region
     go_wp2_with fail
     go_roundg (gk-1)
     case measure=>omega
     case rel=>exact⟨k+1,by omega,by simp,n.o.drew',j.o⟩
    .have j:=X (Wu i d l.o c);have z:¬(a[k].toNat:Int)=(b[k].toNat:Int):=fun e=>c (UInt8.toNat_inj.1 (by omega));have y:((a[k].toNat:Int)==(b[k].toNat:Int))=false:=beq_eq_false_iff_ne.2 z;clear c;go_wp2_with fail
     go_region
     go_wp2_with fail;go_ret;exact⟨by rw[j.o];rfl,n.o.drew'⟩
   .obtain rfl:k=b.size:=by omega
    have j:=X (p.o l.o);go_wp2_with fail;go_ret;exact⟨by rw[j.o];rfl,n.o⟩
 .obtain rfl:m=b.size:=by rcases x.o with h|h<;>omega
  have L:(a.size:Int)=(b.size:Int):=by omega
  have M:Hid (a.size=b.size):=by unfold Hid;omega
  go_in;go_wp2_with fail
  go_loopg [13] b.size (fun g s wr=>∃k:Nat,g+k=b.size/\s=.int .i64 k/\Fp [] w wr/\a.data.toList.take k=b.data.toList.take k)
  case atStart=>exact⟨0,by omega,rfl,Fp.refl _ _,rfl⟩
  case round=>
   obtain⟨k,B,rfl,r,q⟩:=hrel;have n:=X r;have l:=X q;clear r q;by_cases A:k<b.size
   .have i:k<a.size:=(by omega)
    have d:k<b.size:=(by omega)
    by_cases c:a[k]=b[k]
    .have j:=X (Wt i d l.o c)
     have z:(a[k].toNat:Int)=(b[k].toNat:Int):=(by rw[c])
     clear c;go_wp2_with fail
     go_region
     go_wp2_with fail
     go_roundg (gk-1)
     case measure=>omega
     case rel=>exact⟨k+1,by omega,by simp,n.o.drew',j.o⟩
    .have j:=X (Wu i d l.o c);have z:¬(a[k].toNat:Int)=(b[k].toNat:Int):=fun e=>c (UInt8.toNat_inj.1 (by omega));have y:((a[k].toNat:Int)==(b[k].toNat:Int))=false:=beq_eq_false_iff_ne.2 z;clear c;go_wp2_with fail
     go_region
     go_wp2_with fail;go_ret;exact⟨by rw[j.o];rfl,n.o.drew'⟩
   .obtain rfl:k=b.size:=by omega
    have j:=X (p.o l.o);go_wp2_with fail;go_ret;exact⟨by rw[j.o];rfl,n.o⟩
theorem sU(a b:ByteArray)(w:World)(_ha:a.size≤9223372036854775807)(v:b.size≤9223372036854775807):
  Calls Tryz.prog 169 #[.string a,.string b] w fun e w'=>e=.returned (.int .i64 (Da a b:Nat))/\Fp [] w w':=by
 go_in;go_wp2_with fail
 go_loopg [5] a.size (fun g r wr=>∃k:Nat,g+k=a.size/\r=.int .i64 k/\Fp [] w wr/\k<=b.size/\a.data.toList.take k=b.data.toList.take k)
 case atStart=>exact⟨0,by omega,rfl,Fp.refl _ _,Z _,rfl⟩
 case round=>
  obtain⟨k,u,rfl,q,c,p⟩:=hrel;have m:=X q;have l:=X p;clear q p;by_cases h:k<a.size
  .by_cases d:k<b.size
   .have n:(k:Int)<(a.size:Int):=(by omega)
    have s:(k:Int)<(b.size:Int):=(by omega)
    by_cases j:a[k]=b[k]
    .have i:=X (Wt h d l.o j)
     have z:(a[k].toNat:Int)=(b[k].toNat:Int):=(by rw[j])
     clear j;go_wp2_with fail
     go_region
     go_wp2_with fail
     go_roundg (gk-1)
     case measure=>omega
     case rel=>exact⟨k+1,by omega,by simp,m.o.drew',d,i.o⟩
    .have i:=X (Wu h d l.o j);have z:¬(a[k].toNat:Int)=(b[k].toNat:Int):=fun e=>j (UInt8.toNat_inj.1 (by omega));have t:((a[k].toNat:Int)==(b[k].toNat:Int))=false:=beq_eq_false_iff_ne.2 z;clear j;go_wp2_with fail
     go_region
     go_wp2_with fail;go_ret;exact⟨by rw[i.o];rfl,m.o.drew'⟩
   .have n:(k:Int)<(a.size:Int):=(by omega)
    have s:¬(k:Int)<(b.size:Int):=(by omega)
    have i:=X (Zw (a0x h) c l.o (Or.inr (by omega)));go_wp2_with fail
    go_region
    go_wp2_with fail;go_ret;exact⟨by rw[i.o];rfl,m.o.drew'⟩
  .have n:¬(k:Int)<(a.size:Int):=(by omega)
   have i:=X (Zw (by omega) c l.o (Or.inl (by omega)));go_wp2_with fail
   go_region
   go_wp2_with fail;go_ret;exact⟨by rw[i.o];rfl,m.o.drew'⟩
end Go.Proofs.YtkagolpnaicdoaaGreatDoor
