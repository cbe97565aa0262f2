/-
 Decode. Encode. Encode and Decode: plain laws. The small case of layer 1, and the bound. Cells stand as their keys' bytes do. The reference of layer 1: May, Number, value, short. The reference of layer 1: Number, Encode. The reference of layer 1: Encode.
-/
import Derived.Test.YtkagolpnaicdoaaGreatDoorMBytes
import Derived.Deep.RegionHeld3
import Derived.Outline
import Derived.IntWalk
import Derived.Laws.DeepStrings4
set_option maxRecDepth 100000
set_option maxHeartbeats 8000000
open UInt8 renaming toNat_ofNat'→a0z,ofNat→a0x
namespace Go.Proofs.YtkagolpnaicdoaaGreatDoor
section
section
open Go.RowKit
end
section
open Go.RowKit
def Qq(d:Bool):UInt8:=if d then 1 else 0
end
section
open Go.Lib
def bl(l:List UInt8):ByteArray:=⟨l.toArray⟩
theorem Lp(s:ByteArray):bl s.data.toList=s:=mk_data s
theorem Ef(l:List UInt8):(bl l).size=l.length:=by show l.toArray.size=_;simp
theorem Qr(l:List UInt8):(bl l).data.toList=l:=by simp[bl]
theorem V2(l:List UInt8)(a b:Nat):(bl l).extract a b=bl ((l.drop a).take (b-a)):=by
 rw[←Lp ((bl l).extract a b)];congr 1;rw[extract_data,Qr]
theorem J6(l:List UInt8)(j:Nat):A1 (bl l) j=l.getD j 0:=by unfold A1;rw[Qr]
theorem Zp(n:Nat)(y:List UInt8):∀k,k≤8→Eo (bl (Gl n++y)) k=n%256^k
 |0,_=>by simp[Eo,Nat.mod_one]
 |k+1,h=>by
  show Eo _ k+_ =_;rw[Zp n y k (by omega),J6,List.getD_eq_getElem?_getD,List.getElem?_append_left (by rw[Mc];omega)]
  have:(Gl n)[k]?=some (Cb n k):=by
   unfold Gl;rw[List.getElem?_map,List.getElem?_range (by omega)];rfl
  rw[this];show _ +(Cb n k).toNat*_ =_;unfold Cb;have h2:=Nat.mod_mul (x:=n) (a:=256^k) (b:=256);have h3:(256:Nat)^(k+1)=256^k*256:=Nat.pow_succ _ _;rw[a0z,show(2:Nat)^8=256 from rfl,h3,h2,Nat.mul_comm (256^k) (n/256^k%256)]
end
section
open Go.RowKit
def cb:Ac:=⟨⟨#[114]⟩,⟨#[99]⟩,4,0,false,⟨#[]⟩⟩
end
section
open Go.Lib
def Ns(n:Nat):Nat→List UInt8
 |0=>[]
 |k+1=>Cb n k::Ns n k
theorem Zq(n:Nat):J3 n=Ns n 8:=rfl
theorem O6(n:Nat):Dq n n=0:=V1 (Nat.lt_irrefl _) (Nat.lt_irrefl _)
theorem Zr(n m:Nat)(X Y:List UInt8):∀k,compareBytes (Ns n k++X) (Ns m k++Y)=if n%256^k=m%256^k then compareBytes X Y else Dq (n%256^k) (m%256^k)
 |0=>by simp[Ns,Nat.mod_one]
 |k+1=>by
  have ih:=Zr n m X Y k;have hn:=Nat.mod_mul (x:=n) (a:=256^k) (b:=256);have hm:=Nat.mod_mul (x:=m) (a:=256^k) (b:=256);have hp:(256:Nat)^(k+1)=256^k*256:=Nat.pow_succ _ _;have hpos:0<(256:Nat)^k:=Nat.pow_pos (by decide);have ln:=Nat.mod_lt n hpos;have lm:=Nat.mod_lt m hpos
  have bn:(Cb n k).toNat=n/256^k%256:=by unfold Cb;rw[a0z]
  have bm:(Cb m k).toNat=m/256^k%256:=by unfold Cb;rw[a0z]
  rw[hp,hn,hm];show compareBytes (Cb n k::(Ns n k++X)) (Cb m k::(Ns m k++Y))=_;generalize n/256^k%256=a at*;generalize m/256^k%256=b at*;generalize n%256^k=r at*;generalize m%256^k=s at*;generalize (256:Nat)^k=P at*
  rcases Nat.lt_trichotomy a b with h|h|h
  ·have h2:P*(a+1)≤P*b:=Nat.mul_le_mul_left _ h;rw[Nat.mul_add,Nat.mul_one] at h2;rw[J4 (UInt8.lt_iff_toNat_lt.2 (by omega)),if_neg (by omega),Qk (by omega)]
  ·subst h;obtain e:Cb n k=Cb m k:=UInt8.toNat_inj.1 (by omega);rw[e,Iy,ih]
   by_cases hrs:r=s
   ·rw[if_pos hrs,if_pos (by omega)]
   ·rw[if_neg hrs,if_neg (by omega)]
    rcases Nat.lt_or_gt_of_ne hrs with h|h
    ·rw[Qk h,Qk (by omega)]
    ·rw[Ql h,Ql (by omega)]
  ·have h2:P*(b+1)≤P*a:=Nat.mul_le_mul_left _ h;rw[Nat.mul_add,Nat.mul_one] at h2;rw[J5 (UInt8.lt_iff_toNat_lt.2 (by omega)),if_neg (by omega),Ql (by omega)]
theorem Zs(n m:Nat)(hn:n<18446744073709551616)(hm:m<18446744073709551616)(X Y:List UInt8):compareBytes (J3 n++X) (J3 m++Y)=if n=m then compareBytes X Y else Dq n m:=by
 have h:=Zr n m X Y 8
 have e:(256:Nat)^8=18446744073709551616:=by decide
 rw[e,Nat.mod_eq_of_lt hn,Nat.mod_eq_of_lt hm] at h;rw[Zq,Zq];exact h
theorem Sz{a b:Nat}(h:Dq a b=0):a=b:=by
 unfold Dq at h
 by_cases h1:a<b
 ·rw[if_pos h1] at h;exact absurd h (by decide)
 ·by_cases h2:b<a
  ·rw[if_neg h1,if_pos h2] at h;exact absurd h (by decide)
  ·omega
theorem Zt(a b:Nat)(ha:a<18446744073709551616)(hb:b<18446744073709551616):Dq (En-a) (En-b)=Dq b a:=by
 unfold Dq En
 by_cases h1:b<a
 ·rw[if_pos h1,if_pos (by omega)]
 ·by_cases h2:a<b
  ·rw[if_neg h1,if_pos h2,if_neg (by omega),if_pos (by omega)]
  ·rw[if_neg h1,if_neg h2,if_neg (by omega),if_neg (by omega)]
theorem Nu(a b:Ac)(ha:Dm a)(hb:Dm b):compareBytes (Ed a) (Ed b)=Ep a b:=by
 unfold Ed Ep;rw[Zo];unfold E5
 by_cases h1:a.row.data.toList=b.row.data.toList
 ·have z1:Ee a.row b.row=0:=by unfold Ee;rw[h1];exact Qp _
  rw[if_pos h1,if_neg (by simp[z1]),Zo];unfold E5
  by_cases h2:a.col.data.toList=b.col.data.toList
  ·have z2:Ee a.col b.col=0:=by unfold Ee;rw[h2];exact Qp _
   rw[if_pos h2,if_neg (by simp[z2]),Zs _ _ (by unfold En;omega) (by unfold En;omega),Zt _ _ ha.ts hb.ts];unfold E5;have h5:=ha.ts;have h6:=hb.ts
   by_cases h3:En-a.ts=En-b.ts
   ·have z3:Dq b.ts a.ts=0:=by rw[show a.ts=b.ts by unfold En at h3;omega];exact O6 _
    have:=Zs (En-a.seq) (En-b.seq) (by unfold En;omega) (by unfold En;omega) [] [];rw[List.append_nil,List.append_nil] at this;rw[if_pos h3,if_neg (by simp[z3]),this,Zt _ _ ha.seq hb.seq];unfold E5;have h7:=ha.seq;have h8:=hb.seq
    by_cases h4:En-a.seq=En-b.seq
    ·have z4:Dq b.seq a.seq=0:=by rw[show a.seq=b.seq by unfold En at h4;omega];exact O6 _
     rw[if_pos h4,if_neg (by simp[z4])];rfl
    ·have z4:Dq b.seq a.seq≠0:=fun e=>h4 (by rw[Sz e])
     rw[if_neg h4,if_pos z4]
   ·have z3:Dq b.ts a.ts≠0:=fun e=>h3 (by rw[Sz e])
    rw[if_neg h3,if_pos z3]
  ·have z2:Ee a.col b.col≠0:=fun e=>h2 (Sv e)
   rw[if_neg h2,if_pos z2];rfl
 ·have z1:Ee a.row b.row≠0:=fun e=>h1 (Sv e)
  rw[if_neg h1,if_pos z1];rfl
theorem Zu(a:Ac)(ha:Dm a):Ep a a=0:=by rw[←Nu a a ha ha];exact Qp _
theorem Zv(a b:Ac)(ha:Dm a)(hb:Dm b):Ep b a= -Ep a b:=by rw[←Nu a b ha hb,←Nu b a hb ha];exact kW _ _
theorem Zw(a b c:Ac)(ha:Dm a)(hb:Dm b)(hc:Dm c)(h1:Ep a b≤0)(h2:Ep b c≤0):Ep a c≤0:=by
 rw[←Nu a b ha hb] at h1;rw[←Nu b c hb hc] at h2;rw[←Nu a c ha hc];exact kX h1 h2
theorem lB(a b:Ac)(ha:Dm a)(hb:Dm b):Ep a b= -1∨Ep a b=0∨Ep a b=1:=by
 rw[←Nu a b ha hb];exact Zn _ _
theorem Zx:∀(x y:List UInt8),Op.bytesLess x y=decide (compareBytes x y= -1)
 |_,[]=>by
  rename_i x
  cases x<;>simp[Op.bytesLess,compareBytes]
 |[],_ ::_=>by simp[Op.bytesLess,compareBytes]
 |a::x,b::y=>by
  have ih:=Zx x y;unfold Op.bytesLess
  rcases Nat.lt_trichotomy a.toNat b.toNat with k|k|k
  ·have h:=UInt8.lt_iff_toNat_lt.2 k;rw[J4 h];simp[h]
  ·obtain rfl:a=b:=UInt8.toNat_inj.1 k;rw[Iy,ih];simp[UInt8.lt_irrefl]
  ·have h:=UInt8.lt_iff_toNat_lt.2 k;rw[J5 h];have h2:¬a<b:=UInt8.lt_asymm h
   have h3:¬a=b:=fun e=>by rw[e] at k;omega
   simp[h2,h3]
end
end
section
section
open Go.RowKit
end
section
open Go.RowKit
end
section
open Go.RowKit
theorem lC{w:World}{g n m:Nat}(hg:w.heap[g]?=some (.cells #[.int .u8 n,.int .u8 m] 5 (0,0)))(h:n<256)(h2:m<256):(convert 113 9 (.slice (some ⟨g,0,none⟩) 2 2)).run Tryz.prog w=.ok (.string (bl [a0x n,a0x m])) w:=by
 refine Qj (cap:=2) (n:=2) (f:=fun j=>if j=0 then a0x n else a0x m) ⟨Ab hg,fun j hj=>?_,fun j _=>Aw hg j⟩
 have h3:j=0∨j=1:=by omega
 rcases h3 with rfl|rfl
 ·rw[Aa hg,if_pos rfl,O4 h];rfl
 ·rw[Aa hg,if_neg (by decide),O4 h2];rfl
theorem Nv(a b:List UInt8):bl a++bl b=bl (a++b):=by
 rw[←Lib.mk_data (bl a++bl b)];unfold bl;simp
end
end
end Go.Proofs.YtkagolpnaicdoaaGreatDoor
