/-
 Decode. Encode. Encode and Decode: plain laws. The small case of layer 1, and the bound. Cells stand as their keys' bytes do. The reference of layer 1: May, Number, value, short. The reference of layer 1: Number, Encode. The reference of layer 1: Encode. The reference of layer 1: text, Cmp, Same. Slices of cells; Rising, the program's and the reference's. Items: a cell, and where it stands; how they stand; the last one of each coordinate, in order: there is just one such list. Lists of items, sorted on a stretch; an exchange of two; insertion: plain.
-/
import Derived.Test.YtkagolpnaicdoaaGreatDoorPCellLaw
import Derived.Laws.DeepStrings4
import Derived.Laws.Cover1
set_option maxRecDepth 100000
set_option maxHeartbeats 8000000
open List renaming getD_eq_getElem?_getD->a0z,mem_cons_self->a0w,getElem?_eq_getElem->a0v,not_mem_nil->a0u,mem_cons_of_mem->a1z,setIfInBounds_toArray->a1x,mem_append_left->a1v,set_cons_succ->a2z,set_cons_zero->a2x,reverse_cons->a2w,reverse_nil->a2u,cons_append->a3z,append_nil->a3x,nil_append->a3w,mem_append_right->a3v
open Go.Lib renaming hid->a0x
open UInt8 renaming toNat_ofNat'->a1w,ofNat->a1u
open Nat renaming mod_eq_of_lt->a2v
namespace Go.Proofs.YtkagolpnaicdoaaGreatDoor
section
section
open Go.RowKit
end
section
open Go.RowKit
def Np(d:Bool):UInt8:=if d then 1 else 0
end
section
open Go.Lib
def bl(l:List UInt8):ByteArray:=⟨l.toArray⟩
theorem L1(s:ByteArray):bl s.data.toList=s:=mk_data s
theorem Dm(l:List UInt8):(bl l).size=l.length:=by show l.toArray.size=_;simp
theorem Nq(l:List UInt8):(bl l).data.toList=l:=by simp[bl]
theorem S3(l:List UInt8)(a b:Nat):(bl l).extract a b=bl ((l.drop a).take (b-a)):=by
 rw[<-L1 ((bl l).extract a b)];congr 1;rw[extract_data,Nq]
theorem K8(l:List UInt8)(j:Nat):A5 (bl l) j=l.getD j 0:=by unfold A5;rw[Nq]
theorem toNat_ofNat{n:Nat}(h:n<256):(a1u n).toNat=n:=by rw[a1w,a2v h]
theorem aN(n:Nat)(y:List UInt8):∀k,k≤8→Bn (bl (Gx n++y)) k=n%256^k
 |0,_=>by simp[Bn,Nat.mod_one]
 |k+1,h=>by
  show Bn _ k+_ =_;rw[aN n y k (by omega),K8,a0z,List.getElem?_append_left (by rw[P6];omega)]
  have:(Gx n)[k]?=some (Dc n k):=by
   unfold Gx;rw[List.getElem?_map,List.getElem?_range (by omega)];rfl
  rw[this];show _ +(Dc n k).toNat*_ =_;unfold Dc;have f:=Nat.mod_mul (x:=n) (a:=256^k) (b:=256);have d:(256:Nat)^(k+1)=256^k*256:=Nat.pow_succ _ _;rw[a1w,show(2:Nat)^8=256 from rfl,d,f,Nat.mul_comm (256^k) (n/256^k%256)]
end
section
open Go.RowKit
def cb:Aa:=⟨⟨#[114]⟩,⟨#[99]⟩,4,0,false,⟨#[]⟩⟩
end
section
open Go.Lib
def Q1(n:Nat):Nat->List UInt8
 |0=>[]
 |k+1=>Dc n k::Q1 n k
theorem iI(n:Nat):E8 n=Q1 n 8:=rfl
theorem S4(n:Nat):Ds n n=0:=T8 (Nat.lt_irrefl _) (Nat.lt_irrefl _)
theorem iJ(n m:Nat)(X Y:List UInt8):∀k,compareBytes (Q1 n k++X) (Q1 m k++Y)=if n%256^k=m%256^k then compareBytes X Y else Ds (n%256^k) (m%256^k)
 |0=>by simp[Q1,Nat.mod_one]
 |k+1=>by
  have i:=iJ n m X Y k;have l:=Nat.mod_mul (x:=n) (a:=256^k) (b:=256);have o:=Nat.mod_mul (x:=m) (a:=256^k) (b:=256);have j:(256:Nat)^(k+1)=256^k*256:=Nat.pow_succ _ _;have d:0<(256:Nat)^k:=Nat.pow_pos (by decide);have p:=Nat.mod_lt n d;have q:=Nat.mod_lt m d
  have t:(Dc n k).toNat=n/256^k%256:=by unfold Dc;rw[a1w]
  have u:(Dc m k).toNat=m/256^k%256:=by unfold Dc;rw[a1w]
  rw[j,l,o];show compareBytes (Dc n k::(Q1 n k++X)) (Dc m k::(Q1 m k++Y))=_;generalize n/256^k%256=a at*;generalize m/256^k%256=b at*;generalize n%256^k=r at*;generalize m%256^k=s at*;generalize (256:Nat)^k=P at*
  rcases Nat.lt_trichotomy a b with h|h|h
  ·have g:P*(a+1)<=P*b:=Nat.mul_le_mul_left _ h;rw[Nat.mul_add,Nat.mul_one] at g;rw[Lx (UInt8.lt_iff_toNat_lt.2 (by omega)),if_neg (by omega),Qk (by omega)]
  ·subst h;obtain e:Dc n k=Dc m k:=UInt8.toNat_inj.1 (by omega);rw[e,Ko,i]
   by_cases f:r=s
   ·rw[if_pos f,if_pos (by omega)]
   ·rw[if_neg f,if_neg (by omega)]
    rcases Nat.lt_or_gt_of_ne f with h|h
    ·rw[Qk h,Qk (by omega)]
    ·rw[Ql h,Ql (by omega)]
  ·have g:P*(b+1)<=P*a:=Nat.mul_le_mul_left _ h;rw[Nat.mul_add,Nat.mul_one] at g;rw[Ly (UInt8.lt_iff_toNat_lt.2 (by omega)),if_neg (by omega),Ql (by omega)]
theorem iK(n m:Nat)(a:n<18446744073709551616)(b:m<18446744073709551616)(X Y:List UInt8):compareBytes (E8 n++X) (E8 m++Y)=if n=m then compareBytes X Y else Ds n m:=by
 have h:=iJ n m X Y 8
 have e:(256:Nat)^8=18446744073709551616:=by decide
 rw[e,a2v a,a2v b] at h;rw[iI,iI];exact h
theorem Xs{a b:Nat}(h:Ds a b=0):a=b:=by
 unfold Ds at h
 by_cases d:a<b
 ·rw[if_pos d] at h;exact absurd h (by decide)
 ·by_cases f:b<a
  ·rw[if_neg d,if_pos f] at h;exact absurd h (by decide)
  ·omega
theorem iL(a b:Nat)(h:a<18446744073709551616)(g:b<18446744073709551616):Ds (A8-a) (A8-b)=Ds b a:=by
 unfold Ds A8
 by_cases d:b<a
 ·rw[if_pos d,if_pos (by omega)]
 ·by_cases f:a<b
  ·rw[if_neg d,if_pos f,if_neg (by omega),if_pos (by omega)]
  ·rw[if_neg d,if_neg f,if_neg (by omega),if_neg (by omega)]
theorem Q2(a b:Aa)(f:B3 a)(d:B3 b):compareBytes (Bq a) (Bq b)=Df a b:=by
 unfold Bq Df;rw[gR];unfold Ew
 by_cases j:a.row.data.toList=b.row.data.toList
 ·have z1:Bo a.row b.row=0:=by unfold Bo;rw[j];exact P5 _
  rw[if_pos j,if_neg (by simp[z1]),gR];unfold Ew
  by_cases i:a.col.data.toList=b.col.data.toList
  ·have z2:Bo a.col b.col=0:=by unfold Bo;rw[i];exact P5 _
   rw[if_pos i,if_neg (by simp[z2]),iK _ _ (by unfold A8;omega) (by unfold A8;omega),iL _ _ f.ts d.ts];unfold Ew;have p:=f.ts;have o:=d.ts
   by_cases h:A8-a.ts=A8-b.ts
   ·have l:Ds b.ts a.ts=0:=by rw[show a.ts=b.ts by unfold A8 at h;omega];exact S4 _
    have:=iK (A8-a.seq) (A8-b.seq) (by unfold A8;omega) (by unfold A8;omega) [] [];rw[a3x,a3x] at this;rw[if_pos h,if_neg (by simp[l]),this,iL _ _ f.seq d.seq];unfold Ew;have n:=f.seq;have m:=d.seq
    by_cases g:A8-a.seq=A8-b.seq
    ·have k:Ds b.seq a.seq=0:=by rw[show a.seq=b.seq by unfold A8 at g;omega];exact S4 _
     rw[if_pos g,if_neg (by simp[k])];rfl
    ·have k:Ds b.seq a.seq≠0:=fun e=>g (by rw[Xs e])
     rw[if_neg g,if_pos k]
   ·have l:Ds b.ts a.ts≠0:=fun e=>h (by rw[Xs e])
    rw[if_neg h,if_pos l]
  ·have z2:Bo a.col b.col≠0:=fun e=>i (Ve e)
   rw[if_neg i,if_pos z2];rfl
 ·have z1:Bo a.row b.row≠0:=fun e=>j (Ve e)
  rw[if_neg j,if_pos z1];rfl
theorem iM(a:Aa)(b:B3 a):Df a a=0:=by rw[<-Q2 a a b b];exact P5 _
theorem iN(a b:Aa)(f:B3 a)(d:B3 b):Df b a= -Df a b:=by rw[<-Q2 a b f d,<-Q2 b a d f];exact gQ _ _
theorem iO(a b c:Aa)(g:B3 a)(f:B3 b)(d:B3 c)(i:Df a b<=0)(h:Df b c<=0):Df a c<=0:=by
 rw[<-Q2 a b g f] at i;rw[<-Q2 b c f d] at h;rw[<-Q2 a c g d];exact aG i h
theorem vD(a b:Aa)(f:B3 a)(d:B3 b):Df a b= -1∨Df a b=0∨Df a b=1:=by
 rw[<-Q2 a b f d];exact Xm _ _
theorem Xt:∀(x y:List UInt8),Op.bytesLess x y=decide (compareBytes x y= -1)
 |_,[]=>by
  rename_i x
  cases x<;>simp[Op.bytesLess,compareBytes]
 |[],_ ::_=>by simp[Op.bytesLess,compareBytes]
 |a::x,b::y=>by
  have d:=Xt x y;unfold Op.bytesLess
  rcases Nat.lt_trichotomy a.toNat b.toNat with k|k|k
  ·have h:=UInt8.lt_iff_toNat_lt.2 k;rw[Lx h];simp[h]
  ·obtain rfl:a=b:=UInt8.toNat_inj.1 k;rw[Ko,d];simp[UInt8.lt_irrefl]
  ·have h:=UInt8.lt_iff_toNat_lt.2 k;rw[Ly h];have g:¬a<b:=UInt8.lt_asymm h
   have f:¬a=b:=fun e=>by rw[e] at k;omega
   simp[g,f]
end
end
section
section
open Go.RowKit
end
section
open Go.RowKit
theorem L0.congr{w:World}{b n:Nat}{f g:Nat->UInt8}(h:L0 w b n f)(a:∀t,t<n->f t=g t):L0 w b n g:=
 ⟨h.lt,fun j d=>by rw[h.cell j d,a j d],h.free⟩
end
section
open Go.RowKit
theorem vE{w:World}{g n m:Nat}(a:w.heap[g]?=some (.cells #[.int .u8 n,.int .u8 m] 5 (0,0)))(h:n<256)(d:m<256):(convert 113 9 (.slice (some ⟨g,0,none⟩) 2 2)).run Tryz.prog w=.ok (.string (bl [a1u n,a1u m])) w:=by
 refine Vf (cap:=2) (n:=2) (f:=fun j=>if j=0 then a1u n else a1u m) ⟨Ac a,fun j i=>?_,fun j _=>Ar a j⟩
 have b:j=0∨j=1:=by omega
 rcases b with rfl|rfl
 ·rw[Ab a,if_pos rfl,Nn h];rfl
 ·rw[Ab a,if_neg (by decide),Nn d];rfl
theorem Q3(a b:List UInt8):bl a++bl b=bl (a++b):=by
 rw[<-Lib.mk_data (bl a++bl b)];unfold bl;simp
end
end
section
section
open Go.RowKit
theorem vG(a b:List UInt8):(a==b)=decide (Lib.compareBytes a b=0):=by
 by_cases e:a=b
 ·rw[e,P5];simp
 ·rw[beq_eq_false_iff_ne.2 e]
  symm
  exact decide_eq_false (fun h=>e (Ve h))
theorem iP(a b:ByteArray)(w:World):Calls Tryz.prog 138 #[.string a,.string b] w fun e w'=>e=.returned (.int .i64 (Bo a b))/\w=w':=by
 have less:Op.bytesLess a.toList b.toList=decide (Bo a b= -1):=by rw[Xt,ByteArray.toList_eq,ByteArray.toList_eq];rfl
 have same:(a.toList==b.toList)=decide (Bo a b=0):=by rw[vG,ByteArray.toList_eq,ByteArray.toList_eq];rfl
 have f:Bo a b= -1∨Bo a b=0∨Bo a b=1:=Xm _ _
 obtain⟨x,d⟩:∃x,Bo a b=x:=⟨_,rfl⟩
 rw[d] at less same f ⊢;clear d
 rcases f with rfl|rfl|rfl
 ·have less:Op.bytesLess a.toList b.toList=true:=less;have same:(a.toList==b.toList)=false:=same;go_enter Tryz.func138,Tryz.ntmps138;go_wp2_with (fail);go_ret;exact⟨rfl,rfl⟩
 ·have less:Op.bytesLess a.toList b.toList=false:=less;have same:(a.toList==b.toList)=true:=same;go_enter Tryz.func138,Tryz.ntmps138;go_wp2_with (fail);go_ret;exact⟨rfl,rfl⟩
 ·have less:Op.bytesLess a.toList b.toList=false:=less;have same:(a.toList==b.toList)=false:=same;go_enter Tryz.func138,Tryz.ntmps138;go_wp2_with (fail);go_ret;exact⟨rfl,rfl⟩
theorem iQ(a b:Aa)(w:World):Calls Tryz.prog 82 #[Bm a,Bm b] w fun e w'=>e=.returned (.int .i64 (Df a b))∧Fp [] w w':=by
 have n:Hid (Df a b=Ew [Bo a.row b.row,Bo a.col b.col,Ds b.ts a.ts,Ds b.seq a.seq]):=rfl
 have t:=fun w=>iP a.row b.row w
 have s:=fun w=>iP a.col b.col w
 unfold Bm
 obtain⟨r,m⟩:∃x,Bo a.row b.row=x:=⟨_,rfl⟩
 obtain⟨q,l⟩:∃x,Bo a.col b.col=x:=⟨_,rfl⟩
 rw[m] at n t;rw[l] at n s;clear m l;have h:=a0x t;have k:=a0x s;clear t s;have g:=a0x ((Fp.alloc w (.cells #[.string a.row,.string a.col,.int .u64 a.ts,.int .u64 a.seq,.bool a.del,.string a.val] 80)).alloc' (.cells #[.string b.row,.string b.col,.int .u64 b.ts,.int .u64 b.seq,.bool b.del,.string b.val] 80))
 by_cases p:r=0
 case neg=>
  have d:Hid (Df a b=r):=by unfold Hid;rw[n.out];exact if_pos p
  have A:(r !=0)=true:=by simpa using p
  clear p;go_enter Tryz.func82,Tryz.ntmps82;go_wp2_with (first|(go_at_call 138;(with_reducible refine(h.out _).mono ?_);rintro e f ⟨rfl,rfl⟩));go_ret;rw[d.out];exact⟨rfl,g.out⟩
 subst p
 by_cases o:q=0
 case neg=>
  have d:Hid (Df a b=q):=by unfold Hid;rw[n.out];unfold Ew;rw[if_neg (by simp)];exact if_pos o
  have A:(q !=0)=true:=by simpa using o
  clear o;go_enter Tryz.func82,Tryz.ntmps82;go_wp2_with (first|(go_at_call 138;(with_reducible refine(h.out _).mono ?_);rintro e f ⟨rfl,rfl⟩)|(go_at_call 138;(with_reducible refine(k.out _).mono ?_);rintro e f ⟨rfl,rfl⟩));go_ret;rw[d.out];exact⟨rfl,g.out⟩
 subst o;have j:Hid (Df a b=Ew [Ds b.ts a.ts,Ds b.seq a.seq]):=n.out
 by_cases z:b.ts<a.ts
 ·have d:Hid (Df a b= -1):=by unfold Hid;rw[j.out,Qk z];rfl
  go_enter Tryz.func82,Tryz.ntmps82;go_wp2_with (first|(go_at_call 138;(with_reducible refine(h.out _).mono ?_);rintro e f ⟨rfl,rfl⟩)|(go_at_call 138;(with_reducible refine(k.out _).mono ?_);rintro e f ⟨rfl,rfl⟩));go_ret;rw[d.out];exact⟨rfl,g.out⟩
 by_cases y:a.ts<b.ts
 ·have d:Hid (Df a b=1):=by unfold Hid;rw[j.out,Ql y];rfl
  go_enter Tryz.func82,Tryz.ntmps82;go_wp2_with (first|(go_at_call 138;(with_reducible refine(h.out _).mono ?_);rintro e f ⟨rfl,rfl⟩)|(go_at_call 138;(with_reducible refine(k.out _).mono ?_);rintro e f ⟨rfl,rfl⟩));go_ret;rw[d.out];exact⟨rfl,g.out⟩
 have i:Hid (Df a b=Ew [Ds b.seq a.seq]):=by unfold Hid;rw[j.out,T8 z y];rfl
 by_cases v:b.seq<a.seq
 ·have d:Hid (Df a b= -1):=by unfold Hid;rw[i.out,Qk v];rfl
  go_enter Tryz.func82,Tryz.ntmps82;go_wp2_with (first|(go_at_call 138;(with_reducible refine(h.out _).mono ?_);rintro e f ⟨rfl,rfl⟩)|(go_at_call 138;(with_reducible refine(k.out _).mono ?_);rintro e f ⟨rfl,rfl⟩));go_ret;rw[d.out];exact⟨rfl,g.out⟩
 by_cases u:a.seq<b.seq
 ·have d:Hid (Df a b=1):=by unfold Hid;rw[i.out,Ql u];rfl
  go_enter Tryz.func82,Tryz.ntmps82;go_wp2_with (first|(go_at_call 138;(with_reducible refine(h.out _).mono ?_);rintro e f ⟨rfl,rfl⟩)|(go_at_call 138;(with_reducible refine(k.out _).mono ?_);rintro e f ⟨rfl,rfl⟩));go_ret;rw[d.out];exact⟨rfl,g.out⟩
 have d:Hid (Df a b=0):=by unfold Hid;rw[i.out,T8 v u];rfl
 go_enter Tryz.func82,Tryz.ntmps82;go_wp2_with (first|(go_at_call 138;(with_reducible refine(h.out _).mono ?_);rintro e f ⟨rfl,rfl⟩)|(go_at_call 138;(with_reducible refine(k.out _).mono ?_);rintro e f ⟨rfl,rfl⟩));go_ret;rw[d.out];exact⟨rfl,g.out⟩
theorem iR(a b:Aa)(w:World):Calls Tryz.prog 81 #[Bm a,Bm b] w fun e w'=>e=.returned (.bool (I7 a b))∧Fp [] w w':=by
 unfold Bm
 by_cases f:a.row.toList=b.row.toList
 ·by_cases d:a.col.toList=b.col.toList
  ·go_enter Tryz.func81,Tryz.ntmps81;go_wp2_with (fail);go_ret;refine⟨Ks ?_,(Fp.alloc _ _).alloc' _⟩;unfold I7;rw[f,d,Bool.eq_iff_iff];simp;omega
  ·have g:(a.col.toList==b.col.toList)=false:=by simpa using d
   go_enter Tryz.func81,Tryz.ntmps81;go_wp2_with (fail);go_ret;exact⟨Ks (by unfold I7;rw[g];simp),(Fp.alloc _ _).alloc' _⟩
 ·have h:(a.row.toList==b.row.toList)=false:=by simpa using f
  go_enter Tryz.func81,Tryz.ntmps81;go_wp2_with (fail);go_ret;exact⟨Ks (by unfold I7;rw[h];simp),(Fp.alloc _ _).alloc' _⟩
end
section
open Go.RowKit
def I1(l:List Aa)(i:Nat):Bool:=decide (0<i)&&decide (0<=Df (l.getD (i-1) Az) (l.getD i Az))
def risC(l:List Aa):Bool:=!(List.range l.length).any (I1 l)
theorem aO{l:List Aa}{k:Nat}(a:k<l.length)(h:I1 l k=true):risC l=false:=by
 unfold risC;rw[List.any_eq_true.2 ⟨k,List.mem_range.2 a,h⟩];rfl
theorem Vi{l:List Aa}(h:∀j,j<l.length->I1 l j=false):risC l=true:=by
 unfold risC;rw[List.any_eq_false.2 (fun x a=>by rw[h x (List.mem_range.1 a)];decide)];rfl
theorem aP{l:List Aa}{k m:Nat}(f:k<l.length)(d:k=m+1)(x y:Aa)(b:l[m]'(by omega)=x)(a:l[k]=y):I1 l k=decide (0<=Df x y):=by
 subst d;unfold I1;rw[decide_eq_true (by omega),Bool.true_and,Nat.add_sub_cancel];rw[a0z,a0z,a0v (by omega),a0v f];simp only[Option.getD_some,b,a]
theorem vH{l:List Aa}{j:Nat}(h:j<1):I1 l j=false:=by
 obtain rfl:j=0:=by omega
 rfl
theorem Xu(w:World)(a:Option Addr)(len cap:Nat)(l:List Aa)(F:Bh w a len l)(hn:len≤9223372036854775807):
  Calls Tryz.prog 93 #[.slice a len cap] w fun e w'=>e=.returned (.bool (risC l))/\Fp [] w w':=by
 have HL:=a0x F;have q:=F.len;have s:=a0x q;clear F q;go_enter Tryz.func93,Tryz.ntmps93;go_wp2_with (fail)
 go_loopg [6] len (fun g V wr=>∃k:Nat,g+k=len/\V=.int .i64 k/\(∀j,j<k->I1 l j=false)/\Fp [] w wr)
 case atStart=>exact⟨0,rfl,rfl,by intro j G;omega,Fp.refl _ _⟩
 case round=>
  obtain⟨k,hg,rfl,r,h⟩:=hrel;have t:=a0x r;have C:=a0x h;clear r h
  by_cases hk:k<len
  ·by_cases T:k=0
   ·subst T
    have ab:¬((0:Nat):Int)>0:=by decide
    rw[show((0:Nat):Int)=0 from rfl];go_wp2_with (fail);refine C9 (by kernel_rfl) (by kernel_rfl) ?_
    iterate 3
     apply Aw rfl rfl rfl
     ·intro a w f d K u
      try have h3:=d.fr 3 rfl
      try have h9:=d.eq 0 9 rfl
      try have P:=d.eq 1 10 rfl
      simp only[Oper.wp,execOp];go_simp;exact u _ f (Fp.refl _ _)
    apply An 2 11 rfl rfl rfl rfl (by kernel_rfl) rfl rfl;apply An 2 11 rfl rfl rfl rfl (by kernel_rfl) rfl rfl;apply An 2 11 rfl rfl rfl rfl (by kernel_rfl) rfl rfl;apply An 2 11 rfl rfl rfl rfl (by kernel_rfl) rfl rfl;apply An 2 11 rfl rfl rfl rfl (by kernel_rfl) rfl rfl;apply An 2 11 rfl rfl rfl rfl (by kernel_rfl) rfl rfl;apply An 2 11 rfl rfl rfl rfl (by kernel_rfl) rfl rfl;apply An 2 11 rfl rfl rfl rfl (by kernel_rfl) rfl rfl;apply An 2 11 rfl rfl rfl rfl (by kernel_rfl) rfl rfl;apply An 2 11 rfl rfl rfl rfl (by kernel_rfl) rfl rfl;apply An 2 11 rfl rfl rfl rfl (by kernel_rfl) rfl rfl;apply Aw rfl rfl rfl
    ·intro a w f d K u;have O:=d.eq 2 11 rfl;have N:=d.eq 13 22 rfl;simp only[Oper.wp,execOp];go_simp;exact u _ f (Fp.refl _ _)
    refine⟨?_,?_⟩
    ·repeat(first|exact trivial|refine B7 _ ?_ |refine⟨fun U w2 v _ h ⟨g,Q,A⟩=>⟨g,Q,(h.block g (Ac A) (by simp)).trans A⟩,?_⟩)
    ·intro w' f;simp only[a2w,a2u,a3w,a3z]
     iterate 15 (refine Am ?_)
     refine A0 ?_;simp only[Aj,Act.put,a1x,a2z,a2x];have p:=a0x (C.out.trans f (by simp));clear f;go_wp2_with (fail)
     go_roundg (gk-1)
     case measure=>omega
     case rel=>
      refine⟨1,by omega,rfl,?_,p.out⟩;intro j G
      obtain rfl:j=0:=by omega
      rfl
   ·obtain⟨m,S⟩:∃m,k=m+1:=⟨k-1,by omega⟩
    have i:k<l.length:=by rw[<-s.out];exact hk
    obtain⟨x,E⟩:∃x,l[m]'(by omega)=x:=⟨_,rfl⟩
    obtain⟨y,D⟩:∃y,l[k]=y:=⟨_,rfl⟩
    have n:=a0x (aP i S x y E D)
    rcases HL.out.cells with he|⟨b,o,rfl,J,I⟩
    ·rw[he] at i;exact absurd i (by simp)
    have M:=I m (by omega);have L:=I k i;rw[E] at M;rw[D] at L
    have R:Hid (∀w',Fp [] w w'->Jl w' b (o+m*6) x/\Jl w' b (o+k*6) y):=fun w' h=>⟨M.fp h J (by simp),L.fp h J (by simp)⟩
    have B:=fun w=>nF x y w
    unfold Bm at B
    obtain⟨v,z⟩:∃v,Df x y=v:=⟨_,rfl⟩
    rw[z] at B n;have C1:=a0x B
    have W:IntKind.i64.wrap ((k:Int)-1)=(m:Int):=by rw[IntWalk.i64_in _ (by omega)];omega
    have aa:0<k:=by omega
    have Y:(m:Int)<(len:Int):=by omega
    have Z:(k:Int)<(len:Int):=by omega
    have X:m<len:=by omega
    clear E D I M L B z J S;go_wp2_with (fail);refine C9 (by kernel_rfl) (by kernel_rfl) ?_
    iterate 15
     first|apply Aw rfl rfl rfl|apply Hr 2 11 rfl rfl rfl rfl (by kernel_rfl) rfl rfl
     ·intro a w f d K u
      try have h3:=d.fr 3 rfl
      try have h9:=d.eq 0 9 rfl
      try have P:=d.eq 1 10 rfl
      try have T:=d.fr 0 rfl
      try have ak:=d.eq 4 13 rfl
      try have al:=d.eq 3 12 rfl
      try have aj:=d.eq 5 14 rfl
      try have ai:=d.eq 6 15 rfl
      try have ag:=d.eq 8 17 rfl
      try have af:=d.eq 9 18 rfl
      try have ae:=d.eq 10 19 rfl
      try have ah:=d.eq 7 16 rfl
      try have ad:=d.eq 11 20 rfl
      try have ac:=d.eq 12 21 rfl
      try have O:=d.eq 2 11 rfl
      try have N:=d.eq 13 22 rfl
      obtain⟨⟨x0,x1,x2,x3,x4,x5⟩,⟨y0,y1,y2,y3,y4,y5⟩⟩:=R.out _ (C.out.trans f (by simp));simp only[Oper.wp,execOp];go_simp
      first
      |exact u _ f (Fp.refl _ _)
      |(with_reducible refine(C1.out _).mono ?_)
       rintro e w2 ⟨rfl,h⟩;exact u _ (f.trans h (by simp)) h
    refine⟨?_,?_⟩
    ·repeat(first|exact trivial|refine B7 _ ?_ |refine⟨fun U w2 v _ h ⟨g,Q,A⟩=>⟨g,Q,(h.block g (Ac A) (by simp)).trans A⟩,?_⟩)
    ·intro w' f;simp only[a2w,a2u,a3w,a3z]
     iterate 15 (refine Am ?_)
     refine A0 ?_;simp only[Aj,Act.put,a1x,a2z,a2x];have p:=a0x (C.out.trans f (by simp));clear f
     by_cases z:0<=v
     ·have H:=a0x (aO i (by rw[n.out];exact decide_eq_true z));go_wp2_with (fail);go_ret;rw[H.out];exact⟨rfl,p.out⟩
     ·have H:Hid (I1 l k=false):=by unfold Hid;rw[n.out];exact decide_eq_false z
      go_wp2_with (fail)
      go_roundg (gk-1)
      case measure=>omega
      case rel=>exact⟨k+1,by omega,by go_num,fun j G=>by
             by_cases e:j=k
             ·rw[e];exact H.out
             ·exact t.out j (by omega),p.out⟩
  ·have H:=a0x (Vi (l:=l) (fun j G=>t.out j (by have:=s.out;omega)));go_wp2_with (fail);go_ret;rw[H.out];exact⟨rfl,C.out⟩
theorem vI(w:World)(a:Option Addr)(len cap:Nat)(l:List Aa)(C:Bh w a len l)(hn:len≤9223372036854775807):
  Calls Tryz.prog 43 #[.slice a len cap] w fun e w'=>e=.returned (.bool (risC l))/\Fp [] w w':=by
 have HL:=a0x C;have n:=C.len;have q:=a0x n;clear C n;go_enter Tryz.func43,Tryz.ntmps43;go_wp2_with (fail)
 go_loopg [3] len (fun g P wr=>∃k:Nat,g+k=len+1/\1<=k/\P=.int .i64 k/\(∀j,j<k->I1 l j=false)/\Fp [] w wr)
 case atStart=>exact⟨1,rfl,Nat.le_refl _,rfl,fun _ D=>vH D,Fp.refl _ _⟩
 case round=>
  obtain⟨k,hg,U,rfl,p,i⟩:=hrel;have r:=a0x p;have L:=a0x i;clear p i
  by_cases V:k<len
  ·obtain⟨m,M⟩:∃m,k=m+1:=⟨k-1,by omega⟩
   have f:k<l.length:=by rw[<-q.out];exact V
   obtain⟨x,B⟩:∃x,l[m]'(by omega)=x:=⟨_,rfl⟩
   obtain⟨y,A⟩:∃y,l[k]=y:=⟨_,rfl⟩
   have h:=a0x (aP f M x y B A)
   rcases HL.out.cells with W|⟨b,o,rfl,F,E⟩
   ·rw[W] at f;exact absurd f (by simp)
   have I:=E m (by omega);have G:=E k f;rw[B] at I;rw[A] at G
   have J:Hid (∀w',Fp [] w w'->Jl w' b (o+m*6) x/\Jl w' b (o+k*6) y):=fun w' i=>⟨I.fp i F (by simp),G.fp i F (by simp)⟩
   have z:=fun w=>iQ x y w
   unfold Bm at z
   obtain⟨v,t⟩:∃v,Df x y=v:=⟨_,rfl⟩
   rw[t] at z h;have C1:=a0x z
   have Q:IntKind.i64.wrap ((k:Int)-1)=(m:Int):=by rw[IntWalk.i64_in _ (by omega)];omega
   have S:(m:Int)<(len:Int):=by omega
   have T:(k:Int)<(len:Int):=by omega
   have R:m<len:=by omega
   clear B A E I G z t F M;go_wp2_with (fail);refine C9 (by kernel_rfl) (by kernel_rfl) ?_
   iterate 11
    apply Aw rfl rfl rfl
    ·intro a w s d K N
     try have h0:=d.fr 0 rfl
     try have h3:=d.fr 3 rfl
     try have af:=d.eq 1 11 rfl
     try have ag:=d.eq 0 10 rfl
     try have ae:=d.eq 2 12 rfl
     try have ad:=d.eq 3 13 rfl
     try have ab:=d.eq 5 15 rfl
     try have aa:=d.eq 6 16 rfl
     try have Z:=d.eq 7 17 rfl
     try have ac:=d.eq 4 14 rfl
     try have Y:=d.eq 8 18 rfl
     try have X:=d.eq 9 19 rfl
     obtain⟨⟨x0,x1,x2,x3,x4,x5⟩,⟨y0,y1,y2,y3,y4,y5⟩⟩:=J.out _ (L.out.trans s (by simp));simp only[Oper.wp,execOp];go_simp
     first
     |exact N _ s (Fp.refl _ _)
     |(with_reducible refine(C1.out _).mono ?_)
      rintro e w2 ⟨rfl,i⟩;exact N _ (s.trans i (by simp)) i
   refine⟨?_,?_⟩
   ·repeat(first|exact trivial|refine B7 _ ?_ |refine⟨fun w1 w2 v _ i ⟨g,h1,O⟩=>⟨g,h1,(i.block g (Ac O) (by simp)).trans O⟩,?_⟩)
   ·intro w' s;simp only[a2w,a2u,a3w,a3z]
    iterate 11 (refine Am ?_)
    refine A0 ?_;simp only[Aj,Act.put,a1x,a2z,a2x];have u:=a0x (L.out.trans s (by simp));clear s
    by_cases t:0<=v
    ·have H:=a0x (aO f (by rw[h.out];exact decide_eq_true t));go_wp2_with (fail);go_ret;rw[H.out];exact⟨rfl,u.out⟩
    ·have H:Hid (I1 l k=false):=by unfold Hid;rw[h.out];exact decide_eq_false t
     go_wp2_with (fail)
     go_roundg (gk-1)
     case measure=>omega
     case rel=>exact⟨k+1,by omega,by omega,by go_num,fun j D=>by
            by_cases e:j=k
            ·rw[e];exact H.out
            ·exact r.out j (by omega),u.out⟩
  ·have H:=a0x (Vi (l:=l) (fun j D=>r.out j (by have:=q.out;omega)));go_wp2_with (fail);go_ret;rw[H.out];exact⟨rfl,L.out⟩
end
end
section
open Go.Lib
structure Ad where
 c:Aa
 pos:Nat
structure Cd(x:Ad):Prop where
 c:B3 x.c
 pos:x.pos<9223372036854775808
def Xv(x:Ad):Aa:={x.c with seq:=x.pos}
def I2(x:Ad):Aa:={x.c with seq:=0}
def D2(x y:Ad):Int:=Df (Xv x) (Xv y)
def Bt(x y:Ad):Int:=Df (I2 x) (I2 y)
def Ba(x y:Ad):Bool:=I7 x.c y.c
theorem P8{x:Ad}(h:Cd x):B3 (Xv x):=⟨h.c.ts,by have:=h.pos;show x.pos<_;omega,h.c.row,h.c.col,h.c.val⟩
theorem S5{x:Ad}(h:Cd x):B3 (I2 x):=⟨h.c.ts,by show 0<_;decide,h.c.row,h.c.col,h.c.val⟩
theorem Xw{x:Ad}(h:Cd x):D2 x x=0:=iM _ (P8 h)
theorem aQ{x y:Ad}(b:Cd x)(a:Cd y):D2 y x= -D2 x y:=iN _ _ (P8 b) (P8 a)
theorem vJ{x y z:Ad}(d:Cd x)(b:Cd y)(a:Cd z)(g:D2 x y<=0)(f:D2 y z<=0):D2 x z<=0:=iO _ _ _ (P8 d) (P8 b) (P8 a) g f
theorem vK{x y:Ad}(b:Cd x)(a:Cd y):D2 x y= -1∨D2 x y=0∨D2 x y=1:=vD _ _ (P8 b) (P8 a)
theorem iS{x:Ad}(h:Cd x):Bt x x=0:=iM _ (S5 h)
theorem Om{x y:Ad}(b:Cd x)(a:Cd y):Bt y x= -Bt x y:=iN _ _ (S5 b) (S5 a)
theorem vL{x y z:Ad}(d:Cd x)(b:Cd y)(a:Cd z)(g:Bt x y<=0)(f:Bt y z<=0):Bt x z<=0:=iO _ _ _ (S5 d) (S5 b) (S5 a) g f
theorem Vj(a b c d:Int):Ew [a,b,c,d]=if a≠0 then a else if b≠0 then b else if c≠0 then c else d:=by
 unfold Ew;split
 ·rfl
 ·unfold Ew;split
  ·rfl
  ·unfold Ew;split
   ·rfl
   ·unfold Ew;split
    ·rfl
    ·unfold Ew;omega
theorem Oo(x y:Ad):(Bt x y≠0∧D2 x y=Bt x y)∨(Bt x y=0∧D2 x y=Ds y.pos x.pos):=by
 unfold D2 Bt Df Xv I2;simp only;rw[Vj,Vj,S4 0]
 by_cases a:Bo x.c.row y.c.row=0
 ·by_cases b:Bo x.c.col y.c.col=0
  ·by_cases d:Ds y.c.ts x.c.ts=0
   ·right;simp[a,b,d]
   ·left;simp[a,b,d]
  ·left;simp[a,b]
 ·left;simp[a]
theorem aR{a b:ByteArray}(h:Bo a b=0):a=b:=by
 have:=Ve h;obtain⟨⟨a⟩⟩:=a;obtain⟨⟨b⟩⟩:=b
 simpa using this
theorem iT(a:ByteArray):Bo a a=0:=P5 _
theorem iU{a b:ByteArray}(h:a.toList=b.toList):a=b:=by
 rw[ByteArray.toList_eq,ByteArray.toList_eq] at h;obtain⟨⟨a⟩⟩:=a;obtain⟨⟨b⟩⟩:=b
 simpa using h
theorem S7(a b:Aa):I7 a b=true↔a.row=b.row/\a.col=b.col/\a.ts=b.ts:=by
 unfold I7;simp only[Bool.and_eq_true,beq_iff_eq];exact⟨fun⟨g,f,d⟩=>⟨iU g,iU f,by exact_mod_cast d⟩,fun⟨g,f,d⟩=>⟨by rw[g],by rw[f],by rw[d]⟩⟩
theorem K9(x y:Ad):Ba x y=true↔Bt x y=0:=by
 unfold Ba;rw[S7];unfold Bt Df I2;simp only;rw[Vj,S4 0];constructor
 ·rintro⟨a,b,d⟩;rw[a,b,d,iT,iT,S4]
  decide
 ·intro h
  by_cases a:Bo x.c.row y.c.row=0
  ·by_cases b:Bo x.c.col y.c.col=0
   ·by_cases d:Ds y.c.ts x.c.ts=0
    ·exact⟨aR a,aR b,(Xs d).symm⟩
    ·rw[if_neg (by simp[a]),if_neg (by simp[b]),if_pos d] at h;exact absurd h d
   ·rw[if_neg (by simp[a]),if_pos b] at h;exact absurd h b
  ·rw[if_pos a] at h;exact absurd h a
theorem Vk(x y:Ad):Ba x y=false↔Bt x y≠0:=by
 rw[<-Bool.not_eq_true,K9]
theorem Q4(x y:Ad):Ba x y=Ba y x:=by
 rw[Bool.eq_iff_iff];unfold Ba;rw[S7,S7];exact⟨fun⟨d,b,a⟩=>⟨d.symm,b.symm,a.symm⟩,fun⟨d,b,a⟩=>⟨d.symm,b.symm,a.symm⟩⟩
theorem Xx(x:Ad):Ba x x=true:=by unfold Ba;rw[S7];exact⟨rfl,rfl,rfl⟩
theorem Nr{x y z:Ad}(b:Ba x y=true)(a:Ba y z=true):Ba x z=true:=by
 unfold Ba at*;rw[S7] at*;exact⟨b.1.trans a.1,b.2.1.trans a.2.1,b.2.2.trans a.2.2⟩
theorem Vl{x y:Ad}(z:Ad)(h:Ba x y=true):Bt x z=Bt y z:=by
 unfold Ba at h;rw[S7] at h;unfold Bt Df I2;simp only;rw[h.1,h.2.1,h.2.2]
theorem iV{x y:Ad}(h:D2 x y=0):Ba x y=true/\x.pos=y.pos:=by
 rcases Oo x y with⟨b,a⟩|⟨b,a⟩
 ·exact absurd (a.symm.trans h) b
 ·exact⟨(K9 x y).2 b,(Xs (a.symm.trans h)).symm⟩
theorem Xy{x y:Ad}(h:D2 x y<=0):Bt x y<=0:=by
 rcases Oo x y with⟨_,a⟩|⟨b,_⟩<;>omega
theorem iW{x y:Ad}(h:D2 x y<0)(a:Ba x y=true):y.pos<x.pos:=by
 rcases Oo x y with⟨d,_⟩|⟨_,b⟩
 ·exact absurd ((K9 x y).1 a) d
 ·rw[b] at h;unfold Ds at h;split at h
  ·assumption
  ·split at h<;>omega
theorem iY{x y z:Ad}(d:Cd x)(b:Cd y)(a:Cd z)(j:Bt x y<0)(g:Bt y z<=0):Bt x z<0:=by
 have i:=vL d b a (by omega) g
 by_cases h:Bt x z=0
 ·have f:=(K9 x z).2 h;have:=Vl y f;have:=Om b a;omega
 ·omega
def D3(l:List Ad):Prop:=l.Pairwise fun x y=>Bt x y<0
def S8(l:List Ad):Prop:=l.Pairwise fun x y=>D2 x y<0
def aT(l:List Ad):Prop:=∀x∈l,∀y∈l,Ba x y=true->x.pos=y.pos->x=y
structure Bv(all r:List Ad):Prop where
 ris:D3 r
 sub:∀x∈r,x∈all
 last:∀x∈r,∀y∈all,Ba x y=true->y.pos<=x.pos
 cov:∀y∈all,∃x∈r,Ba x y=true
theorem Bv.mem{all r r':List Ad}(h:Bv all r)(d:Bv all r')(g:aT all){x:Ad}(b:x∈r):x∈r':=by
 obtain⟨z,a,f⟩:=d.cov x (h.sub x b);have j:=d.last z a x (h.sub x b) f;have i:=h.last x b z (d.sub z a) (by rw[Q4];exact f);have:=g z (d.sub z a) x (h.sub x b) f (by omega);rw[<-this];exact a
theorem D3.irr{l:List Ad}{x:Ad}(h:D3 (x::l))(a:Cd x):x∉l:=fun b=>by
 have:=(List.pairwise_cons.1 h).1 x b;rw[iS a] at this;omega
theorem D3.unique:∀{l m:List Ad},(∀x∈l,Cd x)→(∀x∈m,Cd x)→D3 l→D3 m→(∀x,x∈l↔x∈m)→l=m
 |[],[],_,_,_,_,_=>rfl
 |[],y::m,_,_,_,_,h=>absurd ((h y).2 a0w) a0u
 |x::l,[],_,_,_,_,h=>absurd ((h x).1 a0w) a0u
 |x::l,y::m,ol,om,hl,hm,h=>by
  have b:=ol x a0w;have g:=om y a0w
  have d:x=y:=by
   rcases List.mem_cons.1 ((h x).1 a0w) with e|e
   ·exact e
   ·rcases List.mem_cons.1 ((h y).2 a0w) with f|f
    ·exact f.symm
    ·have j:=(List.pairwise_cons.1 hm).1 x e;have i:=(List.pairwise_cons.1 hl).1 y f;rw[Om g b] at i;omega
  subst d;congr 1
  refine D3.unique (fun z a=>ol z (a1z _ a)) (fun z a=>om z (a1z _ a)) (List.pairwise_cons.1 hl).2 (List.pairwise_cons.1 hm).2 fun z=>?_
  constructor
  ·intro a
   rcases List.mem_cons.1 ((h z).1 (a1z _ a)) with e|e
   ·rw[e] at a;exact absurd a (D3.irr hl b)
   ·exact e
  ·intro a
   rcases List.mem_cons.1 ((h z).2 (a1z _ a)) with e|e
   ·rw[e] at a;exact absurd a (D3.irr hm b)
   ·exact e
theorem Bv.unique{all r r':List Ad}(b:∀x∈all,Cd x)(f:aT all)(h:Bv all r)(d:Bv all r'):r=r':=
 D3.unique (fun x a=>b x (h.sub x a)) (fun x a=>b x (d.sub x a)) h.ris d.ris fun _=>⟨fun a=>h.mem d f a,fun a=>d.mem h f a⟩
theorem Bv.nil:Bv [] []:=⟨List.Pairwise.nil,fun _ h=>absurd h a0u,fun _ h=>absurd h a0u,fun _ h=>absurd h a0u⟩
theorem Bv.comp{all mid r:List Ad}(f:∀x∈mid,x∈all)(a:∀y∈all,∃x∈mid,Ba x y=true/\y.pos<=x.pos)(h:Bv mid r):Bv all r:=by
 refine⟨h.ris,fun x d=>f x (h.sub x d),fun x d y i l=>?_,fun y i=>?_⟩
 ·obtain⟨z,g,b,k⟩:=a y i;have:=h.last x d z g (Nr l (by rw[Q4];exact b));omega
 ·obtain⟨z,g,b,_⟩:=a y i;obtain⟨x,d,j⟩:=h.cov z g;exact⟨x,d,Nr j b⟩
theorem Bv.cover{all r:List Ad}(h:Bv all r):∀y∈all,∃x∈r,Ba x y=true/\y.pos<=x.pos:=fun y a=>by
 obtain⟨x,b,d⟩:=h.cov y a;exact⟨x,b,d,h.last x b y a d⟩
def I3:Ad:=⟨Az,0⟩
def P9(l:List Ad)(j:Nat):Bool:=decide (j=0∨Ba (l.getD j I3) (l.getD (j-1) I3)=false)
def La(l:List Ad)(m:Nat):List Ad:=((List.range m).filter (P9 l)).map fun j=>l.getD j I3
theorem Vm(l:List Ad)(m:Nat):La l (m+1)=La l m++(if P9 l m=true then[l.getD m I3] else[]):=by
 unfold La;rw[List.range_succ,List.filter_append,List.map_append];congr 1
 by_cases h:P9 l m=true<;>simp[h]
theorem Q5(l:List Ad){k:Nat}(h:k<l.length):l.getD k I3=l[k]:=by
 rw[a0z,a0v h];rfl
theorem S8.before{l:List Ad}(h:S8 l){i j:Nat}(a:i<j)(b:j<l.length):D2 (l[i]'(by omega)) l[j]<0:=by
 have:=List.pairwise_iff_getElem.1 h i j (by omega) b a;exact this
theorem iZ{l:List Ad}{m:Nat}{x:Ad}(h:x∈l.take m)(b:m<=l.length):∃i,∃(a:i<l.length),i<m/\l[i]=x:=by
 obtain⟨i,a,e⟩:=List.mem_iff_getElem.1 h;rw[List.length_take] at a;exact⟨i,by omega,by omega,by rw[<-e,List.getElem_take]⟩
theorem jA{l:List Ad}(n:∀x∈l,Cd x)(h:S8 l):∀m,m≤l.length→Bv (l.take m) (La l m)
 |0,_=>by
  rw[List.take_zero];exact Bv.nil
 |m+1,hm=>by
  have f:=jA n h m (by omega)
  have d:m<l.length:=by omega
  rw[Vm,Q5 l d];have B:=n l[m] (List.getElem_mem d)
  have before:∀y∈l.take m,D2 y l[m]<0:=fun y a=>by
   obtain⟨i,G,t,e⟩:=iZ a (by omega);rw[<-e];exact h.before t d
  have C:∀y∈l.take m,Cd y:=fun y a=>n y (List.mem_of_mem_take a)
  have r:l.take (m+1)=l.take m++[l[m]]:=by rw[List.take_add_one,a0v d];rfl
  by_cases u:P9 l m=true
  ·rw[if_pos u]
   have q:∀y∈l.take m,Bt y l[m]<0:=fun y a=>by
    obtain⟨i,G,t,e⟩:=iZ a (by omega)
    have k:m-1<l.length:=by omega
    have A:=n l[m-1] (List.getElem_mem k);have I:=Xy (Int.le_of_lt (before y a))
    rcases Int.lt_or_eq_of_le I with z|z
    ·exact z
    ·exfalso;have o:=of_decide_eq_true u
     rcases o with o|o
     ·omega
     ·rw[Q5 l d,Q5 l k,Vk] at o
      have D:Bt y l[m-1]<=0:=by
       by_cases J:i=m-1
       ·subst J;rw[<-e,iS A];omega
       ·have:=h.before (i:=i) (j:=m-1) (by omega) k;rw[e] at this;exact Xy (Int.le_of_lt this)
      have E:Bt l[m-1] l[m]<=0:=Xy (Int.le_of_lt (h.before (by omega) d));have g:=(K9 y l[m]).2 z;have L:=Vl l[m-1] g;have K:=Om B A;omega
   rw[r];refine⟨?_,fun x b=>?_,fun x b y a g=>?_,fun y a=>?_⟩
   ·refine List.pairwise_append.2 ⟨f.ris,List.pairwise_singleton _ _,fun x b y a=>?_⟩;rw[List.mem_singleton.1 a];exact q x (f.sub x b)
   ·rcases List.mem_append.1 b with b|b
    ·exact a1v _ (f.sub x b)
    ·exact a3v _ b
   ·rcases List.mem_append.1 b with b|b
    ·rcases List.mem_append.1 a with a|a
     ·exact f.last x b y a g
     ·rw[List.mem_singleton.1 a] at g;have:=q x (f.sub x b);have:=(K9 _ _).1 g;omega
    ·rw[List.mem_singleton.1 b] at g ⊢
     rcases List.mem_append.1 a with a|a
     ·have:=q y a;have:=(K9 _ _).1 ((Q4 _ _).trans g);omega
     ·rw[List.mem_singleton.1 a];exact Nat.le_refl _
   ·rcases List.mem_append.1 a with a|a
    ·obtain⟨x,b,g⟩:=f.cov y a;exact⟨x,a1v _ b,g⟩
    ·rw[List.mem_singleton.1 a];exact⟨l[m],a3v _ (List.mem_singleton.2 rfl),Xx _⟩
  ·rw[if_neg u,a3x,r]
   have s:¬(m=0∨Ba (l.getD m I3) (l.getD (m-1) I3)=false):=fun e=>u (decide_eq_true e)
   have F:m≠0:=fun e=>s (Or.inl e)
   have k:m-1<l.length:=by omega
   have g:Ba l[m] l[m-1]=true:=by
    have:¬Ba (l.getD m I3) (l.getD (m-1) I3)=false:=fun e=>s (Or.inr e)
    rw[Q5 l d,Q5 l k] at this
    simpa using this
   have w:l[m-1]∈l.take m:=by
    refine List.mem_iff_getElem.2 ⟨m-1,by rw[List.length_take];omega,by rw[List.getElem_take]⟩
   refine⟨f.ris,fun x b=>a1v _ (f.sub x b),fun x b y a p=>?_,fun y a=>?_⟩
   ·rcases List.mem_append.1 a with a|a
    ·exact f.last x b y a p
    ·rw[List.mem_singleton.1 a] at p ⊢;exact Nat.le_of_lt (iW (before x (f.sub x b)) p)
   ·rcases List.mem_append.1 a with a|a
    ·exact f.cov y a
    ·obtain⟨x,b,v⟩:=f.cov l[m-1] w;rw[List.mem_singleton.1 a];exact⟨x,b,Nr v (by rw[Q4];exact g)⟩
theorem vM{l:List Ad}(a:∀x∈l,Cd x)(h:S8 l):Bv l (La l l.length):=by
 have:=jA a h l.length (Nat.le_refl _);rw[List.take_length] at this;exact this
end
section
def Af(l:List Ad)(k:Nat):Ad:=l.getD k I3
theorem L2{l:List Ad}{k:Nat}(h:k<l.length):Af l k=l[k]:=Q5 l h
def A9(x y:Ad):Prop:=D2 x y<=0
def G4(l:List Ad)(a b:Nat):Prop:=∀p q,a<=p->p<q->q<b->A9 (Af l p) (Af l q)
def Ce(l:List Ad):Prop:=∀x∈l,Cd x
theorem aU:Cd I3:=⟨⟨by decide,by decide,by decide,by decide,by decide⟩,by decide⟩
theorem Ce.at{l:List Ad}(h:Ce l)(k:Nat):Cd (Af l k):=by
 unfold Af;rw[a0z]
 cases e:l[k]? with
 |none=>exact aU
 |some x=>exact h x (List.mem_of_getElem? e)
theorem A9.trans{x y z:Ad}(d:Cd x)(b:Cd y)(a:Cd z)(g:A9 x y)(f:A9 y z):A9 x z:=vJ d b a g f
theorem A9.total{x y:Ad}(b:Cd x)(a:Cd y):A9 x y∨A9 y x:=by
 unfold A9;have:=aQ b a;omega
theorem A9.not{x y:Ad}(b:Cd x)(a:Cd y)(h:¬D2 x y<0):A9 y x:=by
 unfold A9;have:=aQ b a;omega
theorem A9.lt{x y:Ad}(h:D2 x y<0):A9 x y:=by unfold A9;omega
def Jw(l:List Ad)(i j:Nat):List Ad:=(l.set i (Af l j)).set j (Af l i)
theorem aV(l:List Ad)(i k:Nat)(x:Ad)(h:i<l.length):Af (l.set i x) k=if k=i then x else Af l k:=by
 unfold Af;rw[a0z,List.getElem?_set,a0z]
 by_cases e:i=k
 ·subst e;rw[if_pos rfl,if_pos h,if_pos rfl];rfl
 ·rw[if_neg e,if_neg (Ne.symm e)]
theorem Jy{l:List Ad}{i j:Nat}(k:Nat)(b:i<l.length)(a:j<l.length):Af (Jw l i j) k=if k=j then Af l i else if k=i then Af l j else Af l k:=by
 unfold Jw;rw[aV _ _ _ _ (by rw[List.length_set];exact a),aV _ _ _ _ b]
theorem vN{l:List Ad}{i j:Nat}(b:i<l.length)(a:j<l.length):(Jw l i j).Perm l:=by
 have h:=Array.swap_perm (xs:=l.toArray) (i:=i) (j:=j) (by simpa using b) (by simpa using a);have d:=Array.perm_iff_toList_perm.1 h
 have e:(l.toArray.swap i j (by simpa using b) (by simpa using a)).toList=Jw l i j:=by
  unfold Jw;rw[L2 b,L2 a];simp[Array.swap]
 rw[e] at d;exact d
structure Fq(a b:Nat)(l l':List Ad):Prop where
 perm:l'.Perm l
 out:∀p,p<a∨b<=p->Af l' p=Af l p
 inn:∀p,a<=p->p<b->∃q,a<=q/\q<b/\Af l' p=Af l q
theorem Fq.refl(a b:Nat)(l:List Ad):Fq a b l l:=⟨List.Perm.refl _,fun _ _=>rfl,fun p f d=>⟨p,f,d,rfl⟩⟩
theorem Fq.len{a b:Nat}{l d:List Ad}(h:Fq a b l d):d.length=l.length:=h.perm.length_eq
theorem Fq.ok{a b:Nat}{l l':List Ad}(h:Fq a b l l')(f:Ce l):Ce l':=fun x d=>f x (h.perm.mem_iff.1 d)
theorem Fq.trans{a b:Nat}{l m r:List Ad}(f:Fq a b l m)(d:Fq a b m r):Fq a b l r:=by
 refine⟨d.perm.trans f.perm,fun p g=>(d.out p g).trans (f.out p g),fun p k j=>?_⟩;obtain⟨q,q1,i,e⟩:=d.inn p k j;obtain⟨r,r1,h,n⟩:=f.inn q q1 i;exact⟨r,r1,h,e.trans n⟩
theorem Fq.wide{a b j i:Nat}{l m:List Ad}(h:Fq a b l m)(o:j<=a)(n:b<=i):Fq j i l m:=by
 refine⟨h.perm,fun p g=>h.out p (by omega),fun p f d=>?_⟩
 by_cases g:a<=p/\p<b
 ·obtain⟨q,q1,k,e⟩:=h.inn p g.1 g.2;exact⟨q,by omega,by omega,e⟩
 ·exact⟨p,f,d,h.out p (by omega)⟩
theorem Fq.swap{a b i j:Nat}{l:List Ad}(f:i<l.length)(d:j<l.length)(q:a≤i)(o:i<b)(n:a≤j)(m:j<b):Fq a b l (Jw l i j):=by
 refine⟨vN f d,fun p r=>?_,fun p k h=>?_⟩
 ·rw[Jy p f d,if_neg (by omega),if_neg (by omega)]
 ·rw[Jy p f d]
  by_cases e:p=j
  ·rw[if_pos e];exact⟨i,q,o,rfl⟩
  ·rw[if_neg e]
   by_cases g:p=i
   ·rw[if_pos g];exact⟨j,n,m,rfl⟩
   ·rw[if_neg g];exact⟨p,k,h,rfl⟩
def Q6(l:List Ad)(a b j:Nat):Prop:=∀p q,a<=p->p<q->q<b->q≠j->A9 (Af l p) (Af l q)
theorem G4.but{l:List Ad}{a i:Nat}(h:G4 l a i):Q6 l a (i+1) i:=fun p q d b g f=>h p q d b (by omega)
theorem Q6.done{l:List Ad}{a b j:Nat}(f:Ce l)(h:Q6 l a b j)(d:j=a∨A9 (Af l (j-1)) (Af l j))(n:a≤j):G4 l a b:=by
 intro p q g k i
 by_cases e:q=j
 ·subst e
  rcases d with rfl|d
  ·omega
  ·by_cases m:p=q-1
   ·subst m;exact d
   ·exact A9.trans (f.at _) (f.at _) (f.at _) (h p (q-1) g (by omega) (by omega) (by omega)) d
 ·exact h p q g k i e
theorem Q6.step{l:List Ad}{a b j:Nat}(h:Q6 l a b j)(u:b≤l.length)(t:a<j)(o:j<b)(i:A9 (Af l j) (Af l (j-1))):Q6 (Jw l j (j-1)) a b (j-1):=by
 intro p q m s k r
 have f:j<l.length:=by omega
 have d:j-1<l.length:=by omega
 rw[Jy p f d,Jy q f d];rw[if_neg r]
 by_cases e:q=j
 ·rw[if_pos e]
  by_cases g:p=j-1
  ·rw[if_pos g];exact i
  ·rw[if_neg g,if_neg (by omega)];exact h p (j-1) m (by omega) (by omega) (by omega)
 ·rw[if_neg e]
  by_cases g:p=j-1
  ·rw[if_pos g];exact h j q (by omega) (by omega) k e
  ·rw[if_neg g]
   by_cases n:p=j
   ·rw[if_pos n];exact h (j-1) q (by omega) (by omega) k e
   ·rw[if_neg n];exact h p q m s k e
theorem G4.one(l:List Ad)(a:Nat):G4 l a (a+1):=fun p q f d b=>by omega
theorem G4.frame{l d:List Ad}{a b:Nat}(h:G4 l a b)(f:∀p,a<=p->p<b->Af d p=Af l p):G4 d a b:=fun p q i j g=>by
 rw[f p i (by omega),f q (by omega) g];exact h p q i j g
theorem G4.rising{l:List Ad}(h:G4 l 0 l.length)(m:(l.map (·.pos)).Nodup):S8 l:=by
 refine List.pairwise_iff_getElem.2 fun i j g b a=>?_
 have f:=h i j (Nat.zero_le _) a b;rw[L2 g,L2 b] at f;unfold A9 at f
 rcases Int.lt_or_eq_of_le f with d|d
 ·exact d
 ·exfalso;have k:=(iV d).2;have:=(List.pairwise_iff_getElem.1 m) i j (by simpa using g) (by simpa using b) a;rw[List.getElem_map,List.getElem_map] at this;exact this k
end
end Go.Proofs.YtkagolpnaicdoaaGreatDoor
