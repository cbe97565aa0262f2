/-
 Texts with their sums: what crc.Put, crc.Get compute; the walks. Slices of cells that a call owns; append of cells.
-/
import Derived.Test.YtkagolpnaicdoaaGreatDoorPCrc
import Derived.Test.YtkagolpnaicdoaaGreatDoorPCellKey
import Derived.Test.YtkagolpnaicdoaaGreatDoorPBlkB
import Derived.Test.YtkagolpnaicdoaaGreatDoorPRegionG
import Derived.Test.YtkagolpnaicdoaaGreatDoorPCellA
import Derived.Test.YtkagolpnaicdoaaGreatDoorPBuild
import Derived.Test.YtkagolpnaicdoaaGreatDoorPRegion
import Derived.Test.YtkagolpnaicdoaaGreatDoorRows
import Derived.Maps.AppendAt
import Derived.Laws.AppendOwnNone
set_option maxRecDepth 100000
set_option maxHeartbeats 8000000
open UInt8 renaming ofNat→a0z
open List renaming setIfInBounds_toArray→a0x,set_cons_succ→a0u,set_cons_zero→a1z,reverse_cons→a1x,reverse_nil→a1w,cons_append→a1v,nil_append→a1u
open Go.IntKind renaming wrap_u32→a0w,wrap_i64→a2z
open Go.Lib renaming hid→a0v
open BitVec renaming ofInt→a2x,ofInt_natCast→a2u,toNat_ofNat→a3z
open ByteArray renaming size_extract→a2w,size_append→a2v
namespace Go.Proofs.YtkagolpnaicdoaaGreatDoor
section
open Go.RowKit
def L1(n:Nat):List UInt8:=[a0z n,a0z (n/256),a0z (n/65536),a0z (n/16777216)]
def Pe(a b c d:UInt8):Nat:=a.toNat+b.toNat*256+c.toNat*65536+d.toNat*16777216
theorem xC(n:Nat)(h:n<4294967296):Pe (a0z n) (a0z (n/256)) (a0z (n/65536)) (a0z (n/16777216))=n:=by
 unfold Pe;simp only[UInt8.toNat_ofNat'];omega
def L3(h s:ByteArray):Nat:=D5 (D5 0 h) s
theorem Pg(n:Nat)(s:ByteArray):D5 n s<4294967296:=by unfold D5;omega
theorem iN(h s:ByteArray):L3 h s<4294967296:=Pg _ _
def Jm(s:ByteArray):ByteArray:=bl (two s.size)++bl (L1 (L3 (bl (two s.size)) s))++s
def K8(s:ByteArray):ByteArray × Nat:=if s.size>65535 then(⟨#[]⟩,71) else(Jm s,0)
theorem iO(s:ByteArray):(Jm s).size=6+s.size:=by
 unfold Jm;rw[a2v,a2v,D1,D1];rfl
def E3(s:ByteArray):Nat:=6+(Aq s 0).toNat+(Aq s 1).toNat*256
def Cm(s:ByteArray):ByteArray × Nat × Nat:=
 if s.size=0 then(⟨#[]⟩,0,3) else if s.size<6 then(⟨#[]⟩,0,10) else if s.size<E3 s then(⟨#[]⟩,0,10)
 else if L3 (s.extract 0 2) (s.extract 6 (E3 s))=Pe (Aq s 2) (Aq s 3) (Aq s 4) (Aq s 5) then(s.extract 6 (E3 s),E3 s,0) else(⟨#[]⟩,0,20)
theorem xE{w:World}{g a b c d:Nat}(hg:w.heap[g]?=some (.cells #[.int .u8 a,.int .u8 b,.int .u8 c,.int .u8 d] 5 (0,0)))(ha:a<256)(hb:b<256)(hc:c<256)(hd:d<256):
  (convert 113 9 (.slice (some ⟨g,0,none⟩) 4 4)).run Tryz.prog w=.ok (.string (bl [a0z a,a0z b,a0z c,a0z d])) w:=by
 refine Nu (cap:=4) (n:=4) (f:=fun j=>[a0z a,a0z b,a0z c,a0z d].getD j 0) ⟨Ab hg,fun j hj=>?_,fun j _=>Ar hg j⟩
 have h3:j=0∨j=1∨j=2∨j=3:=by omega
 rcases h3 with rfl|rfl|rfl|rfl
 ·rw[Aa hg];show _ =some (A4 (a0z a));rw[Ja ha];rfl
 ·rw[Aa hg];show _ =some (A4 (a0z b));rw[Ja hb];rfl
 ·rw[Aa hg];show _ =some (A4 (a0z c));rw[Ja hc];rfl
 ·rw[Aa hg];show _ =some (A4 (a0z d));rw[Ja hd];rfl
theorem Qx(n:Nat):∃m:Nat,m<256∧IntKind.u8.wrap (n:Int)=(m:Int)∧a0z n=a0z m:=by
 refine⟨n%256,by omega,by rw[IntKind.wrap_u8];omega,?_⟩;apply UInt8.toNat_inj.1;simp only[UInt8.toNat_ofNat'];omega
theorem iP(s:ByteArray)(w:World)(hs:s.size≤100000000)(ht:Ce w):
  Calls Tryz.prog 155 #[.string s] w fun e w'=>e=.returned (.tuple #[.string (K8 s).1,.int .i64 (K8 s).2])∧Fp [] w w':=by
 by_cases hw:s.size>65535
 ·have hp:K8 s=(⟨#[]⟩,71):=if_pos hw;rw[hp]
  have z:(s.size:Int)>65535:=by omega
  go_enter Tryz.func155,Tryz.ntmps155;go_wp2_with (fail);go_ret2;exact⟨rfl,Fp.refl _ _⟩
 ·have hp:K8 s=(Jm s,0):=if_neg hw;rw[hp]
  have z:¬(s.size:Int)>65535:=by omega
  obtain⟨x,hx⟩:∃x,L3 (bl (two s.size)) s=x:=⟨_,rfl⟩
  have hxl:x<4294967296:=by rw[←hx];exact iN _ _
  have HR:Hid (Jm s=bl (two s.size)++bl (L1 x)++s):=by unfold Hid Jm;rw[hx]
  have HS:=a0v (fun w ht=>Ro (bl (two s.size)) w (by rw[D1];show 2≤_;decide) ht);have HX:=a0v (fun w ht=>Um (D5 0 (bl (two s.size))) s w (Pg _ _) hs ht);rw[show D5 (D5 0 (bl (two s.size))) s=x from hx] at HX;have hml:=Pg 0 (bl (two s.size))
  obtain⟨m,hm⟩:∃m,D5 0 (bl (two s.size))=m:=⟨_,rfl⟩
  rw[hm] at HS HX hml;have HT:=a0v ht;clear hx hm hp ht;obtain⟨a0,la0,ea0,fa0⟩:=Qx s.size;obtain⟨a1,la1,ea1,fa1⟩:=Qx (s.size/256)
  obtain⟨y1,hy1⟩:∃y,s.size/256=y:=⟨_,rfl⟩
  have d1:(s.size:Int)/256=(y1:Int):=by omega
  have HTW:Hid (bl [a0z a0,a0z a1]=bl (two s.size)):=by unfold Hid two;rw[fa0,fa1]
  rw[hy1] at ea1;obtain⟨x0,lx0,ex0,fx0⟩:=Qx x;obtain⟨x1,lx1,ex1,fx1⟩:=Qx (x/256);obtain⟨x2,lx2,ex2,fx2⟩:=Qx (x/65536);obtain⟨x3,lx3,ex3,fx3⟩:=Qx (x/16777216)
  obtain⟨z1,hz1⟩:∃y,x/256=y:=⟨_,rfl⟩
  obtain⟨z2,hz2⟩:∃y,x/65536=y:=⟨_,rfl⟩
  obtain⟨z3,hz3⟩:∃y,x/16777216=y:=⟨_,rfl⟩
  have dx1:(x:Int)/256=(z1:Int):=by omega
  have dx2:(x:Int)/65536=(z2:Int):=by omega
  have dx3:(x:Int)/16777216=(z3:Int):=by omega
  have HQ:Hid (bl [a0z x0,a0z x1,a0z x2,a0z x3]=bl (L1 x)):=by unfold Hid L1;rw[fx0,fx1,fx2,fx3]
  rw[hz1] at ex1;rw[hz2] at ex2;rw[hz3] at ex3;clear fa0 fa1 fx0 fx1 fx2 fx3 hz1 hz2 hz3 hy1;have HC2:=a0v (nQ (w:=w.alloc (.cells #[.int .u8 a0,.int .u8 a1] 5)) (Ai rfl _) la0 la1);have hcv:=HC2.out;rw[HTW.out] at hcv;go_enter Tryz.func155,Tryz.ntmps155;go_wp2_with (fail);(with_reducible refine(HS.out _ (HT.out.fp (Fp.alloc _ _) (by simp))).mono ?_);rintro e w1 ⟨rfl,hf1⟩;have HF1:=a0v ((Fp.alloc w _).trans hf1 (by simp));clear hf1 hcv;go_wp2_with (fail);(with_reducible refine(HX.out _ (HT.out.fp HF1.out (by simp))).mono ?_);rintro e w2 ⟨rfl,hf2⟩;have HF2:=a0v (HF1.out.trans hf2 (by simp));clear hf2;have hcv4:=xE (w:=w2.alloc (.cells #[.int .u8 x0,.int .u8 x1,.int .u8 x2,.int .u8 x3] 5)) (Ai rfl _) lx0 lx1 lx2 lx3;rw[HQ.out] at hcv4
  have l1:(bl (two s.size)).size=2:=by rw[D1];rfl
  have l2:(bl (L1 x)).size=4:=by rw[D1];rfl
  obtain⟨t1,ht1⟩:∃t,bl (two s.size)=t:=⟨_,rfl⟩
  obtain⟨t2,ht2⟩:∃t,bl (L1 x)=t:=⟨_,rfl⟩
  rw[ht1] at l1 HR ⊢;rw[ht2] at l2 HR hcv4
  have zl:¬t1.size+t2.size>9223372036854775807:=by omega
  have zl2:¬t1.size+t2.size+s.size>9223372036854775807:=by omega
  clear ht1 ht2 l1 l2;go_wp2_with (fail);go_ret2;exact⟨by rw[HR.out];rfl,HF2.out.alloc' _⟩
theorem Y3(n m k:Nat)(hn:n<2^k)(hk:n+m*2^k<4294967296):bits .or .u32 (n:Int) ((m*2^k:Nat):Int)=((n+m*2^k:Nat):Int):=by
 have h1:(a2x 32 (n:Int)).toNat=n:=by
  rw[a2u,a3z];exact Nat.mod_eq_of_lt (by omega)
 have h2:(a2x 32 ((m*2^k:Nat):Int)).toNat=m*2^k:=by
  rw[a2u,a3z];exact Nat.mod_eq_of_lt (by omega)
 show IntKind.u32.wrap ((a2x 32 (n:Int) ||| a2x 32 ((m*2^k:Nat):Int)).toNat:Int)=_;have h3:=Nat.two_pow_add_eq_or_of_lt hn m;rw[BitVec.toNat_or,h1,h2,Nat.or_comm,Nat.mul_comm,←h3,a0w];rw[Nat.mul_comm (2^k) m];omega
theorem Td{s:ByteArray}(h:s.size=0):Cm s=(⟨#[]⟩,0,3):=if_pos h
theorem Y4{s:ByteArray}(h0:¬s.size=0)(h:s.size<6):Cm s=(⟨#[]⟩,0,10):=by unfold Cm;rw[if_neg h0,if_pos h]
theorem Y5{s:ByteArray}(h0:¬s.size=0)(h1:¬s.size<6)(h:s.size<E3 s):Cm s=(⟨#[]⟩,0,10):=by unfold Cm;rw[if_neg h0,if_neg h1,if_pos h]
theorem iQ{s:ByteArray}(h0:¬s.size=0)(h1:¬s.size<6)(h2:¬s.size<E3 s)(h:¬L3 (s.extract 0 2) (s.extract 6 (E3 s))=Pe (Aq s 2) (Aq s 3) (Aq s 4) (Aq s 5)):Cm s=(⟨#[]⟩,0,20):=by
 unfold Cm;rw[if_neg h0,if_neg h1,if_neg h2,if_neg h]
theorem Y6{s:ByteArray}(h0:¬s.size=0)(h1:¬s.size<6)(h2:¬s.size<E3 s)(h:L3 (s.extract 0 2) (s.extract 6 (E3 s))=Pe (Aq s 2) (Aq s 3) (Aq s 4) (Aq s 5)):Cm s=(s.extract 6 (E3 s),E3 s,0):=by
 unfold Cm;rw[if_neg h0,if_neg h1,if_neg h2,if_pos h]
theorem L4(s:ByteArray)(i:Nat)(h:i<s.size):s[i]=Aq s i:=by
 unfold Aq;rw[List.getD_eq_getElem?_getD,List.getElem?_eq_getElem (by simpa using h)];simp;rfl
theorem xF(s:ByteArray)(w:World)(hs:s.size≤100000000)(ht:Ce w):
  Calls Tryz.prog 73 #[.string s] w fun e w'=>e=.returned (.tuple #[.string (Cm s).1,.int .i64 (Cm s).2.1,.int .i64 (Cm s).2.2])∧Fp [] w w':=by
 by_cases h0:s.size=0
 ·rw[Td h0];obtain rfl:s=⟨#[]⟩:=ByteArray.ext (Array.eq_empty_of_size_eq_zero h0);go_enter Tryz.func73,Tryz.ntmps73;go_wp2_with (fail);refine bodyPost_ret (v:=.tuple #[.string ⟨#[]⟩,.int .i64 0,.int .i64 3]) (by simp[results,Tryz.results73,go_sem, *]) rfl ⟨rfl,Fp.refl _ _⟩
 have hne:(s.toList==([]:List UInt8))=false:=by
  rw[beq_eq_false_iff_ne];intro e;apply h0;have h2:=congrArg List.length e;rw[ByteArray.toList_eq] at h2;exact h2
 by_cases h1:s.size<6
 ·rw[Y4 h0 h1]
  have z:(s.size:Int)<6:=by omega
  go_enter Tryz.func73,Tryz.ntmps73;go_wp2_with (fail);refine bodyPost_ret (v:=.tuple #[.string ⟨#[]⟩,.int .i64 0,.int .i64 10]) (by simp[results,Tryz.results73,go_sem, *]) rfl ⟨rfl,Fp.refl _ _⟩
 have z1:¬(s.size:Int)<6:=by omega
 have e0:=L4 s 0 (by omega)
 have p0:0<s.size:=by omega
 have e1:=L4 s 1 (by omega)
 have p1:(1:Int)<(s.size:Int):=by omega
 have e2:=L4 s 2 (by omega)
 have p2:(2:Int)<(s.size:Int):=by omega
 have e3:=L4 s 3 (by omega)
 have p3:(3:Int)<(s.size:Int):=by omega
 have e4:=L4 s 4 (by omega)
 have p4:(4:Int)<(s.size:Int):=by omega
 have e5:=L4 s 5 (by omega)
 have p5:(5:Int)<(s.size:Int):=by omega
 have hb0:=(Aq s 0).toNat_lt;have hb1:=(Aq s 1).toNat_lt;have hb2:=(Aq s 2).toNat_lt;have hb3:=(Aq s 3).toNat_lt;have hb4:=(Aq s 4).toNat_lt;have hb5:=(Aq s 5).toNat_lt
 obtain⟨x0,hx0⟩:∃x,(Aq s 0).toNat=x:=⟨_,rfl⟩
 obtain⟨x1,hx1⟩:∃x,(Aq s 1).toNat=x:=⟨_,rfl⟩
 obtain⟨x2,hx2⟩:∃x,(Aq s 2).toNat=x:=⟨_,rfl⟩
 obtain⟨x3,hx3⟩:∃x,(Aq s 3).toNat=x:=⟨_,rfl⟩
 obtain⟨x4,hx4⟩:∃x,(Aq s 4).toNat=x:=⟨_,rfl⟩
 obtain⟨x5,hx5⟩:∃x,(Aq s 5).toNat=x:=⟨_,rfl⟩
 obtain⟨en,hen⟩:∃en,E3 s=en:=⟨_,rfl⟩
 obtain⟨q,hq⟩:∃q,Pe (Aq s 2) (Aq s 3) (Aq s 4) (Aq s 5)=q:=⟨_,rfl⟩
 have hen2:en=6+x0+x1*256:=by rw[←hen,←hx0,←hx1];rfl
 have hq2:q=x2+x3*256+x4*65536+x5*16777216:=by rw[←hq,←hx2,←hx3,←hx4,←hx5];rfl
 have HCUT:=a0v (fun h=>Y5 h0 h1 h);have HSUM:=a0v (fun h2 h=>iQ h0 h1 h2 h);have HOKG:=a0v (fun h2 h=>Y6 h0 h1 h2 h);rw[hen] at HCUT HSUM HOKG;rw[hq] at HSUM HOKG;rw[hx0] at hb0;rw[hx1] at hb1;rw[hx2] at hb2;rw[hx3] at hb3;rw[hx4] at hb4;rw[hx5] at hb5
 have k0:IntKind.i64.wrap (x0:Int)=x0:=by rw[a2z];omega
 have k1:IntKind.i64.wrap (x1:Int)=x1:=by rw[a2z];omega
 have k2:IntKind.i64.wrap (6+(x0:Int))=6+x0:=by rw[a2z];omega
 obtain⟨y1,hy1⟩:∃y,x1*256=y:=⟨_,rfl⟩
 have k3:IntKind.i64.wrap ((x1:Int)*256)=(y1:Int):=by rw[a2z];omega
 have k4:IntKind.i64.wrap (6+(x0:Int)+(y1:Int))=(en:Int):=by rw[a2z];omega
 have he6:6≤en:=by omega
 have heb:en≤70000:=by omega
 have u2:IntKind.u32.wrap (x2:Int)=x2:=by rw[a0w];omega
 have u3:IntKind.u32.wrap (x3:Int)=x3:=by rw[a0w];omega
 have u4:IntKind.u32.wrap (x4:Int)=x4:=by rw[a0w];omega
 have u5:IntKind.u32.wrap (x5:Int)=x5:=by rw[a0w];omega
 obtain⟨y3,hy3⟩:∃y,x3*2^8=y:=⟨_,rfl⟩
 obtain⟨y4,hy4⟩:∃y,x4*2^16=y:=⟨_,rfl⟩
 obtain⟨y5,hy5⟩:∃y,x5*2^24=y:=⟨_,rfl⟩
 have v3:IntKind.u32.wrap ((x3:Int)*256)=(y3:Int):=by rw[a0w];omega
 have v4:IntKind.u32.wrap ((x4:Int)*65536)=(y4:Int):=by rw[a0w];omega
 have v5:IntKind.u32.wrap ((x5:Int)*16777216)=(y5:Int):=by rw[a0w];omega
 have o3:=Y3 x2 x3 8 (by omega) (by omega);rw[hy3] at o3
 obtain⟨r3,hr3⟩:∃r,x2+y3=r:=⟨_,rfl⟩
 rw[hr3] at o3;have o4:=Y3 r3 x4 16 (by omega) (by omega);rw[hy4] at o4
 obtain⟨r4,hr4⟩:∃r,r3+y4=r:=⟨_,rfl⟩
 rw[hr4] at o4;have o5:=Y3 r4 x5 24 (by omega) (by omega);rw[hy5] at o5;rw[show r4+y5=q from by omega] at o5
 have hql:q<4294967296:=by omega
 clear hen hq hen2 hq2 hy1 hy3 hy4 hy5 hr3 hr4 h0;have HT:=a0v ht;clear ht
 by_cases hE:s.size<en
 ·rw[HCUT.out hE]
  have z2:(s.size:Int)<en:=by omega
  go_enter Tryz.func73,Tryz.ntmps73;go_wp2_with (fail);refine Df (by kernel_rfl) (by kernel_rfl) ?_
  iterate 10
   apply A9 rfl rfl rfl
   ·intro a w hC hA K hK
    try have h0:=hA.fr 0 rfl
    try have h14:=hA.eq 0 14 rfl
    try have h15:=hA.eq 1 15 rfl
    try have h16:=hA.eq 2 16 rfl
    try have h18:=hA.eq 4 18 rfl
    try have h19:=hA.eq 5 19 rfl
    try have h20:=hA.eq 6 20 rfl
    try have h17:=hA.eq 3 17 rfl
    try have h21:=hA.eq 7 21 rfl
    try have h22:=hA.eq 8 22 rfl
    simp only[Oper.wp,execOp];go_simp;exact hK _ hC (Fp.refl _ _)
  refine⟨?_,?_⟩
  ·repeat(first|exact trivial|refine C3 _ ?_ |refine⟨fun w1 w2 v _ hf ⟨g,h1,h2⟩=>⟨g,h1,(hf.block g (Ab h2) (by simp)).trans h2⟩,?_⟩)
  ·intro w' hC;simp only[a1x,a1w,a1u,a1v]
   iterate 10 (refine Au ?_)
   refine A6 ?_;simp only[Am,Act.put,a0x,a0u,a1z];go_wp2_with (fail);refine bodyPost_ret (v:=.tuple #[.string ⟨#[]⟩,.int .i64 0,.int .i64 10]) (by simp[results,Tryz.results73,go_sem, *]) rfl ⟨rfl,hC⟩
 have z2:¬(s.size:Int)<en:=by omega
 have hE2:(en:Int)≤s.size:=by omega
 have h2s:(2:Int)≤s.size:=by omega
 have h6e:(6:Int)≤en:=by omega
 obtain⟨g,hg⟩:∃g,L3 (s.extract 0 2) (s.extract 6 en)=g:=⟨_,rfl⟩
 rw[hg] at HSUM HOKG
 have zx1:(s.extract 0 2).size≤100000000:=by rw[a2w];omega
 have zx2:(s.extract 6 en).size≤100000000:=by rw[a2w];omega
 have HS:=a0v (fun w ht=>Ro (s.extract 0 2) w zx1 ht);have HX:=a0v (fun w ht=>Um (D5 0 (s.extract 0 2)) (s.extract 6 en) w (Pg _ _) zx2 ht);rw[show D5 (D5 0 (s.extract 0 2)) (s.extract 6 en)=g from hg] at HX
 obtain⟨m,hm⟩:∃m,D5 0 (s.extract 0 2)=m:=⟨_,rfl⟩
 rw[hm] at HS HX;clear hg hm zx1 zx2
 by_cases hgq:g=q
 ·rw[HOKG.out hE hgq];subst hgq;go_enter Tryz.func73,Tryz.ntmps73;go_wp2_with (fail);refine Df (by kernel_rfl) (by kernel_rfl) ?_
  iterate 10
   apply A9 rfl rfl rfl
   ·intro a w hC hA K hK
    try have h0:=hA.fr 0 rfl
    try have h14:=hA.eq 0 14 rfl
    try have h15:=hA.eq 1 15 rfl
    try have h16:=hA.eq 2 16 rfl
    try have h18:=hA.eq 4 18 rfl
    try have h19:=hA.eq 5 19 rfl
    try have h20:=hA.eq 6 20 rfl
    try have h17:=hA.eq 3 17 rfl
    try have h21:=hA.eq 7 21 rfl
    try have h22:=hA.eq 8 22 rfl
    simp only[Oper.wp,execOp];go_simp;exact hK _ hC (Fp.refl _ _)
  refine⟨?_,?_⟩
  ·repeat(first|exact trivial|refine C3 _ ?_ |refine⟨fun w1 w2 v _ hf ⟨g,h1,h2⟩=>⟨g,h1,(hf.block g (Ab h2) (by simp)).trans h2⟩,?_⟩)
  ·intro w' hC;simp only[a1x,a1w,a1u,a1v]
   iterate 10 (refine Au ?_)
   refine A6 ?_;simp only[Am,Act.put,a0x,a0u,a1z];have HF1:=a0v hC;clear hC;go_wp2_with (fail);refine Df (by kernel_rfl) (by kernel_rfl) ?_
   iterate 19
    apply A9 rfl rfl rfl
    ·intro a w hC hA K hK
     try have h0:=hA.fr 0 rfl
     try have h27:=hA.eq 0 27 rfl
     try have h28:=hA.eq 1 28 rfl
     try have h30:=hA.eq 3 30 rfl
     try have h31:=hA.eq 4 31 rfl
     try have h32:=hA.eq 5 32 rfl
     try have h29:=hA.eq 2 29 rfl
     try have h33:=hA.eq 6 33 rfl
     try have h35:=hA.eq 8 35 rfl
     try have h36:=hA.eq 9 36 rfl
     try have h37:=hA.eq 10 37 rfl
     try have h34:=hA.eq 7 34 rfl
     try have h38:=hA.eq 11 38 rfl
     try have h40:=hA.eq 13 40 rfl
     try have h41:=hA.eq 14 41 rfl
     try have h42:=hA.eq 15 42 rfl
     try have h39:=hA.eq 12 39 rfl
     try have h43:=hA.eq 16 43 rfl
     try have h44:=hA.eq 17 44 rfl
     simp only[Oper.wp,execOp];go_simp;exact hK _ hC (Fp.refl _ _)
   refine⟨?_,?_⟩
   ·repeat(first|exact trivial|refine C3 _ ?_ |refine⟨fun w1 w2 v _ hf ⟨g,h1,h2⟩=>⟨g,h1,(hf.block g (Ab h2) (by simp)).trans h2⟩,?_⟩)
   ·intro w' hC;simp only[a1x,a1w,a1u,a1v]
    iterate 19 (refine Au ?_)
    refine A6 ?_;simp only[Am,Act.put,a0x,a0u,a1z];have HF2:=a0v (HF1.out.trans hC (by simp));clear hC;go_wp2_with (fail);refine Df (by kernel_rfl) (by kernel_rfl) ?_
    iterate 9
     apply A9 rfl rfl rfl
     ·intro a w hC hA K hK
      try have h0:=hA.fr 0 rfl
      try have h45:=hA.eq 0 45 rfl
      try have h46:=hA.eq 1 46 rfl
      try have h5:=hA.fr 5 rfl
      try have h48:=hA.eq 3 48 rfl
      try have h49:=hA.eq 4 49 rfl
      try have h47:=hA.eq 2 47 rfl
      try have h50:=hA.eq 5 50 rfl
      try have h6:=hA.fr 6 rfl
      try have h51:=hA.eq 6 51 rfl
      try have h52:=hA.eq 7 52 rfl
      simp only[Oper.wp,execOp];go_simp
      first
      |exact hK _ hC (Fp.refl _ _)
      |first
        |((with_reducible refine(HS.out _ (HT.out.fp (HF2.out.trans hC (by simp)) (by simp))).mono ?_);rintro e w2 ⟨rfl,hf⟩;exact hK _ (hC.trans hf (by simp)) hf)
        |((with_reducible refine(HX.out _ (HT.out.fp (HF2.out.trans hC (by simp)) (by simp))).mono ?_);rintro e w2 ⟨rfl,hf⟩;exact hK _ (hC.trans hf (by simp)) hf)
    refine⟨?_,?_⟩
    ·repeat(first|exact trivial|refine C3 _ ?_ |refine⟨fun w1 w2 v _ hf ⟨g,h1,h2⟩=>⟨g,h1,(hf.block g (Ab h2) (by simp)).trans h2⟩,?_⟩)
    ·intro w' hC;simp only[a1x,a1w,a1u,a1v]
     iterate 9 (refine Au ?_)
     refine A6 ?_;simp only[Am,Act.put,a0x,a0u,a1z];have HF3:=a0v (HF2.out.trans hC (by simp));clear hC;go_wp2_with (fail);refine bodyPost_ret (v:=.tuple #[.string (s.extract 6 en),.int .i64 en,.int .i64 0]) (by simp[results,Tryz.results73,go_sem, *]) rfl ⟨rfl,HF3.out⟩
 ·rw[HSUM.out hE hgq]
  have zq:((g:Int)!=(q:Int))=true:=by rw[bne_iff_ne];omega
  go_enter Tryz.func73,Tryz.ntmps73;go_wp2_with (fail);refine Df (by kernel_rfl) (by kernel_rfl) ?_
  iterate 10
   apply A9 rfl rfl rfl
   ·intro a w hC hA K hK
    try have h0:=hA.fr 0 rfl
    try have h14:=hA.eq 0 14 rfl
    try have h15:=hA.eq 1 15 rfl
    try have h16:=hA.eq 2 16 rfl
    try have h18:=hA.eq 4 18 rfl
    try have h19:=hA.eq 5 19 rfl
    try have h20:=hA.eq 6 20 rfl
    try have h17:=hA.eq 3 17 rfl
    try have h21:=hA.eq 7 21 rfl
    try have h22:=hA.eq 8 22 rfl
    simp only[Oper.wp,execOp];go_simp;exact hK _ hC (Fp.refl _ _)
  refine⟨?_,?_⟩
  ·repeat(first|exact trivial|refine C3 _ ?_ |refine⟨fun w1 w2 v _ hf ⟨g,h1,h2⟩=>⟨g,h1,(hf.block g (Ab h2) (by simp)).trans h2⟩,?_⟩)
  ·intro w' hC;simp only[a1x,a1w,a1u,a1v]
   iterate 10 (refine Au ?_)
   refine A6 ?_;simp only[Am,Act.put,a0x,a0u,a1z];have HF1:=a0v hC;clear hC;go_wp2_with (fail);refine Df (by kernel_rfl) (by kernel_rfl) ?_
   iterate 19
    apply A9 rfl rfl rfl
    ·intro a w hC hA K hK
     try have h0:=hA.fr 0 rfl
     try have h27:=hA.eq 0 27 rfl
     try have h28:=hA.eq 1 28 rfl
     try have h30:=hA.eq 3 30 rfl
     try have h31:=hA.eq 4 31 rfl
     try have h32:=hA.eq 5 32 rfl
     try have h29:=hA.eq 2 29 rfl
     try have h33:=hA.eq 6 33 rfl
     try have h35:=hA.eq 8 35 rfl
     try have h36:=hA.eq 9 36 rfl
     try have h37:=hA.eq 10 37 rfl
     try have h34:=hA.eq 7 34 rfl
     try have h38:=hA.eq 11 38 rfl
     try have h40:=hA.eq 13 40 rfl
     try have h41:=hA.eq 14 41 rfl
     try have h42:=hA.eq 15 42 rfl
     try have h39:=hA.eq 12 39 rfl
     try have h43:=hA.eq 16 43 rfl
     try have h44:=hA.eq 17 44 rfl
     simp only[Oper.wp,execOp];go_simp;exact hK _ hC (Fp.refl _ _)
   refine⟨?_,?_⟩
   ·repeat(first|exact trivial|refine C3 _ ?_ |refine⟨fun w1 w2 v _ hf ⟨g,h1,h2⟩=>⟨g,h1,(hf.block g (Ab h2) (by simp)).trans h2⟩,?_⟩)
   ·intro w' hC;simp only[a1x,a1w,a1u,a1v]
    iterate 19 (refine Au ?_)
    refine A6 ?_;simp only[Am,Act.put,a0x,a0u,a1z];have HF2:=a0v (HF1.out.trans hC (by simp));clear hC;go_wp2_with (fail);refine Df (by kernel_rfl) (by kernel_rfl) ?_
    iterate 9
     apply A9 rfl rfl rfl
     ·intro a w hC hA K hK
      try have h0:=hA.fr 0 rfl
      try have h45:=hA.eq 0 45 rfl
      try have h46:=hA.eq 1 46 rfl
      try have h5:=hA.fr 5 rfl
      try have h48:=hA.eq 3 48 rfl
      try have h49:=hA.eq 4 49 rfl
      try have h47:=hA.eq 2 47 rfl
      try have h50:=hA.eq 5 50 rfl
      try have h6:=hA.fr 6 rfl
      try have h51:=hA.eq 6 51 rfl
      try have h52:=hA.eq 7 52 rfl
      simp only[Oper.wp,execOp];go_simp
      first
      |exact hK _ hC (Fp.refl _ _)
      |first
        |((with_reducible refine(HS.out _ (HT.out.fp (HF2.out.trans hC (by simp)) (by simp))).mono ?_);rintro e w2 ⟨rfl,hf⟩;exact hK _ (hC.trans hf (by simp)) hf)
        |((with_reducible refine(HX.out _ (HT.out.fp (HF2.out.trans hC (by simp)) (by simp))).mono ?_);rintro e w2 ⟨rfl,hf⟩;exact hK _ (hC.trans hf (by simp)) hf)
    refine⟨?_,?_⟩
    ·repeat(first|exact trivial|refine C3 _ ?_ |refine⟨fun w1 w2 v _ hf ⟨g,h1,h2⟩=>⟨g,h1,(hf.block g (Ab h2) (by simp)).trans h2⟩,?_⟩)
    ·intro w' hC;simp only[a1x,a1w,a1u,a1v]
     iterate 9 (refine Au ?_)
     refine A6 ?_;simp only[Am,Act.put,a0x,a0u,a1z];have HF3:=a0v (HF2.out.trans hC (by simp));clear hC;go_wp2_with (fail);refine bodyPost_ret (v:=.tuple #[.string ⟨#[]⟩,.int .i64 0,.int .i64 20]) (by simp[results,Tryz.results73,go_sem, *]) rfl ⟨rfl,HF3.out⟩
end
section
open Go.RowKit
def Vw(c:Ac):Array Value:=#[.string c.row,.string c.col,.int .u64 c.ts,.int .u64 c.seq,.bool c.del,.string c.val]
def Eu(c:Ac):List Value:=[.string c.row,.string c.col,.int .u64 c.ts,.int .u64 c.seq,.bool c.del,.string c.val]
def C4(w:World)(b:Nat)(c:Ac):Prop:=w.heap[b]?=some (.cells (Vw c) 80 (0,0))
theorem C4.cell{w:World}{b:Nat}{c:Ac}(h:C4 w b c)(o:Nat):w.cell? ⟨b,o,none⟩=(Vw c)[o]?:=Aa h o
theorem C4.free{w:World}{b:Nat}{c:Ac}(h:C4 w b c)(o:Nat):w.frozen? ⟨b,o,none⟩=false:=Ar h o
theorem C4.fp{w w':World}{b:Nat}{c:Ac}{S:List Nat}(h:C4 w b c)(hf:Fp S w w')(hb:b∉S):C4 w' b c:=(hf.block b (Ab h) hb).trans h
theorem C4.set{w:World}{b:Nat}{c c':Ac}(h:C4 w b c)(o:Nat)(v:Value)(e:(Vw c).setIfInBounds o v=Vw c'):C4 (w.setCell ⟨b,o,none⟩ v) b c':=by
 unfold C4;rw[Bm h,e]
theorem C4.cells{w:World}{b:Nat}{c:Ac}(h:C4 w b c):Jr w b 0 c:=⟨h.cell 0,h.cell 1,h.cell 2,h.cell 3,h.cell 4,h.cell 5⟩
theorem xG{w:World}{b o:Nat}{c:Ac}(h:Jr w b o c)(j:Nat)(u:Value)(hu:(Eu c)[j]?=some u):w.cell? ⟨b,o+j,none⟩=some u:=by
 match j,hu with
 |0,hu=>simp[Eu] at hu;subst hu;exact h.c0
 |1,hu=>simp[Eu] at hu;subst hu;exact h.c1
 |2,hu=>simp[Eu] at hu;subst hu;exact h.c2
 |3,hu=>simp[Eu] at hu;subst hu;exact h.c3
 |4,hu=>simp[Eu] at hu;subst hu;exact h.c4
 |5,hu=>simp[Eu] at hu;subst hu;exact h.c5
 |j+6,hu=>simp[Eu] at hu
theorem Y7(l:List Ac):(l.flatMap Eu).length=l.length*6:=by
 induction l with
 |nil=>rfl
 |cons c l ih=>rw[List.flatMap_cons,List.length_append,ih,List.length_cons];show 6+_ =_;omega
theorem Y8(l:List Ac)(i j:Nat)(hj:j<6)(hi:i<l.length):(l.flatMap Eu)[i*6+j]?=(Eu l[i])[j]?:=by
 induction l generalizing i with
 |nil=>exact absurd hi (Nat.not_lt_zero _)
 |cons c l ih=>
  rw[List.flatMap_cons]
  cases i with
  |zero=>rw[List.getElem?_append_left (by show 0*6+j<6;omega)];simp
  |succ i=>
   rw[List.getElem?_append_right (by show 6≤(i+1)*6+j;omega)]
   have e:(i+1)*6+j-(Eu c).length=i*6+j:=by show(i+1)*6+j-6=_;omega
   rw[e];exact ih i (by simpa using hi)
theorem iR{w:World}{b o:Nat}{l:List Ac}(h:∀i (hi:i<l.length),Jr w b (o+i*6) l[i])(j:Nat)(u:Value)(hu:(l.flatMap Eu)[j]?=some u):w.cell? ⟨b,o+j,none⟩=some u:=by
 have hlt:j<l.length*6:=by rw[←Y7];exact(List.getElem?_eq_some_iff.1 hu).1
 have hi:j/6<l.length:=by omega
 have hj:j%6<6:=Nat.mod_lt _ (by decide)
 have e:j=j/6*6+j%6:=by omega
 rw[e,Y8 l _ _ hj hi] at hu;have:=xG (h _ hi) _ _ hu;rw[e,←Nat.add_assoc];exact this
def A2(w:World)(base:Nat)(v:Value)(l:List Ac):Prop:=w.ownsRow base 80 6 v l.length (l.flatMap Eu)
theorem A2.nil(w:World)(base:Nat):A2 w base (.slice none 0 0) []:=World.ownsRow_nil w base _ _
theorem A2.mono{w:World}{base base':Nat}{v:Value}{l:List Ac}(h:A2 w base v l)(hb:base'≤base):A2 w base' v l:=by
 obtain⟨h1,h2⟩:=h;refine⟨h1,?_⟩
 rcases h2 with h2|⟨g,cap,cur,hv,hg,r⟩
 ·exact Or.inl h2
 ·exact Or.inr ⟨g,cap,cur,hv,Nat.le_trans hb hg,r⟩
theorem A2.lt{w:World}{base:Nat}{v:Value}{l:List Ac}(h:A2 w base v l):∀k,v.ownBlock=some k→base≤k∧k<w.heap.size:=World.ownsRow.lt h
theorem A2.kept{w w':World}{base:Nat}{v:Value}{l:List Ac}(h:A2 w base v l)(hf:∀k,v.ownBlock=some k→w'.heap[k]?=w.heap[k]?):A2 w' base v l:=by
 obtain⟨h1,h2⟩:=h;refine⟨h1,?_⟩
 rcases h2 with h2|⟨g,cap,cur,hv,hg,hh,r⟩
 ·exact Or.inl h2
 ·exact Or.inr ⟨g,cap,cur,hv,hg,(hf g (by rw[hv];rfl)).trans hh,r⟩
theorem A2.fp{w w':World}{base:Nat}{v:Value}{l:List Ac}{S:List Nat}(h:A2 w base v l)(hf:Fp S w w')(hS:∀i∈S,i<base):A2 w' base v l:=
 h.kept fun k hk=>hf.block k (h.lt k hk).2 (fun hm=>by have:=hS k hm;have:=(h.lt k hk).1;omega)
theorem A2.at{w:World}{base:Nat}{v:Value}{l:List Ac}(h:A2 w base v l)(hok:∀c∈l,Dn c):∃a cap,v=.slice a l.length cap∧Bt w a l.length l:=by
 obtain⟨h1,h2⟩:=h
 rcases h2 with⟨rfl,h0⟩|⟨g,cap,cur,rfl,hg,hh,hn,hm,hs,ht⟩
 ·have:l=[]:=List.eq_nil_of_length_eq_zero h0;subst this;exact⟨none,0,rfl,rfl,Or.inl rfl,by simp⟩
 ·refine⟨_,_,rfl,rfl,Or.inr ⟨g,0,rfl,Ab hh,fun i hi=>?_⟩,hok⟩
  have key:∀j,j<6→w.cell? ⟨g,0+i*6+j,none⟩=(Eu l[i])[j]?:=by
   intro j hj;rw[Aa hh,←Y8 l i j hj hi,←ht,List.getElem?_take,if_pos (by omega),Array.getElem?_toList,Nat.zero_add]
  exact⟨key 0 (by decide),key 1 (by decide),key 2 (by decide),key 3 (by decide),key 4 (by decide),key 5 (by decide)⟩
theorem A2.at2{w:World}{base:Nat}{v:Value}{l:List Ac}(h:A2 w base v l)(hok:∀c∈l,Dn c):∃a cap,v=.slice a l.length cap∧(a=none→cap=0)∧Bt w a l.length l:=by
 obtain⟨a,cap,e,hc⟩:=h.at hok;refine⟨a,cap,e,fun hn=>?_,hc⟩
 rcases h.2 with⟨h1,_⟩|⟨g,c2,cur,h1,_⟩
 ·rw[e] at h1
  injection h1
 ·rw[e,hn] at h1
  injection h1 with h2
  cases h2
theorem A2.made(w:World)(base:Nat)(hb:base≤w.heap.size):A2 (w.alloc (.cells #[] 80)) base (.slice (some ⟨w.heap.size,0,none⟩) 0 0) []:=
 World.ownsRow_made w #[] 0 hb (by decide) rfl
theorem Tryz.infoCel:(Tryz.prog.info? 80).map (fun i=>(i.zero,i.size,i.bytes))=some (some (.agg #[.string ⟨#[]⟩,.string ⟨#[]⟩,.int .u64 0,.int .u64 0,.bool false,.string ⟨#[]⟩]),6,72):=by kernel_rfl
theorem iS{w w':World}{base:Nat}{v:Value}{l:List Ac}(h:A2 w base v l)(hg:w.grownBy w' v.ownBlock)(hb:base≤w.heap.size):Below base w w':=
 (Below.refl base w).grown hg hb (fun k hk=>(h.lt k hk).1)
theorem iT(l:List Ac):∀u∈l.flatMap Eu,u.oneCell'=true:=by
 intro u hu;obtain⟨c,_,hc⟩:=List.mem_flatMap.1 hu;simp only[Eu,List.mem_cons,List.not_mem_nil,or_false] at hc
 rcases hc with rfl|rfl|rfl|rfl|rfl|rfl<;>rfl
theorem Y9{w:World}{ops:Array Oper}{rest:List Oper}{o:Oper}{a:Act}{Q:Exit→Act→World→Prop}(hgd:o.guard=none)(s x:Operand)
  (ho:o.op=.call {callee:=.builtin .append,args:=#[s,x],argTypes:=#[78,78]})(base:Nat)(v:Value)(l:List Ac)(hs:a.eval s=v)(hown:A2 w base v l)
  (ad:Option Addr)(m c:Nat)(ls:List Ac)(hx:a.eval x=.slice ad m c)(hl:Bt w ad m ls)(hnone:ad=none→c=0)(hlen:l.length+ls.length≤1000000000)(hbase:base≤w.heap.size)
  (h:∀v' w',A2 w' base v' (l++ls)→Below base w w'→wpList Tryz.prog ops Q rest (a.put o.dst v') w'):wpList Tryz.prog ops Q (o::rest) a w:=by
 obtain⟨i0,hi,hz0,hz1,hz2⟩:=info_parts Tryz.infoCel;have hm:=hl.len
 cases ad with
 |none=>
  have:ls=[]:=by
   rcases hl.cells with h0|⟨b,o,h0,_⟩
   ·exact h0
   ·cases h0
  subst this;obtain rfl:=hnone rfl;have hm0:m=0:=hm;subst hm0;refine wpList_append_own_none hgd s x 78 ho base 80 i0 6 Tryz.underlying78 hi v l.length (l.flatMap Eu) hs hown hx ?_;exact h v w (by rw[List.append_nil];exact hown) (Below.refl _ _)
 |some ad=>
  refine wpList_append_own w hgd s x 78 ho base 80 i0 _ 6 72 Tryz.underlying78 hi hz0 hz1 hz2 rfl (by decide) v l.length (l.flatMap Eu) hs hown ad m c (ls.flatMap Eu) hx (by rw[Y7,hm]) ?_ (iT ls) (by unfold maxLen;omega) (by omega) hbase ?_
  ·intro j u hu
   rcases hl.cells with h0|⟨b,o,h0,_,hc⟩
   ·subst h0;simp at hu
   ·obtain rfl:=Option.some.inj h0
    have e1:(⟨b,o,none⟩:Addr).add j=⟨b,o+j,none⟩:=by unfold Addr.add;split<;>simp_all
    rw[e1];exact iR hc j u hu
  ·intro v' w' h1 h2 _;refine h v' w' ?_ (iS hown h2 hbase);unfold A2;rw[List.length_append,List.flatMap_append,←hm];exact h1
theorem C4.one{w:World}{b:Nat}{c:Ac}(h:C4 w b c)(hok:Dn c):Bt w (some ⟨b,0,none⟩) 1 [c]:=
 ⟨rfl,Or.inr ⟨b,0,rfl,Ab h,fun i hi=>by
  obtain rfl:i=0:=by simpa using hi
  exact h.cells⟩,by simpa using hok⟩
theorem C4.facts0{w:World}{b:Nat}{c:Ac}(h:C4 w b c):
  w.cell? ⟨b,0,none⟩=some (.string c.row)∧w.cell? ⟨b,1,none⟩=some (.string c.col)∧w.cell? ⟨b,2,none⟩=some (.int .u64 c.ts)∧
  w.cell? ⟨b,3,none⟩=some (.int .u64 c.seq)∧w.cell? ⟨b,4,none⟩=some (.bool c.del)∧w.cell? ⟨b,5,none⟩=some (.string c.val)∧
  w.frozen? ⟨b,0,none⟩=false∧w.frozen? ⟨b,1,none⟩=false∧w.frozen? ⟨b,2,none⟩=false∧w.frozen? ⟨b,3,none⟩=false∧w.frozen? ⟨b,4,none⟩=false∧w.frozen? ⟨b,5,none⟩=false:=
 ⟨h.cell 0,h.cell 1,h.cell 2,h.cell 3,h.cell 4,h.cell 5,h.free 0,h.free 1,h.free 2,h.free 3,h.free 4,h.free 5⟩
theorem C4.facts{w:World}{b:Nat}{c:Ac}(h:C4 w b c):
  (∀X:Obj,(w.alloc X).cell? ⟨b,0,none⟩=some (.string c.row))∧(∀X:Obj,(w.alloc X).cell? ⟨b,1,none⟩=some (.string c.col))∧(∀X:Obj,(w.alloc X).cell? ⟨b,2,none⟩=some (.int .u64 c.ts))∧
  (∀X:Obj,(w.alloc X).cell? ⟨b,3,none⟩=some (.int .u64 c.seq))∧(∀X:Obj,(w.alloc X).cell? ⟨b,4,none⟩=some (.bool c.del))∧(∀X:Obj,(w.alloc X).cell? ⟨b,5,none⟩=some (.string c.val))∧
  (∀X:Obj,(w.alloc X).frozen? ⟨b,0,none⟩=false)∧(∀X:Obj,(w.alloc X).frozen? ⟨b,1,none⟩=false)∧(∀X:Obj,(w.alloc X).frozen? ⟨b,2,none⟩=false)∧
  (∀X:Obj,(w.alloc X).frozen? ⟨b,3,none⟩=false)∧(∀X:Obj,(w.alloc X).frozen? ⟨b,4,none⟩=false)∧(∀X:Obj,(w.alloc X).frozen? ⟨b,5,none⟩=false):=by
 have k:∀X:Obj,C4 (w.alloc X) b c:=fun X=>h.fp (Fp.alloc w X) List.not_mem_nil
 exact⟨fun X=>(k X).cell 0,fun X=>(k X).cell 1,fun X=>(k X).cell 2,fun X=>(k X).cell 3,fun X=>(k X).cell 4,fun X=>(k X).cell 5,fun X=>(k X).free 0,fun X=>(k X).free 1,fun X=>(k X).free 2,fun X=>(k X).free 3,fun X=>(k X).free 4,fun X=>(k X).free 5⟩
end
end Go.Proofs.YtkagolpnaicdoaaGreatDoor
