/-
 The checksum: what it computes, and the document's.
-/
import Derived.Test.YtkagolpnaicdoaaGreatDoorPVdOps2
import Derived.Test.YtkagolpnaicdoaaGreatDoorPRegion
import Derived.Test.YtkagolpnaicdoaaGreatDoorRows
import Derived.Laws.BitsLemmas
import Derived.IntWalk
set_option maxRecDepth 100000
set_option maxHeartbeats 8000000
open Nat renaming xor_lt_two_pow→a0z,mod_eq_of_lt→a0w
open BitVec renaming toNat_ofNat→a0x,ofInt→a0u,ofInt_natCast→a1v
open Go.Lib renaming hid→a0v
open Go.IntKind renaming wrap_u32→a1z
open List renaming getElem?_eq_getElem→a1x,not_mem_nil→a1w
namespace Go.Proofs.YtkagolpnaicdoaaGreatDoor
open Go.RowKit
theorem Ul(a b:Nat)(ha:a<4294967296)(hb:b<4294967296):bits .xor .u32 (a:Int) (b:Int)=((a ^^^ b:Nat):Int):=by
 have hx:a ^^^ b<2^32:=a0z (by omega) (by omega)
 have h1:(a0u 32 (a:Int)).toNat=a:=by
  rw[a1v,a0x];exact a0w (by omega)
 have h2:(a0u 32 (b:Int)).toNat=b:=by
  rw[a1v,a0x];exact a0w (by omega)
 show IntKind.u32.wrap ((a0u 32 (a:Int) ^^^ a0u 32 (b:Int)).toNat:Int)=_;rw[BitVec.toNat_xor,h1,h2,a1z];omega
theorem bS(a:Nat)(ha:a<4294967296):bits .and .u32 (a:Int) 15=((a%16:Nat):Int):=
 bits_mask .u32 32 (by decide) (fun n h0 h1=>by rw[a1z];omega) 4 (by decide) a (by omega) (by omega)
def Ce(w:World):Prop:=∀i,i<16→w.cell? ⟨0,i,none⟩=some (.int .u32 (Ih.getD i 0:Nat))
theorem Ce.fp{w w':World}{S:List Nat}(h:Ce w)(hf:Fp S w w')(hs:0∉S):Ce w':=fun i hi=>
 (hf.cell (p:=⟨0,i,none⟩) (World.block_lt_of_cell? _ _ (h i hi)) hs).trans (h i hi)
theorem bT(i:Nat):Ih.getD i 0<4294967296:=by
 by_cases h:i<16
 ·have key:∀r,r<16→Ih.getD r 0<4294967296:=by decide
  exact key i h
 ·rw[List.getD_eq_getElem?_getD,List.getElem?_eq_none (by show 16≤i;omega)];decide
theorem nU(w:World)(s:ByteArray):∃cap W,(convert 9 113 (.string s)).run Tryz.prog w=.ok (.slice (some ⟨w.heap.size,0,none⟩) s.size cap) W∧
  (∀j (h:j<s.size),W.cell? ⟨w.heap.size,j,none⟩=some (.int .u8 s[j].toNat))∧Fp [] w W:=by
 have h:=run_bytes_of_string (P:=Tryz.prog) w 9 113 5 s Tryz.underlying9 Tryz.underlying113 Tryz.underlying5;refine⟨_,_,h,?_,(Fp.drew w).alloc' _⟩;have hb:=Ai (w:=w.drew) (n:=w.heap.size) rfl (.cells (bytesRow s (grownCap w s.size 0 5)) 5 ((bytesRow s (grownCap w s.size 0 5)).size,(bytesRow s (grownCap w s.size 0 5)).size+1));intro j hj;rw[Aa hb,bytesRow_at s _ j hj];rfl
theorem nV(n:Nat)(l:List UInt8)(b:UInt8):Oe n (l++[b])=Oc (Oe n l) b:=by unfold Oe;rw[List.foldl_append];rfl
theorem nW(l:List UInt8):∀n,n<4294967296→Oe n l<4294967296:=by
 induction l with
 |nil=>intro n h;exact h
 |cons b l ih=>intro n h;exact ih _ (Aat h)
def Lo(n:Nat)(s:ByteArray)(k:Nat):Nat:=Oe n (s.data.toList.take k)
theorem nX(n:Nat)(s:ByteArray)(k:Nat)(hk:k<s.size):Lo n s (k+1)=Oc (Lo n s k) s[k]:=by
 have hl:k<s.data.toList.length:=hk
 have e:s.data.toList[k]?=some s[k]:=by
  rw[a1x hl];simp;rfl
 rw[a1x hl] at e;unfold Lo;rw[List.take_succ_eq_append_getElem hl,nV,Option.some.inj e]
theorem nY(n:Nat)(s:ByteArray):Lo n s s.size=Oe n s.data.toList:=by
 unfold Lo;exact congrArg (Oe n) (List.take_of_length_le (Nat.le_refl s.data.toList.length))
theorem bU{n:Nat}(s:ByteArray)(k:Nat)(h:n<4294967296):Lo n s k<4294967296:=nW _ _ h
def D5(n:Nat)(s:ByteArray):Nat:=4294967295-Oe (4294967295-n) s.data.toList
theorem bV(n:Nat)(h:n<4294967296):bits .xor .u32 IntKind.u32.max (n:Int)=((4294967295-n:Nat):Int):=by
 have e:IntKind.u32.max=((4294967295:Nat):Int):=rfl;rw[e,Ul _ _ (by decide) h];congr 1
 have h1:(BitVec.allOnes 32 ^^^ BitVec.ofNat 32 n).toNat=4294967295 ^^^ n:=by
  rw[BitVec.toNat_xor,BitVec.toNat_allOnes,a0x,a0w (by omega)]
 rw[←h1,BitVec.allOnes_xor,BitVec.toNat_not,a0x,a0w (by omega)]
theorem Um(n:Nat)(s:ByteArray)(w:World)(hn:n<4294967296)(hs:s.size≤100000000)(ht:Ce w):
  Calls Tryz.prog 98 #[.int .u32 n,.string s] w fun e w'=>e=.returned (.int .u32 (D5 n s))∧Fp [] w w':=by
 obtain⟨cap,W,hconv,hrow,hf⟩:=nU w s;have HT:=a0v (ht.fp hf a1w);have HROW:=a0v hrow;have HF0:=a0v hf;clear ht hrow hf;have hsg:IntKind.u32.signed=false:=rfl;have hnot:=bV n hn
 obtain⟨n0,hn0⟩:∃n0,4294967295-n=n0:=⟨_,rfl⟩
 have HM:Hid (D5 n s=4294967295-Lo n0 s s.size):=by unfold Hid D5;rw[hn0,nY]
 have hn1:n0<4294967296:=by omega
 rw[hn0] at hnot;clear hn0;go_enter Tryz.func98,Tryz.ntmps98;go_wp2_with (fail)
 go_loopg [5,13] s.size (fun g vn vi wr=>∃k:Nat,g+k=s.size∧vn=.int .u32 (Lo n0 s k)∧vi=.int .i64 k∧Fp [] W wr)
 case atStart=>exact⟨0,by omega,rfl,rfl,Fp.refl _ _⟩
 case round=>
  obtain⟨k,hg,rfl,rfl,hf⟩:=hrel;have HF:=a0v hf;clear hf
  by_cases hk:k<s.size
  ·have HS:=a0v (nX n0 s k hk);have hlt:=bU s k hn1
   obtain⟨m,hm⟩:∃m,Lo n0 s k=m:=⟨_,rfl⟩
   rw[hm] at HS hlt;rw[hm]
   have q0:wr.cell? ⟨w.heap.size,k,none⟩=some (.int .u8 s[k].toNat):=by
    rw[HF.out.cell (p:=⟨w.heap.size,k,none⟩) (World.block_lt_of_cell? _ _ (HROW.out k hk)) a1w];exact HROW.out k hk
   obtain⟨b,hb⟩:∃b,s[k]=b:=⟨_,rfl⟩
   rw[hb] at q0 HS;have hbl:=b.toNat_lt
   have wb:IntKind.u32.wrap (b.toNat:Int)=(b.toNat:Int):=by rw[a1z];omega
   have x1:=Ul m b.toNat hlt (by omega);have l1:m ^^^ b.toNat<4294967296:=a0z (n:=32) hlt (by omega)
   obtain⟨m1,hm1⟩:∃m1,m ^^^ b.toNat=m1:=⟨_,rfl⟩
   rw[hm1] at x1 l1;have HT1:=a0v (HT.out.fp HF.out a1w)
   have HB:Hid (Oc m b=L9 (L9 m1)):=by unfold Hid;rw[←Aas,Zv,hm1]
   clear hm hb hm1
   obtain⟨r1,hr1⟩:∃r,m1%16=r:=⟨_,rfl⟩
   have rl1:r1<16:=by omega
   have a1:=bS m1 l1;rw[hr1] at a1
   obtain⟨d1,hd1⟩:∃d,m1/16=d:=⟨_,rfl⟩
   have e1:(m1:Int)/16=(d1:Int):=by omega
   have t1:wr.cell? ⟨0,r1,none⟩=some (.int .u32 (Ih.getD r1 0:Nat)):=HT1.out r1 rl1;have fl1:=bT r1
   have HN1:Hid (L9 m1=d1 ^^^ Ih.getD r1 0):=by unfold Hid L9;rw[hr1,hd1]
   obtain⟨f1,hf1⟩:∃f,Ih.getD r1 0=f:=⟨_,rfl⟩
   rw[hf1] at t1 fl1 HN1;have x2:=Ul d1 f1 (by omega) fl1;have l2:d1 ^^^ f1<4294967296:=a0z (n:=32) (by omega) fl1
   obtain⟨m2,hm2⟩:∃m,d1 ^^^ f1=m:=⟨_,rfl⟩
   rw[hm2] at x2 l2 HN1;clear hr1 hd1 hf1 hm2
   obtain⟨r2,hr2⟩:∃r,m2%16=r:=⟨_,rfl⟩
   have rl2:r2<16:=by omega
   have a2:=bS m2 l2;rw[hr2] at a2
   obtain⟨d2,hd2⟩:∃d,m2/16=d:=⟨_,rfl⟩
   have e2:(m2:Int)/16=(d2:Int):=by omega
   have t2:wr.cell? ⟨0,r2,none⟩=some (.int .u32 (Ih.getD r2 0:Nat)):=HT1.out r2 rl2;have fl2:=bT r2
   have HN2:Hid (L9 m2=d2 ^^^ Ih.getD r2 0):=by unfold Hid L9;rw[hr2,hd2]
   obtain⟨f2,hf2⟩:∃f,Ih.getD r2 0=f:=⟨_,rfl⟩
   rw[hf2] at t2 fl2 HN2;have x3:=Ul d2 f2 (by omega) fl2;have l3:d2 ^^^ f2<4294967296:=a0z (n:=32) (by omega) fl2
   obtain⟨m3,hm3⟩:∃m,d2 ^^^ f2=m:=⟨_,rfl⟩
   rw[hm3] at x3 l3 HN2;clear hr2 hd2 hf2 hm3;go_wp2_with (fail)
   go_roundg (gk-1)
   case measure=>omega
   case rel=>exact⟨k+1,by omega,by rw[HS.out,HB.out,HN1.out,HN2.out],by simp,HF.out⟩
  ·obtain rfl:k=s.size:=by omega
   have hlt:=bU s s.size hn1
   obtain⟨m,hm⟩:∃m,Lo n0 s s.size=m:=⟨_,rfl⟩
   rw[hm] at HM hlt;rw[hm];have hnot2:=bV m hlt;go_wp2_with (fail);go_ret;exact⟨by rw[HM.out];rfl,HF0.out.trans HF.out (by simp)⟩
theorem Ro(s:ByteArray)(w:World)(hs:s.size≤100000000)(ht:Ce w):
  Calls Tryz.prog 52 #[.string s] w fun e w'=>e=.returned (.int .u32 (D5 0 s))∧Fp [] w w':=by
 have H:Hid (∀w,Ce w→Calls Tryz.prog 98 #[.int .u32 0,.string s] w fun e w'=>e=.returned (.int .u32 (D5 0 s))∧Fp [] w w'):=fun w ht=>Um 0 s w (by decide) hs ht
 have HT:=a0v ht;clear ht;go_enter Tryz.func52,Tryz.ntmps52;go_wp2_with (fail);(with_reducible refine(H.out _ HT.out).mono ?_);rintro e w1 ⟨rfl,hf⟩;have HF:=a0v hf;clear hf;go_wp2_with (fail);go_ret;exact⟨rfl,HF.out⟩
end Go.Proofs.YtkagolpnaicdoaaGreatDoor
