/-
 Key. A number of eight bytes, the lowest one first. The reader of bytes. The reader of bytes: numbers and flags. Appends of bytes, as steps of a region that draws its order. Decode. Encode. Encode and Decode: plain laws. The small case of layer 1, and the bound. Cells stand as their keys' bytes do. The reference of layer 1: May, Number, value, short. The reference of layer 1: Number, Encode. The reference of layer 1: Encode.
-/
import Derived.Test.YtkagolpnaicdoaaGreatDoorPMaps
import Derived.Test.YtkagolpnaicdoaaGreatDoorPCellA
import Derived.Laws.Bits64
import Derived.Outline
import Derived.Laws.Bits64b
import Derived.Deep.AppendLies
import Derived.Deep.RegionHeld3
import Derived.IntWalk
import Derived.Laws.DeepStrings4
set_option maxRecDepth 100000
set_option maxHeartbeats 8000000
open Go.Lib renaming hid→a0z
open UInt8 renaming ofNat→a0x,toNat_ofNat'→a0w
open Nat renaming mod_eq_of_lt→a0v,pow_succ→a1x
open List renaming getD_eq_getElem?_getD→a0u,length_append→a1z,getElem?_eq_getElem→a1w
namespace Go.Proofs.YtkagolpnaicdoaaGreatDoor
section
open Go.RowKit
def Ey:Nat:=18446744073709551615
def Em(c:Ac):List UInt8:=C0 c.row.data.toList++0::1::(C0 c.col.data.toList++0::1::(Jt (Ey-c.ts)++Jt (Ey-c.seq)))
def Ik(c:Ac):Nat→List UInt8
 |0=>[]
 |1=>C0 c.row.data.toList++[0,1]
 |_=>C0 c.row.data.toList++[0,1]++C0 c.col.data.toList++[0,1]
theorem nD{c:Ac}(h:Di c=true):(1≤c.row.size∧c.row.size≤40)∧(1≤c.col.size∧c.col.size≤40)∧c.val.size≤100∧(c.del=true→c.val.size=0):=by
 unfold Di Il at h;simp only[Bool.and_eq_true,decide_eq_true_eq,Bool.or_eq_true,Bool.not_eq_true'] at h;obtain⟨⟨⟨h1,h2⟩,h3⟩,h4⟩:=h;refine⟨h1,h2,h3,fun hd=>?_⟩
 rcases h4 with h4|h4
 ·rw[hd] at h4;cases h4
 ·exact h4
theorem bA(w:World)(x y:UInt8):∀j (h:j<[x,y].length),(w.alloc (.cells #[A4 x,A4 y] 5)).cell? ⟨w.heap.size,0+j,none⟩=some (A4 [x,y][j]):=by
 intro j hj
 have h2:j=0∨j=1:=by have:j<2:=hj;omega
 rcases h2 with rfl|rfl
 ·exact Aa (Ai rfl _) 0
 ·exact Aa (Ai rfl _) 1
theorem bB(s:ByteArray):(⟨(C0 s.data.toList).toArray⟩:ByteArray).size≤2*s.size:=by
 have h:=Rk s.data.toList;rw[←Lib.size_eq] at h;show(C0 s.data.toList).toArray.size≤_
 simpa using h
theorem P3(c:Ac)(k:Nat)(hr:c.row.size≤40)(hc:c.col.size≤40):(Ik c k).length≤200:=by
 have h1:=Rk c.row.data.toList;have h2:=Rk c.col.data.toList;rw[←Lib.size_eq] at h1 h2;unfold Ik
 split<;>simp only[a1z,List.length_cons,List.length_nil]<;>omega
theorem nE(c:Ac){w:World}{b:Nat}{v:Value}(h:Bn w b v (Ik c 0++(⟨(C0 c.row.data.toList).toArray⟩:ByteArray).data.toList++[0,1])):Bn w b v (Ik c (0+1)):=h
theorem nF(c:Ac){w:World}{b:Nat}{v:Value}(h:Bn w b v (Ik c 1++(⟨(C0 c.col.data.toList).toArray⟩:ByteArray).data.toList++[0,1])):Bn w b v (Ik c (1+1)):=h
theorem bC(a:Nat)(h:a<18446744073709551616):bits .xor .u64 IntKind.u64.max (a:Int)=((Ey-a:Nat):Int):=by
 have h1:=BitVec.toNat_not (x:=BitVec.ofNat 64 a);rw[BitVec.not_def,BitVec.toNat_xor,BitVec.toNat_allOnes,BitVec.toNat_ofNat,a0v h] at h1;have h2:=bits_xor_u64_nat 18446744073709551615 a (by decide) h;have h3:(18446744073709551615:Nat) ^^^ a=Ey-a:=h1;rw[h3] at h2;exact h2
theorem nG(c:Ac):Ik c 2++Jt (Ey-c.ts)++Jt (Ey-c.seq)=Em c:=by
 unfold Ik Em;simp
theorem bD(s:ByteArray)(w:World)(hm:K2 w)(hs:s.size≤1000):
  Calls Tryz.prog 208 #[.string s,.string ⟨#[0]⟩,.string ⟨#[0,255]⟩] w fun e w'=>e=.returned (.string ⟨(C0 s.data.toList).toArray⟩)∧Fp [] w w':=by
 obtain⟨m,hm⟩:=hm;have hcb:Lib.countB s ⟨#[0]⟩≤s.size:=Lib.countB_le ⟨#[0]⟩ (by decide) s.size s (Nat.le_refl _);have h2:(⟨#[0,255]⟩:ByteArray).size=2:=rfl;refine(Tryz.strings_ReplaceAll s ⟨#[0]⟩ ⟨#[0,255]⟩ m w (by omega) hm (by decide) (by rw[h2];omega)).mono ?_;rintro e w' ⟨rfl,hb⟩;exact⟨by rw[←mQ],Below.toFp hb⟩
theorem nH(a b:ByteArray)(w:World):(Instr.index 290 (.agg #[.string a,.string b]) (.int .i64 0)).run Tryz.prog w=.ok (.string a) w:=by
 simp[Instr.index,run_underlying Tryz.underlying290,asIntOf,go_sem]
theorem nI(a b:ByteArray)(w:World):(Instr.index 290 (.agg #[.string a,.string b]) (.int .i64 1)).run Tryz.prog w=.ok (.string b) w:=by
 simp[Instr.index,run_underlying Tryz.underlying290,asIntOf,go_sem]
theorem nJ(c:Ac)(w:World)(hc:Dn c)(hmay:Di c=true)(hm:K2 w):Calls Tryz.prog 152 #[D4 c] w fun e w'=>e=.returned (.string ⟨(Em c).toArray⟩)∧Fp [] w w':=by
 have n1:=fun w=>aS c w hc
 obtain⟨hr,hk,_⟩:=nD hmay;rw[hmay] at n1;have ht:=hc.ts;have hq:=hc.seq;unfold D4 at n1 ⊢;have N1:=a0z n1;have HM:=a0z hm;clear n1 hmay hm
 obtain⟨W,hW⟩:∃W,W=w.alloc (.cells #[.string c.row,.string c.col,.int .u64 c.ts,.int .u64 c.seq,.bool c.del,.string c.val] 80):=⟨_,rfl⟩
 have hb:W.heap[w.heap.size]?=some (.cells #[.string c.row,.string c.col,.int .u64 c.ts,.int .u64 c.seq,.bool c.del,.string c.val] 80 (0,0)):=by
  rw[hW];exact Ai rfl _
 have hfw:Fp [] w W:=by rw[hW];exact Fp.alloc _ _
 have hcell:∀w',Fp [] W w'→w'.cell? ⟨w.heap.size,0,none⟩=some (.string c.row)∧w'.cell? ⟨w.heap.size,1,none⟩=some (.string c.col)∧w'.cell? ⟨w.heap.size,2,none⟩=some (.int .u64 c.ts)∧w'.cell? ⟨w.heap.size,3,none⟩=some (.int .u64 c.seq)∧w.heap.size<w'.heap.size:=by
  intro w' hf;have h1:=(hf.block _ (Ab hb) (by simp)).trans hb;exact⟨Aa h1 0,Aa h1 1,Aa h1 2,Aa h1 3,Ab h1⟩
 have HCELL:=a0z hcell;have HFW:=a0z hfw;have HW:=a0z hW;have HMM:=a0z (K2.fp HM.out hfw (by simp));clear hcell hfw hb hW;go_enter Tryz.func152,Tryz.ntmps152;go_wp2_with (fail);rw[←HW.out];refine(N1.out _).mono ?_;rintro e w1 ⟨rfl,hf1⟩;have HF1:=a0z hf1;obtain⟨c0,c1,-,-,hlt⟩:=HCELL.out _ hf1;clear hf1;go_wp2_with (fail);have HLT:=a0z hlt;have hw1:W.heap.size≤w1.heap.size:=HF1.out.size
 have hwW:W.heap.size=w.heap.size+1:=by rw[HW.out];simp
 clear c0 c1 hlt
 go_loopg [3,15] 2 (fun g vb vi wr=>∃k:Nat,g+k=2∧vi=.int .i64 k∧Bn wr W.heap.size vb (Ik c k)∧Fp [] W wr)
 case atStart=>
  refine⟨0,rfl,rfl,?_,HF1.out.alloc' _⟩;exact Bn.made w1 W.heap.size [] (by omega) (by decide)
 case round=>
  obtain⟨k,hg,rfl,ho,hf⟩:=hrel;have HO:=a0z ho;have HF:=a0z hf;clear ho hf
  have h3:k=0∨k=1∨k=2:=by omega
  rcases h3 with rfl|rfl|rfl
  ·rw[show((0:Nat):Int)=0 from rfl]
   have hx:=fun w=>nH c.row c.col w
   go_wp2_with (fail);refine(bD c.row _ (HMM.out.fp HF.out (by simp)) (by omega)).mono ?_;rintro e w2 ⟨rfl,hf2⟩;have HF2:=a0z (HF.out.trans hf2 (by simp));have HO2:=a0z (HO.out.fp hf2)
   have hb2:W.heap.size≤w2.heap.size:=by have:=HF2.out.size;omega
   have hlen:(Ik c 0).length+(⟨(C0 c.row.data.toList).toArray⟩:ByteArray).size≤1000000000:=by
    have:=P3 c 0 hr.2 hk.2;have:=bB c.row;omega
   have HL:=a0z hlen;clear hf2 hlen
   have hlen:(Ik c 0++(⟨(C0 c.row.data.toList).toArray⟩:ByteArray).data.toList).length+2≤1000000000:=by
    have h4:=P3 c 0 hr.2 hk.2;have h5:=Rk c.row.data.toList;rw[←Lib.size_eq] at h5;show(Ik c 0++C0 c.row.data.toList).length+2≤_;simp only[a1z];omega
   have HL3:=a0z hlen;clear hlen
   go_wp2_with (first
    |(at_builtin;refine Xa rfl _ _ rfl W.heap.size _ _ rfl HO2.out _ rfl HL.out hb2 ?_;intro v3 w3 hown3 hbel3;have HF3:=a0z (HF2.out.belowTrans hbel3);have hb3:W.heap.size≤w3.heap.size:=HF3.out.size;have HO3:=a0z hown3;have HCL:=a0z (bA w3 0 1);clear hown3 hbel3)
    |(at_builtin;refine Uh rfl _ _ rfl W.heap.size _ _ rfl (HO3.out.alloc _) w3.heap.size 0 2 2 [0,1] rfl rfl HCL.out HL3.out (by simp;omega) ?_;intro v4 w4 hown4 hbel4))
   have HF4:=a0z ((HF3.out.alloc' _).belowTrans hbel4);have HO4:=a0z hown4;clear hown4 hbel4;go_wp2_with (fail)
   go_roundg (gk-1)
   case measure=>omega
   case rel=>exact⟨1,by omega,by go_num,nE c HO4.out,HF4.out⟩
  ·rw[show((1:Nat):Int)=1 from rfl]
   have hx:=fun w=>nI c.row c.col w
   go_wp2_with (fail);refine(bD c.col _ (HMM.out.fp HF.out (by simp)) (by omega)).mono ?_;rintro e w2 ⟨rfl,hf2⟩;have HF2:=a0z (HF.out.trans hf2 (by simp));have HO2:=a0z (HO.out.fp hf2)
   have hb2:W.heap.size≤w2.heap.size:=by have:=HF2.out.size;omega
   have hlen:(Ik c 1).length+(⟨(C0 c.col.data.toList).toArray⟩:ByteArray).size≤1000000000:=by
    have:=P3 c 1 hr.2 hk.2;have:=bB c.col;omega
   have HL:=a0z hlen;clear hf2 hlen
   have hlen:(Ik c 1++(⟨(C0 c.col.data.toList).toArray⟩:ByteArray).data.toList).length+2≤1000000000:=by
    have h4:=P3 c 1 hr.2 hk.2;have h5:=Rk c.col.data.toList;rw[←Lib.size_eq] at h5;show(Ik c 1++C0 c.col.data.toList).length+2≤_;simp only[a1z];omega
   have HL3:=a0z hlen;clear hlen
   go_wp2_with (first
    |(at_builtin;refine Xa rfl _ _ rfl W.heap.size _ _ rfl HO2.out _ rfl HL.out hb2 ?_;intro v3 w3 hown3 hbel3;have HF3:=a0z (HF2.out.belowTrans hbel3);have hb3:W.heap.size≤w3.heap.size:=HF3.out.size;have HO3:=a0z hown3;have HCL:=a0z (bA w3 0 1);clear hown3 hbel3)
    |(at_builtin;refine Uh rfl _ _ rfl W.heap.size _ _ rfl (HO3.out.alloc _) w3.heap.size 0 2 2 [0,1] rfl rfl HCL.out HL3.out (by simp;omega) ?_;intro v4 w4 hown4 hbel4))
   have HF4:=a0z ((HF3.out.alloc' _).belowTrans hbel4);have HO4:=a0z hown4;clear hown4 hbel4;go_wp2_with (fail)
   go_roundg (gk-1)
   case measure=>omega
   case rel=>exact⟨2,by omega,by go_num,nF c HO4.out,HF4.out⟩
  ·obtain⟨-,-,c2,c3,hlt⟩:=HCELL.out _ HF.out;have hbw:W.heap.size≤wr.heap.size:=HF.out.size;have NX:=a0z (bC c.ts ht);have NY:=a0z (bC c.seq hq);go_wp2_with (fail);rw[NX.out];refine(aZ wr W.heap.size _ _ (Ey-c.ts) HO.out hbw (by have:=P3 c 2 hr.2 hk.2;omega) (by unfold Ey;omega)).mono ?_;rintro e w5 ⟨v5,rfl,ho5,hb5⟩;have HO5:=a0z ho5;have hf5:=HF.out.belowTrans hb5;have HF5:=a0z hf5;have hbw5:W.heap.size≤w5.heap.size:=hf5.size;obtain⟨-,-,d2,d3,hlt5⟩:=HCELL.out _ hf5;clear ho5 hb5 hf5 c2 c3;go_wp2_with (fail);rw[NY.out];refine(aZ w5 W.heap.size _ _ (Ey-c.seq) HO5.out hbw5 (by have:=P3 c 2 hr.2 hk.2;simp only[a1z,Jt,List.length_reverse,Ns];omega) (by unfold Ey;omega)).mono ?_;rintro e w6 ⟨v6,rfl,ho6,hb6⟩;have HF6:=a0z (HF5.out.belowTrans hb6);have hs:=Xb ho6;clear ho6 hb6 d2 d3;go_wp2_with (fail);go_ret;exact⟨sQ (by rw[←nG,List.append_assoc]),HFW.out.trans HF6.out (by simp)⟩
end
section
section
open Go.RowKit
def D7(s:ByteArray):Nat→Nat
 |0=>0
 |k+1=>D7 s k+(Aq s k).toNat*256^k
theorem Rl(s:ByteArray):∀k,D7 s k<256^k
 |0=>Nat.one_pos
 |k+1=>by
  have h1:=Rl s k;have h2:=(Aq s k).toNat_lt;show D7 s k+(Aq s k).toNat*256^k<256^(k+1);have h3:(Aq s k).toNat*256^k≤255*256^k:=Nat.mul_le_mul_right _ (by omega);rw[a1x];omega
theorem nK(s:ByteArray)(k:Nat):D7 s k ||| ((Aq s k).toNat*256^k)=D7 s (k+1):=by
 have h1:=Rl s k
 have h2:(256:Nat)^k=2^(8*k):=by rw[Nat.pow_mul]
 rw[h2] at h1 ⊢;have h3:=Nat.two_pow_add_eq_or_of_lt h1 (Aq s k).toNat;show _ =D7 s k+(Aq s k).toNat*256^k;rw[h2,Nat.or_comm,Nat.mul_comm,←h3];omega
theorem nL{s:ByteArray}{k:Nat}(hks:k<s.size)(hk:k<8):
  bits .or .u64 (D7 s k:Int) (IntKind.u64.wrap (IntKind.u64.wrap (s[k].toNat:Int)*2^(8*k)))=(D7 s (k+1):Int):=by
 have h0:s[k].toNat<256:=s[k].toNat_lt
 have e1:Aq s k=s[k]:=by
  unfold Aq;rw[a0u,a1w (by simpa using hks)];simp;rfl
 have h1:=Rl s k;have h2:=Rl s (k+1);have h3:=nK s k;rw[e1] at h3
 have h4:(256:Nat)^k=2^(8*k):=by rw[Nat.pow_mul]
 have h5:(256:Nat)^(k+1)≤256^8:=Nat.pow_le_pow_right (by decide) (by omega)
 have h6:(256:Nat)^8=18446744073709551616:=by decide
 have h7:s[k].toNat*256^k<18446744073709551616:=by
  have:D7 s (k+1)=D7 s k+s[k].toNat*256^k:=by rw[←e1];rfl
  omega
 have w1:IntKind.u64.wrap (s[k].toNat:Int)=(s[k].toNat:Int):=by rw[IntKind.wrap_u64];omega
 have w2:((s[k].toNat:Int)*2^(8*k))=((s[k].toNat*256^k:Nat):Int):=by
  rw[h4];push_cast;rfl
 rw[w1,w2,IntKind.wrap_u64,show((s[k].toNat*256^k:Nat):Int)%18446744073709551616=((s[k].toNat*256^k:Nat):Int) by omega];have h8:(256:Nat)^k≤256^8:=Nat.pow_le_pow_right (by decide) (by omega);rw[bits_or_u64_nat _ _ (by omega) h7,h3]
end
section
open Go.RowKit
end
section
open Go.RowKit
end
end
section
open Go.RowKit
theorem Ja{n:Nat}(h:n<256):A4 (a0x n)=.int .u8 n:=by
 unfold A4;rw[a0w,a0v h]
theorem Ju.one(w:World){n:Nat}(h:n<256):Ju (w.alloc (.cells #[.int .u8 n] 5)) (.slice (some ⟨w.heap.size,0,none⟩) 1 1) [a0x n]:=by
 refine Or.inr ⟨w.heap.size,0,1,rfl,by simp,W9 ?_⟩;rw[Ja h];exact Aa (Ai rfl _) 0
theorem Bn.one(w:World)(base:Nat)(hb:base≤w.heap.size){n:Nat}(h:n<256):Bn (w.alloc (.cells #[.int .u8 n] 5)) base (.slice (some ⟨w.heap.size,0,none⟩) 1 1) [a0x n]:=by
 have:=Bn.made w base [a0x n] hb (by simp[maxLen]);simp only[List.map_cons,List.map_nil,Ja h] at this;exact this
theorem Bn.two(w:World)(base:Nat)(hb:base≤w.heap.size){n m:Nat}(h:n<256)(h2:m<256):Bn (w.alloc (.cells #[.int .u8 n,.int .u8 m] 5)) base (.slice (some ⟨w.heap.size,0,none⟩) 2 2) [a0x n,a0x m]:=by
 have:=Bn.made w base [a0x n,a0x m] hb (by simp[maxLen]);simp only[List.map_cons,List.map_nil,Ja h,Ja h2] at this;exact this
theorem Bn.drew{w:World}{base:Nat}{v:Value}{l:List UInt8}(h:Bn w base v l):Bn w.drew base v l:=h.fp (Fp.drew w)
theorem Ju.drew{w:World}{v:Value}{l:List UInt8}(h:Ju w v l):Ju w.drew v l:=h.fp (Fp.drew w)
theorem Hv.reads{w:World}{b n cap:Nat}{f:Nat→UInt8}(h:Hv w b n f):Ju w (.slice (some ⟨b,0,none⟩) n cap) ((List.range n).map f):=
 Or.inr ⟨b,0,cap,by simp,h.lt,fun j hj=>by
  have hj':j<n:=by simpa using hj
  rw[Nat.zero_add,h.cell j hj'];simp⟩
theorem Bn.slice{w:World}{base:Nat}{v:Value}{l:List UInt8}(h:Bn w base v l):∃a n cap,v=.slice a n cap:=by
 obtain⟨a,cap,rfl⟩:=h.reads.form;exact⟨_,_,_,rfl⟩
theorem wrap_u8{n:Nat}(h:n<256):IntKind.u8.wrap (n:Int)=n:=by rw[IntKind.wrap_u8];omega
end
section
section
open Go.RowKit
end
section
open Go.RowKit
def Rm(d:Bool):UInt8:=if d then 1 else 0
end
section
open Go.Lib
def bl(l:List UInt8):ByteArray:=⟨l.toArray⟩
theorem M5(s:ByteArray):bl s.data.toList=s:=mk_data s
theorem D1(l:List UInt8):(bl l).size=l.length:=by show l.toArray.size=_;simp
theorem Rn(l:List UInt8):(bl l).data.toList=l:=by simp[bl]
theorem Xd(l:List UInt8)(a b:Nat):(bl l).extract a b=bl ((l.drop a).take (b-a)):=by
 rw[←M5 ((bl l).extract a b)];congr 1;rw[extract_data,Rn]
theorem Ky(l:List UInt8)(j:Nat):Aq (bl l) j=l.getD j 0:=by unfold Aq;rw[Rn]
theorem toNat_ofNat{n:Nat}(h:n<256):(a0x n).toNat=n:=by rw[a0w,a0v h]
theorem bE(n:Nat)(y:List UInt8):∀k,k≤8→D7 (bl (Gk n++y)) k=n%256^k
 |0,_=>by simp[D7,Nat.mod_one]
 |k+1,h=>by
  show D7 _ k+_ =_;rw[bE n y k (by omega),Ky,a0u,List.getElem?_append_left (by rw[Ns];omega)]
  have:(Gk n)[k]?=some (B3 n k):=by
   unfold Gk;rw[List.getElem?_map,List.getElem?_range (by omega)];rfl
  rw[this];show _ +(B3 n k).toNat*_ =_;unfold B3;have h2:=Nat.mod_mul (x:=n) (a:=256^k) (b:=256);have h3:(256:Nat)^(k+1)=256^k*256:=a1x _ _;rw[a0w,show(2:Nat)^8=256 from rfl,h3,h2,Nat.mul_comm (256^k) (n/256^k%256)]
end
section
open Go.RowKit
def ca:Ac:=⟨⟨#[114]⟩,⟨#[99]⟩,5,0,false,⟨#[118]⟩⟩
def cb:Ac:=⟨⟨#[114]⟩,⟨#[99]⟩,4,0,false,⟨#[]⟩⟩
end
section
open Go.Lib
def Oi(n:Nat):Nat→List UInt8
 |0=>[]
 |k+1=>B3 n k::Oi n k
theorem bF(n:Nat):Jt n=Oi n 8:=rfl
theorem P4(n:Nat):Du n n=0:=W7 (Nat.lt_irrefl _) (Nat.lt_irrefl _)
theorem bG(n m:Nat)(X Y:List UInt8):∀k,compareBytes (Oi n k++X) (Oi m k++Y)=if n%256^k=m%256^k then compareBytes X Y else Du (n%256^k) (m%256^k)
 |0=>by simp[Oi,Nat.mod_one]
 |k+1=>by
  have ih:=bG n m X Y k;have hn:=Nat.mod_mul (x:=n) (a:=256^k) (b:=256);have hm:=Nat.mod_mul (x:=m) (a:=256^k) (b:=256);have hp:(256:Nat)^(k+1)=256^k*256:=a1x _ _;have hpos:0<(256:Nat)^k:=Nat.pow_pos (by decide);have ln:=Nat.mod_lt n hpos;have lm:=Nat.mod_lt m hpos
  have bn:(B3 n k).toNat=n/256^k%256:=by unfold B3;rw[a0w]
  have bm:(B3 m k).toNat=m/256^k%256:=by unfold B3;rw[a0w]
  rw[hp,hn,hm];show compareBytes (B3 n k::(Oi n k++X)) (B3 m k::(Oi m k++Y))=_;generalize n/256^k%256=a at*;generalize m/256^k%256=b at*;generalize n%256^k=r at*;generalize m%256^k=s at*;generalize (256:Nat)^k=P at*
  rcases Nat.lt_trichotomy a b with h|h|h
  ·have h2:P*(a+1)≤P*b:=Nat.mul_le_mul_left _ h;rw[Nat.mul_add,Nat.mul_one] at h2;rw[Le (UInt8.lt_iff_toNat_lt.2 (by omega)),if_neg (by omega),Rh (by omega)]
  ·subst h;obtain e:B3 n k=B3 m k:=UInt8.toNat_inj.1 (by omega);rw[e,Js,ih]
   by_cases hrs:r=s
   ·rw[if_pos hrs,if_pos (by omega)]
   ·rw[if_neg hrs,if_neg (by omega)]
    rcases Nat.lt_or_gt_of_ne hrs with h|h
    ·rw[Rh h,Rh (by omega)]
    ·rw[Ri h,Ri (by omega)]
  ·have h2:P*(b+1)≤P*a:=Nat.mul_le_mul_left _ h;rw[Nat.mul_add,Nat.mul_one] at h2;rw[Lh (UInt8.lt_iff_toNat_lt.2 (by omega)),if_neg (by omega),Ri (by omega)]
theorem bH(n m:Nat)(hn:n<18446744073709551616)(hm:m<18446744073709551616)(X Y:List UInt8):compareBytes (Jt n++X) (Jt m++Y)=if n=m then compareBytes X Y else Du n m:=by
 have h:=bG n m X Y 8
 have e:(256:Nat)^8=18446744073709551616:=by decide
 rw[e,a0v hn,a0v hm] at h;rw[bF,bF];exact h
theorem Ui{a b:Nat}(h:Du a b=0):a=b:=by
 unfold Du at h
 by_cases h1:a<b
 ·rw[if_pos h1] at h;exact absurd h (by decide)
 ·by_cases h2:b<a
  ·rw[if_neg h1,if_pos h2] at h;exact absurd h (by decide)
  ·omega
theorem bI(a b:Nat)(ha:a<18446744073709551616)(hb:b<18446744073709551616):Du (Ey-a) (Ey-b)=Du b a:=by
 unfold Du Ey
 by_cases h1:b<a
 ·rw[if_pos h1,if_pos (by omega)]
 ·by_cases h2:a<b
  ·rw[if_neg h1,if_pos h2,if_neg (by omega),if_pos (by omega)]
  ·rw[if_neg h1,if_neg h2,if_neg (by omega),if_neg (by omega)]
theorem Oj(a b:Ac)(ha:Dn a)(hb:Dn b):compareBytes (Em a) (Em b)=Ez a b:=by
 unfold Em Ez;rw[aX];unfold Ff
 by_cases h1:a.row.data.toList=b.row.data.toList
 ·have z1:Gu a.row b.row=0:=by unfold Gu;rw[h1];exact Ug _
  rw[if_pos h1,if_neg (by simp[z1]),aX];unfold Ff
  by_cases h2:a.col.data.toList=b.col.data.toList
  ·have z2:Gu a.col b.col=0:=by unfold Gu;rw[h2];exact Ug _
   rw[if_pos h2,if_neg (by simp[z2]),bH _ _ (by unfold Ey;omega) (by unfold Ey;omega),bI _ _ ha.ts hb.ts];unfold Ff;have h5:=ha.ts;have h6:=hb.ts
   by_cases h3:Ey-a.ts=Ey-b.ts
   ·have z3:Du b.ts a.ts=0:=by rw[show a.ts=b.ts by unfold Ey at h3;omega];exact P4 _
    have:=bH (Ey-a.seq) (Ey-b.seq) (by unfold Ey;omega) (by unfold Ey;omega) [] [];rw[List.append_nil,List.append_nil] at this;rw[if_pos h3,if_neg (by simp[z3]),this,bI _ _ ha.seq hb.seq];unfold Ff;have h7:=ha.seq;have h8:=hb.seq
    by_cases h4:Ey-a.seq=Ey-b.seq
    ·have z4:Du b.seq a.seq=0:=by rw[show a.seq=b.seq by unfold Ey at h4;omega];exact P4 _
     rw[if_pos h4,if_neg (by simp[z4])];rfl
    ·have z4:Du b.seq a.seq≠0:=fun e=>h4 (by rw[Ui e])
     rw[if_neg h4,if_pos z4]
   ·have z3:Du b.ts a.ts≠0:=fun e=>h3 (by rw[Ui e])
    rw[if_neg h3,if_pos z3]
  ·have z2:Gu a.col b.col≠0:=fun e=>h2 (W8 e)
   rw[if_neg h2,if_pos z2];rfl
 ·have z1:Gu a.row b.row≠0:=fun e=>h1 (W8 e)
  rw[if_neg h1,if_pos z1];rfl
theorem bJ(a:Ac)(ha:Dn a):Ez a a=0:=by rw[←Oj a a ha ha];exact Ug _
theorem bK(a b:Ac)(ha:Dn a)(hb:Dn b):Ez b a= -Ez a b:=by rw[←Oj a b ha hb,←Oj b a hb ha];exact mR _ _
theorem bL(a b c:Ac)(ha:Dn a)(hb:Dn b)(hc:Dn c)(h1:Ez a b≤0)(h2:Ez b c≤0):Ez a c≤0:=by
 rw[←Oj a b ha hb] at h1;rw[←Oj b c hb hc] at h2;rw[←Oj a c ha hc];exact mT h1 h2
theorem nM(a b:Ac)(ha:Dn a)(hb:Dn b):Ez a b= -1∨Ez a b=0∨Ez a b=1:=by
 rw[←Oj a b ha hb];exact mS _ _
end
end
section
section
open Go.RowKit
def Ll(s:ByteArray):Nat→Nat
 |0=>0
 |k+1=>Ll s k*256+(Aq s (7-k)).toNat
theorem bM(s:ByteArray):∀k,Ll s k<256^k
 |0=>Nat.one_pos
 |k+1=>by
  have h1:=bM s k;have h2:=(Aq s (7-k)).toNat_lt;show Ll s k*256+_ <256^(k+1);rw[a1x];omega
theorem nN(s:ByteArray):Ll s 8=D7 s 8:=by
 simp only[Ll,D7,Nat.sub_zero,Nat.reduceSub];omega
theorem Uj{s:ByteArray}{k:Nat}(h:k<s.size):s[k]=Aq s k:=by
 unfold Aq;rw[a0u,a1w (by simpa using h)];simp;rfl
end
section
open Go.RowKit
theorem nO(w:World)(n:Nat)(hn:n≤1000):∃W,(Instr.makeSlice 113 (.int .i64 n) (.int .i64 n)).run Tryz.prog w=.ok (.slice (some ⟨w.heap.size,0,none⟩) n n) W∧Hv W w.heap.size n (fun _=>0)∧Fp [] w W:=by
 have h:=run_makeSlice (P:=Tryz.prog) w 113 5 Tryz.t5 (.int .u8 0) Tryz.underlying113 (by kernel_rfl) (by kernel_rfl) .i64 .i64 n n (by omega) (Int.le_refl _) (by show(n:Int).toNat*1≤_;omega) (by show((1:Nat):Int)*n≤_;omega) (by omega)
 change _ =Result.ok _ (w.alloc (.cells (madeCells (Value.int .u8 0).cells ((n:Int).toNat*1)) 5)) at h
 simp only[Int.toNat_natCast,Nat.mul_one] at h;have hb:=Ai (w:=w) (n:=w.heap.size) rfl (.cells (madeCells (Value.int .u8 0).cells n) 5 (0,0));refine⟨_,h,⟨Ab hb,fun j hj=>?_,fun j _=>Ar hb j⟩,Fp.alloc _ _⟩;rw[Aa hb j];simp[madeCells,Value.cells,hj,Nat.mod_one,A4]
def Lm(n:Nat)(high:Bool)(k t:Nat):UInt8:=match high with|true=>if 7-t<k then B3 n (7-t) else 0|false=>if t<k then B3 n t else 0
def Uk(n:Nat)(high:Bool):List UInt8:=match high with|true=>Jt n|false=>Gk n
theorem bN(n:Nat)(high:Bool):(List.range 8).map (Lm n high 8)=Uk n high:=by
 cases high<;>rfl
theorem bO(n:Nat)(high:Bool)(t:Nat):Lm n high 0 t=0:=by
 cases high<;>rfl
theorem bP{w:World}{b n k:Nat}{f:Nat→UInt8}(h:Hv w b n f)(hk:k<n)(x:UInt8):Hv (w.setCell ⟨b,k,none⟩ (A4 x)) b n (fun t=>if t=k then x else f t):=by
 refine⟨by simpa [World.setCell] using h.lt,fun j hj=>?_,fun j hj=>by rw[World.frozen?_setCell];exact h.free j hj⟩
 by_cases e:j=k
 ·subst e;rw[World.cell?_setCell_same _ _ _ (h.cell j hj),if_pos rfl]
 ·rw[World.cell?_setCell_other _ _ _ _ (fun e2=>e (congrArg Addr.off e2).symm),h.cell j hj,if_neg e]
theorem Hv.congr{w:World}{b n:Nat}{f g:Nat→UInt8}(h:Hv w b n f)(hfg:∀t,t<n→f t=g t):Hv w b n g:=
 ⟨h.lt,fun j hj=>by rw[h.cell j hj,hfg j hj],h.free⟩
theorem bQ{n k x:Nat}(h:x=n/256^k):A4 (B3 n k)=.int .u8 ((x:Int)%256):=by
 unfold A4 B3;rw[←h,a0w];rfl
theorem bR{n k x:Nat}(h:x=n/256^k):(Value.int .u64 ((x:Int)/256))=.int .u64 ((n/256^(k+1):Nat):Int):=by
 have e:n/256^(k+1)=x/256:=by rw[a1x,←Nat.div_div_eq_div_mul,←h]
 rw[e];rfl
theorem nP(n:Nat)(high:Bool)(w:World)(hn:n<18446744073709551616):
  Calls Tryz.prog 60 #[.int .u64 n,.bool high] w fun e w'=>e=.returned (.string (bl (Uk n high)))∧Fp [] w w':=by
 obtain⟨W,z1,z2,z3⟩:=nO w 8 (by decide);have HZ:=a0z z2;have HF0:=a0z z3;rw[show((8:Nat):Int)=8 from rfl] at z1;clear z2 z3;cases high
 all_goals
  go_enter Tryz.func60,Tryz.ntmps60;go_wp2_with (fail)
 ·go_loopg [0,6] 8 (fun g vn vi wr=>∃k:Nat,g+k=8∧vi=.int .i64 k∧vn=.int .u64 ((n/256^k:Nat):Int)∧Hv wr w.heap.size 8 (Lm n false k)∧Fp [] w wr)
  case atStart=>exact⟨0,rfl,rfl,by simp,HZ.out.congr (fun t _=>(bO n false t).symm),HF0.out⟩
  case round=>
   obtain⟨k,hg,rfl,rfl,hb,hf⟩:=hrel;have HB:=a0z hb;have HF:=a0z hf
   by_cases hk:k<8
   ·have c1:wr.cell? ⟨w.heap.size,k,none⟩=some (.int .u8 0):=by rw[hb.cell k hk];simp[Lm,A4]
    have f1:=hb.free k hk
    obtain⟨x,hx⟩:∃x,x=n/256^k:=⟨_,rfl⟩
    rw[←hx]
    have hxl:x<18446744073709551616:=by rw[hx];exact Nat.lt_of_le_of_lt (Nat.div_le_self _ _) hn
    have HX:=a0z hx;clear hb hf hx;go_wp2_with (fail)
    go_roundg (gk-1)
    case measure=>omega
    case rel=>
     refine⟨k+1,by omega,by go_num,bR HX.out,?_,HF.out.setCell' (p:=⟨w.heap.size,k,none⟩) (Or.inr (Nat.le_refl _)) _⟩;have hbs:=bP HB.out hk (B3 n k);rw[bQ HX.out] at hbs
     refine hbs.congr fun t ht=>?_
     by_cases e:t=k
     ·subst e;rw[if_pos rfl];simp only[Lm];rw[if_pos (by omega)]
     ·rw[if_neg e];simp only[Lm]
      by_cases e2:t<k
      ·rw[if_pos e2,if_pos (by omega)]
      ·rw[if_neg e2,if_neg (by omega)]
   ·obtain rfl:k=8:=by omega
    have hstr:=Nu (cap:=8) hb;rw[bN] at hstr;clear hb hf;go_wp2_with (fail);go_ret;exact⟨rfl,HF.out⟩
 ·go_loopg [0,6] 8 (fun g vn vi wr=>∃k:Nat,g+k=8∧vi=.int .i64 k∧vn=.int .u64 ((n/256^k:Nat):Int)∧Hv wr w.heap.size 8 (Lm n true k)∧Fp [] w wr)
  case atStart=>exact⟨0,rfl,rfl,by simp,HZ.out.congr (fun t _=>(bO n true t).symm),HF0.out⟩
  case round=>
   obtain⟨k,hg,rfl,rfl,hb,hf⟩:=hrel;have HB:=a0z hb;have HF:=a0z hf
   by_cases hk:k<8
   ·obtain⟨m,hm⟩:∃m,m=7-k:=⟨_,rfl⟩
    have hmi:(7:Int)-(k:Int)=(m:Int):=by omega
    have hm8:m<8:=by omega
    have c1:wr.cell? ⟨w.heap.size,m,none⟩=some (.int .u8 0):=by rw[hb.cell m hm8];simp only[Lm,A4];rw[if_neg (by omega)];rfl
    have f1:=hb.free m hm8
    obtain⟨x,hx⟩:∃x,x=n/256^k:=⟨_,rfl⟩
    rw[←hx]
    have hxl:x<18446744073709551616:=by rw[hx];exact Nat.lt_of_le_of_lt (Nat.div_le_self _ _) hn
    have HX:=a0z hx;have HM:=a0z hm;clear hb hf hx hm;go_wp2_with (fail)
    go_roundg (gk-1)
    case measure=>omega
    case rel=>
     refine⟨k+1,by omega,by go_num,bR HX.out,?_,HF.out.setCell' (p:=⟨w.heap.size,m,none⟩) (Or.inr (Nat.le_refl _)) _⟩;have hbs:=bP HB.out hm8 (B3 n k);rw[bQ HX.out] at hbs
     refine hbs.congr fun t ht=>?_
     have hmm:=HM.out
     by_cases e:t=m
     ·subst e;rw[if_pos rfl];simp only[Lm];rw[if_pos (by omega),show 7-t=k by omega]
     ·rw[if_neg e];simp only[Lm]
      by_cases e2:7-t<k
      ·rw[if_pos e2,if_pos (by omega)]
      ·rw[if_neg e2,if_neg (by omega)]
   ·obtain rfl:k=8:=by omega
    have hstr:=Nu (cap:=8) hb;rw[bN] at hstr;clear hb hf;go_wp2_with (fail);go_ret;exact⟨rfl,HF.out⟩
end
section
open Go.RowKit
theorem nQ{w:World}{g n m:Nat}(hg:w.heap[g]?=some (.cells #[.int .u8 n,.int .u8 m] 5 (0,0)))(h:n<256)(h2:m<256):(convert 113 9 (.slice (some ⟨g,0,none⟩) 2 2)).run Tryz.prog w=.ok (.string (bl [a0x n,a0x m])) w:=by
 refine Nu (cap:=2) (n:=2) (f:=fun j=>if j=0 then a0x n else a0x m) ⟨Ab hg,fun j hj=>?_,fun j _=>Ar hg j⟩
 have h3:j=0∨j=1:=by omega
 rcases h3 with rfl|rfl
 ·rw[Aa hg,if_pos rfl,Ja h];rfl
 ·rw[Aa hg,if_neg (by decide),Ja h2];rfl
theorem Ln(a b:List UInt8):bl a++bl b=bl (a++b):=by
 rw[←Lib.mk_data (bl a++bl b)];unfold bl;simp
end
end
end Go.Proofs.YtkagolpnaicdoaaGreatDoor
