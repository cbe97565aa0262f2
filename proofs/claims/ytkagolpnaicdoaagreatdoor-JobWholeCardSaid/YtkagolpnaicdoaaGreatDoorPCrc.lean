/-
 The checksum: what it computes, and the document's. Texts with their sums: what crc.Put, crc.Get compute; the walks.
-/
import Derived.Test.YtkagolpnaicdoaaGreatDoorPBlkF
set_option maxRecDepth 100000
set_option maxHeartbeats 8000000
open UInt8 renaming ofNat->a0z
open Go.Lib renaming hid->a0x
open List renaming setIfInBounds_toArray->a0w,set_cons_succ->a0u,set_cons_zero->a1z,reverse_cons->a1x,reverse_nil->a1w,cons_append->a1v,nil_append->a2z,getElem?_eq_getElem->a3x,getD_eq_getElem?_getD->a3w,not_mem_nil->a3v
open Go.IntKind renaming wrap_u32->a0v,wrap_i64->a2u
open BitVec renaming toNat_ofNat->a1u,ofInt->a2x,ofInt_natCast->a2v
open Nat renaming mod_eq_of_lt->a2w,xor_lt_two_pow->a3z
open ByteArray renaming size_extract->a3u,size_append->a4z
namespace Go.Proofs.YtkagolpnaicdoaaGreatDoor
section
open Go.RowKit
theorem Xz(a b:Nat)(i:a<4294967296)(h:b<4294967296):bits .xor .u32 (a:Int) (b:Int)=((a ^^^ b:Nat):Int):=by
 have g:a ^^^ b<2^32:=a3z (by omega) (by omega)
 have f:(a2x 32 (a:Int)).toNat=a:=by
  rw[a2v,a1u];exact a2w (by omega)
 have d:(a2x 32 (b:Int)).toNat=b:=by
  rw[a2v,a1u];exact a2w (by omega)
 show IntKind.u32.wrap ((a2x 32 (a:Int) ^^^ a2x 32 (b:Int)).toNat:Int)=_;rw[BitVec.toNat_xor,f,d,a0v];omega
theorem jB(a:Nat)(b:a<4294967296):bits .and .u32 (a:Int) 15=((a%16:Nat):Int):=
 bits_mask .u32 32 (by decide) (fun n f d=>by rw[a0v];omega) 4 (by decide) a (by omega) (by omega)
def Dl(w:World):Prop:=∀i,i<16->w.cell? ⟨0,i,none⟩=some (.int .u32 (Iy.getD i 0:Nat))
theorem Dl.fp{w w':World}{S:List Nat}(h:Dl w)(d:Fp S w w')(b:0∉S):Dl w':=fun i a=>
 (d.cell (p:=⟨0,i,none⟩) (World.block_lt_of_cell? _ _ (h i a)) b).trans (h i a)
theorem jC(i:Nat):Iy.getD i 0<4294967296:=by
 by_cases h:i<16
 ·have a:∀r,r<16->Iy.getD r 0<4294967296:=by decide
  exact a i h
 ·rw[a3w,List.getElem?_eq_none (by show 16<=i;omega)];decide
theorem vO(w:World)(s:ByteArray):∃cap W,(convert 9 113 (.string s)).run Tryz.prog w=.ok (.slice (some ⟨w.heap.size,0,none⟩) s.size cap) W∧
  (∀j (h:j<s.size),W.cell? ⟨w.heap.size,j,none⟩=some (.int .u8 s[j].toNat))/\Fp [] w W:=by
 have h:=run_bytes_of_string (P:=Tryz.prog) w 9 113 5 s Tryz.underlying9 Tryz.underlying113 Tryz.underlying5;refine⟨_,_,h,?_,(Fp.drew w).alloc' _⟩;have b:=Ai (w:=w.drew) (n:=w.heap.size) rfl (.cells (bytesRow s (grownCap w s.size 0 5)) 5 ((bytesRow s (grownCap w s.size 0 5)).size,(bytesRow s (grownCap w s.size 0 5)).size+1));intro j a;rw[Ab b,bytesRow_at s _ j a];rfl
theorem vP(n:Nat)(l:List UInt8)(b:UInt8):P3 n (l++[b])=P2 (P3 n l) b:=by unfold P3;rw[List.foldl_append];rfl
theorem vQ(l:List UInt8):∀n,n<4294967296->P3 n l<4294967296:=by
 induction l with
 |nil=>intro n h;exact h
 |cons b l ih=>intro n h;exact ih _ (tU h)
def Ns(n:Nat)(s:ByteArray)(k:Nat):Nat:=P3 n (s.data.toList.take k)
theorem vR(n:Nat)(s:ByteArray)(k:Nat)(b:k<s.size):Ns n s (k+1)=P2 (Ns n s k) s[k]:=by
 have a:k<s.data.toList.length:=b
 have e:s.data.toList[k]?=some s[k]:=by
  rw[a3x a];simp;rfl
 rw[a3x a] at e;unfold Ns;rw[List.take_succ_eq_append_getElem a,vP,Option.some.inj e]
theorem vT(n:Nat)(s:ByteArray):Ns n s s.size=P3 n s.data.toList:=by
 unfold Ns;exact congrArg (P3 n) (List.take_of_length_le (Nat.le_refl s.data.toList.length))
theorem jD{n:Nat}(s:ByteArray)(k:Nat)(h:n<4294967296):Ns n s k<4294967296:=vQ _ _ h
def Eb(n:Nat)(s:ByteArray):Nat:=4294967295-P3 (4294967295-n) s.data.toList
theorem jE(n:Nat)(h:n<4294967296):bits .xor .u32 IntKind.u32.max (n:Int)=((4294967295-n:Nat):Int):=by
 have e:IntKind.u32.max=((4294967295:Nat):Int):=rfl;rw[e,Xz _ _ (by decide) h];congr 1
 have a:(BitVec.allOnes 32 ^^^ BitVec.ofNat 32 n).toNat=4294967295 ^^^ n:=by
  rw[BitVec.toNat_xor,BitVec.toNat_allOnes,a1u,a2w (by omega)]
 rw[<-a,BitVec.allOnes_xor,BitVec.toNat_not,a1u,a2w (by omega)]
theorem X1(n:Nat)(s:ByteArray)(w:World)(hn:n<4294967296)(hs:s.size≤100000000)(ht:Dl w):
  Calls Tryz.prog 98 #[.int .u32 n,.string s] w fun e w'=>e=.returned (.int .u32 (Eb n s))/\Fp [] w w':=by
 obtain⟨cap,W,T,h,A⟩:=vO w s;have HT:=a0x (ht.fp A a3v);have i:=a0x h;have Y:=a0x A;clear ht h A;have aa:IntKind.u32.signed=false:=rfl;have C:=jE n hn
 obtain⟨n0,q⟩:∃n0,4294967295-n=n0:=⟨_,rfl⟩
 have HM:Hid (Eb n s=4294967295-Ns n0 s s.size):=by unfold Hid Eb;rw[q,vT]
 have D:n0<4294967296:=by omega
 rw[q] at C;clear q;go_enter Tryz.func98,Tryz.ntmps98;go_wp2_with (fail)
 go_loopg [5,13] s.size (fun g vn vi wr=>∃k:Nat,g+k=s.size/\vn=.int .u32 (Ns n0 s k)/\vi=.int .i64 k/\Fp [] W wr)
 case atStart=>exact⟨0,by omega,rfl,rfl,Fp.refl _ _⟩
 case round=>
  obtain⟨k,hg,rfl,rfl,A⟩:=hrel;have O:=a0x A;clear A
  by_cases S:k<s.size
  ·have X:=a0x (vR n0 s k S);have a:=jD s k D
   obtain⟨m,z⟩:∃m,Ns n0 s k=m:=⟨_,rfl⟩
   rw[z] at X a;rw[z]
   have q0:wr.cell? ⟨w.heap.size,k,none⟩=some (.int .u8 s[k].toNat):=by
    rw[O.out.cell (p:=⟨w.heap.size,k,none⟩) (World.block_lt_of_cell? _ _ (i.out k S)) a3v];exact i.out k S
   obtain⟨b,hb⟩:∃b,s[k]=b:=⟨_,rfl⟩
   rw[hb] at q0 X;have ab:=b.toNat_lt
   have wb:IntKind.u32.wrap (b.toNat:Int)=(b.toNat:Int):=by rw[a0v];omega
   have x1:=Xz m b.toNat a (by omega);have l1:m ^^^ b.toNat<4294967296:=a3z (n:=32) a (by omega)
   obtain⟨m1,t⟩:∃m1,m ^^^ b.toNat=m1:=⟨_,rfl⟩
   rw[t] at x1 l1;have N:=a0x (HT.out.fp O.out a3v)
   have HB:Hid (P2 m b=Nk (Nk m1)):=by unfold Hid;rw[<-tT,Z9,t]
   clear z hb t
   obtain⟨r1,o⟩:∃r,m1%16=r:=⟨_,rfl⟩
   have Q:r1<16:=by omega
   have a1:=jB m1 l1;rw[o] at a1
   obtain⟨M,K⟩:∃d,m1/16=d:=⟨_,rfl⟩
   have e1:(m1:Int)/16=(M:Int):=by omega
   have t1:wr.cell? ⟨0,r1,none⟩=some (.int .u32 (Iy.getD r1 0:Nat)):=N.out r1 Q;have v:=jC r1
   have y:Hid (Nk m1=M ^^^ Iy.getD r1 0):=by unfold Hid Nk;rw[o,K]
   obtain⟨V,I⟩:∃f,Iy.getD r1 0=f:=⟨_,rfl⟩
   rw[I] at t1 v y;have x2:=Xz M V (by omega) v;have Z:M ^^^ V<4294967296:=a3z (n:=32) (by omega) v
   obtain⟨B,F⟩:∃m,M ^^^ V=m:=⟨_,rfl⟩
   rw[F] at x2 Z y;clear o K I F
   obtain⟨j,l⟩:∃r,B%16=r:=⟨_,rfl⟩
   have P:j<16:=by omega
   have a2:=jB B Z;rw[l] at a2
   obtain⟨L,J⟩:∃d,B/16=d:=⟨_,rfl⟩
   have e2:(B:Int)/16=(L:Int):=by omega
   have t2:wr.cell? ⟨0,j,none⟩=some (.int .u32 (Iy.getD j 0:Nat)):=N.out j P;have u:=jC j
   have x:Hid (Nk B=L ^^^ Iy.getD j 0):=by unfold Hid Nk;rw[l,J]
   obtain⟨U,G⟩:∃f,Iy.getD j 0=f:=⟨_,rfl⟩
   rw[G] at t2 u x;have x3:=Xz L U (by omega) u;have l3:L ^^^ U<4294967296:=a3z (n:=32) (by omega) u
   obtain⟨m3,E⟩:∃m,L ^^^ U=m:=⟨_,rfl⟩
   rw[E] at x3 l3 x;clear l J G E;go_wp2_with (fail)
   go_roundg (gk-1)
   case measure=>omega
   case rel=>exact⟨k+1,by omega,by rw[X.out,HB.out,y.out,x.out],by simp,O.out⟩
  ·obtain rfl:k=s.size:=by omega
   have a:=jD s s.size D
   obtain⟨m,z⟩:∃m,Ns n0 s s.size=m:=⟨_,rfl⟩
   rw[z] at HM a;rw[z];have R:=jE m a;go_wp2_with (fail);go_ret;exact⟨by rw[HM.out];rfl,Y.out.trans O.out (by simp)⟩
theorem Vn(s:ByteArray)(w:World)(d:s.size≤100000000)(a:Dl w):
  Calls Tryz.prog 52 #[.string s] w fun e w'=>e=.returned (.int .u32 (Eb 0 s))/\Fp [] w w':=by
 have H:Hid (∀w,Dl w->Calls Tryz.prog 98 #[.int .u32 0,.string s] w fun e w'=>e=.returned (.int .u32 (Eb 0 s))/\Fp [] w w'):=fun w a=>X1 0 s w (by decide) d a
 have f:=a0x a;clear a;go_enter Tryz.func52,Tryz.ntmps52;go_wp2_with (fail);(with_reducible refine(H.out _ f.out).mono ?_);rintro e h ⟨rfl,b⟩;have g:=a0x b;clear b;go_wp2_with (fail);go_ret;exact⟨rfl,g.out⟩
end
section
open Go.RowKit
def Nv(n:Nat):List UInt8:=[a0z n,a0z (n/256),a0z (n/65536),a0z (n/16777216)]
def Q7(a b c d:UInt8):Nat:=a.toNat+b.toNat*256+c.toNat*65536+d.toNat*16777216
theorem vU(n:Nat)(h:n<4294967296):Q7 (a0z n) (a0z (n/256)) (a0z (n/65536)) (a0z (n/16777216))=n:=by
 unfold Q7;simp only[UInt8.toNat_ofNat'];omega
def Nw(h s:ByteArray):Nat:=Eb (Eb 0 h) s
theorem Q8(n:Nat)(s:ByteArray):Eb n s<4294967296:=by unfold Eb;omega
theorem jF(h s:ByteArray):Nw h s<4294967296:=Q8 _ _
def Kp(s:ByteArray):ByteArray:=bl (two s.size)++bl (Nv (Nw (bl (two s.size)) s))++s
def L3(s:ByteArray):ByteArray × Nat:=if s.size>65535 then(⟨#[]⟩,71) else(Kp s,0)
theorem X2(s:ByteArray):(Kp s).size=6+s.size:=by
 unfold Kp;rw[a4z,a4z,Dm,Dm];rfl
def Gq(s:ByteArray):Nat:=6+(A5 s 0).toNat+(A5 s 1).toNat*256
def B4(s:ByteArray):ByteArray × Nat × Nat:=
 if s.size=0 then(⟨#[]⟩,0,3) else if s.size<6 then(⟨#[]⟩,0,10) else if s.size<Gq s then(⟨#[]⟩,0,10)
 else if Nw (s.extract 0 2) (s.extract 6 (Gq s))=Q7 (A5 s 2) (A5 s 3) (A5 s 4) (A5 s 5) then(s.extract 6 (Gq s),Gq s,0) else(⟨#[]⟩,0,20)
theorem vV{w:World}{g a b c d:Nat}(h:w.heap[g]?=some (.cells #[.int .u8 a,.int .u8 b,.int .u8 c,.int .u8 d] 5 (0,0)))(m:a<256)(l:b<256)(k:c<256)(i:d<256):
  (convert 113 9 (.slice (some ⟨g,0,none⟩) 4 4)).run Tryz.prog w=.ok (.string (bl [a0z a,a0z b,a0z c,a0z d])) w:=by
 refine Vf (cap:=4) (n:=4) (f:=fun j=>[a0z a,a0z b,a0z c,a0z d].getD j 0) ⟨Ac h,fun j p=>?_,fun j _=>Ar h j⟩
 have o:j=0∨j=1∨j=2∨j=3:=by omega
 rcases o with rfl|rfl|rfl|rfl
 ·rw[Ab h];show _ =some (Bc (a0z a));rw[Nn m];rfl
 ·rw[Ab h];show _ =some (Bc (a0z b));rw[Nn l];rfl
 ·rw[Ab h];show _ =some (Bc (a0z c));rw[Nn k];rfl
 ·rw[Ab h];show _ =some (Bc (a0z d));rw[Nn i];rfl
theorem S9(n:Nat):∃m:Nat,m<256/\IntKind.u8.wrap (n:Int)=(m:Int)/\a0z n=a0z m:=by
 refine⟨n%256,by omega,by rw[IntKind.wrap_u8];omega,?_⟩;apply UInt8.toNat_inj.1;simp only[UInt8.toNat_ofNat'];omega
theorem jG(s:ByteArray)(w:World)(hs:s.size≤100000000)(b:Dl w):
  Calls Tryz.prog 155 #[.string s] w fun e w'=>e=.returned (.tuple #[.string (L3 s).1,.int .i64 (L3 s).2])/\Fp [] w w':=by
 by_cases hw:s.size>65535
 ·have C:L3 s=(⟨#[]⟩,71):=if_pos hw;rw[C]
  have z:(s.size:Int)>65535:=by omega
  go_enter Tryz.func155,Tryz.ntmps155;go_wp2_with (fail);go_ret2;exact⟨rfl,Fp.refl _ _⟩
 ·have C:L3 s=(Kp s,0):=if_neg hw;rw[C]
  have z:¬(s.size:Int)>65535:=by omega
  obtain⟨x,B⟩:∃x,Nw (bl (two s.size)) s=x:=⟨_,rfl⟩
  have ab:x<4294967296:=by rw[<-B];exact jF _ _
  have R:Hid (Kp s=bl (two s.size)++bl (Nv x)++s):=by unfold Hid Kp;rw[B]
  have HS:=a0x (fun w b=>Vn (bl (two s.size)) w (by rw[Dm];show 2<=_;decide) b);have P:=a0x (fun w b=>X1 (Eb 0 (bl (two s.size))) s w (Q8 _ _) hs b);rw[show Eb (Eb 0 (bl (two s.size))) s=x from B] at P;have K:=Q8 0 (bl (two s.size))
  obtain⟨m,hm⟩:∃m,Eb 0 (bl (two s.size))=m:=⟨_,rfl⟩
  rw[hm] at HS P K;have HT:=a0x b;clear B hm C b;obtain⟨a0,J,ad,v⟩:=S9 s.size;obtain⟨a1,I,O,u⟩:=S9 (s.size/256)
  obtain⟨y1,h⟩:∃y,s.size/256=y:=⟨_,rfl⟩
  have d1:(s.size:Int)/256=(y1:Int):=by omega
  have Q:Hid (bl [a0z a0,a0z a1]=bl (two s.size)):=by unfold Hid two;rw[v,u]
  rw[h] at O;obtain⟨X,G,ac,r⟩:=S9 x;obtain⟨W,F,N,q⟩:=S9 (x/256);obtain⟨V,E,M,p⟩:=S9 (x/65536);obtain⟨U,D,L,o⟩:=S9 (x/16777216)
  obtain⟨z1,g⟩:∃y,x/256=y:=⟨_,rfl⟩
  obtain⟨z2,f⟩:∃y,x/65536=y:=⟨_,rfl⟩
  obtain⟨z3,d⟩:∃y,x/16777216=y:=⟨_,rfl⟩
  have ag:(x:Int)/256=(z1:Int):=by omega
  have af:(x:Int)/65536=(z2:Int):=by omega
  have ae:(x:Int)/16777216=(z3:Int):=by omega
  have HQ:Hid (bl [a0z X,a0z W,a0z V,a0z U]=bl (Nv x)):=by unfold Hid Nv;rw[r,q,p,o]
  rw[g] at N;rw[f] at M;rw[d] at L;clear v u r q p o g f d h;have T:=a0x (vE (w:=w.alloc (.cells #[.int .u8 a0,.int .u8 a1] 5)) (Ai rfl _) J I);have n:=T.out;rw[Q.out] at n;go_enter Tryz.func155,Tryz.ntmps155;go_wp2_with (fail);(with_reducible refine(HS.out _ (HT.out.fp (Fp.alloc _ _) (by simp))).mono ?_);rintro e w1 ⟨rfl,l⟩;have A:=a0x ((Fp.alloc w _).trans l (by simp));clear l n;go_wp2_with (fail);(with_reducible refine(P.out _ (HT.out.fp A.out (by simp))).mono ?_);rintro e w2 ⟨rfl,k⟩;have S:=a0x (A.out.trans k (by simp));clear k;have a:=vV (w:=w2.alloc (.cells #[.int .u8 X,.int .u8 W,.int .u8 V,.int .u8 U] 5)) (Ai rfl _) G F E D;rw[HQ.out] at a
  have l1:(bl (two s.size)).size=2:=by rw[Dm];rfl
  have l2:(bl (Nv x)).size=4:=by rw[Dm];rfl
  obtain⟨Z,j⟩:∃t,bl (two s.size)=t:=⟨_,rfl⟩
  obtain⟨Y,i⟩:∃t,bl (Nv x)=t:=⟨_,rfl⟩
  rw[j] at l1 R ⊢;rw[i] at l2 R a
  have zl:¬Z.size+Y.size>9223372036854775807:=by omega
  have aa:¬Z.size+Y.size+s.size>9223372036854775807:=by omega
  clear j i l1 l2;go_wp2_with (fail);go_ret2;exact⟨by rw[R.out];rfl,S.out.alloc' _⟩
theorem aW(n m k:Nat)(a:n<2^k)(g:n+m*2^k<4294967296):bits .or .u32 (n:Int) ((m*2^k:Nat):Int)=((n+m*2^k:Nat):Int):=by
 have f:(a2x 32 (n:Int)).toNat=n:=by
  rw[a2v,a1u];exact a2w (by omega)
 have d:(a2x 32 ((m*2^k:Nat):Int)).toNat=m*2^k:=by
  rw[a2v,a1u];exact a2w (by omega)
 show IntKind.u32.wrap ((a2x 32 (n:Int) ||| a2x 32 ((m*2^k:Nat):Int)).toNat:Int)=_;have b:=Nat.two_pow_add_eq_or_of_lt a m;rw[BitVec.toNat_or,f,d,Nat.or_comm,Nat.mul_comm,<-b,a0v];rw[Nat.mul_comm (2^k) m];omega
theorem Vo{s:ByteArray}(h:s.size=0):B4 s=(⟨#[]⟩,0,3):=if_pos h
theorem jH{s:ByteArray}(a:¬s.size=0)(h:s.size<6):B4 s=(⟨#[]⟩,0,10):=by unfold B4;rw[if_neg a,if_pos h]
theorem jI{s:ByteArray}(b:¬s.size=0)(a:¬s.size<6)(h:s.size<Gq s):B4 s=(⟨#[]⟩,0,10):=by unfold B4;rw[if_neg b,if_neg a,if_pos h]
theorem jJ{s:ByteArray}(d:¬s.size=0)(b:¬s.size<6)(a:¬s.size<Gq s)(h:¬Nw (s.extract 0 2) (s.extract 6 (Gq s))=Q7 (A5 s 2) (A5 s 3) (A5 s 4) (A5 s 5)):B4 s=(⟨#[]⟩,0,20):=by
 unfold B4;rw[if_neg d,if_neg b,if_neg a,if_neg h]
theorem aX{s:ByteArray}(d:¬s.size=0)(b:¬s.size<6)(a:¬s.size<Gq s)(h:Nw (s.extract 0 2) (s.extract 6 (Gq s))=Q7 (A5 s 2) (A5 s 3) (A5 s 4) (A5 s 5)):B4 s=(s.extract 6 (Gq s),Gq s,0):=by
 unfold B4;rw[if_neg d,if_neg b,if_neg a,if_pos h]
theorem Oq(s:ByteArray)(i:Nat)(h:i<s.size):s[i]=A5 s i:=by
 unfold A5;rw[a3w,a3x (by simpa using h)];simp;rfl
theorem aY(s:ByteArray)(w:World)(hs:s.size≤100000000)(E:Dl w):
  Calls Tryz.prog 73 #[.string s] w fun e w'=>e=.returned (.tuple #[.string (B4 s).1,.int .i64 (B4 s).2.1,.int .i64 (B4 s).2.2])/\Fp [] w w':=by
 by_cases l:s.size=0
 ·rw[Vo l];obtain rfl:s=⟨#[]⟩:=ByteArray.ext (Array.eq_empty_of_size_eq_zero l);go_enter Tryz.func73,Tryz.ntmps73;go_wp2_with (fail);refine bodyPost_ret (v:=.tuple #[.string ⟨#[]⟩,.int .i64 0,.int .i64 3]) (by simp[results,Tryz.results73,go_sem, *]) rfl ⟨rfl,Fp.refl _ _⟩
 have bd:(s.toList==([]:List UInt8))=false:=by
  rw[beq_eq_false_iff_ne];intro e;apply l;have f:=congrArg List.length e;rw[ByteArray.toList_eq] at f;exact f
 by_cases j:s.size<6
 ·rw[jH l j]
  have z:(s.size:Int)<6:=by omega
  go_enter Tryz.func73,Tryz.ntmps73;go_wp2_with (fail);refine bodyPost_ret (v:=.tuple #[.string ⟨#[]⟩,.int .i64 0,.int .i64 10]) (by simp[results,Tryz.results73,go_sem, *]) rfl ⟨rfl,Fp.refl _ _⟩
 have z1:¬(s.size:Int)<6:=by omega
 have e0:=Oq s 0 (by omega)
 have p0:0<s.size:=by omega
 have e1:=Oq s 1 (by omega)
 have p1:(1:Int)<(s.size:Int):=by omega
 have e2:=Oq s 2 (by omega)
 have p2:(2:Int)<(s.size:Int):=by omega
 have e3:=Oq s 3 (by omega)
 have p3:(3:Int)<(s.size:Int):=by omega
 have e4:=Oq s 4 (by omega)
 have p4:(4:Int)<(s.size:Int):=by omega
 have e5:=Oq s 5 (by omega)
 have p5:(5:Int)<(s.size:Int):=by omega
 have al:=(A5 s 0).toNat_lt;have ak:=(A5 s 1).toNat_lt;have aj:=(A5 s 2).toNat_lt;have ai:=(A5 s 3).toNat_lt;have ah:=(A5 s 4).toNat_lt;have ag:=(A5 s 5).toNat_lt
 obtain⟨x0,R⟩:∃x,(A5 s 0).toNat=x:=⟨_,rfl⟩
 obtain⟨x1,Q⟩:∃x,(A5 s 1).toNat=x:=⟨_,rfl⟩
 obtain⟨x2,P⟩:∃x,(A5 s 2).toNat=x:=⟨_,rfl⟩
 obtain⟨x3,O⟩:∃x,(A5 s 3).toNat=x:=⟨_,rfl⟩
 obtain⟨x4,N⟩:∃x,(A5 s 4).toNat=x:=⟨_,rfl⟩
 obtain⟨x5,M⟩:∃x,(A5 s 5).toNat=x:=⟨_,rfl⟩
 obtain⟨en,A⟩:∃en,Gq s=en:=⟨_,rfl⟩
 obtain⟨q,hq⟩:∃q,Q7 (A5 s 2) (A5 s 3) (A5 s 4) (A5 s 5)=q:=⟨_,rfl⟩
 have U:en=6+x0+x1*256:=by rw[<-A,<-R,<-Q];rfl
 have af:q=x2+x3*256+x4*65536+x5*16777216:=by rw[<-hq,<-P,<-O,<-N,<-M];rfl
 have t:=a0x (fun h=>jI l j h);have o:=a0x (fun f h=>jJ l j f h);have p:=a0x (fun f h=>aX l j f h);rw[A] at t o p;rw[hq] at o p;rw[R] at al;rw[Q] at ak;rw[P] at aj;rw[O] at ai;rw[N] at ah;rw[M] at ag
 have k0:IntKind.i64.wrap (x0:Int)=x0:=by rw[a2u];omega
 have k1:IntKind.i64.wrap (x1:Int)=x1:=by rw[a2u];omega
 have k2:IntKind.i64.wrap (6+(x0:Int))=6+x0:=by rw[a2u];omega
 obtain⟨y1,ae⟩:∃y,x1*256=y:=⟨_,rfl⟩
 have k3:IntKind.i64.wrap ((x1:Int)*256)=(y1:Int):=by rw[a2u];omega
 have k4:IntKind.i64.wrap (6+(x0:Int)+(y1:Int))=(en:Int):=by rw[a2u];omega
 have bf:6<=en:=by omega
 have be:en<=70000:=by omega
 have u2:IntKind.u32.wrap (x2:Int)=x2:=by rw[a0v];omega
 have u3:IntKind.u32.wrap (x3:Int)=x3:=by rw[a0v];omega
 have u4:IntKind.u32.wrap (x4:Int)=x4:=by rw[a0v];omega
 have u5:IntKind.u32.wrap (x5:Int)=x5:=by rw[a0v];omega
 obtain⟨y3,L⟩:∃y,x3*2^8=y:=⟨_,rfl⟩
 obtain⟨y4,J⟩:∃y,x4*2^16=y:=⟨_,rfl⟩
 obtain⟨y5,I⟩:∃y,x5*2^24=y:=⟨_,rfl⟩
 have v3:IntKind.u32.wrap ((x3:Int)*256)=(y3:Int):=by rw[a0v];omega
 have v4:IntKind.u32.wrap ((x4:Int)*65536)=(y4:Int):=by rw[a0v];omega
 have v5:IntKind.u32.wrap ((x5:Int)*16777216)=(y5:Int):=by rw[a0v];omega
 have o3:=aW x2 x3 8 (by omega) (by omega);rw[L] at o3
 obtain⟨r3,T⟩:∃r,x2+y3=r:=⟨_,rfl⟩
 rw[T] at o3;have o4:=aW r3 x4 16 (by omega) (by omega);rw[J] at o4
 obtain⟨r4,S⟩:∃r,r3+y4=r:=⟨_,rfl⟩
 rw[S] at o4;have o5:=aW r4 x5 24 (by omega) (by omega);rw[I] at o5;rw[show r4+y5=q from by omega] at o5
 have bc:q<4294967296:=by omega
 clear A hq U af ae L J I T S l;have HT:=a0x E;clear E
 by_cases hE:s.size<en
 ·rw[t.out hE]
  have z2:(s.size:Int)<en:=by omega
  go_enter Tryz.func73,Tryz.ntmps73;go_wp2_with (fail);refine C9 (by kernel_rfl) (by kernel_rfl) ?_
  iterate 10
   apply Aw rfl rfl rfl
   ·intro a w d b K k
    try have l:=b.fr 0 rfl
    try have ad:=b.eq 0 14 rfl
    try have ac:=b.eq 1 15 rfl
    try have ab:=b.eq 2 16 rfl
    try have Z:=b.eq 4 18 rfl
    try have Y:=b.eq 5 19 rfl
    try have X:=b.eq 6 20 rfl
    try have aa:=b.eq 3 17 rfl
    try have W:=b.eq 7 21 rfl
    try have V:=b.eq 8 22 rfl
    simp only[Oper.wp,execOp];go_simp;exact k _ d (Fp.refl _ _)
  refine⟨?_,?_⟩
  ·repeat(first|exact trivial|refine B7 _ ?_ |refine⟨fun D w2 v _ i ⟨g,j,f⟩=>⟨g,j,(i.block g (Ac f) (by simp)).trans f⟩,?_⟩)
  ·intro w' d;simp only[a1x,a1w,a2z,a1v]
   iterate 10 (refine Am ?_)
   refine A0 ?_;simp only[Aj,Act.put,a0w,a0u,a1z];go_wp2_with (fail);refine bodyPost_ret (v:=.tuple #[.string ⟨#[]⟩,.int .i64 0,.int .i64 10]) (by simp[results,Tryz.results73,go_sem, *]) rfl ⟨rfl,d⟩
 have z2:¬(s.size:Int)<en:=by omega
 have bg:(en:Int)<=s.size:=by omega
 have bi:(2:Int)<=s.size:=by omega
 have bh:(6:Int)<=en:=by omega
 obtain⟨g,hg⟩:∃g,Nw (s.extract 0 2) (s.extract 6 en)=g:=⟨_,rfl⟩
 rw[hg] at o p
 have G:(s.extract 0 2).size<=100000000:=by rw[a3u];omega
 have F:(s.extract 6 en).size<=100000000:=by rw[a3u];omega
 have HS:=a0x (fun w E=>Vn (s.extract 0 2) w G E);have HX:=a0x (fun w E=>X1 (Eb 0 (s.extract 0 2)) (s.extract 6 en) w (Q8 _ _) F E);rw[show Eb (Eb 0 (s.extract 0 2)) (s.extract 6 en)=g from hg] at HX
 obtain⟨m,hm⟩:∃m,Eb 0 (s.extract 0 2)=m:=⟨_,rfl⟩
 rw[hm] at HS HX;clear hg hm G F
 by_cases u:g=q
 ·rw[p.out hE u];subst u;go_enter Tryz.func73,Tryz.ntmps73;go_wp2_with (fail);refine C9 (by kernel_rfl) (by kernel_rfl) ?_
  iterate 10
   apply Aw rfl rfl rfl
   ·intro a w d b K k
    try have l:=b.fr 0 rfl
    try have ad:=b.eq 0 14 rfl
    try have ac:=b.eq 1 15 rfl
    try have ab:=b.eq 2 16 rfl
    try have Z:=b.eq 4 18 rfl
    try have Y:=b.eq 5 19 rfl
    try have X:=b.eq 6 20 rfl
    try have aa:=b.eq 3 17 rfl
    try have W:=b.eq 7 21 rfl
    try have V:=b.eq 8 22 rfl
    simp only[Oper.wp,execOp];go_simp;exact k _ d (Fp.refl _ _)
  refine⟨?_,?_⟩
  ·repeat(first|exact trivial|refine B7 _ ?_ |refine⟨fun D w2 v _ i ⟨g,j,f⟩=>⟨g,j,(i.block g (Ac f) (by simp)).trans f⟩,?_⟩)
  ·intro w' d;simp only[a1x,a1w,a2z,a1v]
   iterate 10 (refine Am ?_)
   refine A0 ?_;simp only[Aj,Act.put,a0w,a0u,a1z];have C:=a0x d;clear d;go_wp2_with (fail);refine C9 (by kernel_rfl) (by kernel_rfl) ?_
   iterate 19
    apply Aw rfl rfl rfl
    ·intro a w d b K k
     try have l:=b.fr 0 rfl
     try have bb:=b.eq 0 27 rfl
     try have ba:=b.eq 1 28 rfl
     try have a8:=b.eq 3 30 rfl
     try have a7:=b.eq 4 31 rfl
     try have a6:=b.eq 5 32 rfl
     try have a9:=b.eq 2 29 rfl
     try have a5:=b.eq 6 33 rfl
     try have a3:=b.eq 8 35 rfl
     try have a2:=b.eq 9 36 rfl
     try have a1:=b.eq 10 37 rfl
     try have a4:=b.eq 7 34 rfl
     try have a0:=b.eq 11 38 rfl
     try have aF:=b.eq 13 40 rfl
     try have az:=b.eq 14 41 rfl
     try have ay:=b.eq 15 42 rfl
     try have aS:=b.eq 12 39 rfl
     try have ax:=b.eq 16 43 rfl
     try have aw:=b.eq 17 44 rfl
     simp only[Oper.wp,execOp];go_simp;exact k _ d (Fp.refl _ _)
   refine⟨?_,?_⟩
   ·repeat(first|exact trivial|refine B7 _ ?_ |refine⟨fun D w2 v _ i ⟨g,j,f⟩=>⟨g,j,(i.block g (Ac f) (by simp)).trans f⟩,?_⟩)
   ·intro w' d;simp only[a1x,a1w,a2z,a1v]
    iterate 19 (refine Am ?_)
    refine A0 ?_;simp only[Aj,Act.put,a0w,a0u,a1z];have n:=a0x (C.out.trans d (by simp));clear d;go_wp2_with (fail);refine C9 (by kernel_rfl) (by kernel_rfl) ?_
    iterate 9
     apply Aw rfl rfl rfl
     ·intro a w d b K k
      try have l:=b.fr 0 rfl
      try have av:=b.eq 0 45 rfl
      try have au:=b.eq 1 46 rfl
      try have h5:=b.fr 5 rfl
      try have aq:=b.eq 3 48 rfl
      try have ap:=b.eq 4 49 rfl
      try have ar:=b.eq 2 47 rfl
      try have ao:=b.eq 5 50 rfl
      try have h6:=b.fr 6 rfl
      try have an:=b.eq 6 51 rfl
      try have am:=b.eq 7 52 rfl
      simp only[Oper.wp,execOp];go_simp
      first
      |exact k _ d (Fp.refl _ _)
      |first
        |((with_reducible refine(HS.out _ (HT.out.fp (n.out.trans d (by simp)) (by simp))).mono ?_);rintro e w2 ⟨rfl,i⟩;exact k _ (d.trans i (by simp)) i)
        |((with_reducible refine(HX.out _ (HT.out.fp (n.out.trans d (by simp)) (by simp))).mono ?_);rintro e w2 ⟨rfl,i⟩;exact k _ (d.trans i (by simp)) i)
    refine⟨?_,?_⟩
    ·repeat(first|exact trivial|refine B7 _ ?_ |refine⟨fun D w2 v _ i ⟨g,j,f⟩=>⟨g,j,(i.block g (Ac f) (by simp)).trans f⟩,?_⟩)
    ·intro w' d;simp only[a1x,a1w,a2z,a1v]
     iterate 9 (refine Am ?_)
     refine A0 ?_;simp only[Aj,Act.put,a0w,a0u,a1z];have B:=a0x (n.out.trans d (by simp));clear d;go_wp2_with (fail);refine bodyPost_ret (v:=.tuple #[.string (s.extract 6 en),.int .i64 en,.int .i64 0]) (by simp[results,Tryz.results73,go_sem, *]) rfl ⟨rfl,B.out⟩
 ·rw[o.out hE u]
  have zq:((g:Int)!=(q:Int))=true:=by rw[bne_iff_ne];omega
  go_enter Tryz.func73,Tryz.ntmps73;go_wp2_with (fail);refine C9 (by kernel_rfl) (by kernel_rfl) ?_
  iterate 10
   apply Aw rfl rfl rfl
   ·intro a w d b K k
    try have l:=b.fr 0 rfl
    try have ad:=b.eq 0 14 rfl
    try have ac:=b.eq 1 15 rfl
    try have ab:=b.eq 2 16 rfl
    try have Z:=b.eq 4 18 rfl
    try have Y:=b.eq 5 19 rfl
    try have X:=b.eq 6 20 rfl
    try have aa:=b.eq 3 17 rfl
    try have W:=b.eq 7 21 rfl
    try have V:=b.eq 8 22 rfl
    simp only[Oper.wp,execOp];go_simp;exact k _ d (Fp.refl _ _)
  refine⟨?_,?_⟩
  ·repeat(first|exact trivial|refine B7 _ ?_ |refine⟨fun D w2 v _ i ⟨g,j,f⟩=>⟨g,j,(i.block g (Ac f) (by simp)).trans f⟩,?_⟩)
  ·intro w' d;simp only[a1x,a1w,a2z,a1v]
   iterate 10 (refine Am ?_)
   refine A0 ?_;simp only[Aj,Act.put,a0w,a0u,a1z];have C:=a0x d;clear d;go_wp2_with (fail);refine C9 (by kernel_rfl) (by kernel_rfl) ?_
   iterate 19
    apply Aw rfl rfl rfl
    ·intro a w d b K k
     try have l:=b.fr 0 rfl
     try have bb:=b.eq 0 27 rfl
     try have ba:=b.eq 1 28 rfl
     try have a8:=b.eq 3 30 rfl
     try have a7:=b.eq 4 31 rfl
     try have a6:=b.eq 5 32 rfl
     try have a9:=b.eq 2 29 rfl
     try have a5:=b.eq 6 33 rfl
     try have a3:=b.eq 8 35 rfl
     try have a2:=b.eq 9 36 rfl
     try have a1:=b.eq 10 37 rfl
     try have a4:=b.eq 7 34 rfl
     try have a0:=b.eq 11 38 rfl
     try have aF:=b.eq 13 40 rfl
     try have az:=b.eq 14 41 rfl
     try have ay:=b.eq 15 42 rfl
     try have aS:=b.eq 12 39 rfl
     try have ax:=b.eq 16 43 rfl
     try have aw:=b.eq 17 44 rfl
     simp only[Oper.wp,execOp];go_simp;exact k _ d (Fp.refl _ _)
   refine⟨?_,?_⟩
   ·repeat(first|exact trivial|refine B7 _ ?_ |refine⟨fun D w2 v _ i ⟨g,j,f⟩=>⟨g,j,(i.block g (Ac f) (by simp)).trans f⟩,?_⟩)
   ·intro w' d;simp only[a1x,a1w,a2z,a1v]
    iterate 19 (refine Am ?_)
    refine A0 ?_;simp only[Aj,Act.put,a0w,a0u,a1z];have n:=a0x (C.out.trans d (by simp));clear d;go_wp2_with (fail);refine C9 (by kernel_rfl) (by kernel_rfl) ?_
    iterate 9
     apply Aw rfl rfl rfl
     ·intro a w d b K k
      try have l:=b.fr 0 rfl
      try have av:=b.eq 0 45 rfl
      try have au:=b.eq 1 46 rfl
      try have h5:=b.fr 5 rfl
      try have aq:=b.eq 3 48 rfl
      try have ap:=b.eq 4 49 rfl
      try have ar:=b.eq 2 47 rfl
      try have ao:=b.eq 5 50 rfl
      try have h6:=b.fr 6 rfl
      try have an:=b.eq 6 51 rfl
      try have am:=b.eq 7 52 rfl
      simp only[Oper.wp,execOp];go_simp
      first
      |exact k _ d (Fp.refl _ _)
      |first
        |((with_reducible refine(HS.out _ (HT.out.fp (n.out.trans d (by simp)) (by simp))).mono ?_);rintro e w2 ⟨rfl,i⟩;exact k _ (d.trans i (by simp)) i)
        |((with_reducible refine(HX.out _ (HT.out.fp (n.out.trans d (by simp)) (by simp))).mono ?_);rintro e w2 ⟨rfl,i⟩;exact k _ (d.trans i (by simp)) i)
    refine⟨?_,?_⟩
    ·repeat(first|exact trivial|refine B7 _ ?_ |refine⟨fun D w2 v _ i ⟨g,j,f⟩=>⟨g,j,(i.block g (Ac f) (by simp)).trans f⟩,?_⟩)
    ·intro w' d;simp only[a1x,a1w,a2z,a1v]
     iterate 9 (refine Am ?_)
     refine A0 ?_;simp only[Aj,Act.put,a0w,a0u,a1z];have B:=a0x (n.out.trans d (by simp));clear d;go_wp2_with (fail);refine bodyPost_ret (v:=.tuple #[.string ⟨#[]⟩,.int .i64 0,.int .i64 20]) (by simp[results,Tryz.results73,go_sem, *]) rfl ⟨rfl,B.out⟩
end
end Go.Proofs.YtkagolpnaicdoaaGreatDoor
