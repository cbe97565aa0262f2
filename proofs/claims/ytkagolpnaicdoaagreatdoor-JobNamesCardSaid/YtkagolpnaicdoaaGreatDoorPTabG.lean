/-
 The rows of cells, each once (table.rows). bloom: a filter's bits; what it has. bloom.May: whether a filter has a name. As XRegionN, but what a value is good for may lapse once a later operation is done (S takes the bits), and the relation is told by the operation. Over any program. Slices of cells: what a part of one has; append to a slice of the call's own as a step of a drawn region; a store into one. Slices of cells: slices.Grow, Concat, Clone; what table's methods do with them. slices.DeleteFunc of cells, with table.Row's question. The reference of layer 4: two, Build. The reference's Par
-/
import Derived.Test.YtkagolpnaicdoaaGreatDoorPTabD
import Derived.Test.YtkagolpnaicdoaaGreatDoorPShelf
import Derived.Lib.OwnBridge
import Derived.Test.YtkagolpnaicdoaaGreatDoorPRegionG
import Derived.Test.YtkagolpnaicdoaaGreatDoorPTabA
import Derived.Lib.AppendZeros
import Derived.Laws.IdiomCopy
import Derived.Lib.SliceRun
import Derived.Test.YtkagolpnaicdoaaGreatDoorPBlkC
import Derived.Test.YtkagolpnaicdoaaGreatDoorPBuild
import Derived.Test.YtkagolpnaicdoaaGreatDoorRows
import Derived.Test.YtkagolpnaicdoaaGreatDoorPMaps
import Derived.ProofKit
import Derived.OpenShut
import Derived.ShutString
import Derived.ChangeOld
import Derived.SliceStrings
import Derived.Test.YtkagolpnaicdoaaGreatDoorTie
import Derived.Test.YtkagolpnaicdoaaGreatDoorCards
import Derived.Test.YtkagolpnaicdoaaGreatDoorPCellPure
import Derived.Handed
import Derived.LaidMore
import Derived.Lay
import Derived.Stop.Joined
import Derived.Shelf.Vars
set_option maxRecDepth 100000
set_option maxHeartbeats 8000000
open Go.Lib renaming hid→a0z
open List renaming replicate→a0x,length_map→a0w,getElem?_eq_getElem→a0v,eq_nil_of_length_eq_zero→a0u,getElem?_toArray→a1z,getD_eq_getElem?_getD→a1w,getElem?_cons_zero→a1v,take_succ_eq_append_getElem→a1u,map_map→a2w,length_append→a2v,setIfInBounds_toArray→a2u,range→a3z,length_take→a3x,length_drop→a3u,length_cons→a4z,length_replicate→a4v
open Go.IntKind renaming wrap_i64→a1x,wrap_u32→a3v
open Nat renaming mod_eq_of_lt→a2z,le_refl→a4x,zero_le→a4w
open Bool renaming and_eq_true→a2x
open BitVec renaming ofInt→a3w,ofInt_natCast→a4u,toNat_ofNat→a5z
namespace Go.Proofs.YtkagolpnaicdoaaGreatDoor
section
section
open Go.RowKit
def Zc(l:List Ac)(j:Nat):Bool:=decide (j=0∨(l.getD j Bv).row≠(l.getD (j-1) Bv).row)
def Tj(l:List Ac)(m:Nat):List ByteArray:=((a3z m).filter (Zc l)).map fun j=>(l.getD j Bv).row
def G2(l:List Ac):List ByteArray:=Tj l l.length
theorem jA(l:List Ac)(m:Nat):(Tj l m).length≤m:=by
 unfold Tj;rw[a0w];exact Nat.le_trans (List.length_filter_le _ _) (by simp)
theorem xX{a b:ByteArray}(h:a.data.toList=b.data.toList):a=b:=by
 have:=congrArg bl h
 rwa [M5,M5] at this
theorem xY(l:List Ac):(Lib.compact (l.map fun c=>c.row.data.toList)).map encStr=(G2 l).map Value.string:=by
 unfold Lib.compact Lib.compactUpTo G2 Tj;rw[a0w,a2w,a2w]
 have hget:∀j,j<l.length→(l.map fun c=>c.row.data.toList).toArray[j]! =(l.getD j Bv).row.data.toList:=by
  intro j hj;rw[getElem!_pos _ j (by simpa using hj)];simp only[List.getElem_toArray,List.getElem_map];rw[a1w,a0v hj];rfl
 have hk:(a3z l.length).filter (Lib.keeps (l.map fun c=>c.row.data.toList).toArray)=(a3z l.length).filter (Zc l):=by
  apply List.filter_congr;intro j hj;have hj':=List.mem_range.1 hj;unfold Lib.keeps Zc
  by_cases h0:j=0
  ·subst h0;simp
  ·rw[hget j hj',hget (j-1) (by omega)];apply decide_eq_decide.2;constructor
   ·rintro(h|h)
    ·exact Or.inl h
    ·exact Or.inr fun e=>h (by rw[e])
   ·rintro(h|h)
    ·exact Or.inl h
    ·exact Or.inr fun e=>h (xX e)
 rw[hk];apply List.map_congr_left;intro j hj;have hj':=List.mem_range.1 (List.mem_filter.1 hj).1;simp only[Function.comp];rw[hget j hj']
theorem xZ(w:World)(a:Option Addr)(len cap:Nat)(l:List Ac)(hl:Bt w a len l)(hn:len≤1000000):
  Calls Tryz.prog 95 #[.slice a len cap] w fun e w'=>∃v,e=.returned v∧B9 w' w.heap.size v (G2 l)∧Fp [] w w':=by
 have HL:=a0z hl;have HLEN:=a0z hl.len;clear hl;go_enter Tryz.func95,Tryz.ntmps95;go_wp2_with (fail)
 go_loopg [2,7] len (fun g va vi wr=>∃(k:Nat) (v:Value),g+k=len∧v=va∧vi=.int .i64 k∧B9 wr w.heap.size v ((l.take k).map (·.row))∧Fp [] w wr)
 case atStart=>exact⟨0,_,by omega,rfl,rfl,by simpa using B9.nil _ _,Fp.refl _ _⟩
 case round=>
  obtain⟨k,va,hg,rfl,rfl,ho,hf⟩:=hrel;have HF:=a0z hf;have HO:=a0z ho;clear hf ho
  by_cases hk:k<len
  ·have zk:(k:Int)<(len:Int):=by omega
   have hkl:k<l.length:=by rw[←HLEN.out];exact hk
   obtain⟨b1,o1,rfl,hb1,hcells⟩:=P1 HL.out hkl
   have htk:(l.take (k+1)).map (·.row)=(l.take k).map (·.row)++[l[k].row]:=by rw[a1u hkl,List.map_append];rfl
   have HTK:=a0z htk
   have htl:((l.take k).map (·.row)).length≤1000000:=by rw[a0w,a3x];omega
   have HTL:=a0z htl
   obtain⟨c,hc⟩:∃c,l[k]=c:=⟨_,rfl⟩
   rw[hc] at hcells HTK;obtain⟨q0,q1,q2,q3,q4,q5⟩:=hcells wr HF.out;clear hcells hc htk htl;obtain⟨row,col,ts,seq,del,val⟩:=c;simp only at HTK q0 q1 q2 q3 q4 q5;have hbw:w.heap.size≤wr.heap.size:=HF.out.size;go_wp2_with (at_builtin;(refine mB rfl _ _ rfl w.heap.size _ _ rfl ((HO.out.fp (Fp.alloc _ _) (by simp)).fp (Fp.alloc _ _) (by simp)) _ row rfl (by rw[Aa (Ai (by simp) _)];rfl) (by have:=HTL.out;omega) (by simp;omega) ?_);intro v2 w2 ho2 hb2;have HO2:=a0z ho2;have HB2:=a0z hb2;clear ho2 hb2)
   go_roundg (gk-1)
   case measure=>omega
   case rel=>exact⟨k+1,_,by omega,rfl,by simp,by rw[HTK.out];exact HO2.out,((HF.out.alloc' _).alloc' _).belowTrans HB2.out⟩
  ·obtain rfl:k=len:=by omega
   have zk:¬(k:Int)<(k:Int):=by omega
   have ho:B9 wr w.heap.size va (l.map (·.row)):=by
    have:=HO.out
    rwa [List.take_of_length_le (by rw[HLEN.out];exact a4x _)] at this
   have HRC:=a0z (xY l)
   have hown:wr.ownsRow w.heap.size 9 1 va (l.map fun c=>c.row.data.toList).length ((l.map fun c=>c.row.data.toList).map encStr):=by
    have h1:wr.ownsRow w.heap.size 9 1 va (l.map (·.row)).length ((l.map (·.row)).map Value.string):=ho;rw[←Lib.map_encStr,a2w,a2w,a0w] at h1;rw[a2w,a0w];exact h1
   by_cases hv:va=.slice none 0 0
   ·subst hv
    have h0:l.map (·.row)=[]:=by
     have h1:=ho.1
     rcases ho.2 with⟨_,h2⟩|⟨g,_,_,h2,_⟩
     ·exact a0u h2
     ·cases h2
    have hl0:l=[]:=List.map_eq_nil_iff.1 h0;subst hl0;have HCE:=a0z (Tryz.slices_Compact_string_empty none 0 wr);clear ho hown;go_wp2_with (fail);(with_reducible refine HCE.out.mono ?_);rintro e w2 ⟨rfl,rfl⟩;go_wp2_with (fail);go_ret;exact⟨_,rfl,B9.nil _ _,HF.out⟩
   ·obtain⟨g,cap2,rfl,hbg,hgl,hnc,hcm,hln,hH⟩:=Lib.holds_of_ownsRow hown hv;have HC:=a0z (Tryz.slices_Compact_string g 0 cap2 (l.map fun c=>c.row.data.toList) wr hH (by rw[a0w];have:=HLEN.out;omega) (by rw[a0w] at hnc ⊢;exact hnc));have HOW:=a0z hown;clear ho hown hH;have hlen:=congrArg List.length HRC.out;rw[a0w,a0w] at hlen
    obtain⟨zs,hzs⟩:∃zs,(l.map fun c=>c.row.data.toList)=zs:=⟨_,rfl⟩
    rw[hzs] at HC HOW HRC hlen hln hnc;rw[hzs]
    have hcl:(Lib.compact zs).length≤zs.length:=by
     unfold Lib.compact Lib.compactUpTo;rw[a0w];exact Nat.le_trans (List.length_filter_le _ _) (by simp)
    clear hzs;go_wp2_with (fail);(with_reducible refine HC.out.mono ?_);rintro e w2 ⟨rfl,q,rfl⟩;have hown2:=Lib.ownsRow_putRow (q:=q) (k:=(Lib.compact zs).length) (ys:=Lib.compact zs++a0x (zs.length-(Lib.compact zs).length) []) HOW.out (by rw[a2v,a4v];omega) hcl;rw[List.take_left' rfl,HRC.out] at hown2;have hbel:=Lib.below_putRow (enc:=encStr) (q:=q) (d:=(Lib.compact zs++a0x (zs.length-(Lib.compact zs).length) []).toArray) (Below.refl w.heap.size wr) hbg
    obtain⟨w3,hw3⟩:∃w3,Sort.putRow encStr (Sort.ahead wr q) g 0 (Lib.compact zs++a0x (zs.length-(Lib.compact zs).length) []).toArray=w3:=⟨_,rfl⟩
    rw[hw3] at hown2 hbel ⊢;have HO2:=a0z hown2;have HB2:=a0z hbel;clear hown2 hbel hw3;go_wp2_with (fail);go_ret;refine⟨_,rfl,?_,HF.out.belowTrans HB2.out⟩;have h2:=HO2.out;rw[hlen] at h2;exact h2
end
section
open Go.RowKit
def Tm(x:UInt8)(k:Nat):UInt8:=UInt8.ofNat (x.toNat ||| 2^k)
def Pi(d:List UInt8)(i:Nat):List UInt8:=d.set (i/8) (Tm (d.getD (i/8) 0) (i%8))
def N9(s:ByteArray):Nat:=D5 0 s
def V4(s:ByteArray):Nat:=D5 (N9 s) ⟨#[1]⟩
def L5(s:ByteArray)(k:Nat):Nat:=(N9 s+k*V4 s)%4294967296
def Q0(s:ByteArray)(many k:Nat):Nat:=L5 s k%many
def La(s:ByteArray)(d:List UInt8)(k:Nat):List UInt8:=(a3z k).foldl (fun d j=>Pi d (Q0 s (8*d.length) j)) d
theorem yA(d:List UInt8)(i:Nat):(Pi d i).length=d.length:=by simp[Pi]
theorem jB(s:ByteArray)(d:List UInt8)(k:Nat):La s d (k+1)=Pi (La s d k) (Q0 s (8*(La s d k).length) k):=by
 unfold La;rw[List.range_succ,List.foldl_append];rfl
theorem V5(s:ByteArray)(d:List UInt8):∀k,(La s d k).length=d.length
 |0=>rfl
 |k+1=>by rw[jB,yA,V5 s d k]
theorem yB(s:ByteArray):L5 s 0=N9 s:=by
 have:=Pg 0 s;unfold L5 N9;rw[Nat.zero_mul,Nat.add_zero];exact a2z this
theorem yC(s:ByteArray)(k:Nat):L5 s (k+1)=(L5 s k+V4 s)%4294967296:=by
 unfold L5;rw[Nat.add_mul,Nat.one_mul];omega
theorem yD(s:ByteArray)(k:Nat):L5 s k<4294967296:=Nat.mod_lt _ (by decide)
theorem yE(s:ByteArray){many:Nat}(k:Nat)(h:0<many):Q0 s many k<many:=Nat.mod_lt _ h
theorem yF(a b:Nat)(ha:a<256)(hb:b<256):bits .or .u8 (a:Int) (b:Int)=((a ||| b:Nat):Int):=by
 have hx:a ||| b<2^8:=Nat.or_lt_two_pow (by omega) (by omega)
 have h1:(a3w 8 (a:Int)).toNat=a:=by
  rw[a4u,a5z];exact a2z (by omega)
 have h2:(a3w 8 (b:Int)).toNat=b:=by
  rw[a4u,a5z];exact a2z (by omega)
 show IntKind.u8.wrap ((a3w 8 (a:Int) ||| a3w 8 (b:Int)).toNat:Int)=_;rw[BitVec.toNat_or,h1,h2,IntKind.wrap_u8];omega
theorem yG(x:UInt8){k:Nat}(h:k<8):(Tm x k).toNat=x.toNat ||| 2^k:=by
 unfold Tm;rw[UInt8.toNat_ofNat'];apply a2z;have h2:(2:Nat)^k≤2^7:=Nat.pow_le_pow_right (by decide) (by omega);exact Nat.or_lt_two_pow (n:=8) x.toNat_lt (by omega)
def Ge(w:World)(g:Nat)(d:List UInt8):Prop:=w.heap[g]?=some (.cells (d.map A4).toArray 5 (0,0))
theorem Ge.cell{w:World}{g j:Nat}{d:List UInt8}(h:Ge w g d)(hj:j<d.length):w.cell? ⟨g,j,none⟩=some (.int .u8 (d.getD j 0).toNat):=by
 rw[Aa h];rw[a1z,List.getElem?_map,a0v hj,a1w,a0v hj];rfl
theorem Ge.free{w:World}{g:Nat}{d:List UInt8}(h:Ge w g d)(j:Nat):w.frozen? ⟨g,j,none⟩=false:=Ar h j
theorem Ge.set{w:World}{g j:Nat}{d:List UInt8}{x:UInt8}(h:Ge w g d):Ge (w.setCell ⟨g,j,none⟩ (.int .u8 x.toNat)) g (d.set j x):=by
 unfold Ge;rw[Bm h];simp only[a2u];rw[show(Value.int .u8 (x.toNat:Int))=A4 x from rfl,←List.map_set]
theorem Ge.fp{w w':World}{g:Nat}{d:List UInt8}{S:List Nat}(h:Ge w g d)(hf:Fp S w w')(hs:g∉S):Ge w' g d:=(hf.block g (Ab h) hs).trans h
structure Lc(w:World)(bx g n:Nat)(d d':List UInt8)(done:Bool)(w':World):Prop where
 row:Ge w' g (if done=true then d' else d)
 box:w'.heap[bx]?=some (.cells #[.slice (some ⟨g,0,none⟩) n n] 113 (0,0))
 fp:Fp [g] w w'
def CM(w:World)(bx g n:Nat)(d d':List UInt8)(b:Nat→Bool)(w':World):Prop:=Lc w bx g n d d' (b 10) w'
theorem yH(w:World)(bx g n i:Nat)(d:List UInt8)(hbx:w.heap[bx]?=some (.cells #[.slice (some ⟨g,0,none⟩) n n] 113 (0,0)))(hg:Ge w g d)(hd:d.length=n)(hi:i<8*n)(hn:n≤100000)(hbg:bx≠g):
  Calls Tryz.prog 158 #[.int .i64 i,.pointer (some ⟨bx,0,none⟩)] w fun e w'=>e=.returned (.bool true)∧Ge w' g (Pi d i)∧Fp [g] w w':=by
 have HBX:=a0z hbx;have HG:=a0z hg
 obtain⟨q,hq⟩:∃q,i/8=q:=⟨_,rfl⟩
 obtain⟨r,hr⟩:∃r,i%8=r:=⟨_,rfl⟩
 have e1:(i:Int)/8=(q:Int):=by omega
 have e2:(i:Int).tmod 8=(r:Int):=by rw[Int.tmod_eq_emod_of_nonneg (by omega)];omega
 have e3:IntKind.i64.wrap (q:Int)=(q:Int):=by rw[a1x];omega
 have e4:min r 8=r:=by omega
 have hqn:(q:Int)<(n:Int):=by omega
 have hqd:q<d.length:=by omega
 obtain⟨x,hx⟩:∃x,d.getD q 0=x:=⟨_,rfl⟩
 have HC:=a0z (fun w (h:Ge w g d)=>h.cell hqd);rw[hx] at HC
 have HS:Hid (Pi d i=d.set q (Tm x r)):=by unfold Hid Pi;rw[hq,hr,hx]
 have hp:(2:Nat)^r≤2^7:=Nat.pow_le_pow_right (by decide) (by omega)
 obtain⟨p,hp2⟩:∃p,2^r=p:=⟨_,rfl⟩
 rw[hp2] at hp
 have p1:IntKind.u8.wrap (((2:Nat):Int)^r)=(p:Int):=by
  rw[IntKind.wrap_u8,←hp2]
  have:(((2:Nat):Int)^r)=((2^r:Nat):Int):=by push_cast;rfl
  rw[this,hp2];omega
 have p1':IntKind.u8.wrap ((2:Int)^r)=(p:Int):=p1;have hxl:=x.toNat_lt
 obtain⟨y,hy⟩:∃y,Tm x r=y:=⟨_,rfl⟩
 have p2:bits .or .u8 (x.toNat:Int) (p:Int)=(y.toNat:Int):=by
  rw[yF _ _ hxl (by omega),←hy,yG x (by omega),hp2]
 rw[hy] at HS
 have hr8:r<8:=by omega
 clear hq hr hx hy hp2 hbx hg hi hp;go_enter Tryz.func158,Tryz.ntmps158;go_wp2_with (fail);refine F9 (CM w bx g n d (d.set q y)) (fun _ _=>True) (by kernel_rfl) (by kernel_rfl) ⟨HG.out.fp (Fp.drew w) (by simp),((Fp.drew w).block _ (Ab HBX.out) (by simp)).trans HBX.out,(Fp.drew w).mono (by simp)⟩ ?_
 iterate 4
  apply Bi (fun _ _ h=>h) rfl rfl rfl
  ·intro b a w hC hA K hK
   try have h1:=hA.fr 1 rfl
   try have h0:=hA.fr 0 rfl
   try have h5:=hA.eq 1 5 rfl
   try have h4:=hA.eq 0 4 rfl
   try have h6:=hA.eq 2 6 rfl
   have q0:=Aa (Lc.box hC) 0;simp only[a1z,a1v] at q0;simp only[Oper.wp,execOp];go_simp;exact hK _ hC trivial
 apply Bi (fun _ _ h=>h) rfl rfl rfl
 ·intro b a w hC hA K hK;have h7:=hA.eq 3 7 rfl;have q0:=Aa (Lc.box hC) 0;simp only[a1z,a1v] at q0;have hrow:=Lc.row hC;rw[hA.post 10 (by kernel_rfl)] at hrow;have q1:=HC.out _ hrow;simp only[Oper.wp,execOp];go_simp;exact hK _ hC trivial
 iterate 5
  apply Bi (fun _ _ h=>h) rfl rfl rfl
  ·intro b a w hC hA K hK
   try have h0:=hA.fr 0 rfl
   try have h9:=hA.eq 5 9 rfl
   try have h10:=hA.eq 6 10 rfl
   try have h8:=hA.eq 4 8 rfl
   try have h11:=hA.eq 7 11 rfl
   try have h4:=hA.eq 0 4 rfl
   try have h6:=hA.eq 2 6 rfl
   have q0:=Aa (Lc.box hC) 0;simp only[a1z,a1v] at q0;simp only[Oper.wp,execOp];go_simp;exact hK _ hC trivial
 apply Gw (fun _=>True) rfl rfl
 ·intro b a w hC hA K hK;have h13:=hA.eq 9 13 rfl;have h12:=hA.eq 8 12 rfl;have hrow:=Lc.row hC;rw[hA.self] at hrow;have q1:=HC.out _ hrow;have z1:=hrow.free q;simp only[Oper.wp,execOp];go_simp;exact hK undef _ ⟨hrow.set,((Fp.setCell w ⟨g,q,none⟩ _).block _ (Ab (Lc.box hC)) (by simpa using hbg)).trans (Lc.box hC),(Lc.fp hC).setCell' (Or.inl (by simp)) _⟩ trivial trivial
 refine⟨?_,?_⟩
 ·refine⟨fun _ _ _ _ _=>trivial,?_⟩
  iterate 10 refine Cc _ ?_
  exact trivial
 ·intro w1 bb hC hbb;simp only[List.reverse_cons,List.reverse_nil,List.nil_append,List.cons_append]
  iterate 10 (refine Au ?_)
  refine Az ?_;intro v10 u10;refine A6 ?_;simp only[Am,Act.put,a2u,List.set_cons_succ,List.set_cons_zero];have hrow:=Lc.row hC;rw[hbb 10 (by decide)] at hrow;have HR:=a0z hrow;have HF:=a0z (Lc.fp hC);clear hrow hC hbb u10;go_wp2_with (fail);go_ret;exact⟨rfl,by rw[HS.out];exact HR.out,HF.out⟩
theorem yI(name:ByteArray)(M gf bx:Nat)(I:Nat→World→Prop)(X:World→Prop)(w:World)(eg:∀args w,(callFunc gf args).run Tryz.prog w=.ok (.enter gf args) w)
  (hname:name.size≤100000000)(hM:0<M)(hM2:M≤1000000)(ht:∀k w,I k w→Ce w)(hI:∀k w w',I k w→Fp [] w w'→I k w')(h0:I 0 w)
  (hlook:∀k w,k<4→I k w→Calls Tryz.prog gf #[.int .i64 (Q0 name M k:Nat),.pointer (some ⟨bx,0,none⟩)] w fun e w'=>(e=.returned (.bool true)∧I (k+1) w')∨(e=.returned (.bool false)∧X w')):
  Calls Tryz.prog 157 #[.string name,.int .i64 M,.func (.func gf) #[] #[.pointer (some ⟨bx,0,none⟩)]] w fun e w'=>(e=.returned (.bool true)∧I 4 w')∨(e=.returned (.bool false)∧X w'):=by
 have HT:=a0z ht;have HI:=a0z hI;have H0:=a0z h0;have HL:=a0z hlook
 have HS:Hid (∀w,Ce w→Calls Tryz.prog 52 #[.string name] w fun e w'=>e=.returned (.int .u32 (N9 name))∧Fp [] w w'):=fun w ht=>Ro name w hname ht
 have HM:Hid (∀w,Ce w→Calls Tryz.prog 98 #[.int .u32 (N9 name),.string ⟨#[1]⟩] w fun e w'=>e=.returned (.int .u32 (V4 name))∧Fp [] w w'):=fun w ht=>Um (N9 name) ⟨#[1]⟩ w (Pg _ _) (by show 1≤_;decide) ht
 clear ht hI h0 hlook;have HK0:=a0z (yB name)
 obtain⟨ha,hha⟩:∃x,N9 name=x:=⟨_,rfl⟩
 obtain⟨hb,hhb⟩:∃x,V4 name=x:=⟨_,rfl⟩
 have HHB:=a0z hhb
 have hbl:hb<4294967296:=by rw[←hhb];exact Pg _ _
 rw[hha] at HS HM HK0;rw[hhb] at HM;clear hha hhb
 have u0:IntKind.u32.wrap (M:Int)=(M:Int):=by rw[a3v];omega
 go_enter Tryz.func157,Tryz.ntmps157;go_wp2_with (fail);(with_reducible refine(HS.out _ (HT.out _ _ H0.out)).mono ?_);rintro e w1 ⟨rfl,hf1⟩;have H1:=a0z (HI.out _ _ _ H0.out hf1);clear hf1;go_wp2_with (fail);(with_reducible refine(HM.out _ (HT.out _ _ H1.out)).mono ?_);rintro e w2 ⟨rfl,hf2⟩;have H2:=a0z (HI.out _ _ _ H1.out hf2);clear hf2;go_wp2_with (fail)
 go_loopg [7,13] 4 (fun g va vi wr=>∃k:Nat,g+k=4∧va=.int .u32 (L5 name k:Nat)∧vi=.int .i64 k∧I k wr)
 case atStart=>exact⟨0,by omega,by rw[HK0.out],rfl,H2.out⟩
 case round=>
  obtain⟨k,hg,rfl,rfl,hik⟩:=hrel;have HIK:=a0z hik;clear hik
  by_cases hk:k<4
  ·have zk:(k:Int)<4:=by omega
   have HS1:=a0z (yC name k);rw[HHB.out] at HS1;have HLK:=a0z (HL.out k wr hk HIK.out);have hkl:=yD name k;have HPN:Hid (Q0 name M k=L5 name k%M):=rfl
   obtain⟨x,hx⟩:∃x,L5 name k=x:=⟨_,rfl⟩
   rw[hx] at HS1 hkl HPN;rw[hx]
   obtain⟨p,hp⟩:∃p,x%M=p:=⟨_,rfl⟩
   have hp2:(x:Int)%(M:Int)=(p:Int):=by rw[←hp];rfl
   have hp3:p<M:=by rw[←hp];exact Nat.mod_lt _ hM
   rw[HPN.out,hp] at HLK
   have u1:IntKind.i64.wrap (p:Int)=(p:Int):=by rw[a1x];omega
   have u1':IntKind.u32.wrap (p:Int)=(p:Int):=by rw[a3v];omega
   have M0:¬M=0:=by omega
   obtain⟨y,hy⟩:∃y,(x+hb)%4294967296=y:=⟨_,rfl⟩
   have u2:IntKind.u32.wrap ((x:Int)+(hb:Int))=(y:Int):=by rw[a3v];omega
   rw[hy] at HS1;clear hx hp hy HPN;go_wp2_with (fail);(with_reducible refine HLK.out.mono ?_);rintro e w3 (⟨rfl,hi3⟩|⟨rfl,hx3⟩)
   ·have H3:=a0z hi3;clear hi3;go_wp2_with (fail)
    go_roundg (gk-1)
    case measure=>omega
    case rel=>exact⟨k+1,by omega,by rw[HS1.out],by simp,H3.out⟩
   ·have HX:=a0z hx3;clear hx3;go_wp2_with (fail);go_ret;exact Or.inr ⟨rfl,HX.out⟩
  ·obtain rfl:k=4:=by omega
   go_wp2_with (fail);go_ret;exact Or.inl ⟨rfl,HIK.out⟩
theorem yJ(name:ByteArray)(bx g n:Nat)(d:List UInt8)(w:World)(hname:name.size≤100000000)(hn0:0<n)(hn:n≤100000)(hd:d.length=n)(hbx:w.heap[bx]?=some (.cells #[.slice (some ⟨g,0,none⟩) n n] 113 (0,0)))(hg:Ge w g d)
  (hbg:bx≠g)(hgt:g≠0)(ht:Ce w):
  Calls Tryz.prog 157 #[.string name,.int .i64 (8*n:Nat),.func (.func 158) #[] #[.pointer (some ⟨bx,0,none⟩)]] w fun e w'=>e=.returned (.bool true)∧Ge w' g (La name d 4)∧Fp [g] w w':=by
 refine(yI name (8*n) 158 bx (fun k w'=>Ge w' g (La name d k)∧w'.heap[bx]?=some (.cells #[.slice (some ⟨g,0,none⟩) n n] 113 (0,0))∧Fp [g] w w') (fun _=>False) w (enters_of Tryz.func158 (by kernel_rfl) rfl) hname (by omega) (by omega)
  (fun k w' h=>ht.fp h.2.2 (by simpa using Ne.symm hgt)) (fun k a b h hf=>⟨h.1.fp hf (by simp),(hf.block _ (Ab h.2.1) (by simp)).trans h.2.1,h.2.2.trans hf (by simp)⟩) ⟨hg,hbx,Fp.refl _ _⟩ ?_).mono ?_
 ·rintro k w' hk ⟨h1,h2,h3⟩;refine(yH w' bx g n (Q0 name (8*n) k) (La name d k) h2 h1 (by rw[V5,hd]) (yE _ _ (by omega)) hn hbg).mono ?_;rintro e w2 ⟨rfl,hr,hf⟩;refine Or.inl ⟨rfl,?_,(hf.block _ (Ab h2) (by simpa using hbg)).trans h2,h3.trans hf (by intro i hi;exact Or.inl hi)⟩;rw[jB,V5,hd];exact hr
 ·rintro e w' (⟨rfl,h1,_,h3⟩|⟨_,h⟩)
  ·exact⟨rfl,h1,h3⟩
  ·exact h.elim
def Pj(k:Nat):Nat:=max ((k*10+7)/8) 8
def I5(names:List ByteArray)(k:Nat):List UInt8:=(names.take k).foldl (fun d s=>La s d 4) (a0x (Pj names.length) 0)
def Jn(names:List ByteArray):ByteArray:=bl (I5 names names.length)
theorem yK(names:List ByteArray){k:Nat}(h:k<names.length):I5 names (k+1)=La names[k] (I5 names k) 4:=by
 unfold I5;rw[a1u h,List.foldl_append];rfl
theorem yL(names:List ByteArray):∀d:List UInt8,(names.foldl (fun d s=>La s d 4) d).length=d.length:=by
 induction names with
 |nil=>intro d;rfl
 |cons s l ih=>intro d;rw[List.foldl_cons,ih,V5]
theorem Zd(names:List ByteArray)(k:Nat):(I5 names k).length=Pj names.length:=by
 unfold I5;rw[yL,a4v]
theorem Ge.str{w:World}{g cap:Nat}{d:List UInt8}(h:Ge w g d):(convert 113 9 (.slice (some ⟨g,0,none⟩) d.length cap)).run Tryz.prog w=.ok (.string (bl d)) w:=by
 have h2:=Nu (cap:=cap) (n:=d.length) (f:=fun j=>d.getD j 0) (b:=g) (w:=w) ⟨Ab h,fun j hj=>by
  rw[h.cell hj];rfl,fun j _=>h.free j⟩
 rw[h2]
 have e:(a3z d.length).map (fun j=>d.getD j 0)=d:=by
  apply List.ext_getElem
  ·simp
  ·intro i h1 h2;simp only[List.getElem_map,List.getElem_range];rw[a1w,a0v h2];rfl
 rw[e];rfl
theorem yM(v:Value)(n:Nat):madeCells #[v] n=(a0x n v).toArray:=by
 apply Array.ext
 ·rw[size_madeCells];simp
 ·intro i h1 h2;simp[madeCells,Nat.mod_one]
theorem yN(w:World)(n:Nat)(hn:n≤100000):(Instr.makeSlice 113 (.int .i64 n) (.int .i64 n)).run Tryz.prog w=.ok (.slice (some ⟨w.heap.size,0,none⟩) n n) (w.alloc (.cells ((a0x n (0:UInt8)).map A4).toArray 5)):=by
 have h:=run_makeSlice (P:=Tryz.prog) w 113 5 Tryz.t5 (.int .u8 0) Tryz.underlying113 (by kernel_rfl) (by kernel_rfl) .i64 .i64 n n (by omega) (Int.le_refl _) (by show(n:Int).toNat*1≤_;omega) (by show((1:Nat):Int)*n≤_;omega) (by omega)
 change _ =Result.ok _ (w.alloc (.cells (madeCells (Value.int .u8 0).cells ((n:Int).toNat*1)) 5)) at h
 rw[h,Int.toNat_natCast,Nat.mul_one];rw[show(Value.int .u8 0).cells=#[Value.int .u8 0] from rfl,yM,List.map_replicate];rfl
theorem yO(w:World)(v:Value)(base:Nat)(names:List ByteArray)(hv:B9 w base v names)(hn:names.length≤2000)(hsm:∀s∈names,s.size≤100000000)(ht:Ce w):
  Calls Tryz.prog 94 #[v,.int .i64 10] w fun e w'=>e=.returned (.tuple #[.string (Jn names),.int .i64 0])∧Fp [] w w':=by
 obtain⟨⟨a,cap,rfl⟩,hat⟩:=hv.at;have HAT:=a0z hat;have HT:=a0z ht;have HSM:=a0z hsm
 obtain⟨nl,hnl⟩:∃nl,names.length=nl:=⟨_,rfl⟩
 obtain⟨n,hn2⟩:∃n,Pj nl=n:=⟨_,rfl⟩
 have hnv:n=max ((nl*10+7)/8) 8:=by rw[←hn2];rfl
 have n1:IntKind.i64.wrap ((nl:Int)*10)=((nl*10:Nat):Int):=by rw[a1x];omega
 obtain⟨m1,hm1⟩:∃m,nl*10=m:=⟨_,rfl⟩
 rw[hm1] at n1
 have n2:IntKind.i64.wrap ((m1:Int)+7)=((m1+7:Nat):Int):=by rw[a1x];omega
 obtain⟨m2,hm2⟩:∃m,m1+7=m:=⟨_,rfl⟩
 rw[hm2] at n2
 obtain⟨m3,hm3⟩:∃m,m2/8=m:=⟨_,rfl⟩
 have n3:(m2:Int)/8=(m3:Int):=by omega
 have n4:max (m3:Int) 8=(n:Int):=by omega
 have hn8:8≤n:=by omega
 have hnb:n≤100000:=by omega
 clear hm1 hm2 hm3 hnv hv hat ht hsm;rw[hnl];go_enter Tryz.func94,Tryz.ntmps94;have hmk:=yN w n hnb;have hfil:Ge (w.alloc (.cells ((a0x n (0:UInt8)).map A4).toArray 5)) w.heap.size (a0x n 0):=Ai rfl _;have hfw:=Fp.alloc w (.cells ((a0x n (0:UInt8)).map A4).toArray 5)
 have hsz:(w.alloc (.cells ((a0x n (0:UInt8)).map A4).toArray 5)).heap.size=w.heap.size+1:=by simp
 obtain⟨w1,hw1⟩:∃w1,w.alloc (.cells ((a0x n (0:UInt8)).map A4).toArray 5)=w1:=⟨_,rfl⟩
 rw[hw1] at hmk hfil hfw hsz;have HFIL:=a0z hfil;have HFW:=a0z hfw;clear hw1 hfil hfw;go_wp2_with (fail)
 go_loopg [30] nl (fun g vi wr=>∃k:Nat,g+k=nl∧vi=.int .i64 k∧Ge wr w.heap.size (I5 names k)∧wr.heap[w.heap.size+1]?=some (.cells #[.slice (some ⟨w.heap.size,0,none⟩) n n] 113 (0,0))∧Fp [] w wr)
 case atStart=>
  refine⟨0,by omega,rfl,?_,Ai hsz.symm _,HFW.out.alloc' _⟩
  have e:I5 names 0=a0x n 0:=by unfold I5;rw[hnl,hn2];rfl
  rw[e];exact HFIL.out.fp (Fp.alloc _ _) (by simp)
 case round=>
  obtain⟨k,hg,rfl,hfl,hbx,hf⟩:=hrel;have HFL:=a0z hfl;have HBX:=a0z hbx;have HF:=a0z hf;have q1:wr.cell? ⟨w.heap.size+1,0,none⟩=some (.slice (some ⟨w.heap.size,0,none⟩) n n):=Aa hbx 0;clear hfl hbx hf
  by_cases hk:k<nl
  ·have zk:(k:Int)<(nl:Int):=by omega
   have hkn:k<names.length:=by rw[hnl];exact hk
   have hld:(I5 names k).length=n:=by rw[Zd,hnl,hn2]
   have HLD:=a0z hld;have HBS:=a0z (yK names hkn)
   obtain⟨s,hs⟩:∃s,names[k]=s:=⟨_,rfl⟩
   have hss:s.size≤100000000:=by rw[←hs];exact HSM.out _ (List.getElem_mem hkn)
   rw[hs] at HBS
   have hat2:∃g0 cap0,a=some ⟨g0,0,none⟩∧cap=cap0∧wr.cell? ⟨g0,k,none⟩=some (.string s):=by
    rcases HAT.out with h|⟨g0,c0,e0,_,hlt,hc⟩
    ·rw[h] at hnl;simp at hnl;omega
    ·injection e0 with e1 _ e3
     refine⟨g0,c0,e1,e3,?_⟩;rw[HF.out.cell (p:=⟨g0,k,none⟩) hlt (by simp),hc k hkn,hs]
   obtain⟨g0,cap0,rfl,rfl,q0⟩:=hat2
   have n5:IntKind.i64.wrap (8*(n:Int))=((8*n:Nat):Int):=by rw[a1x];omega
   have htw:=HT.out.fp HF.out (by simp);have h4:0<w.heap.size:=World.block_lt_of_cell? _ _ (HT.out 0 (by decide));have HPM:=a0z (yJ s (w.heap.size+1) w.heap.size n (I5 names k) wr hss (by omega) hnb hld HBX.out HFL.out (by omega) (by omega) htw)
   obtain⟨n8,hn8e⟩:∃n8,8*n=n8:=⟨_,rfl⟩
   rw[hn8e] at n5 HPM;clear hs hld htw hn8e;go_wp2_with (fail);(with_reducible refine HPM.out.mono ?_);rintro e w2 ⟨rfl,hfl2,hf2⟩;have HFL2:=a0z hfl2;have HF2:=a0z hf2;clear hfl2 hf2;go_wp2_with (fail)
   go_roundg (gk-1)
   case measure=>omega
   case rel=>exact⟨k+1,by omega,by simp,by rw[HBS.out];exact HFL2.out,(HF2.out.block _ (Ab HBX.out) (by simp)).trans HBX.out,HF.out.trans HF2.out (by simp)⟩
  ·obtain rfl:k=nl:=by omega
   have zk:¬(k:Int)<(k:Int):=by omega
   have hcv:=HFL.out.str (cap:=n);rw[show(I5 names k).length=n from by rw[Zd,hnl,hn2]] at hcv
   have HBP:Hid (Jn names=bl (I5 names k)):=by unfold Hid Jn;rw[hnl]
   obtain⟨r,hr⟩:∃r,bl (I5 names k)=r:=⟨_,rfl⟩
   rw[hr] at hcv HBP;clear hr;go_wp2_with (fail);go_ret2;exact⟨by rw[HBP.out];rfl,HF.out⟩
end
section
open Go.RowKit
end
end
section
open Go.RowKit
section
variable {P : Program} {l : List Oper}
abbrev BS:=(Nat→Bool)→World→Value→Prop
variable {C : (Nat → Bool) → World → Prop} {R : Nat → World → World → Prop} {a0 : Act} {F : Act → World → Prop} {i n : Nat} {done : List BS}
end
end
section
open Go.RowKit
theorem Pm{b:Nat→Bool}{i k:Nat}(h:b k=true):Ap b i k=true:=by unfold Ap;split<;>first|rfl|exact h
theorem Gf{a:Act}{t:Nat}{v:Value}(h:a.tmps[t]?.getD undef=v):a.eval (.tmp t)=v:=by rw[←h];simp[go_sem]
theorem Bt.take{w:World}{a:Option Addr}{len:Nat}{l:List Ac}(h:Bt w a len l)(n:Nat)(hn:n≤len):Bt w a n (l.take n):=by
 have hl:=h.len;refine⟨by rw[a3x];omega,?_,fun c hc=>h.ok c (List.mem_of_mem_take hc)⟩
 rcases h.cells with h0|⟨b,o,h1,h2,h3⟩
 ·subst h0;exact Or.inl (by simp)
 ·refine Or.inr ⟨b,o,h1,h2,fun i hi=>?_⟩;rw[List.getElem_take];exact h3 i (by rw[a3x] at hi;omega)
theorem Bt.drop{w:World}{b o len:Nat}{l:List Ac}(h:Bt w (some ⟨b,o,none⟩) len l)(n m:Nat)(hn:n+m=len):Bt w (some ⟨b,o+n*6,none⟩) m (l.drop n):=by
 have hl:=h.len;refine⟨by rw[a3u];omega,?_,fun c hc=>h.ok c (List.mem_of_mem_drop hc)⟩
 rcases h.cells with h0|⟨b',o',h1,h2,h3⟩
 ·subst h0;exact Or.inl (by simp)
 ·cases h1;refine Or.inr ⟨b,o+n*6,rfl,h2,fun i hi=>?_⟩;rw[List.getElem_drop];have h4:=h3 (n+i) (by rw[a3u] at hi;omega);rw[show o+n*6+i*6=o+(n+i)*6 from by omega];exact h4
theorem A2.empty{w:World}{base g:Nat}(hg:base≤g)(h:w.heap[g]?=some (.cells #[] 80 (0,0))):A2 w base (.slice (some ⟨g,0,none⟩) 0 0) []:=
 ⟨rfl,Or.inr ⟨g,0,#[],rfl,hg,h,a4x _,a4w _,rfl,rfl⟩⟩
theorem A2.open{w:World}{base:Nat}{v:Value}{l:List Ac}(h:A2 w base v l)(h0:0<l.length):
  ∃g cap cur,v=.slice (some ⟨g,0,none⟩) l.length cap∧base≤g∧w.heap[g]?=some (.cells cur 80 (0,0))∧l.length≤cap∧cap≤maxLen∧cur.size=cap*6∧cur.toList.take (l.length*6)=l.flatMap Eu:=by
 rcases h.2 with⟨_,h1⟩|h1
 ·omega
 ·exact h1
end
section
section
open Go.RowKit
end
section
open Go.RowKit
theorem yP{cur:Array Value}{l:List Ac}(h:cur.toList.take (l.length*6)=l.flatMap Eu)(i:Nat)(hi:i<l.length)(j:Nat)(hj:j<6):cur[i*6+j]?=(Eu l[i])[j]?:=by
 rw[←Y8 l i j hj hi,←h,List.getElem?_take,if_pos (by omega),Array.getElem?_toList]
theorem A2.cel{w:World}{base g n cap j:Nat}{l:List Ac}(h:A2 w base (.slice (some ⟨g,0,none⟩) n cap) l)(hj:j<l.length):Jr w g (j*6) l[j]∧∀o,w.frozen? ⟨g,o,none⟩=false:=by
 obtain⟨g2,cap2,cur,e,hg,hh,hn,hm,hs,ht⟩:=h.open (by omega);cases e
 have key:=fun k hk=>yP ht j hj k hk
 refine⟨⟨?_,?_,?_,?_,?_,?_⟩,fun o=>Ar hh o⟩
 ·rw[Aa hh];exact key 0 (by decide)
 ·rw[Aa hh];exact key 1 (by decide)
 ·rw[Aa hh];exact key 2 (by decide)
 ·rw[Aa hh];exact key 3 (by decide)
 ·rw[Aa hh];exact key 4 (by decide)
 ·rw[Aa hh];exact key 5 (by decide)
end
end
section
open Go.RowKit Go.Lib
end
section
section
open Go.RowKit
end
section
open Go.RowKit Go.Lib
theorem Ze(x y:List UInt8)(n:Nat)(h:n=x.length):(bl (x++y)).extract 0 n=bl x:=by
 rw[Xd,List.drop_zero,Nat.sub_zero,h,List.take_left]
theorem Zf(x y:List UInt8)(n:Nat)(h:n=x.length):(bl (x++y)).extract n (bl (x++y)).size=bl y:=by
 rw[mJ,h,List.drop_left]
theorem yQ(x y z:List UInt8)(n m:Nat)(h:n=x.length)(h2:m=x.length+y.length):(bl (x++(y++z))).extract n m=bl y:=by
 rw[Xd,h,List.drop_left,h2,Nat.add_sub_cancel_left,List.take_left]
theorem jC{l:List Ac}(h:(Ek l).2=0):l.length≤255∧l.all Di=true∧risC l=true∧(Ek l).1=bl (UInt8.ofNat l.length::Hi 0 [] l):=by
 unfold Ek at h ⊢;split at h
 ·cases h
 ·split at h
  ·cases h
  ·split at h
   ·cases h
   ·rename_i h1 h2 h3;rw[if_neg h1,if_neg h2,if_neg h3];exact⟨by omega,by simpa using h2,by simpa using h3,rfl⟩
end
end
section
open Go.RowKit
end
section
section
open Go.ChangeShapes Go.WideShapes Go.ChangeAt Go.RowKit
open Go.ChangeMaps (open_string shut_string)
theorem V6{a:Int}(h:(Lit.int .u16 a).wf=true):0≤a∧a≤65535:=by simp only[Lit.wf,a2x,decide_eq_true_eq] at h;exact h
theorem Q1{a:Int}(h:(Lit.int .i64 a).wf=true): -9223372036854775808≤a∧a≤9223372036854775807:=by simp only[Lit.wf,a2x,decide_eq_true_eq] at h;exact h
theorem L6{a:Int}(h:(Lit.int .u64 a).wf=true):0≤a∧a≤18446744073709551615:=by simp only[Lit.wf,a2x,decide_eq_true_eq] at h;exact h
theorem own:ownKnob Tryz.prog.godebug=none:=by kernel_rfl
theorem jD:laidOutB Tryz.prog=true:=by kernel_rfl
theorem Fp.toBelow{w w':World}(h:Fp [] w w'):Below w.heap.size w w':=h.below (a4x _) (by simp)
end
section
open Go.ChangeShapes Go.WideShapes Go.ChangeAt Go.RowKit
theorem yR{w:World}(h:w.ShapedOpen Tryz.prog):K2 w:=
 cell_of_shapedOpen_int (P:=Tryz.prog) (g:=2) (t:=3) (zero:=#[.int .i64 0]) h (of_decide_eq_true (by kernel_rfl)) (by kernel_rfl) (by kernel_rfl) (by kernel_rfl) (by kernel_rfl) Tryz.underlying3
section
variable {H : Type} {enc : TypeId × Value → H}
end
theorem jE:Tryz.prog.cellsOf 9=1:=by kernel_rfl
theorem jF:Tryz.prog.cellsOf 23=1:=by kernel_rfl
end
end
section
section
open Go.RowKit Go.Lib
end
section
open Go.RowKit Go.Lib
theorem jG:∀(l:List Ac) (i:Nat) (last:List UInt8),l.all Di=true→(Hi i last l).length≤286*l.length
 |[],_,_,_=>a4x _
 |c::r,i,last,h=>by
  rw[List.all_cons,a2x] at h;unfold Hi;have h1:=jG r (i+1) (Em c) h.2;have h2:=aJ h.1;have h3:=(T9 h.1).2.2
  have h4:(Ij (G3 i last) c).length≤286:=by
   unfold Ij;simp only[a2v,a3u,a4z,List.length_nil]
   have e1:∀n,(two n).length=2:=fun _=>rfl
   have e2:c.val.data.toList.length=c.val.size:=rfl;rw[e1,e1,e2];omega
  rw[a2v,a4z];omega
theorem jH{l:List Ac}:(Ek l).1.size≤80000:=by
 by_cases h0:(Ek l).2=0
 ·obtain⟨h1,h2,_,h4⟩:=jC h0;rw[h4,D1,a4z];have:=jG l 0 [] h2;omega
 ·unfold Ek at h0 ⊢;split
  ·exact a4w _
  ·split
   ·exact a4w _
   ·split
    ·exact a4w _
    ·rename_i h1 h2 h3;rw[if_neg h1,if_neg h2,if_neg h3] at h0;exact absurd rfl h0
end
end
section
open Go.RowKit
def Oa(w w':World):Prop:=∀(k:Nat) (cs:Array Value) (T:TypeId),T≠5→w.heap[k]?=some (Obj.cells cs T (0,0))→w'.heap[k]?=some (Obj.cells cs T (0,0))
theorem Oa.refl(w:World):Oa w w:=fun _ _ _ _ h=>h
theorem Oa.alloc(w:World)(o:Obj):Oa w (w.alloc o):=fun _ _ _ _ h=>Cb h
theorem Oa.freeze{w:World}{g:Nat}{cur:Array Value}{fz:Nat × Nat}(hg:w.heap[g]?=some (.cells cur 5 fz))(n:Nat):Oa w (w.freeze ⟨g,0,none⟩ n):=by
 intro k cs T hT hk
 have hne:g≠k:=fun e=>by
  subst e;rw[hg] at hk;cases hk;exact hT rfl
 rw[←hk];unfold World.freeze;split
 ·rfl
 ·simp[Array.getElem?_modify,hne]
theorem yS{T:TypeId}(B b:Nat)(l:List UInt8)(w:World)(h:Da T B b l w):
  Calls Tryz.prog 72 #[.pointer (some ⟨b,0,none⟩)] w fun e w'=>e=.returned (.string ⟨l.toArray⟩)∧Below B w w'∧Oa w w':=by
 obtain⟨p,hB,v,hbk,hown,hne⟩:=h.at;have hBw:=h.le;rw[Lib.byteCells_length] at hown;have hlt:=Ab hbk
 rcases hown.2 with⟨rfl,h0⟩|⟨g,cap,cur,rfl,hbg,hg,hnc,hcm,hcs,htake⟩
 ·have:l=[]:=a0u h0;subst this;have hUS:=Ud
  have c1:w.drew.cell? ⟨b,1,none⟩=some (.slice none 0 0):=by rw[Lib.cell_of_heap (w:=w.drew) hbk];rfl
  have hSD:(Builtin.unsafeSliceData_ #[113] 197 #[.slice none 0 0]).run Tryz.prog w.drew=.ok (.pointer none) w.drew:=rfl;go_enter Tryz.func72,Tryz.ntmps72;go_wp2
  go_region
  all_goals(go_wp2;go_ret;exact⟨rfl,Below.drew (Below.refl B w),fun _ _ _ _ h=>h⟩)
 ·by_cases hl:l=[]
  ·subst hl;have hUS:=Ud
   by_cases hc0:cap=0
   ·subst hc0
    have c0:w.cell? ⟨b,1,none⟩=some (.slice (some ⟨g,0,none⟩) 0 0):=by rw[Lib.cell_of_heap hbk];rfl
    have c1:w.drew.cell? ⟨b,1,none⟩=some (.slice (some ⟨g,0,none⟩) 0 0):=c0
    have hSD:(Builtin.unsafeSliceData_ #[113] 197 #[.slice (some ⟨g,0,none⟩) 0 0]).run Tryz.prog w.drew=.ok (.pointer (some ⟨w.drew.heap.size,0,none⟩)) (w.drew.alloc (.view ⟨g,0,none⟩ 5)):=
     Lib.run_unsafeSliceData_zero w.drew _ _ 5 Tryz.underlying197 ⟨g,0,none⟩ 0 (5,cur.size) (by have hg':w.drew.heap[g]?=some (.cells cur 5 (0,0)):=hg;simp[World.shape?,hg'])
    have c2:(w.drew.alloc (.view ⟨g,0,none⟩ 5)).cell? ⟨b,1,none⟩=some (.slice (some ⟨g,0,none⟩) 0 0):=by
     rw[Lib.cell_of_heap ((Lib.alloc_old w.drew _ b hlt).trans hbk)];rfl
    have c3:(w.alloc (.view ⟨g,0,none⟩ 5)).drew.cell? ⟨b,1,none⟩=some (.slice (some ⟨g,0,none⟩) 0 0):=c2;go_enter Tryz.func72,Tryz.ntmps72;go_wp2
    go_region
    all_goals(go_wp2;go_ret;exact⟨rfl,(Below.drew (Below.refl B w)).alloc hBw _,fun _ _ _ _ h=>Cb (w:=w) h⟩)
   ·have c1:w.drew.cell? ⟨b,1,none⟩=some (.slice (some ⟨g,0,none⟩) 0 cap):=by rw[Lib.cell_of_heap (w:=w.drew) hbk];rfl
    have hSD:(Builtin.unsafeSliceData_ #[113] 197 #[.slice (some ⟨g,0,none⟩) 0 cap]).run Tryz.prog w.drew=.ok (.pointer (some ⟨g,0,none⟩)) w.drew:=
     Lib.run_unsafeSliceData_row _ _ _ _ _ _ hc0
    clear hc0;go_enter Tryz.func72,Tryz.ntmps72;go_wp2
    go_region
    all_goals(go_wp2;go_ret;exact⟨rfl,Below.drew (Below.refl B w),fun _ _ _ _ h=>h⟩)
  ·have hl0:l.length≠0:=fun e=>hl (a0u e)
   have c1:w.drew.cell? ⟨b,1,none⟩=some (.slice (some ⟨g,0,none⟩) l.length cap):=by rw[Lib.cell_of_heap (w:=w.drew) hbk];rfl
   have hSD:(Builtin.unsafeSliceData_ #[113] 197 #[.slice (some ⟨g,0,none⟩) l.length cap]).run Tryz.prog w.drew=.ok (.pointer (some ⟨g,0,none⟩)) w.drew:=
    Lib.run_unsafeSliceData_row _ _ _ _ _ _ (by omega)
   have hUS:(Builtin.unsafeString_ #[197,3] 9 #[.pointer (some ⟨g,0,none⟩),.int .i64 l.length]).run Tryz.prog w.drew=.ok (.string ⟨l.toArray⟩) (w.drew.freeze ⟨g,0,none⟩ l.length):=by
    refine Lib.run_unsafeString_row w.drew 197 3 9 5 Tryz.underlying197 Tryz.cellsB g cur.size (by have hg':w.drew.heap[g]?=some (.cells cur 5 (0,0)):=hg;simp[World.shape?,hg']) l hl (by omega) (by unfold maxLen at hcm;omega) ?_;intro j x hx;exact hown.cells (g:=g) rfl j (.int .u8 x.toNat) (by simp[Lib.byteCells,hx])
   go_enter Tryz.func72,Tryz.ntmps72;go_wp2
   go_region
   all_goals(go_wp2;go_ret;exact⟨rfl,Lib.below_freeze (Below.drew (Below.refl B w)) (p:=⟨g,0,none⟩) hbg _,fun k cs T hT hk=>Oa.freeze (w:=w.drew) hg _ k cs T hT hk⟩)
end
end Go.Proofs.YtkagolpnaicdoaaGreatDoor
