/-
 Byte slices that a call owns. Bytes turned round. slices.Grow and slices.Concat of bytes. Key. A number of eight bytes, the lowest one first. The reader of bytes. The reader of bytes: numbers and flags. Appends of bytes, as steps of a region that draws its order.
-/
import Derived.Test.YtkagolpnaicdoaaGreatDoorMRegion
import Derived.Test.YtkagolpnaicdoaaGreatDoorRows
import Derived.Maps.AppendAt
import Derived.Lib.AppendStr
import Derived.Lib.AppendZeros
import Derived.Laws.AppendOwnNone
import Derived.Outline
import Derived.Test.YtkagolpnaicdoaaGreatDoorMMaps
import Derived.Test.YtkagolpnaicdoaaGreatDoorMCellA
import Derived.Laws.Bits64
import Derived.Laws.Bits64b
import Derived.Deep.AppendLies
import Derived.Deep.RegionHeld3
set_option maxRecDepth 100000
set_option maxHeartbeats 8000000
open Go.Lib renaming hid→a0z
open List renaming length_append→a0x,getElem?_eq_getElem→a0w,getD_eq_getElem?_getD→a0v,take_of_length_le→a0u,range→a1z
open UInt8 renaming ofNat→a1x
namespace Go.Proofs.YtkagolpnaicdoaaGreatDoor
section
section
open Go.RowKit
def Ba(b:UInt8):Value:=.int .u8 b.toNat
def Cj(w:World)(base:Nat)(v:Value)(l:List UInt8):Prop:=w.ownsRow base 5 1 v l.length (l.map Ba)
theorem Tryz.info5:(Tryz.prog.info? 5).map (fun i=>(i.zero,i.size,i.bytes))=some (some (.int .u8 0),1,1):=by kernel_rfl
theorem Cj.nil(w:World)(base:Nat):Cj w base (.slice none 0 0) []:=World.ownsRow_nil w base _ _
theorem Cj.alloc{w:World}{base:Nat}{v:Value}{l:List UInt8}(h:Cj w base v l)(o:Obj):Cj (w.alloc o) base v l:=World.ownsRow.alloc h o
theorem Cj.lt{w:World}{base:Nat}{v:Value}{l:List UInt8}(h:Cj w base v l):∀k,v.ownBlock=some k→base≤k∧k<w.heap.size:=World.ownsRow.lt h
theorem Cj.kept{w w':World}{base:Nat}{v:Value}{l:List UInt8}(h:Cj w base v l)(hf:∀k,v.ownBlock=some k→w'.heap[k]?=w.heap[k]?):Cj w' base v l:=by
 obtain⟨h1,h2⟩:=h;refine⟨h1,?_⟩
 rcases h2 with h2|⟨g,cap,cur,hv,hg,hh,r⟩
 ·exact Or.inl h2
 ·exact Or.inr ⟨g,cap,cur,hv,hg,(hf g (by rw[hv];rfl)).trans hh,r⟩
theorem Cj.fp{w w':World}{base:Nat}{v:Value}{l:List UInt8}(h:Cj w base v l)(hf:Fp [] w w'):Cj w' base v l:=
 h.kept fun k hk=>hf.block k (h.lt k hk).2 (by simp)
theorem Cj.made(w:World)(base:Nat)(l:List UInt8)(hb:base≤w.heap.size)(hl:l.length≤maxLen):
  Cj (w.alloc (.cells (l.map Ba).toArray 5)) base (.slice (some ⟨w.heap.size,0,none⟩) l.length l.length) l:=
 ⟨by simp,Or.inr ⟨w.heap.size,l.length,(l.map Ba).toArray,rfl,hb,(MapKept.heap_alloc w _).1,Nat.le_refl _,hl,by simp,by
  rw[a0u (by simp)]⟩⟩
theorem Y9{w w':World}{base:Nat}{v:Value}{l:List UInt8}(h:Cj w base v l)(hg:w.grownBy w' v.ownBlock)(hb:base≤w.heap.size):Below base w w':=
 (Below.refl base w).grown hg hb (fun k hk=>(h.lt k hk).1)
theorem jX(l:List UInt8):∀u∈l.map Ba,u.oneCell'=true:=by
 intro u hu;obtain⟨b,_,rfl⟩:=List.mem_map.1 hu;rfl
theorem Sr{w:World}{ops:Array Oper}{rest:List Oper}{o:Oper}{a:Act}{Q:Exit→Act→World→Prop}(hgd:o.guard=none)(s x:Operand)
  (ho:o.op=.call {callee:=.builtin .append,args:=#[s,x],argTypes:=#[113,113]})(base:Nat)(v:Value)(l:List UInt8)(hs:a.eval s=v)(hown:Cj w base v l)
  (b off m c:Nat)(bs:List UInt8)(hx:a.eval x=.slice (some ⟨b,off,none⟩) m c)(hm:m=bs.length)(hnews:∀j (h:j<bs.length),w.cell? ⟨b,off+j,none⟩=some (Ba bs[j]))(hlen:l.length+bs.length≤1000000000)(hbase:base≤w.heap.size)
  (h:∀v' w',Cj w' base v' (l++bs)→Below base w w'→wpList Tryz.prog ops Q rest (a.put o.dst v') w'):wpList Tryz.prog ops Q (o::rest) a w:=by
 obtain⟨i0,hi,hz0,hz1,hz2⟩:=info_parts Tryz.info5;subst hm;refine wpList_append_own w hgd s x 113 ho base 5 i0 (.int .u8 0) 1 1 Tryz.underlying113 hi hz0 hz1 hz2 rfl (by decide) v l.length (l.map Ba) hs hown ⟨b,off,none⟩ bs.length c (bs.map Ba) hx (by simp) ?_ (jX bs) (by unfold maxLen;omega) (by omega) hbase ?_
 ·intro j u hu;rw[List.getElem?_map] at hu
  cases hj:bs[j]? with
  |none=>rw[hj] at hu;cases hu
  |some y=>
   rw[hj] at hu;simp only[Option.map_some,Option.some.injEq] at hu;subst hu;have hlt:=(List.getElem?_eq_some_iff.1 hj).1
   have e1:(⟨b,off,none⟩:Addr).add j=⟨b,off+j,none⟩:=by unfold Addr.add;split<;>simp_all
   rw[e1,hnews j hlt];obtain⟨_,e2⟩:=List.getElem?_eq_some_iff.1 hj;rw[e2]
 ·intro v' w' h1 h2 _;refine h v' w' ?_ (Y9 hown h2 hbase);unfold Cj;rw[a0x,List.map_append];exact h1
theorem Za{w:World}{b:Nat}{x:UInt8}(h:w.cell? ⟨b,0,none⟩=some (Ba x)):∀j (h:j<[x].length),w.cell? ⟨b,0+j,none⟩=some (Ba [x][j]):=by
 intro j hj
 have:j=0:=by simpa using hj
 subst this;exact h
theorem Vx{w:World}{ops:Array Oper}{rest:List Oper}{o:Oper}{a:Act}{Q:Exit→Act→World→Prop}(hgd:o.guard=none)(sl x:Operand)
  (ho:o.op=.call {callee:=.builtin .append,args:=#[sl,x],argTypes:=#[113,9]})(base:Nat)(v:Value)(l:List UInt8)(hs:a.eval sl=v)(hown:Cj w base v l)(s:ByteArray)(hx:a.eval x=.string s)
  (hlen:l.length+s.size≤1000000000)(hbase:base≤w.heap.size)
  (h:∀v' w',Cj w' base v' (l++s.data.toList)→Below base w w'→wpList Tryz.prog ops Q rest (a.put o.dst v') w'):wpList Tryz.prog ops Q (o::rest) a w:=by
 obtain⟨i0,hi,hz0,hz1,hz2⟩:=info_parts Tryz.info5;refine Lib.wpList_append_own_string w hgd sl x 113 9 ho base 5 i0 Tryz.underlying113 Tryz.underlying9 hi hz0 hz1 hz2 v l.length (l.map Ba) hs hown s hx (by unfold maxLen;omega) (by omega) hbase ?_;intro v' w' h1 h2 _;refine h v' w' ?_ (Y9 hown h2 hbase);unfold Cj;rw[a0x,List.map_append];exact h1
theorem Vy{w:World}{base:Nat}{v:Value}{l:List UInt8}(hown:Cj w base v l):(convert 113 9 v).run Tryz.prog w=.ok (.string ⟨l.toArray⟩) w:=by
 obtain⟨h1,h2⟩:=hown
 rcases h2 with⟨rfl,h0⟩|⟨g,cap,cur,rfl,hg,hh,hn,hm,hs,ht⟩
 ·have:l=[]:=List.eq_nil_of_length_eq_zero h0;subst this;rw[run_convert_bytes_string w _ _ 5 none 0 0 Tryz.underlying113 Tryz.underlying5 Tryz.underlying9];rfl
 ·refine run_convert_bytes_back w _ _ 5 ⟨g,0,none⟩ cap l Tryz.underlying113 Tryz.underlying5 Tryz.underlying9 ?_;intro j hj
  have e1:(⟨g,0,none⟩:Addr).add j=⟨g,j,none⟩:=by unfold Addr.add;split<;>simp_all
  rw[e1,Aa hh]
  have h3:(cur.toList.take (l.length*1))[j]?=(l.map Ba)[j]?:=by rw[ht]
  rw[List.getElem?_take,if_pos (by omega),List.getElem?_map,a0w hj] at h3
  simpa [Ba] using h3
def Cb(n i:Nat):UInt8:=a1x (n/256^i)
def Gl(n:Nat):List UInt8:=(a1z 8).map (Cb n)
def J3(n:Nat):List UInt8:=(Gl n).reverse
theorem Vz(n k:Nat):Ba (Cb n k)=.int .u8 ((n:Int)/2^(8*k)%256):=by
 unfold Ba Cb
 have h1:(2:Nat)^(8*k)=256^k:=by rw[Nat.pow_mul]
 have h2:((a1x (n/256^k)).toNat:Int)=(n:Int)/2^(8*k)%256:=by
  rw[UInt8.toNat_ofNat',←h1];rw[Int.natCast_emod,Int.natCast_ediv,Int.natCast_pow];rfl
 rw[h2]
theorem jY{n k:Nat}(h:k<8):(Gl n).take (k+1)=(Gl n).take k++[Cb n k]:=by
 unfold Gl;rw[List.take_succ_eq_append_getElem (by simpa using h)];simp
theorem Mc(n:Nat):(Gl n).length=8:=by simp[Gl]
theorem jZ(w:World)(base:Nat)(v:Value)(l:List UInt8)(n:Nat)(hown:Cj w base v l)(hb:base≤w.heap.size)(hl:l.length≤1000000)(hn:n<18446744073709551616):
  Calls Tryz.prog 274 #[v,.int .u64 n] w fun e w'=>∃v',e=.returned v'∧Cj w' base v' (l++Gl n)∧Below base w w':=by
 have HN:=a0z hn;clear hn;go_enter Tryz.func274,Tryz.ntmps274;go_wp2
 go_loopg [0,6] 8 (fun g v' i wr=>∃k:Nat,g+k=8∧i=.int .i64 k∧Cj wr base v' (l++(Gl n).take k)∧Below base w wr)
 case atStart=>exact⟨0,rfl,rfl,by simpa using hown,Below.refl _ _⟩
 case round=>
  obtain⟨k,hg,rfl,ho,hbel⟩:=hrel;have HO:=a0z ho;have HB:=a0z hbel;clear ho hbel
  by_cases hk:k<8
  ·have hcl:(wr.alloc (.cells #[.int .u8 ((n:Int)/2^(8*k)%256)] 5)).cell? ⟨wr.heap.size,0,none⟩=some (Ba (Cb n k)):=by
    rw[Vz];exact Aa (Aj rfl _) 0
   have HCL:=a0z hcl
   have hbw:base≤wr.heap.size:=by have:=HB.out.size;omega
   have hlk:(l++(Gl n).take k).length+1≤1000000000:=by
    have:((Gl n).take k).length≤8:=by rw[List.length_take,Mc];omega
    simp only[a0x];omega
   have HLK:=a0z hlk;clear hcl hlk;go_wp2_with (at_builtin;refine Sr rfl _ _ rfl base _ _ rfl (HO.out.alloc _) wr.heap.size 0 1 1 [Cb n k] rfl rfl (Za HCL.out) HLK.out (by simp;omega) ?_;intro v2 w2 hown2 hbel2);have HO2:=a0z hown2;have HB2:=a0z hbel2;clear hown2 hbel2;go_wp2
   go_roundg (gk-1)
   case measure=>omega
   case rel=>exact⟨k+1,by omega,by go_num,by rw[jY hk,←List.append_assoc];exact HO2.out,(HB.out.alloc hbw _).trans HB2.out⟩
  ·have hk8:(Gl n).take k=Gl n:=a0u (by rw[Mc];omega);have h2:=HO.out;rw[hk8] at h2;have HO2:=a0z h2;clear hk8 h2;go_wp2;go_ret;exact⟨_,rfl,HO2.out,HB.out⟩
end
section
open Go.RowKit
structure O2(w:World)(b:Nat)(n:Nat)(f:Nat→UInt8):Prop where
 lt:b<w.heap.size
 cell:∀j,j<n→w.cell? ⟨b,j,none⟩=some (Ba (f j))
 free:∀j,j<n→w.frozen? ⟨b,j,none⟩=false
def K0(n k:Nat)(f:Nat→UInt8)(t:Nat):UInt8:=if t<k∨n-k≤t then f (n-1-t) else f t
theorem kA{n k:Nat}{f:Nat→UInt8}(h:2*k<n):K0 n k f k=f k:=by unfold K0;rw[if_neg (by omega)]
theorem kB{n k:Nat}{f:Nat→UInt8}(h:2*k<n):K0 n k f (n-1-k)=f (n-1-k):=by unfold K0;rw[if_neg (by omega)]
theorem kC(w:World)(b n cap:Nat)(f:Nat→UInt8)(hr:O2 w b n f)(hn:n≤1000000000):
  Calls Tryz.prog 258 #[.slice (some ⟨b,0,none⟩) n cap] w fun e w'=>e=.returned (.tuple #[])∧O2 w' b n (fun t=>f (n-1-t))∧Fp [b] w w':=by
 have HR:=a0z hr;clear hr;go_enter Tryz.func258,Tryz.ntmps258;go_wp2_with (fail)
 go_loopg [2,3] n (fun g vi vj wr=>∃k:Nat,g+k=n∧vi=.int .i64 k∧vj=.int .i64 ((n:Int)-1-k)∧2*k≤n∧O2 wr b n (K0 n k f)∧Fp [b] w wr)
 case atStart=>
  refine⟨0,rfl,rfl,by simp,by omega,⟨HR.out.lt,fun j hj=>?_,HR.out.free⟩,Fp.refl _ _⟩;rw[HR.out.cell j hj];unfold K0;rw[if_neg (by omega)]
 case round=>
  obtain⟨k,hg,rfl,rfl,hk2,hrow,hfp⟩:=hrel;have HROW:=a0z hrow;have HFP:=a0z hfp;clear hfp
  by_cases hlt:k+1+k<n
  ·obtain⟨m,hm⟩:∃m,m=n-1-k:=⟨_,rfl⟩
   have hmi:(n:Int)-1-k=(m:Int):=by omega
   have c1:wr.cell? ⟨b,k,none⟩=some (Ba (f k)):=by rw[hrow.cell k (by omega),kA (by omega)]
   have c2:wr.cell? ⟨b,m,none⟩=some (Ba (f m)):=by rw[hrow.cell m (by omega),hm,kB (by omega)]
   have f1:wr.frozen? ⟨b,k,none⟩=false:=hrow.free k (by omega);have f2:wr.frozen? ⟨b,m,none⟩=false:=hrow.free m (by omega)
   have hne:k≠m:=by omega
   have hmn:m<n:=by omega
   have hkm:k<m:=by omega
   have hkn:k<n:=by omega
   unfold Ba at c1 c2;have HM:=a0z hm;rw[hmi];have HMI:=a0z hmi;clear hrow hm hmi
   have hkm1:(k:Int)<(m:Int):=by omega
   go_wp2_with (fail)
   go_region
   go_wp2_with (fail)
   go_roundg (gk-1)
   case measure=>omega
   case rel=>
    refine⟨k+1,by omega,by go_num,?_,by omega,⟨?_,?_,?_⟩,?_⟩
    ·have:=HMI.out;congr 1;omega
    ·simpa [World.setCell] using HROW.out.lt
    ·intro j hj;have hc:=HROW.out.cell j hj;show((wr.setCell ⟨b,k,none⟩ _).setCell ⟨b,m,none⟩ _).cell? ⟨b,j,none⟩=_
     by_cases e1:j=m
     ·subst e1
      have c3:(wr.setCell ⟨b,k,none⟩ (.int .u8 (f j).toNat)).cell? ⟨b,j,none⟩=some (.int .u8 (f j).toNat):=by
       rw[World.cell?_setCell_other _ _ _ _ (fun e=>hne (congrArg Addr.off e))];exact c2
      rw[World.cell?_setCell_same _ _ _ c3];unfold K0 Ba;rw[if_pos (by have:=HM.out;omega),show n-1-j=k by have:=HM.out;omega]
     ·rw[World.cell?_setCell_other _ _ _ _ (fun e=>e1 (congrArg Addr.off e).symm)]
      by_cases e2:j=k
      ·subst e2;rw[World.cell?_setCell_same _ _ _ c1];unfold K0 Ba;rw[if_pos (by omega),show n-1-j=m by have:=HM.out;omega]
      ·rw[World.cell?_setCell_other _ _ _ _ (fun e=>e2 (congrArg Addr.off e).symm),hc];have hmm:=HM.out;unfold K0
       by_cases e3:j<k∨n-k≤j
       ·rw[if_pos e3,if_pos (by omega)]
       ·rw[if_neg e3,if_neg (by omega)]
    ·intro j hj;show((wr.setCell ⟨b,k,none⟩ _).setCell ⟨b,m,none⟩ _).frozen? ⟨b,j,none⟩=_;rw[World.frozen?_setCell,World.frozen?_setCell];exact HROW.out.free j hj
    ·exact(((HFP.out.setCell' (by simp) _).setCell' (by simp) _).drew')
  ·have H:Hid (O2 wr b n (fun t=>f (n-1-t))):=by
    refine⟨HROW.out.lt,fun j hj=>?_,HROW.out.free⟩;rw[HROW.out.cell j hj];unfold K0
    by_cases e:j<k∨n-k≤j
    ·rw[if_pos e]
    ·rw[if_neg e,show n-1-j=j by omega]
   have hge:¬(k:Int)<(n:Int)-1-k:=by omega
   clear hrow hlt;go_wp2_with (fail);go_end0;exact⟨rfl,H.out,HFP.out⟩
def A1(s:ByteArray)(j:Nat):UInt8:=s.data.toList.getD j 0
theorem kD(w:World)(s:ByteArray):∃cap W,(convert 9 113 (.string s)).run Tryz.prog w=.ok (.slice (some ⟨w.heap.size,0,none⟩) s.size cap) W∧O2 W w.heap.size s.size (A1 s)∧Fp [] w W:=by
 have h:=run_bytes_of_string (P:=Tryz.prog) w 9 113 5 s Tryz.underlying9 Tryz.underlying113 Tryz.underlying5;refine⟨_,_,h,?_,(Fp.drew w).alloc' _⟩;have hb:=Aj (w:=w.drew) (n:=w.heap.size) rfl (.cells (bytesRow s (grownCap w s.size 0 5)) 5 ((bytesRow s (grownCap w s.size 0 5)).size,(bytesRow s (grownCap w s.size 0 5)).size+1));refine⟨Ab hb,fun j hj=>?_,fun j hj=>?_⟩
 ·rw[Aa hb,bytesRow_at s _ j hj];unfold Ba A1
  have:s.data.toList.getD j 0=s.data[j]:=by
   rw[a0v,a0w (by simpa using hj)];simp
  rw[this]
 ·have hsz:s.size≤(bytesRow s (grownCap w s.size 0 5)).size:=by
   unfold bytesRow;simp only[Array.size_append,Array.size_map,Array.size_replicate];exact Nat.le_add_right _ _
  simp only[World.frozen?,hb]
  have:¬(bytesRow s (grownCap w s.size 0 5)).size≤j:=by omega
  simp[this]
theorem Qj{w:World}{b n cap:Nat}{f:Nat→UInt8}(h:O2 w b n f):(convert 113 9 (.slice (some ⟨b,0,none⟩) n cap)).run Tryz.prog w=.ok (.string ⟨((a1z n).map f).toArray⟩) w:=by
 have:=run_convert_bytes_back (P:=Tryz.prog) w 113 9 5 ⟨b,0,none⟩ cap ((a1z n).map f) Tryz.underlying113 Tryz.underlying5 Tryz.underlying9 (by
  intro j hj
  have hj':j<n:=by simpa using hj
  have e1:(⟨b,0,none⟩:Addr).add j=⟨b,j,none⟩:=by unfold Addr.add;split<;>simp_all
  rw[e1,h.cell j hj']
  simp[Ba])
 simpa using this
theorem kE(s:ByteArray):((a1z s.size).map (fun t=>A1 s (s.size-1-t)))=s.data.toList.reverse:=by
 apply List.ext_getElem
 ·simp
 ·intro i h1 h2
  have hi:i<s.data.toList.length:=by simpa using h1
  have hi':i<s.size:=by simpa using h1
  simp only[List.getElem_map,List.getElem_range,List.getElem_reverse];unfold A1;have hlen:s.data.toList.length=s.size:=rfl;rw[a0v,a0w (by omega)];simp only[Option.getD_some];congr 1
theorem kF(w:World)(s:ByteArray)(hs:s.size≤1000000000):
  Calls Tryz.prog 210 #[.string s] w fun e w'=>e=.returned (.string ⟨s.data.toList.reverse.toArray⟩)∧Fp [] w w':=by
 obtain⟨cap,W,hconv,hrow,hfp⟩:=kD w s;have hrev:=kC W w.heap.size s.size cap (A1 s) hrow hs;have HREV:=a0z hrev;have HFP:=a0z hfp;clear hrow hfp hrev;go_enter Tryz.func210,Tryz.ntmps210;go_wp2_with (fail);refine HREV.out.mono ?_;rintro e w2 ⟨rfl,hrow2,hf2⟩;have hstr:=Qj (cap:=cap) hrow2;rw[kE] at hstr;have HF2:=a0z (HFP.out.trans hf2 (by simp));clear hrow2 hf2;go_wp2_with (fail);go_ret;exact⟨rfl,HF2.out⟩
theorem Zb(w:World)(base:Nat)(v:Value)(l:List UInt8)(n:Nat)(hown:Cj w base v l)(hb:base≤w.heap.size)(hl:l.length≤1000000)(hn:n<18446744073709551616):
  Calls Tryz.prog 226 #[v,.int .u64 n] w fun e w'=>∃v',e=.returned v'∧Cj w' base v' (l++J3 n)∧Below base w w':=by
 have hli:=jZ w w.heap.size (.slice none 0 0) [] n (Cj.nil _ _) (Nat.le_refl _) (by simp) hn;have HLI:=a0z hli;have HO:=a0z hown;clear hli hown hn;go_enter Tryz.func226,Tryz.ntmps226;go_wp2_with (fail);refine HLI.out.mono ?_;rintro e w2 ⟨v2,rfl,ho2,hb2⟩;have hstr:=Vy ho2;rw[List.nil_append] at hstr
 have hf2:Fp [] w w2:=⟨hb2.os,hb2.tape,hb2.output,hb2.size,fun k hk _=>hb2.block k hk⟩
 have HO2:=a0z (HO.out.fp hf2);have HF2:=a0z hf2;clear ho2 hb2 hf2;go_wp2_with (fail);refine(kF w2 _ (by show(Gl n).toArray.size≤_;simp[Mc])).mono ?_;rintro e w3 ⟨rfl,hf3⟩;have HO3:=a0z (HO2.out.fp hf3);have HF3:=a0z (HF2.out.trans hf3 (by simp))
 have hbw:base≤w3.heap.size:=by have:=HF3.out.size;omega
 have hbs:l.length+(⟨(Gl n).reverse.toArray⟩:ByteArray).size≤1000000000:=by
  show l.length+(Gl n).reverse.toArray.size≤_;simp[Mc];omega
 have HBS:=a0z hbs;clear hf3 hstr hbs;go_wp2_with (at_builtin;refine Vx rfl _ _ rfl base _ _ rfl HO3.out _ rfl HBS.out hbw ?_;intro v4 w4 hown4 hbel4);have HO4:=a0z hown4;have HB4:=a0z hbel4;clear hown4 hbel4;go_wp2_with (fail);go_ret;exact⟨_,rfl,HO4.out,(HF3.out.below hb (by simp)).trans HB4.out⟩
end
section
open Go.RowKit
end
end
section
open Go.RowKit
def En:Nat:=18446744073709551615
def Ed(c:Ac):List UInt8:=Ce c.row.data.toList++0::1::(Ce c.col.data.toList++0::1::(J3 (En-c.ts)++J3 (En-c.seq)))
def H8(c:Ac):Nat→List UInt8
 |0=>[]
 |1=>Ce c.row.data.toList++[0,1]
 |_=>Ce c.row.data.toList++[0,1]++Ce c.col.data.toList++[0,1]
theorem kG{c:Ac}(h:Db c=true):(1≤c.row.size∧c.row.size≤40)∧(1≤c.col.size∧c.col.size≤40)∧c.val.size≤100∧(c.del=true→c.val.size=0):=by
 unfold Db H9 at h;simp only[Bool.and_eq_true,decide_eq_true_eq,Bool.or_eq_true,Bool.not_eq_true'] at h;obtain⟨⟨⟨h1,h2⟩,h3⟩,h4⟩:=h;refine⟨h1,h2,h3,fun hd=>?_⟩
 rcases h4 with h4|h4
 ·rw[hd] at h4;cases h4
 ·exact h4
theorem Zc(w:World)(x y:UInt8):∀j (h:j<[x,y].length),(w.alloc (.cells #[Ba x,Ba y] 5)).cell? ⟨w.heap.size,0+j,none⟩=some (Ba [x,y][j]):=by
 intro j hj
 have h2:j=0∨j=1:=by have:j<2:=hj;omega
 rcases h2 with rfl|rfl
 ·exact Aa (Aj rfl _) 0
 ·exact Aa (Aj rfl _) 1
theorem Zd(s:ByteArray):(⟨(Ce s.data.toList).toArray⟩:ByteArray).size≤2*s.size:=by
 have h:=Qo s.data.toList;rw[←Lib.size_eq] at h;show(Ce s.data.toList).toArray.size≤_
 simpa using h
theorem O3(c:Ac)(k:Nat)(hr:c.row.size≤40)(hc:c.col.size≤40):(H8 c k).length≤200:=by
 have h1:=Qo c.row.data.toList;have h2:=Qo c.col.data.toList;rw[←Lib.size_eq] at h1 h2;unfold H8
 split<;>simp only[a0x,List.length_cons,List.length_nil]<;>omega
theorem kH(c:Ac){w:World}{b:Nat}{v:Value}(h:Cj w b v (H8 c 0++(⟨(Ce c.row.data.toList).toArray⟩:ByteArray).data.toList++[0,1])):Cj w b v (H8 c (0+1)):=h
theorem kI(c:Ac){w:World}{b:Nat}{v:Value}(h:Cj w b v (H8 c 1++(⟨(Ce c.col.data.toList).toArray⟩:ByteArray).data.toList++[0,1])):Cj w b v (H8 c (1+1)):=h
theorem Ze(a:Nat)(h:a<18446744073709551616):bits .xor .u64 IntKind.u64.max (a:Int)=((En-a:Nat):Int):=by
 have h1:=BitVec.toNat_not (x:=BitVec.ofNat 64 a);rw[BitVec.not_def,BitVec.toNat_xor,BitVec.toNat_allOnes,BitVec.toNat_ofNat,Nat.mod_eq_of_lt h] at h1;have h2:=bits_xor_u64_nat 18446744073709551615 a (by decide) h;have h3:(18446744073709551615:Nat) ^^^ a=En-a:=h1;rw[h3] at h2;exact h2
theorem kJ(c:Ac):H8 c 2++J3 (En-c.ts)++J3 (En-c.seq)=Ed c:=by
 unfold H8 Ed;simp
theorem Zf(s:ByteArray)(w:World)(hm:Kp w)(hs:s.size≤1000):
  Calls Tryz.prog 208 #[.string s,.string ⟨#[0]⟩,.string ⟨#[0,255]⟩] w fun e w'=>e=.returned (.string ⟨(Ce s.data.toList).toArray⟩)∧Fp [] w w':=by
 obtain⟨m,hm⟩:=hm;have hcb:Lib.countB s ⟨#[0]⟩≤s.size:=Lib.countB_le ⟨#[0]⟩ (by decide) s.size s (Nat.le_refl _);have h2:(⟨#[0,255]⟩:ByteArray).size=2:=rfl;refine(Tryz.strings_ReplaceAll s ⟨#[0]⟩ ⟨#[0,255]⟩ m w (by omega) hm (by decide) (by rw[h2];omega)).mono ?_;rintro e w' ⟨rfl,hb⟩;exact⟨by rw[←kV],Below.toFp hb⟩
theorem kK(a b:ByteArray)(w:World):(Instr.index 290 (.agg #[.string a,.string b]) (.int .i64 0)).run Tryz.prog w=.ok (.string a) w:=by
 simp[Instr.index,run_underlying Tryz.underlying290,asIntOf,go_sem]
theorem kL(a b:ByteArray)(w:World):(Instr.index 290 (.agg #[.string a,.string b]) (.int .i64 1)).run Tryz.prog w=.ok (.string b) w:=by
 simp[Instr.index,run_underlying Tryz.underlying290,asIntOf,go_sem]
theorem kM(c:Ac)(w:World)(hc:Dm c)(hmay:Db c=true)(hm:Kp w):Calls Tryz.prog 152 #[Dz c] w fun e w'=>e=.returned (.string ⟨(Ed c).toArray⟩)∧Fp [] w w':=by
 have n1:=fun w=>Zi c w hc
 obtain⟨hr,hk,_⟩:=kG hmay;rw[hmay] at n1;have ht:=hc.ts;have hq:=hc.seq;unfold Dz at n1 ⊢;have N1:=a0z n1;have HM:=a0z hm;clear n1 hmay hm
 obtain⟨W,hW⟩:∃W,W=w.alloc (.cells #[.string c.row,.string c.col,.int .u64 c.ts,.int .u64 c.seq,.bool c.del,.string c.val] 80):=⟨_,rfl⟩
 have hb:W.heap[w.heap.size]?=some (.cells #[.string c.row,.string c.col,.int .u64 c.ts,.int .u64 c.seq,.bool c.del,.string c.val] 80 (0,0)):=by
  rw[hW];exact Aj rfl _
 have hfw:Fp [] w W:=by rw[hW];exact Fp.alloc _ _
 have hcell:∀w',Fp [] W w'→w'.cell? ⟨w.heap.size,0,none⟩=some (.string c.row)∧w'.cell? ⟨w.heap.size,1,none⟩=some (.string c.col)∧w'.cell? ⟨w.heap.size,2,none⟩=some (.int .u64 c.ts)∧w'.cell? ⟨w.heap.size,3,none⟩=some (.int .u64 c.seq)∧w.heap.size<w'.heap.size:=by
  intro w' hf;have h1:=(hf.block _ (Ab hb) (by simp)).trans hb;exact⟨Aa h1 0,Aa h1 1,Aa h1 2,Aa h1 3,Ab h1⟩
 have HCELL:=a0z hcell;have HFW:=a0z hfw;have HW:=a0z hW;have HMM:=a0z (Kp.fp HM.out hfw (by simp));clear hcell hfw hb hW;go_enter Tryz.func152,Tryz.ntmps152;go_wp2_with (fail);rw[←HW.out];refine(N1.out _).mono ?_;rintro e w1 ⟨rfl,hf1⟩;have HF1:=a0z hf1;obtain⟨c0,c1,-,-,hlt⟩:=HCELL.out _ hf1;clear hf1;go_wp2_with (fail);have HLT:=a0z hlt;have hw1:W.heap.size≤w1.heap.size:=HF1.out.size
 have hwW:W.heap.size=w.heap.size+1:=by rw[HW.out];simp
 clear c0 c1 hlt
 go_loopg [3,15] 2 (fun g vb vi wr=>∃k:Nat,g+k=2∧vi=.int .i64 k∧Cj wr W.heap.size vb (H8 c k)∧Fp [] W wr)
 case atStart=>
  refine⟨0,rfl,rfl,?_,HF1.out.alloc' _⟩;exact Cj.made w1 W.heap.size [] (by omega) (by decide)
 case round=>
  obtain⟨k,hg,rfl,ho,hf⟩:=hrel;have HO:=a0z ho;have HF:=a0z hf;clear ho hf
  have h3:k=0∨k=1∨k=2:=by omega
  rcases h3 with rfl|rfl|rfl
  ·rw[show((0:Nat):Int)=0 from rfl]
   have hx:=fun w=>kK c.row c.col w
   go_wp2_with (fail);refine(Zf c.row _ (HMM.out.fp HF.out (by simp)) (by omega)).mono ?_;rintro e w2 ⟨rfl,hf2⟩;have HF2:=a0z (HF.out.trans hf2 (by simp));have HO2:=a0z (HO.out.fp hf2)
   have hb2:W.heap.size≤w2.heap.size:=by have:=HF2.out.size;omega
   have hlen:(H8 c 0).length+(⟨(Ce c.row.data.toList).toArray⟩:ByteArray).size≤1000000000:=by
    have:=O3 c 0 hr.2 hk.2;have:=Zd c.row;omega
   have HL:=a0z hlen;clear hf2 hlen
   have hlen:(H8 c 0++(⟨(Ce c.row.data.toList).toArray⟩:ByteArray).data.toList).length+2≤1000000000:=by
    have h4:=O3 c 0 hr.2 hk.2;have h5:=Qo c.row.data.toList;rw[←Lib.size_eq] at h5;show(H8 c 0++Ce c.row.data.toList).length+2≤_;simp only[a0x];omega
   have HL3:=a0z hlen;clear hlen
   go_wp2_with (first
    |(at_builtin;refine Vx rfl _ _ rfl W.heap.size _ _ rfl HO2.out _ rfl HL.out hb2 ?_;intro v3 w3 hown3 hbel3;have HF3:=a0z (HF2.out.belowTrans hbel3);have hb3:W.heap.size≤w3.heap.size:=HF3.out.size;have HO3:=a0z hown3;have HCL:=a0z (Zc w3 0 1);clear hown3 hbel3)
    |(at_builtin;refine Sr rfl _ _ rfl W.heap.size _ _ rfl (HO3.out.alloc _) w3.heap.size 0 2 2 [0,1] rfl rfl HCL.out HL3.out (by simp;omega) ?_;intro v4 w4 hown4 hbel4))
   have HF4:=a0z ((HF3.out.alloc' _).belowTrans hbel4);have HO4:=a0z hown4;clear hown4 hbel4;go_wp2_with (fail)
   go_roundg (gk-1)
   case measure=>omega
   case rel=>exact⟨1,by omega,by go_num,kH c HO4.out,HF4.out⟩
  ·rw[show((1:Nat):Int)=1 from rfl]
   have hx:=fun w=>kL c.row c.col w
   go_wp2_with (fail);refine(Zf c.col _ (HMM.out.fp HF.out (by simp)) (by omega)).mono ?_;rintro e w2 ⟨rfl,hf2⟩;have HF2:=a0z (HF.out.trans hf2 (by simp));have HO2:=a0z (HO.out.fp hf2)
   have hb2:W.heap.size≤w2.heap.size:=by have:=HF2.out.size;omega
   have hlen:(H8 c 1).length+(⟨(Ce c.col.data.toList).toArray⟩:ByteArray).size≤1000000000:=by
    have:=O3 c 1 hr.2 hk.2;have:=Zd c.col;omega
   have HL:=a0z hlen;clear hf2 hlen
   have hlen:(H8 c 1++(⟨(Ce c.col.data.toList).toArray⟩:ByteArray).data.toList).length+2≤1000000000:=by
    have h4:=O3 c 1 hr.2 hk.2;have h5:=Qo c.col.data.toList;rw[←Lib.size_eq] at h5;show(H8 c 1++Ce c.col.data.toList).length+2≤_;simp only[a0x];omega
   have HL3:=a0z hlen;clear hlen
   go_wp2_with (first
    |(at_builtin;refine Vx rfl _ _ rfl W.heap.size _ _ rfl HO2.out _ rfl HL.out hb2 ?_;intro v3 w3 hown3 hbel3;have HF3:=a0z (HF2.out.belowTrans hbel3);have hb3:W.heap.size≤w3.heap.size:=HF3.out.size;have HO3:=a0z hown3;have HCL:=a0z (Zc w3 0 1);clear hown3 hbel3)
    |(at_builtin;refine Sr rfl _ _ rfl W.heap.size _ _ rfl (HO3.out.alloc _) w3.heap.size 0 2 2 [0,1] rfl rfl HCL.out HL3.out (by simp;omega) ?_;intro v4 w4 hown4 hbel4))
   have HF4:=a0z ((HF3.out.alloc' _).belowTrans hbel4);have HO4:=a0z hown4;clear hown4 hbel4;go_wp2_with (fail)
   go_roundg (gk-1)
   case measure=>omega
   case rel=>exact⟨2,by omega,by go_num,kI c HO4.out,HF4.out⟩
  ·obtain⟨-,-,c2,c3,hlt⟩:=HCELL.out _ HF.out;have hbw:W.heap.size≤wr.heap.size:=HF.out.size;have NX:=a0z (Ze c.ts ht);have NY:=a0z (Ze c.seq hq);go_wp2_with (fail);rw[NX.out];refine(Zb wr W.heap.size _ _ (En-c.ts) HO.out hbw (by have:=O3 c 2 hr.2 hk.2;omega) (by unfold En;omega)).mono ?_;rintro e w5 ⟨v5,rfl,ho5,hb5⟩;have HO5:=a0z ho5;have hf5:=HF.out.belowTrans hb5;have HF5:=a0z hf5;have hbw5:W.heap.size≤w5.heap.size:=hf5.size;obtain⟨-,-,d2,d3,hlt5⟩:=HCELL.out _ hf5;clear ho5 hb5 hf5 c2 c3;go_wp2_with (fail);rw[NY.out];refine(Zb w5 W.heap.size _ _ (En-c.seq) HO5.out hbw5 (by have:=O3 c 2 hr.2 hk.2;simp only[a0x,J3,List.length_reverse,Mc];omega) (by unfold En;omega)).mono ?_;rintro e w6 ⟨v6,rfl,ho6,hb6⟩;have HF6:=a0z (HF5.out.belowTrans hb6);have hs:=Vy ho6;clear ho6 hb6 d2 d3;go_wp2_with (fail);go_ret;exact⟨pP (by rw[←kJ,List.append_assoc]),HFW.out.trans HF6.out (by simp)⟩
end
section
section
open Go.RowKit
def Eo(s:ByteArray):Nat→Nat
 |0=>0
 |k+1=>Eo s k+(A1 s k).toNat*256^k
theorem Su(s:ByteArray):∀k,Eo s k<256^k
 |0=>Nat.one_pos
 |k+1=>by
  have h1:=Su s k;have h2:=(A1 s k).toNat_lt;show Eo s k+(A1 s k).toNat*256^k<256^(k+1);have h3:(A1 s k).toNat*256^k≤255*256^k:=Nat.mul_le_mul_right _ (by omega);rw[Nat.pow_succ];omega
theorem kN(s:ByteArray)(k:Nat):Eo s k ||| ((A1 s k).toNat*256^k)=Eo s (k+1):=by
 have h1:=Su s k
 have h2:(256:Nat)^k=2^(8*k):=by rw[Nat.pow_mul]
 rw[h2] at h1 ⊢;have h3:=Nat.two_pow_add_eq_or_of_lt h1 (A1 s k).toNat;show _ =Eo s k+(A1 s k).toNat*256^k;rw[h2,Nat.or_comm,Nat.mul_comm,←h3];omega
theorem kO{s:ByteArray}{k:Nat}(hks:k<s.size)(hk:k<8):
  bits .or .u64 (Eo s k:Int) (IntKind.u64.wrap (IntKind.u64.wrap (s[k].toNat:Int)*2^(8*k)))=(Eo s (k+1):Int):=by
 have h0:s[k].toNat<256:=s[k].toNat_lt
 have e1:A1 s k=s[k]:=by
  unfold A1;rw[a0v,a0w (by simpa using hks)];simp;rfl
 have h1:=Su s k;have h2:=Su s (k+1);have h3:=kN s k;rw[e1] at h3
 have h4:(256:Nat)^k=2^(8*k):=by rw[Nat.pow_mul]
 have h5:(256:Nat)^(k+1)≤256^8:=Nat.pow_le_pow_right (by decide) (by omega)
 have h6:(256:Nat)^8=18446744073709551616:=by decide
 have h7:s[k].toNat*256^k<18446744073709551616:=by
  have:Eo s (k+1)=Eo s k+s[k].toNat*256^k:=by rw[←e1];rfl
  omega
 have w1:IntKind.u64.wrap (s[k].toNat:Int)=(s[k].toNat:Int):=by rw[IntKind.wrap_u64];omega
 have w2:((s[k].toNat:Int)*2^(8*k))=((s[k].toNat*256^k:Nat):Int):=by
  rw[h4];push_cast;rfl
 rw[w1,w2,IntKind.wrap_u64,show((s[k].toNat*256^k:Nat):Int)%18446744073709551616=((s[k].toNat*256^k:Nat):Int) by omega];have h8:(256:Nat)^k≤256^8:=Nat.pow_le_pow_right (by decide) (by omega);rw[bits_or_u64_nat _ _ (by omega) h7,h3]
end
section
open Go.RowKit
end
section
open Go.RowKit
end
end
section
open Go.RowKit
theorem O4{n:Nat}(h:n<256):Ba (a1x n)=.int .u8 n:=by
 unfold Ba;rw[UInt8.toNat_ofNat',Nat.mod_eq_of_lt h]
end
end Go.Proofs.YtkagolpnaicdoaaGreatDoor
