/-
 the document's layer 20: Find, With, Same; the law's its. JobActs as data: what the document's Submit and Move come to, and what a journal with a fuse ahead of it does (plain). the document's layer 20: With, Submit, Move. JobActs: whatever is submitted, and moved, and wherever it is cut: a driver answers, and has, what the document says.
-/
import Derived.Test.YtkagolpnaicdoaaGreatDoorPAppG
import Derived.Test.YtkagolpnaicdoaaGreatDoorPRegion
import Derived.Test.YtkagolpnaicdoaaGreatDoorPJobH
import Derived.Test.YtkagolpnaicdoaaGreatDoorPWalQ
import Derived.Deep.CutRange
import Derived.Deep.CutBlock
set_option maxRecDepth 100000
set_option maxHeartbeats 8000000
open Go.Lib renaming hid→a0z
open List renaming setIfInBounds_toArray→a0x,take_succ_eq_append_getElem→a0w,take_of_length_le→a0v,nil_append→a0u,set_cons_succ→a1z,set_cons_zero→a1x,reverse_cons→a1w,reverse_nil→a1u,cons_append→a2z,length_append→a2x,length_take→a2w,getElem?_cons_zero→a2v,getElem?_toArray→a3z
open Nat renaming le_refl→a1v
open ByteArray renaming size_append→a2u
namespace Go.Proofs.YtkagolpnaicdoaaGreatDoor
section
open Go.RowKit Go.Lib
theorem eA{w:World}{b o:Nat}{j:Aj}(h:Nn D9 w b o j):Q8 w b o j:=⟨h 0 _ rfl,h 1 _ rfl,h 2 _ rfl,h 3 _ rfl⟩
theorem X2{w:World}{a:Option Addr}{n:Nat}{l:List Aj}{i:Nat}(h:Bf D9 w a n l)(hi:i<l.length):∃b o,a=some ⟨b,o,none⟩∧b<w.heap.size∧∀w',Fp [] w w'→Q8 w' b (o+i*4) l[i]:=by
 obtain⟨b,o,e,hb,hc⟩:=h.get hi;exact⟨b,o,e,hb,fun w' hf=>eA (hc w' hf)⟩
theorem Tryz.infoRj:(Tryz.prog.info? 46).map (fun i=>(i.zero,i.size,i.bytes))=some (some (.agg #[.int .u64 0,.int .i64 0,.int .i64 0,.string ⟨#[]⟩]),4,40):=by kernel_rfl
theorem X3{w:World}{ops:Array Oper}{rest:List Oper}{o:Oper}{a:Act}{Q:Exit→Act→World→Prop}(hgd:o.guard=none)(s x:Operand)
  (ho:o.op=.call {callee:=.builtin .append,args:=#[s,x],argTypes:=#[64,64]})(base:Nat)(v:Value)(l:List Aj)(hs:a.eval s=v)(hown:Ae D9 w base v l)
  (ad:Option Addr)(m c:Nat)(ls:List Aj)(hx:a.eval x=.slice ad m c)(hl:Bf D9 w ad m ls)(hnone:ad=none→c=0)(hlen:l.length+ls.length≤1000000000)(hbase:base≤w.heap.size)
  (h:∀v' w',Ae D9 w' base v' (l++ls)→Below base w w'→w.grownBy w' v.ownBlock→wpList Tryz.prog ops Q rest (a.put o.dst v') w'):wpList Tryz.prog ops Q (o::rest) a w:=
 Wh (R:=D9) 64 Tryz.underlying64 Tryz.infoRj rfl (by decide) hgd s x ho base v l hs hown ad m c ls hx hl hnone hlen hbase h
theorem X4(w:World)(a:Option Addr)(n cap id:Nat)(l:List Aj)(h:Bf D9 w a n l)(hn:n≤1000000):
  Calls Tryz.prog 29 #[.slice a n cap,.int .u64 id] w fun e w'=>e=.returned (.tuple #[Bq (Gs l id),.bool (Gt l id)])∧Fp [] w w':=by
 have HL:=a0z h;have HLN:=a0z h.len;have hfa:=Fp.alloc w (.cells #[.int .u64 0,.int .i64 0,.int .i64 0,.string ⟨#[]⟩] 46);have hbx:(w.alloc (.cells #[.int .u64 0,.int .i64 0,.int .i64 0,.string ⟨#[]⟩] 46)).heap[w.heap.size]?=some (.cells #[.int .u64 0,.int .i64 0,.int .i64 0,.string ⟨#[]⟩] 46 (0,0)):=Ai rfl _;have HF0:=a0z hfa;have HBX:=a0z hbx
 have hset:∀W:World,Fp [] w W→∀o u,Fp [] w (W.setCell ⟨w.heap.size,o,none⟩ u):=fun W h o u=>h.trans (Fp.setCell W ⟨w.heap.size,o,none⟩ u) (by intro i hi;right;simp at hi;omega)
 have HSET:=a0z hset;clear h hfa hbx hset;go_enter Tryz.func29,Tryz.ntmps29;go_wp2_with (fail)
 go_loopg [6] n (fun g vi W=>∃k:Nat,g+k=n∧vi=.int .i64 k∧(∀i (h:i<l.length),i<k→¬(l[i]).id=id)∧W.heap[w.heap.size]?=some (.cells #[.int .u64 0,.int .i64 0,.int .i64 0,.string ⟨#[]⟩] 46 (0,0))∧Fp [] w W)
 case atStart=>exact⟨0,by omega,rfl,fun i _ h=>absurd h (Nat.not_lt_zero _),HBX.out,HF0.out⟩
 case round=>
  obtain⟨k,hg,rfl,hno,hb,hf⟩:=hrel;have HNO:=a0z hno;have HF:=a0z hf;have HB:=a0z hb;have r0:wr.cell? ⟨w.heap.size,0,none⟩=some (.int .u64 0):=Aa hb 0;have r1:wr.cell? ⟨w.heap.size,1,none⟩=some (.int .i64 0):=Aa hb 1;have r2:wr.cell? ⟨w.heap.size,2,none⟩=some (.int .i64 0):=Aa hb 2;have r3:wr.cell? ⟨w.heap.size,3,none⟩=some (.string ⟨#[]⟩):=Aa hb 3;have f0:wr.frozen? ⟨w.heap.size,0,none⟩=false:=Ar hb 0;have f1:wr.frozen? ⟨w.heap.size,1,none⟩=false:=Ar hb 1;have f2:wr.frozen? ⟨w.heap.size,2,none⟩=false:=Ar hb 2;have f3:wr.frozen? ⟨w.heap.size,3,none⟩=false:=Ar hb 3;clear hno hf hb
  by_cases hk:k<n
  ·have zk:(k:Int)<(n:Int):=by omega
   have hkl:k<l.length:=by rw[←HLN.out];exact hk
   obtain⟨b1,o1,rfl,-,hcells⟩:=X2 HL.out hkl;obtain⟨k0,k1,k2,k3⟩:=hcells wr HF.out
   have hal:∀i (h:i<l.length),i<k+1→¬(l[k]).id=id→¬(l[i]).id=id:=by
    intro i h h1 h2
    by_cases e:i=k
    ·subst e;exact h2
    ·exact HNO.out i h (by omega)
   have hfirst:(l[k]).id=id→Gs l id=l[k]∧Gt l id=true:=fun h=>by
    have h1:=dV (U2 hkl (fun i hi=>HNO.out i (by omega) hi) h);unfold Gs Gt;rw[h1];exact⟨rfl,rfl⟩
   obtain⟨j,hj⟩:∃j,l[k]=j:=⟨_,rfl⟩
   rw[hj] at k0 k1 k2 k3 hal hfirst;have HAL:=a0z hal;have HFI:=a0z hfirst;obtain⟨ji,jp,jx,jn⟩:=j;simp only at k0 k1 k2 k3;clear hcells hal hfirst hj hkl
   by_cases hid:ji=id
   ·subst hid;have HE:=a0z (HFI.out rfl);clear HFI;go_wp2_with (fail);refine bodyPost_ret (v:=.tuple #[Bq ⟨ji,jp,jx,jn⟩,.bool true]) (by simp[results,Tryz.results29,Bq,Bo,go_sem, *]) rfl ?_;rw[HE.out.1,HE.out.2];exact⟨rfl,HSET.out _ (HSET.out _ (HSET.out _ (HSET.out _ HF.out _ _) _ _) _ _) _ _⟩
   ·have hne:((ji:Int)==(id:Int))=false:=beq_eq_false_iff_ne.2 (by omega);have HN:=a0z hid;clear HFI hid;go_wp2_with (fail)
    go_roundg (gk-1)
    case measure=>omega
    case rel=>exact⟨k+1,by omega,by go_num,fun i h h1=>HAL.out i h h1 HN.out,HB.out,HF.out⟩
  ·have zk:¬(k:Int)<(n:Int):=by omega
   have he:Gs l id=Fg∧Gt l id=false:=by
    have h1:=dW (U3 (fun i hi=>HNO.out i hi (by have:=HLN.out;omega)):Es l id=none);unfold Gs Gt;rw[h1];exact⟨rfl,rfl⟩
   have HE:=a0z he;clear he;go_wp2_with (fail);refine bodyPost_ret (v:=.tuple #[Bq Fg,.bool false]) (by simp[results,Tryz.results29,Bq,Bo,Fg,go_sem, *]) rfl ?_;rw[HE.out.1,HE.out.2];exact⟨rfl,by first|exact HF.out|exact HSET.out _ (HSET.out _ (HSET.out _ (HSET.out _ HF.out _ _) _ _) _ _) _ _⟩
theorem Qc(w:World)(a b:Option Addr)(la ca lb cb:Nat)(l m:List Aj)(ha:Bf D9 w a la l)(hb:Bf D9 w b lb m)(hn:la≤1000000)(d:Bool)(hdt:l=m→d=true)(hdf:l≠m→d=false):
  Calls Tryz.prog 30 #[.slice a la ca,.slice b lb cb] w fun e w'=>e=.returned (.bool d)∧Fp [] w w':=by
 have HA:=a0z ha;have HB:=a0z hb;have HLEN:=a0z ha.len;have HLENB:=a0z hb.len;have HD:=a0z hdt;have HE:=a0z hdf;clear ha hb hdt hdf
 by_cases hll:la=lb
 case neg=>
  have hd:=HE.out fun e=>hll (by rw[HLEN.out,HLENB.out,e])
  subst hd
  have z:((la:Int)!=(lb:Int))=true:=by rw[bne_iff_ne];omega
  go_enter Tryz.func30,Tryz.ntmps30;go_wp2_with (fail);go_ret;exact⟨rfl,Fp.refl _ _⟩
 obtain rfl:lb=la:=hll.symm;go_enter Tryz.func30,Tryz.ntmps30;go_wp2_with (fail)
 go_loopg [5] lb (fun g vi wr=>∃k:Nat,g+k=lb∧vi=.int .i64 k∧l.take k=m.take k∧Fp [] w wr)
 case atStart=>exact⟨0,rfl,rfl,rfl,Fp.refl _ _⟩
 case round=>
  obtain⟨k,hg,rfl,htk,hf⟩:=hrel;have HF:=a0z hf;have HTK:=a0z htk;clear hf htk
  by_cases hk:k<lb
  ·have hkl:k<l.length:=by rw[←HLEN.out];exact hk
   have hkm:k<m.length:=by rw[←HLENB.out];exact hk
   obtain⟨x,hx⟩:∃x,l[k]=x:=⟨_,rfl⟩
   obtain⟨y,hy⟩:∃y,m[k]=y:=⟨_,rfl⟩
   have HX:=a0z (show l.take (k+1)=l.take k++[x] by rw[a0w hkl,hx]);have HY:=a0z (show m.take (k+1)=m.take k++[y] by rw[a0w hkm,hy])
   have HXY:Hid (x≠y→l≠m):=fun e e2=>e (by rw[←hx,←hy];simp only[e2])
   obtain⟨b1,o1,rfl,-,hc1⟩:=X2 HA.out hkl;obtain⟨b2,o2,rfl,-,hc2⟩:=X2 HB.out hkm;rw[hx] at hc1;rw[hy] at hc2;have HA1:=a0z hc1;have HB1:=a0z hc2;clear hx hy hkl hkm hc1 hc2
   by_cases hxy:x=y
   ·subst hxy;have HTK2:=a0z (show l.take (k+1)=m.take (k+1) by rw[HX.out,HY.out,HTK.out]);go_wp2_with (fail);refine Df (by kernel_rfl) (by kernel_rfl) ?_
    iterate 9
     apply A9 rfl rfl rfl
     ·intro a w hC hA K hK
      try have h0:=hA.fr 0 rfl
      try have h5:=hA.fr 5 rfl
      try have h17:=hA.eq 0 17 rfl
      try have h18:=hA.eq 1 18 rfl
      try have h19:=hA.eq 2 19 rfl
      try have h1:=hA.fr 1 rfl
      try have h21:=hA.eq 4 21 rfl
      try have h22:=hA.eq 5 22 rfl
      try have h23:=hA.eq 6 23 rfl
      try have h20:=hA.eq 3 20 rfl
      try have h24:=hA.eq 7 24 rfl
      obtain⟨x0,x1,x2,x3⟩:=HA1.out _ (HF.out.trans hC (by simp));obtain⟨y0,y1,y2,y3⟩:=HB1.out _ (HF.out.trans hC (by simp));simp only[Oper.wp,execOp];go_simp;exact hK _ hC (Fp.refl _ _)
    refine⟨?_,?_⟩
    ·repeat(first|exact trivial|refine C3 _ ?_ |refine⟨fun w1 w2 v _ hf ⟨g,h1,h2⟩=>⟨g,h1,(hf.block g (Ab h2) (by simp)).trans h2⟩,?_⟩)
    ·intro w' hC;simp only[a1w,a1u,a0u,a2z]
     iterate 9 (refine Au ?_)
     refine A6 ?_;simp only[Am,Act.put,a0x,a1z,a1x];have HF2:=a0z (HF.out.trans hC (by simp));clear hC;go_wp2_with (fail)
     go_roundg (gk-1)
     case measure=>omega
     case rel=>exact⟨k+1,by omega,by simp,HTK2.out,HF2.out⟩
   ·have hd:=HE.out (HXY.out hxy);subst hd;have HQ:=a0z hxy;clear hxy;go_wp2_with (fail);refine Df (by kernel_rfl) (by kernel_rfl) ?_
    iterate 9
     apply A9 rfl rfl rfl
     ·intro a w hC hA K hK
      try have h0:=hA.fr 0 rfl
      try have h5:=hA.fr 5 rfl
      try have h17:=hA.eq 0 17 rfl
      try have h18:=hA.eq 1 18 rfl
      try have h19:=hA.eq 2 19 rfl
      try have h1:=hA.fr 1 rfl
      try have h21:=hA.eq 4 21 rfl
      try have h22:=hA.eq 5 22 rfl
      try have h23:=hA.eq 6 23 rfl
      try have h20:=hA.eq 3 20 rfl
      try have h24:=hA.eq 7 24 rfl
      obtain⟨x0,x1,x2,x3⟩:=HA1.out _ (HF.out.trans hC (by simp));obtain⟨y0,y1,y2,y3⟩:=HB1.out _ (HF.out.trans hC (by simp));simp only[Oper.wp,execOp];go_simp
      first
      |exact hK _ hC (Fp.refl _ _)
      |rw[rG HQ.out]
       exact hK _ hC (Fp.refl _ _)
    refine⟨?_,?_⟩
    ·repeat(first|exact trivial|refine C3 _ ?_ |refine⟨fun w1 w2 v _ hf ⟨g,h1,h2⟩=>⟨g,h1,(hf.block g (Ab h2) (by simp)).trans h2⟩,?_⟩)
    ·intro w' hC;simp only[a1w,a1u,a0u,a2z]
     iterate 9 (refine Au ?_)
     refine A6 ?_;simp only[Am,Act.put,a0x,a1z,a1x];have HF2:=a0z (HF.out.trans hC (by simp));clear hC;go_wp2_with (fail);go_ret;exact⟨rfl,HF2.out⟩
  ·have hd:d=true:=HD.out (by
    have e:=HTK.out
    have hkk:k=lb:=by omega
    subst hkk;rw[a0v (by rw[←HLEN.out];exact a1v _),a0v (by rw[←HLENB.out];exact a1v _)] at e
    exact e)
   subst hd;go_wp2_with (fail);go_ret;exact⟨rfl,HF.out⟩
theorem Qd(w:World)(a:Option Addr)(n cap:Nat)(l:List Aj)(hl:Bf D2 w a n l)(hn:n≤1000000):
  Calls Tryz.prog 31 #[.slice a n cap] w fun e w'=>∃v,e=.returned v∧Ae D9 w' w.heap.size v l∧Fp [] w w':=by
 have HL:=a0z hl;have HLN:=a0z hl.len;clear hl;go_enter Tryz.func31,Tryz.ntmps31;go_wp2_with (fail)
 go_loopg [3,4] n (fun g va vi wr=>∃(k:Nat) (v:Value),g+k=n∧v=va∧vi=.int .i64 k∧Ae D9 wr w.heap.size v (l.take k)∧Fp [] w wr)
 case atStart=>exact⟨0,_,by omega,rfl,rfl,Ae.made _ _ (a1v _),Fp.alloc _ _⟩
 case round=>
  obtain⟨k,va,hg,rfl,rfl,ho,hf⟩:=hrel;have HO:=a0z ho;have HF:=a0z hf;clear ho hf;have hbw:w.heap.size≤wr.heap.size:=HF.out.size
  by_cases hk:k<n
  ·have zk:(k:Int)<(n:Int):=by omega
   have hkl:k<l.length:=by rw[←HLN.out];exact hk
   obtain⟨b1,o1,rfl,_,hcells⟩:=HL.out.get hkl
   obtain⟨c,hc⟩:∃c,l[k]=c:=⟨_,rfl⟩
   have HSU:=a0z (show l.take (k+1)=l.take k++[c] by rw[a0w hkl,hc]);have HLE:=a0z (show(l.take k).length≤n by rw[a2w];omega);have hq:=hcells wr HF.out;rw[hc] at hq;obtain⟨ji,jp,jx,jn⟩:=c;have q0:wr.cell? ⟨b1,o1+k*4,none⟩=some (.int .u64 ji):=hq 0 _ rfl;have q1:wr.cell? ⟨b1,o1+k*4+1,none⟩=some (.int .i64 jp):=hq 1 _ rfl;have q2:wr.cell? ⟨b1,o1+k*4+2,none⟩=some (.int .i64 jx):=hq 2 _ rfl;have q3:wr.cell? ⟨b1,o1+k*4+3,none⟩=some (.string jn):=hq 3 _ rfl
   have HFW:Hid (∀o1,Fp [] wr (wr.alloc o1)):=fun o1=>Fp.alloc wr o1
   clear hcells hc hkl hq;go_wp2_with (at_builtin;(refine X3 rfl _ _ rfl w.heap.size _ (l.take k) rfl (HO.out.fp (HFW.out _) (by simp)) _ _ _ [⟨ji,jp,jx,jn⟩] rfl (Bf.one (Ai (by simp) _)) (fun h=>by cases h) (by have:=HLE.out;simp;omega) (by simp;omega) ?_);intro v2 w2 ho2 hb2 _;have HO2:=a0z ho2;have HB2:=a0z hb2;clear ho2 hb2)
   go_roundg (gk-1)
   case measure=>omega
   case rel=>exact⟨k+1,_,by omega,rfl,by simp,by rw[HSU.out];exact HO2.out,(HF.out.trans (HFW.out _) (by simp)).belowTrans HB2.out⟩
  ·have zk:¬(k:Int)<(n:Int):=by omega
   have ho2:=HO.out;rw[a0v (by have:=HLN.out;omega)] at ho2;have HO2:=a0z ho2;clear ho2;go_wp2_with (fail);go_ret;exact⟨_,rfl,HO2.out,HF.out⟩
end
section
open Go.RowKit
structure Oz where
 l:List Aj
 told:Bool
 e:Int
def J5(l:List Aj)(id:Nat)(input:ByteArray):Oz:=
 match F6 l id with
 |some j=>if j.input=input then⟨l,false,0⟩ else⟨l,false,191⟩
 |none=>if(Ba ⟨id,1,0,input⟩).2=0 then⟨Eb l ⟨id,1,0,input⟩,true,0⟩ else⟨l,false,(Ba ⟨id,1,0,input⟩).2⟩
def J6(l:List Aj)(id:Nat)(phase e:Int):Oz:=
 match F6 l id with
 |none=>⟨l,false,3⟩
 |some j=>if 4≤j.phase∨phase<1∨5<phase then⟨l,false,5⟩ else if e<0∨65535<e then⟨l,false,1⟩ else⟨Eb l ⟨j.id,phase,e,j.input⟩,true,0⟩
structure G0(c:Int)(T:List ByteArray)(n:Nat):Prop where
 good:Q6 T
 ok:∀j∈An T,Gy j∧j.input.size≤300
 sums:Be T≤317*n
 len:T.length≤n
theorem G0.nil{c:Int}:G0 c [] 0:=⟨fun t h=>(by cases h),fun j h=>(by cases h),a1v _,a1v _⟩
theorem G0.more{c:Int}{T:List ByteArray}{n:Nat}(h:G0 c T n):G0 c T (n+1):=⟨h.good,h.ok,by have:=h.sums;omega,by have:=h.len;omega⟩
theorem G0.told{c:Int}{T:List ByteArray}{n:Nat}{j:Aj}(h:G0 c T n)(hj:Gy j)(hb:Ea j=false)(hs:j.input.size≤300):G0 c (T++[Aw j]) (n+1):=by
 have hd:=Q5 hj hb (by omega);have hsz:=Ov j;refine⟨?_,?_,?_,?_⟩
 ·intro t ht
  rcases List.mem_append.1 ht with h1|h1
  ·exact h.good t h1
  ·rw[List.mem_singleton.1 h1,hd];exact⟨rfl,by omega⟩
 ·intro x hx;rw[Qb,hd] at hx
  rcases rM hx with rfl|hx
  ·exact⟨hj,hs⟩
  ·exact h.ok x hx
 ·rw[Z8];have:=h.sums;omega
 ·rw[a2x];have:=h.len;show _ +1≤_;omega
def eB(c:Int)(T T2:List ByteArray)(R:Jz)(l2:List Aj):Prop:=
 (∃d2,R=⟨d2,Cf T2,l2,0⟩∧d2.fuse 0 0=Br c T2∧Ak d2)∨
 (∃d2 T3,R=⟨d2,{Cf T with off:=true},An T,6⟩∧(T3=T∨T3=T2)∧Ak d2∧((d2.fuse 0 0).on).wOpen Dv=(Br c T3,0,T3)∧((((d2.fuse 0 0).on).read Dv).1.size≤100000000))
theorem rU{c:Int}{T:List ByteArray}{s:ByteArray}{x:Nat}(hT:∀t∈T,t.size≤65535)(hs:s.size≤65535)(h1:Be T≤x)(h2:x≤Be T+6+s.size)(hc:2*((Be T:Int)+6+s.size)≤c):
  ∃T3,(T3=T∨T3=T++[s])∧(Cd Dv c ⟨(bl (A0 T)++bl (A0 [s])).extract 0 x,x⟩).wOpen Dv=(Br c T3,0,T3):=by
 have hz:(bl (A0 T)).size=Be T:=by rw[D1,Ic]
 have hcat:bl (A0 T)++bl (A0 [s])=bl (A0 T++B8 s):=by rw[Ln];congr 1;congr 1;unfold A0;simp
 have hex:(bl (A0 T)++bl (A0 [s])).extract 0 x=bl (A0 T++(B8 s).take (x-Be T)):=by
  rw[hcat]
  have h3:A0 T++B8 s=(A0 T++(B8 s).take (x-Be T))++(B8 s).drop (x-Be T):=by rw[List.append_assoc,List.take_append_drop]
  rw[h3];refine Ze _ _ _ ?_;rw[a2x,a2w,Ic,Nl];omega
 rw[hex]
 by_cases hx:x=Be T+6+s.size
 ·refine⟨T++[s],Or.inr rfl,?_⟩;have h4:(B8 s).take (x-Be T)=B8 s:=a0v (by rw[Nl];omega)
  have h5:A0 T++B8 s=A0 (T++[s]):=by rw[We];congr 1;unfold A0;simp
  have h6:Be (T++[s])=Be T+(6+s.size):=by rw[To];rfl
  rw[h4,h5];refine lD Wt ?_ (by rw[h6];omega);intro t ht
  rcases List.mem_append.1 ht with h|h
  ·exact hT t h
  ·rw[List.mem_singleton.1 h];exact hs
 ·refine⟨T,Or.inl rfl,?_⟩;refine lC Wt hT (Abq s _ hs (by omega)) ?_;rw[a2w,Nl];omega
theorem eC{c:Int}{T:List ByteArray}{m:Nat}{n k:Int}{j:Aj}(h:G0 c T m)(hj:Gy j)(hb:Ea j=false)(hs:j.input.size≤300)(hm:m≤100)(hc:c=1000000)(hn0:n≤9223372036854775807)(hk0: -9223372036854775808≤k)(hk1:k≤9223372036854775807):
  eB c T (T++[Aw j]) (Dp ((Br c T).fuse n k) (Cf T) (An T) j) (An (T++[Aw j])):=by
 have he:Ba j=(Aw j,0):=by unfold Ba;rw[hb,if_neg (by decide),if_neg (by omega)]
 have hsz:=Ov j;have hsums:=h.sums;have hd:=Q5 hj hb (by omega)
 have hz:(bl (A0 T)).size=Be T:=by rw[D1,Ic]
 have hr:(bl (A0 [Aw j])).size=6+(Aw j).size:=by rw[D1,Ic];rfl
 have hby:Ie [Aw j]=(bl (A0 [Aw j]),0):=Zw (by intro t ht;rw[List.mem_singleton.1 ht];omega)
 have hcat:bl (A0 T)++bl (A0 [Aw j])=bl (A0 (T++[Aw j])):=by rw[Ln,←We]
 have hsz2:(bl (A0 (T++[Aw j]))).size=Be (T++[Aw j]):=by rw[D1,Ic]
 have hok:Ak ((Br c T).fuse n k):=(Q7 (by omega) (by omega)).fuse hn0 hk0 hk1;have hokw:Ak (((Br c T).fuse n k).wAppend Dv (bl (A0 [Aw j]))).1:=hok.wAppendD _ _;have hap:=Abx (nm:=Dv) (c:=c) (s:=bl (A0 T)) (r:=bl (A0 [Aw j])) (n:=n) (k:=k) Ws (by rw[hz,hr];omega);rw[hz] at hap
 obtain⟨r,hrr⟩:∃r,((Br c T).fuse n k).wAppend Dv (bl (A0 [Aw j]))=r:=⟨_,rfl⟩
 have hrr2:((Cd Dv c ⟨bl (A0 T),Be T⟩).fuse n k).wAppend Dv (bl (A0 [Aw j]))=r:=hrr;rw[hrr2] at hap;rw[hrr] at hokw;obtain⟨d2,x⟩:=r;simp only at hap hokw
 have hal:Gg (Cf T) ((Br c T).fuse n k) [Aw j]=(if x=0 then{Cf T with many:=T.length+1} else if x=2 then Cf T else{Cf T with off:=true},d2,x):=by
  unfold Gg I8;rw[show(Cf T).off=false from rfl,hby,if_neg (by decide),if_neg (by simp)];have hw:((Br c T).fuse n k).wAppend (Cf T).name (bl (A0 [Aw j]))=(d2,x):=hrr;simp only[hw];rfl
 rcases hap with⟨rfl,h2⟩|⟨rfl,x,h2,h3,h4⟩
 ·refine Or.inl ⟨d2,?_,?_,hokw⟩
  ·rw[if_pos rfl] at hal;rw[Xi he hal,Qb,hd];unfold Cf;simp only[a2x,List.length_cons,List.length_nil]
  ·rw[h2,hcat,hsz2];rfl
 ·rw[if_neg (by decide),if_neg (by decide)] at hal;obtain⟨T3,h5,h6⟩:=rU (c:=c) (T:=T) (s:=Aw j) (x:=x) (fun t ht=>(h.good t ht).2) (by omega) h2 (by rw[a2u,hz,hr] at h3;omega) (by omega);refine Or.inr ⟨d2,T3,?_,h5,hokw,?_,?_⟩
  ·rw[cI he hal (by decide)]
  ·rw[h4,h6]
  ·rw[h4,Z6 Ws];show((bl (A0 T)++bl (A0 [Aw j])).extract 0 x).size≤_;rw[ByteArray.size_extract,a2u,hz,hr];omega
structure R3(c:Int)(T:List ByteArray)(m:Nat)(n k:Int)(R:Jz)(F:Oz):Prop where
 way:(F.told=false∧R=⟨(Br c T).fuse n k,Cf T,An T,F.e⟩∧F.l=An T∧F.e≠6)∨
  (F.told=true∧F.e=0∧∃T2,F.l=An T2∧G0 c T2 (m+1)∧eB c T T2 R (An T2))
theorem rV{c:Int}{T:List ByteArray}{m id:Nat}{n k:Int}{input:ByteArray}(h:G0 c T m)(hid:id<18446744073709551616)(hs:input.size≤300)(hm:m≤100)(hc:c=1000000)(hn0:n≤9223372036854775807)(hk0: -9223372036854775808≤k)(hk1:k≤9223372036854775807):
  R3 c T m n k (J0 ((Br c T).fuse n k) (Cf T) (An T) id input) (J5 (An T) id input):=by
 refine⟨?_⟩;unfold J0 R1 J5
 cases hf:F6 (An T) id with
 |some j=>
  by_cases hi:j.input=input
  ·simp only[hi,if_true];exact Or.inl ⟨trivial,trivial,trivial,by decide⟩
  ·simp only[hi,if_false];exact Or.inl ⟨trivial,trivial,trivial,by decide⟩
 |none=>
  have hk:Gy ⟨id,1,0,input⟩:=⟨hid,(show(-9223372036854775808:Int)≤1 by decide),(show(1:Int)≤9223372036854775807 by decide),(show(-9223372036854775808:Int)≤0 by decide),(show(0:Int)≤9223372036854775807 by decide),by show input.size≤_;omega⟩
  have he:Ba ⟨id,1,0,input⟩=(Aw ⟨id,1,0,input⟩,0):=by unfold Ba;rw[show Ea ⟨id,1,0,input⟩=false from rfl,if_neg (by decide),if_neg (by show ¬60000<input.size;omega)]
  simp only[he,if_true];have hd:=Q5 hk rfl (by show ¬60000<input.size;omega);refine Or.inr ⟨trivial,trivial,T++[Aw ⟨id,1,0,input⟩],by rw[Qb,hd],h.told hk rfl hs,eC h hk rfl hs hm hc hn0 hk0 hk1⟩
theorem rW{l:List Aj}{id:Nat}{j:Aj}(h:F6 l id=some j):j∈l:=List.mem_of_find?_eq_some h
theorem rX{c:Int}{T:List ByteArray}{m id:Nat}{n k p x:Int}(h:G0 c T m)(p0: -9223372036854775808≤p)(p1:p≤9223372036854775807)(x0: -9223372036854775808≤x)(x1:x≤9223372036854775807)(hm:m≤100)(hc:c=1000000)(hn0:n≤9223372036854775807)(hk0: -9223372036854775808≤k)(hk1:k≤9223372036854775807):
  R3 c T m n k (J1 ((Br c T).fuse n k) (Cf T) (An T) id p x) (J6 (An T) id p x):=by
 refine⟨?_⟩;unfold J1 R2 J6
 cases hf:F6 (An T) id with
 |none=>exact Or.inl ⟨rfl,rfl,rfl,by show(3:Int)≠6;decide⟩
 |some j=>
  have hj:=h.ok j (rW hf)
  by_cases hb:4≤j.phase∨p<1∨5<p
  ·simp only[hb,if_true];exact Or.inl ⟨trivial,trivial,trivial,by decide⟩
  ·simp only[hb,if_false]
   have hk:Gy ⟨j.id,p,x,j.input⟩:=⟨hj.1.id,p0,p1,x0,x1,hj.1.input⟩
   by_cases hx:x<0∨65535<x
   ·simp only[hx,if_true];refine Or.inl ⟨trivial,?_,trivial,by decide⟩;refine cH (s:=⟨#[]⟩) ?_ (by decide);unfold Ba;rw[if_pos];unfold Ea;simp only[Bool.or_eq_true,decide_eq_true_eq];omega
   ·simp only[hx,if_false]
    have hbj:Ea ⟨j.id,p,x,j.input⟩=false:=by unfold Ea;simp only[Bool.or_eq_false_iff,decide_eq_false_iff_not];omega
    have hd:=Q5 hk hbj (by show ¬60000<j.input.size;have:=hj.2;omega);exact Or.inr ⟨trivial,trivial,T++[Aw ⟨j.id,p,x,j.input⟩],by rw[Qb,hd],h.told hk hbj hj.2,eC h hk hbj hj.2 hm hc hn0 hk0 hk1⟩
end
section
open Go.RowKit Go.Lib
theorem eD(w:World)(a:Option Addr)(n cap:Nat)(l:List Aj)(j:Aj)(h:Bf D9 w a n l)(hnone:a=none→cap=0)(hn:n≤1000000):
  Calls Tryz.prog 65 #[.slice a n cap,Bq j] w fun e w'=>∃v',e=.returned v'∧Ae D9 w' w.heap.size v' (Eb l j)∧Fp [] w w':=by
 obtain⟨ji,jp,jx,jn⟩:=j;have HL:=a0z h;have HLN:=a0z h.len;have HN0:=a0z hnone;have hbx:(w.alloc (.cells #[.int .u64 ji,.int .i64 jp,.int .i64 jx,.string jn] 46)).heap[w.heap.size]?=some (.cells #[.int .u64 ji,.int .i64 jp,.int .i64 jx,.string jn] 46 (0,0)):=Ai rfl _;have hfa:=Fp.alloc w (.cells #[.int .u64 ji,.int .i64 jp,.int .i64 jx,.string jn] 46)
 have hsz:(w.alloc (.cells #[.int .u64 ji,.int .i64 jp,.int .i64 jx,.string jn] 46)).heap.size=w.heap.size+1:=by simp
 unfold Bq Bo;simp only;go_enter Tryz.func65,Tryz.ntmps65
 obtain⟨W,hW⟩:∃W,w.alloc (.cells #[.int .u64 ji,.int .i64 jp,.int .i64 jx,.string jn] 46)=W:=⟨_,rfl⟩
 rw[hW] at hbx hfa hsz;have HBX:=a0z hbx;have HFA:=a0z hfa;have HSZ:=a0z hsz;clear h hnone hbx hfa hsz;go_wp2_with (at_builtin;(try rw[hW]);refine X3 rfl _ _ rfl (w.heap.size+1) (.slice (some ⟨W.heap.size,0,none⟩) 0 0) [] rfl (Ae.made W _ (by rw[HSZ.out];exact a1v _)) _ _ _ l rfl (HL.out.fp (HFA.out.alloc' _)) HN0.out (by have:=HLN.out;simp;omega) (by rw[←HSZ.out];simp) ?_;intro v2 w2 hown2 hbel2 hg2;rw[a0u] at hown2;obtain⟨a2,c2,hv2,-,-,hat2⟩:=hown2.at;subst hv2;have HO2:=a0z hown2;have HB2:=a0z hbel2;have HG2:=a0z hg2;clear hown2 hbel2 hat2 hg2)
 have hb2:w2.heap[w.heap.size]?=some (.cells #[.int .u64 ji,.int .i64 jp,.int .i64 jx,.string jn] 46 (0,0)):=by
  refine(HG2.out.block _ (by have:=HSZ.out;simp;omega) ?_).trans (Cb HBX.out);intro e
  have e1:w.heap.size=W.heap.size:=by simpa [Value.ownBlock] using e
  have:=HSZ.out;omega
 have hf2:Fp [] w w2:=(HFA.out.alloc' _).belowTrans (HB2.out.mono (by omega));have HBX2:=a0z hb2;have HF2:=a0z hf2;clear hb2 hf2
 go_loopg [6] l.length (fun g vi Wr=>∃k:Nat,g+k=l.length∧vi=.int .i64 k∧(∀i (h:i<l.length),i<k→¬(l[i]).id=ji)∧Wr.heap[w.heap.size]?=some (.cells #[.int .u64 ji,.int .i64 jp,.int .i64 jx,.string jn] 46 (0,0))∧Ae D9 Wr (w.heap.size+1) (.slice a2 l.length c2) l∧Fp [] w Wr)
 case atStart=>exact⟨0,by omega,rfl,fun i _ h=>absurd h (Nat.not_lt_zero _),HBX2.out,HO2.out,HF2.out⟩
 case round=>
  obtain⟨k,hg,rfl,hno,hb,ho,hf⟩:=hrel;have HNO:=a0z hno;have HF:=a0z hf;have HB:=a0z hb;have HO:=a0z ho
  have hll:l.length≤1000000:=by have:=HLN.out;omega
  have b0:wr.cell? ⟨w.heap.size,0,none⟩=some (.int .u64 ji):=Aa hb 0;have b1:wr.cell? ⟨w.heap.size,1,none⟩=some (.int .i64 jp):=Aa hb 1;have b2:wr.cell? ⟨w.heap.size,2,none⟩=some (.int .i64 jx):=Aa hb 2;have b3:wr.cell? ⟨w.heap.size,3,none⟩=some (.string jn):=Aa hb 3;clear hno hf hb ho
  by_cases hk:k<l.length
  ·have zk:(k:Int)<(l.length:Int):=by omega
   obtain⟨g,cap2,cur,hv,hg0,-,-,-,-,-⟩:=HO.out.open (by omega);cases hv
   have hal:∀i (h:i<l.length),i<k+1→¬(l[k]).id=ji→¬(l[i]).id=ji:=by
    intro i h h1 h2
    by_cases e:i=k
    ·subst e;exact h2
    ·exact HNO.out i h (by omega)
   have hfirst:(l[k]).id=ji→Eb l ⟨ji,jp,jx,jn⟩=l.set k ⟨ji,jp,jx,jn⟩:=fun h=>Rz (U2 hk (fun i hi=>HNO.out i (by omega) hi) h)
   have hel:∀w',Fp [] wr w'→Q8 w' g (k*4) l[k]:=fun w' hf=>eA ((HO.out.fp hf (by simp)).elem hk).1
   obtain⟨x,hx⟩:∃x,l[k]=x:=⟨_,rfl⟩
   rw[hx] at hal hfirst hel;have HAL:=a0z hal;have HFI:=a0z hfirst;have HEL:=a0z hel;obtain⟨xi,xp,xx,xn⟩:=x;clear hal hfirst hx hel
   by_cases hid:xi=ji
   ·subst hid;have HE:=a0z (HFI.out rfl);clear HFI;go_wp2_with (fail);refine Df (by kernel_rfl) (by kernel_rfl) ?_
    iterate 8
     apply A9 rfl rfl rfl
     ·intro a w hC hA K hK
      try have h5:=hA.fr 5 rfl
      try have h6:=hA.fr 6 rfl
      try have h16:=hA.eq 0 16 rfl
      try have h17:=hA.eq 1 17 rfl
      try have h18:=hA.eq 2 18 rfl
      try have h19:=hA.eq 3 19 rfl
      try have h3:=hA.fr 3 rfl
      try have h21:=hA.eq 5 21 rfl
      try have h20:=hA.eq 4 20 rfl
      try have h22:=hA.eq 6 22 rfl
      obtain⟨k0,k1,k2,k3⟩:=HEL.out _ hC;have hbx:=(hC.block _ (Ab HB.out) (by simp)).trans HB.out;have c0:=Aa hbx 0;simp only[a3z,a2v] at c0;simp only[Oper.wp,execOp];go_simp;exact hK _ hC (Fp.refl _ _)
    refine⟨?_,?_⟩
    ·repeat(first|exact trivial|refine C3 _ ?_ |refine⟨fun w1 w2 v _ hf ⟨g,h1,h2⟩=>⟨g,h1,(hf.block g (Ab h2) (by simp)).trans h2⟩,?_⟩)
    ·intro w' hC;simp only[a1w,a1u,a0u,a2z]
     iterate 8 (refine Au ?_)
     refine A6 ?_;simp only[Am,Act.put,a0x,a1z,a1x];have HFC:=a0z (HF.out.trans hC (by simp));have HOC:=a0z (HO.out.fp hC (by simp));obtain⟨k0,k1,k2,k3⟩:=HEL.out _ hC;have hz:=(HOC.out.elem hk).2.1;have z0:=hz (k*4);have z1:=hz (k*4+1);have z2:=hz (k*4+2);have z3:=hz (k*4+3);have hbx:=(hC.block _ (Ab HB.out) (by simp)).trans HB.out;have c0:w'.cell? ⟨w.heap.size,0,none⟩=some (.int .u64 xi):=Aa hbx 0;have c1:w'.cell? ⟨w.heap.size,1,none⟩=some (.int .i64 jp):=Aa hbx 1;have c2:w'.cell? ⟨w.heap.size,2,none⟩=some (.int .i64 jx):=Aa hbx 2;have c3:w'.cell? ⟨w.heap.size,3,none⟩=some (.string jn):=Aa hbx 3;have hst:=HOC.out.setQ (⟨xi,jp,jx,jn⟩:Aj) hk;rw[←HE.out] at hst;have HST:=a0z hst;simp only at k0 k1 k2 k3;clear hC hz hbx hst b0 b1 b2 b3;go_wp2_with (fail);go_ret;exact⟨_,rfl,HST.out.1.mono (by omega),HFC.out.trans HST.out.2 (by intro i hi;right;rw[List.mem_singleton.1 hi];omega)⟩
   ·have hne:((xi:Int)==(ji:Int))=false:=beq_eq_false_iff_ne.2 (by omega);have HN:=a0z hid;clear HFI hid;go_wp2_with (fail);refine Df (by kernel_rfl) (by kernel_rfl) ?_
    iterate 8
     apply A9 rfl rfl rfl
     ·intro a w hC hA K hK
      try have h5:=hA.fr 5 rfl
      try have h6:=hA.fr 6 rfl
      try have h16:=hA.eq 0 16 rfl
      try have h17:=hA.eq 1 17 rfl
      try have h18:=hA.eq 2 18 rfl
      try have h19:=hA.eq 3 19 rfl
      try have h3:=hA.fr 3 rfl
      try have h21:=hA.eq 5 21 rfl
      try have h20:=hA.eq 4 20 rfl
      try have h22:=hA.eq 6 22 rfl
      obtain⟨k0,k1,k2,k3⟩:=HEL.out _ hC;have hbx:=(hC.block _ (Ab HB.out) (by simp)).trans HB.out;have c0:=Aa hbx 0;simp only[a3z,a2v] at c0;simp only[Oper.wp,execOp];go_simp;exact hK _ hC (Fp.refl _ _)
    refine⟨?_,?_⟩
    ·repeat(first|exact trivial|refine C3 _ ?_ |refine⟨fun w1 w2 v _ hf ⟨g,h1,h2⟩=>⟨g,h1,(hf.block g (Ab h2) (by simp)).trans h2⟩,?_⟩)
    ·intro w' hC;simp only[a1w,a1u,a0u,a2z]
     iterate 8 (refine Au ?_)
     refine A6 ?_;simp only[Am,Act.put,a0x,a1z,a1x];have HFC:=a0z (HF.out.trans hC (by simp));have HOC:=a0z (HO.out.fp hC (by simp));have HBC:=a0z ((hC.block _ (Ab HB.out) (by simp)).trans HB.out);clear hC;go_wp2_with (fail)
     go_roundg (gk-1)
     case measure=>omega
     case rel=>exact⟨k+1,by omega,by go_num,fun i h h1=>HAL.out i h h1 HN.out,HBC.out,HOC.out,HFC.out⟩
  ·have zk:¬(k:Int)<(l.length:Int):=by omega
   have HE:Hid (Eb l ⟨ji,jp,jx,jn⟩=l++[⟨ji,jp,jx,jn⟩]):=R0 (U3 (fun i hi=>HNO.out i hi (by omega)):Es l ji=none)
   have HFW:Hid (∀o1,Fp [] wr (wr.alloc o1)):=fun o1=>Fp.alloc wr o1
   have hwr:w.heap.size+1≤wr.heap.size:=Ab HB.out;go_wp2_with (at_builtin;(refine X3 rfl _ _ rfl (w.heap.size+1) _ l rfl (HO.out.fp (HFW.out _) (by simp)) _ _ _ [⟨ji,jp,jx,jn⟩] rfl (Bf.one (Ai (by simp) _)) (fun h=>by cases h) (by simp;omega) (by simp;omega) ?_);intro v3 w3 ho3 hb3 _;have HO3:=a0z ho3;have HB3:=a0z hb3;clear ho3 hb3);go_ret;refine⟨_,rfl,?_,(HF.out.trans (HFW.out _) (by simp)).belowTrans (HB3.out.mono (by omega))⟩;rw[HE.out];exact HO3.out.mono (by omega)
theorem eE{l:List Aj}{id:Nat}{j:Aj}(h:F6 l id=some j):Gs l id=j∧Gt l id=true:=by unfold Gs Gt;rw[h];exact⟨rfl,rfl⟩
theorem eF{l:List Aj}{id:Nat}(h:F6 l id=none):Gs l id=Fg∧Gt l id=false:=by unfold Gs Gt;rw[h];exact⟨rfl,rfl⟩
def eG(w0:World)(base:Nat)(F:Oz)(e:Ending)(w':World):Prop:=∃v',e=.returned (.tuple #[v',.bool F.told,.int .i64 F.e])∧Ae D9 w' base v' F.l∧Fp [] w0 w'
theorem rY(w:World)(base id:Nat)(v:Value)(l:List Aj)(input:ByteArray)(h:Ae D9 w base v l)(hb:base≤w.heap.size)(hn:l.length≤100000)(hid:id<18446744073709551616)(hin:input.size≤1000000000):
  Calls Tryz.prog 27 #[v,.int .u64 id,.string input] w fun e w'=>eG w base (J5 l id input) e w':=by
 obtain⟨a,cap,rfl,hnone,-,hat⟩:=h.at;have HFD:=a0z (X4 w a l.length cap id l hat (by omega));have HEN:=a0z (fun w=>Z9 w ⟨id,1,0,input⟩ ⟨hid,(show(-9223372036854775808:Int)≤1 by decide),(show(1:Int)≤9223372036854775807 by decide),(show(-9223372036854775808:Int)≤0 by decide),(show(0:Int)≤9223372036854775807 by decide),hin⟩);have HWI:=a0z (fun W (hf:Fp [] w W)=>eD W a l.length cap l ⟨id,1,0,input⟩ (hat.fp hf) hnone (by omega));have HO:=a0z h;have HBA:=a0z hb;clear h hat hnone hb
 cases hf:F6 l id with
 |some j=>
  obtain⟨e1,e2⟩:=eE hf;rw[e1,e2] at HFD
  by_cases hi:j.input=input
  ·have HE:Hid (J5 l id input=⟨l,false,0⟩):=by unfold Hid J5;rw[hf];simp only[hi,if_true]
   obtain⟨ji,jp,jx,jn⟩:=j;simp only at hi;subst hi;unfold Bq Bo at HFD;simp only at HFD;clear hf e1 e2;go_enter Tryz.func27,Tryz.ntmps27;go_wp2_with (fail);(with_reducible refine HFD.out.mono ?_);rintro e w1 ⟨rfl,hf1⟩;have HF1:=a0z (hf1.alloc' (.cells #[.int .u64 ji,.int .i64 jp,.int .i64 jx,.string jn] 46));clear hf1;go_wp2_with (fail)
   go_ret3
   rw[HE.out];exact⟨_,rfl,HO.out.fp HF1.out (by simp),HF1.out⟩
  ·have HE:Hid (J5 l id input=⟨l,false,191⟩):=by unfold Hid J5;rw[hf];simp only[hi,if_false]
   obtain⟨ji,jp,jx,jn⟩:=j;simp only at hi;have hsn:=cM hi;unfold Bq Bo at HFD;simp only at HFD;clear hf e1 e2 hi;go_enter Tryz.func27,Tryz.ntmps27;go_wp2_with (fail);(with_reducible refine HFD.out.mono ?_);rintro e w1 ⟨rfl,hf1⟩;have HF1:=a0z (hf1.alloc' (.cells #[.int .u64 ji,.int .i64 jp,.int .i64 jx,.string jn] 46));clear hf1;go_wp2_with (fail)
   go_ret3
   rw[HE.out];exact⟨_,rfl,HO.out.fp HF1.out (by simp),HF1.out⟩
 |none=>
  obtain⟨e1,e2⟩:=eF hf;rw[e1,e2] at HFD;unfold Bq Bo Fg at HFD;simp only at HFD;unfold Bq Bo at HEN HWI;simp only at HEN HWI
  by_cases he:(Ba ⟨id,1,0,input⟩).2=0
  ·have HE:Hid (J5 l id input=⟨Eb l ⟨id,1,0,input⟩,true,0⟩):=by unfold Hid J5;rw[hf];simp only[he,if_true]
   rw[he] at HEN;clear hf e1 e2 he;go_enter Tryz.func27,Tryz.ntmps27;go_wp2_with (fail);(with_reducible refine HFD.out.mono ?_);rintro e w1 ⟨rfl,hf1⟩;have hst:(w1.alloc (.cells #[.int .u64 id,.int .i64 1,.int .i64 0,.string input] 46)).heap[w1.heap.size]?=some (.cells #[.int .u64 id,.int .i64 1,.int .i64 0,.string input] 46 (0,0)):=Ai rfl _;have hfs:=hf1.alloc' (.cells #[.int .u64 id,.int .i64 1,.int .i64 0,.string input] 46);have HS:=a0z hst;have HFS:=a0z hfs;clear hf1 hst hfs;go_wp2_with (fail);(with_reducible refine(HEN.out _).mono ?_);rintro e w2 ⟨rfl,hf2⟩;have HF2:=a0z (HFS.out.trans hf2 (by simp));have hb2:=(hf2.block _ (Ab HS.out) (by simp)).trans HS.out;have hlt2:=Ab hb2;have t0:w2.cell? ⟨w1.heap.size,0,none⟩=some (.int .u64 id):=Aa hb2 0;have t1:w2.cell? ⟨w1.heap.size,1,none⟩=some (.int .i64 1):=Aa hb2 1;have t2:w2.cell? ⟨w1.heap.size,2,none⟩=some (.int .i64 0):=Aa hb2 2;have t3:w2.cell? ⟨w1.heap.size,3,none⟩=some (.string input):=Aa hb2 3;clear hf2 hb2;go_wp2_with (fail);(with_reducible refine(HWI.out _ HF2.out).mono ?_);rintro e w3 ⟨v3,rfl,ho3,hf3⟩;have HO3:=a0z (ho3.mono (Nat.le_trans HBA.out HF2.out.size));have HF3:=a0z (HF2.out.trans hf3 (by simp));clear hf3 ho3;go_wp2_with (fail)
   go_ret3
   rw[HE.out];exact⟨_,rfl,HO3.out,HF3.out⟩
  ·have HE:Hid (J5 l id input=⟨l,false,(Ba ⟨id,1,0,input⟩).2⟩):=by unfold Hid J5;rw[hf];simp only[he,if_false]
   obtain⟨⟨b,x⟩,hbx⟩:∃r,Ba ⟨id,1,0,input⟩=r:=⟨_,rfl⟩
   rw[hbx] at HEN HE he;simp only at HEN HE he
   have zx:(x==0)=false:=by simpa using he
   clear hf e1 e2 he hbx;go_enter Tryz.func27,Tryz.ntmps27;go_wp2_with (fail);(with_reducible refine HFD.out.mono ?_);rintro e w1 ⟨rfl,hf1⟩;have hfs:=hf1.alloc' (.cells #[.int .u64 id,.int .i64 1,.int .i64 0,.string input] 46);have HFS:=a0z hfs;clear hf1 hfs;go_wp2_with (fail);(with_reducible refine(HEN.out _).mono ?_);rintro e w2 ⟨rfl,hf2⟩;have HF2:=a0z (HFS.out.trans hf2 (by simp));clear hf2;go_wp2_with (fail)
   go_ret3
   rw[HE.out];exact⟨_,rfl,HO.out.fp HF2.out (by simp),HF2.out⟩
theorem rZ(w:World)(base id:Nat)(v:Value)(l:List Aj)(p x:Int)(h:Ae D9 w base v l)(hb:base≤w.heap.size)(hn:l.length≤100000):
  Calls Tryz.prog 28 #[v,.int .u64 id,.int .i64 p,.int .i64 x] w fun e w'=>eG w base (J6 l id p x) e w':=by
 obtain⟨a,cap,rfl,hnone,-,hat⟩:=h.at;have HFD:=a0z (X4 w a l.length cap id l hat (by omega));have HWI:=a0z (fun W j (hf:Fp [] w W)=>eD W a l.length cap l j (hat.fp hf) hnone (by omega));have HO:=a0z h;have HBA:=a0z hb;clear h hat hnone hb
 cases hf:F6 l id with
 |none=>
  obtain⟨e1,e2⟩:=eF hf;rw[e1,e2] at HFD;unfold Bq Bo Fg at HFD;simp only at HFD
  have HE:Hid (J6 l id p x=⟨l,false,3⟩):=by unfold Hid J6;rw[hf]
  clear hf e1 e2;go_enter Tryz.func28,Tryz.ntmps28;go_wp2_with (fail);(with_reducible refine HFD.out.mono ?_);rintro e w1 ⟨rfl,hf1⟩;have HF1:=a0z (hf1.alloc' (.cells #[.int .u64 0,.int .i64 0,.int .i64 0,.string ⟨#[]⟩] 46));clear hf1;go_wp2_with (fail)
  go_ret3
  rw[HE.out];exact⟨_,rfl,HO.out.fp HF1.out (by simp),HF1.out⟩
 |some j=>
  obtain⟨e1,e2⟩:=eE hf;rw[e1,e2] at HFD;obtain⟨ji,jp,jx,jn⟩:=j;unfold Bq Bo at HFD;simp only at HFD
  by_cases hb:4≤jp∨p<1∨5<p
  ·have HE:Hid (J6 l id p x=⟨l,false,5⟩):=by unfold Hid J6;rw[hf];simp only[hb,if_true]
   have hc:4≤jp∨(¬4≤jp∧p<1)∨(¬4≤jp∧¬p<1∧5<p):=by omega
   clear hf e1 e2 hb
   rcases hc with h1|⟨h1,h2⟩|⟨h1,h2,h3⟩
   all_goals
    go_enter Tryz.func28,Tryz.ntmps28;go_wp2_with (fail);(with_reducible refine HFD.out.mono ?_);rintro e w1 ⟨rfl,hf1⟩;have HF1:=a0z (hf1.alloc' (.cells #[.int .u64 ji,.int .i64 jp,.int .i64 jx,.string jn] 46));clear hf1;go_wp2_with (fail)
    go_ret3
    rw[HE.out];exact⟨_,rfl,HO.out.fp HF1.out (by simp),HF1.out⟩
  by_cases hx:x<0∨65535<x
  ·have HE:Hid (J6 l id p x=⟨l,false,1⟩):=by unfold Hid J6;rw[hf];simp only[hb,hx,if_true,if_false]
   have h1:¬4≤jp:=by omega
   have h2:¬p<1:=by omega
   have h3:¬5<p:=by omega
   have hc:x<0∨(¬x<0∧65535<x):=by omega
   clear hf e1 e2 hb hx
   rcases hc with h4|⟨h4,h5⟩
   all_goals
    go_enter Tryz.func28,Tryz.ntmps28;go_wp2_with (fail);(with_reducible refine HFD.out.mono ?_);rintro e w1 ⟨rfl,hf1⟩;have HF1:=a0z (hf1.alloc' (.cells #[.int .u64 ji,.int .i64 jp,.int .i64 jx,.string jn] 46));clear hf1;go_wp2_with (fail)
    go_ret3
    rw[HE.out];exact⟨_,rfl,HO.out.fp HF1.out (by simp),HF1.out⟩
  ·have HE:Hid (J6 l id p x=⟨Eb l ⟨ji,p,x,jn⟩,true,0⟩):=by unfold Hid J6;rw[hf];simp only[hb,hx,if_false]
   have h1:¬4≤jp:=by omega
   have h2:¬p<1:=by omega
   have h3:¬5<p:=by omega
   have h4:¬x<0:=by omega
   have h5:¬65535<x:=by omega
   have HWJ:=a0z (fun W hf=>HWI.out W ⟨ji,p,x,jn⟩ hf);unfold Bq Bo at HWJ;simp only at HWJ;clear hf e1 e2 hb hx HWI;go_enter Tryz.func28,Tryz.ntmps28;go_wp2_with (fail);(with_reducible refine HFD.out.mono ?_);rintro e w1 ⟨rfl,hf1⟩;have hfs:=hf1.alloc' (.cells #[.int .u64 ji,.int .i64 p,.int .i64 x,.string jn] 46);have HFS:=a0z hfs;clear hf1 hfs;go_wp2_with (fail);(with_reducible refine(HWJ.out _ HFS.out).mono ?_);rintro e w3 ⟨v3,rfl,ho3,hf3⟩;have HO3:=a0z (ho3.mono (Nat.le_trans HBA.out HFS.out.size));have HF3:=a0z (HFS.out.trans hf3 (by simp));clear hf3 ho3;go_wp2_with (fail)
   go_ret3
   rw[HE.out];exact⟨_,rfl,HO3.out,HF3.out⟩
end
section
open Go.RowKit Go.Lib Go.Maps Go.MapKept Go.ChangeMaps
section
variable {w w' : World} {base b bm L V : Nat} {v : Value} {d : Dk} {lg : Lg} {l : List Aj}
theorem C7.off{k:Nat}{c:Array Value}{T:TypeId}{fr:Nat × Nat}(h:C7 w base b bm L V v d lg l)(hk:w.heap[k]?=some (.cells c T fr))(h1:T≠118)(h2:T≠185)(h3:T≠123):k∉[b,bm,L,V]:=by
 intro hm;simp only[List.mem_cons,List.not_mem_nil,or_false] at hm
 rcases hm with rfl|rfl|rfl|rfl
 ·rw[h.disk.cells] at hk;cases hk;exact h1 rfl
 ·obtain⟨es,clock,h4,_⟩:=h.disk.files;rw[hk] at h4;cases h4
 ·have h4:=h.log;unfold B5 at h4;rw[h4] at hk;cases hk;exact h2 rfl
 ·have h4:=h.drv;unfold Ht at h4;rw[h4] at hk;cases hk;exact h3 rfl
theorem C7.roff{base':Nat}{r:List Aj}{u:Value}(h:C7 w base b bm L V v d lg l)(hr:Ae D9 w base' u r):∀k,u.ownBlock=some k→k∉[b,bm,L,V]:=by
 intro k hk
 rcases hr.2 with⟨rfl,_⟩|⟨g,cap,cur,rfl,_,hh,_⟩
 ·cases hk
 ·obtain rfl:g=k:=by simpa [Value.ownBlock] using hk
  exact h.off hh (by decide) (by decide) (by decide)
end
structure E9(w0 w:World)(b bm L V base:Nat)(d:Dk)(lg:Lg)(l:List Aj)(u:Value)(r:List Aj)(A:List (Nat × K0)):Prop where
 drv:∃v,C7 w base b bm L V v d lg l
 ref:Ae D9 w w0.heap.size u r
 act:∀p∈A,w.heap[p.1]?=some (.cells (Io p.2).toArray 66 (0,0))
 fp:Fp [] w0 w
 b0:w0.heap.size≤b∧w0.heap.size≤bm∧w0.heap.size≤L∧w0.heap.size≤V∧w0.heap.size≤base
section
variable {w0 w w' : World} {base b bm L V : Nat} {u : Value} {d d2 : Dk} {lg lg2 : Lg} {l r l2 : List Aj} {A : List (Nat × K0)}
theorem E9.calm(h:E9 w0 w b bm L V base d lg l u r A)(hf:Fp [] w w'):E9 w0 w' b bm L V base d lg l u r A:=by
 obtain⟨v,hv⟩:=h.drv;exact⟨⟨v,hv.calm hf⟩,h.ref.fp hf (by simp),fun p hp=>(hf.block _ (Ab (h.act p hp)) (by simp)).trans (h.act p hp),h.fp.trans hf (by simp),h.b0⟩
theorem E9.disk(h:E9 w0 w b bm L V base d lg l u r A)(hf:Fp [b] w w')(hd:Ah w' b bm d2):E9 w0 w' b bm L V base d2 lg l u r A:=by
 obtain⟨v,hv⟩:=h.drv;have ho:=hv.roff h.ref;obtain⟨h1,h2,h3,h4,h5⟩:=h.b0;refine⟨⟨v,hv.turned (hf.mono (by simp)) hd (hv.log.fp hf (fun hm=>hv.L_off (by simp at hm;simp[hm])))⟩,h.ref.kept fun k hk=>hf.block k (h.ref.lt k hk).2 (fun hm=>ho k hk (by simp at hm;simp[hm])),fun p hp=>?_,h.fp.trans hf (by intro i hi;right;rw[List.mem_singleton.1 hi];exact h1),h.b0⟩;have ha:=h.act p hp;exact(hf.block _ (Ab ha) (fun hm=>hv.off ha (by decide) (by decide) (by decide) (by simp at hm;simp[hm]))).trans ha
theorem E9.told{R:Jz}(h:E9 w0 w b bm L V base d lg l u r A)(ht:Kz base b bm L V R w w'):E9 w0 w' b bm L V base R.d R.lg R.l u r A:=by
 obtain⟨v,hv⟩:=h.drv;obtain⟨⟨v',hv'⟩,htf⟩:=ht;obtain⟨h1,h2,h3,h4,h5⟩:=h.b0;refine⟨⟨v',hv'⟩,h.ref.tf htf (by decide) (hv.roff h.ref),fun p hp=>htf.cells (h.act p hp) (hv.off (h.act p hp) (by decide) (by decide) (by decide)) (by decide),htf.onto h.fp h5 ?_,h.b0⟩;intro i hi;right;simp only[List.mem_cons,List.not_mem_nil,or_false] at hi
 rcases hi with rfl|rfl|rfl|rfl<;>assumption
theorem E9.swap{u2:Value}{r2:List Aj}(h:E9 w0 w b bm L V base d lg l u r A)(hr:Ae D9 w w0.heap.size u2 r2):E9 w0 w b bm L V base d lg l u2 r2 A:=⟨h.drv,hr,h.act,h.fp,h.b0⟩
theorem E9.less(h:E9 w0 w b bm L V base d lg l u r A):E9 w0 w b bm L V base d lg l u r []:=⟨h.drv,h.ref,by simp,h.fp,h.b0⟩
theorem E9.made{x:K0}(h:E9 w0 w b bm L V base d lg l u r []):E9 w0 (w.alloc (.cells (Io x).toArray 66)) b bm L V base d lg l u r [(w.heap.size,x)]:=by
 have h2:=h.calm (Fp.alloc w (.cells (Io x).toArray 66));refine⟨h2.drv,h2.ref,fun p hp=>?_,h2.fp,h2.b0⟩;rw[List.mem_singleton.1 hp];exact Ai rfl _
theorem E9.again{L2 V2:Nat}{v2:Value}(h:E9 w0 w b bm L V base d lg l u r A)(hf:Fp [b,bm] w w')(hv2:C7 w' w.heap.size b bm L2 V2 v2 d2 lg2 l2)(hL:w.heap.size≤L2)(hV:w.heap.size≤V2):E9 w0 w' b bm L2 V2 w.heap.size d2 lg2 l2 u r A:=by
 obtain⟨v,hv⟩:=h.drv;have ho:=hv.roff h.ref;have hz:=h.fp.size;obtain⟨h1,h2,h3,h4,h5⟩:=h.b0;refine⟨⟨v2,hv2⟩,h.ref.kept fun k hk=>hf.block k (h.ref.lt k hk).2 (fun hm=>ho k hk (by simp at hm ⊢;omega)),fun p hp=>?_,h.fp.trans hf (by intro i hi;right;simp at hi;rcases hi with rfl|rfl<;>assumption),h1,h2,by omega,by omega,hz⟩;have ha:=h.act p hp;exact(hf.block _ (Ab ha) (fun hm=>hv.off ha (by decide) (by decide) (by decide) (by simp at hm ⊢;omega))).trans ha
end
def sA(w0:World)(b bm n g:Nat)(v4 v6 v7:Value)(w:World):Prop:=
 ∃k T L V base,g+k=n∧v7=.int .i64 (k:Nat)∧v4=.pointer (some ⟨V,0,none⟩)∧G0 1000000 T k∧E9 w0 w b bm L V base (Br 1000000 T) (Cf T) (An T) v6 (An T) []
def sB(w0:World)(b bm L V base B m:Nat)(T:List ByteArray)(x:K0)(u:Value)(v5 v9 v10 v11:Value)(w:World):Prop:=
 ∃R F,R3 1000000 T m x.n x.keep R F∧(F.told=true→x.kind≤5)∧v5=.int .i64 R.e∧v9=.bool F.told∧v11=.int .i64 F.e∧Ae D9 w w0.heap.size v10 F.l∧E9 w0 w b bm L V base R.d R.lg R.l u (An T) [(B,x)]
theorem sC{c:Int}{T:List ByteArray}{m:Nat}{n k:Int}:R3 c T m n k ⟨(Br c T).fuse n k,Cf T,An T,0⟩ ⟨An T,false,0⟩:=⟨Or.inl ⟨rfl,rfl,rfl,by show(0:Int)≠6;decide⟩⟩
structure sD(T:List ByteArray)(m:Nat)(R:Jz)(F:Oz)(T2:List ByteArray):Prop where
 d:R.d.fuse 0 0=Br 1000000 T2
 lg:R.lg=Cf T2
 l:R.l=An T2
 f:F.l=An T2
 e:R.e=F.e
 e6:R.e≠6
 told:R.e=0∨F.told=false
 all:G0 1000000 T2 (m+1)
structure sE(T:List ByteArray)(m:Nat)(R:Jz)(F:Oz)(T2 T3:List ByteArray):Prop where
 told:F.told=true
 e:R.e=6
 off:R.lg.off=true
 name:R.lg.name.size≤1000
 l:R.l=An T
 f:F.l=An T2
 t3:T3=T∨T3=T2
 ok:Ak (R.d.fuse 0 0).on
 op:((R.d.fuse 0 0).on).wOpen Dv=(Br 1000000 T3,0,T3)
 rd:(((R.d.fuse 0 0).on).read Dv).1.size≤100000000
 all:G0 1000000 T3 (m+1)
theorem Ak.onD{d:Dk}(h:Ak d):Ak d.on:=by
 obtain⟨h1,h2,h3,h4,h5,h6,h7,h8,h9,h10⟩:=h;exact⟨h1,h2,h3,h4,h5,h6,Int.le_refl _,(by show(0:Int)≤9223372036854775807;decide),h9,h10⟩
theorem sF{T:List ByteArray}{m:Nat}{n k:Int}{R:Jz}{F:Oz}(h:R3 1000000 T m n k R F)(ha:G0 1000000 T m):(∃T2,sD T m R F T2)∨(∃T2 T3,sE T m R F T2 T3):=by
 rcases h.way with⟨h1,rfl,h3,h4⟩|⟨h1,h2,T2,h3,h4,h5⟩
 ·exact Or.inl ⟨T,rfl,rfl,rfl,h3,rfl,h4,Or.inr h1,ha.more⟩
 ·rcases h5 with⟨d2,rfl,h6,h7⟩|⟨d2,T3,rfl,h6,h7,h8,h9⟩
  ·exact Or.inl ⟨T2,h6,rfl,rfl,h3,h2.symm,(by show(0:Int)≠6;decide),Or.inl rfl,h4⟩
  ·refine Or.inr ⟨T2,T3,h1,rfl,rfl,by show Dv.size≤_;decide,rfl,h3,h6,(h7.fuse (by decide) (by decide) (by decide)).onD,h8,h9,?_⟩
   rcases h6 with rfl|rfl
   ·exact ha.more
   ·exact h4
end
end Go.Proofs.YtkagolpnaicdoaaGreatDoor
