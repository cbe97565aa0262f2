/-
 runs.Sorted, of items that are in order. slices.Chunk of items: a list's parts of so many, as the iterator hands them out; the numbers of the parts. runs.Make: a list's cells, numbered, in parts, each part resolved (fewer than 20 items a part). 'out = append(out, f(part))' in a round, out a list of runs: the class of worlds on the way (for XRegionV).
-/
import Derived.Test.YtkagolpnaicdoaaGreatDoorMMrgD
import Derived.Test.YtkagolpnaicdoaaGreatDoorMBlkC
import Derived.Test.YtkagolpnaicdoaaGreatDoorMStrsOwn
import Derived.Test.YtkagolpnaicdoaaGreatDoorMTabD
import Derived.Test.YtkagolpnaicdoaaGreatDoorMRegionV
import Derived.Test.YtkagolpnaicdoaaGreatDoorMTabG
set_option maxRecDepth 100000
set_option maxHeartbeats 8000000
open Go.Lib renaming hid→a0z
open List renaming setIfInBounds_toArray→a0x,set_cons_succ→a0v,set_cons_zero→a0u,reverse_cons→a1z,reverse_nil→a1x,cons_append→a1w,nil_append→a1u
open Go.IntKind renaming wrap_i64→a0w
open Nat renaming le_trans→a1v
namespace Go.Proofs.YtkagolpnaicdoaaGreatDoor
section
open Go.RowKit Go.Lib
theorem Ds.next{l:List Ad}(h:Ds l){k:Nat}(hk:k+1<l.length):D2 (Ae l k) (Ae l (k+1))<0∧Bj (Ae l k) (Ae l (k+1))=false:=by
 have h1:=List.pairwise_iff_getElem.1 h k (k+1) (by omega) hk (by omega);rw[J9 (by omega),J9 hk];refine⟨?_,?_⟩
 ·rcases Pi l[k] l[k+1] with⟨_,h2⟩|⟨h2,_⟩<;>omega
 ·rw[Wa];omega
theorem tW(w:World)(a:Option Addr)(n cap:Nat)(l:List Ad)(hl:Bz Bq w a n l)(hr:Ds l)(hok:B8 l)(hn:n≤1000000):
  Calls Tryz.prog 268 #[.slice a n cap] w fun e w'=>e=.returned (.bool true)∧Fp [] w w':=by
 have HL:=a0z hl;have HLN:=a0z hl.len;have HR:=a0z hr;have HCMP:=a0z Xz;have HSA:=a0z eS;clear hl hr;go_enter Tryz.func268,Tryz.ntmps268;go_wp2_with (fail)
 go_loopg [6] n (fun g vi wr=>∃k:Nat,g+k=n∧vi=.int .i64 k∧Fp [] w wr)
 case atStart=>exact⟨0,by omega,rfl,Fp.refl _ _⟩
 case round=>
  obtain⟨k,hg,rfl,hf⟩:=hrel;have HF:=a0z hf;clear hf
  by_cases hk:k<n
  ·have zk:(k:Int)<(n:Int):=by omega
   have n1:IntKind.i64.wrap ((k:Int)+1)=((k+1:Nat):Int):=by rw[a0w];omega
   by_cases hk0:k=0
   ·subst hk0;rw[show((0:Nat):Int)=0 from rfl];rw[show((0:Nat):Int)=0 from rfl] at zk;go_wp2_with (fail);refine Dy (by kernel_rfl) (by kernel_rfl) ?_
    iterate 3
     apply A9 rfl rfl rfl
     ·intro a w hC hA K hK
      try have h3:=hA.fr 3 rfl
      try have h9:=hA.eq 0 9 rfl
      try have h10:=hA.eq 1 10 rfl
      simp only[Oper.wp,execOp];go_simp;exact hK _ hC (Fp.refl _ _)
    apply Az 2 11 rfl rfl rfl rfl (by kernel_rfl) rfl rfl;apply Az 2 11 rfl rfl rfl rfl (by kernel_rfl) rfl rfl;apply Az 2 11 rfl rfl rfl rfl (by kernel_rfl) rfl rfl;apply Az 2 11 rfl rfl rfl rfl (by kernel_rfl) rfl rfl;apply Az 2 11 rfl rfl rfl rfl (by kernel_rfl) rfl rfl;apply Az 2 11 rfl rfl rfl rfl (by kernel_rfl) rfl rfl;apply Az 2 11 rfl rfl rfl rfl (by kernel_rfl) rfl rfl;apply Az 2 11 rfl rfl rfl rfl (by kernel_rfl) rfl rfl;apply Az 2 11 rfl rfl rfl rfl (by kernel_rfl) rfl rfl;apply Az 2 11 rfl rfl rfl rfl (by kernel_rfl) rfl rfl;apply Az 2 11 rfl rfl rfl rfl (by kernel_rfl) rfl rfl;apply Az 2 11 rfl rfl rfl rfl (by kernel_rfl) rfl rfl;apply Gi 14 23 rfl rfl rfl rfl (by kernel_rfl) rfl;apply Gi 14 23 rfl rfl rfl rfl (by kernel_rfl) rfl;apply Gi 14 23 rfl rfl rfl rfl (by kernel_rfl) rfl;apply Gi 14 23 rfl rfl rfl rfl (by kernel_rfl) rfl;apply Gi 14 23 rfl rfl rfl rfl (by kernel_rfl) rfl;apply Gi 14 23 rfl rfl rfl rfl (by kernel_rfl) rfl;apply Gi 14 23 rfl rfl rfl rfl (by kernel_rfl) rfl;apply Gi 14 23 rfl rfl rfl rfl (by kernel_rfl) rfl;apply Gi 14 23 rfl rfl rfl rfl (by kernel_rfl) rfl;apply Gi 14 23 rfl rfl rfl rfl (by kernel_rfl) rfl;apply Az 2 11 rfl rfl rfl rfl (by kernel_rfl) rfl rfl;apply A9 rfl rfl rfl
    ·intro a w hC hA K hK;have h11:=hA.eq 2 11 rfl;have h34:=hA.eq 25 34 rfl;simp only[Oper.wp,execOp];go_simp;exact hK _ hC (Fp.refl _ _)
    refine⟨?_,?_⟩
    ·repeat(first|exact trivial|refine Dj _ ?_ |refine⟨fun w1 w2 v _ hf ⟨g,h1,h2⟩=>⟨g,h1,(hf.block g (Ab h2) (by simp)).trans h2⟩,?_⟩)
    ·intro w' hC;simp only[a1z,a1x,a1u,a1w]
     iterate 27 (refine Aq ?_)
     refine A8 ?_;simp only[Am,Act.put,a0x,a0v,a0u];have HF3:=a0z (HF.out.trans hC (by simp));clear hC;go_wp2_with (fail)
     go_roundg (gk-1)
     case measure=>omega
     case rel=>exact⟨0+1,by omega,by simp,HF3.out⟩
   ·have zk0:0<k:=by omega
    have n2:IntKind.i64.wrap ((k:Int)-1)=((k-1:Nat):Int):=by rw[a0w];omega
    obtain⟨p,hp⟩:∃p,k-1=p:=⟨_,rfl⟩
    rw[hp] at n2
    have hkp:p+1=k:=by omega
    have zp:(p:Int)<(n:Int):=by omega
    have hkl:k<l.length:=by rw[←HLN.out];exact hk
    have hpl:p<l.length:=by omega
    obtain⟨b0,o0,e0,_,hck⟩:=HL.out.get hkl;obtain⟨b1,o1,e1,_,hcp⟩:=HL.out.get hpl;subst e0;cases e1;obtain⟨hc1,hs1⟩:=HR.out.next (k:=p) (by omega);rw[hkp] at hc1 hs1
    have hm1:D2 (Ae l p) (Ae l k)= -1:=by
     rcases mK (hok.at p) (hok.at k) with h|h|h<;>omega
    have HCK:Hid (∀w',Fp [] wr w'→Ja w' b0 (o0+k*7) (Ae l k)):=fun w' hf=>by
     rw[J9 hkl];exact Rx (hck w' (HF.out.trans hf (by simp)))
    have HCP:Hid (∀w',Fp [] wr w'→Ja w' b0 (o0+p*7) (Ae l p)):=fun w' hf=>by
     rw[J9 hpl];exact Rx (hcp w' (HF.out.trans hf (by simp)))
    have HC1:=a0z (fun w=>HCMP.out (Ae l p) (Ae l k) w);have HC2:=a0z (fun w=>HSA.out (Ae l p) (Ae l k) w);rw[hs1] at HC2;rw[hm1] at HC1
    obtain⟨x,hx⟩:∃x,Ae l k=x:=⟨_,rfl⟩
    obtain⟨y,hy⟩:∃y,Ae l p=y:=⟨_,rfl⟩
    rw[hx] at HCK HC1 HC2;rw[hy] at HCP HC1 HC2;obtain⟨⟨xr,xc,xt,xs,xd,xv⟩,xp⟩:=x;obtain⟨⟨yr,yc,yt,ys,yd,yv⟩,yp⟩:=y;have HC1':Hid (∀w,Calls Tryz.prog 217 #[.agg #[.string yr,.string yc,.int .u64 yt,.int .u64 ys,.bool yd,.string yv,.int .i64 yp],.agg #[.string xr,.string xc,.int .u64 xt,.int .u64 xs,.bool xd,.string xv,.int .i64 xp]] w fun e w'=>e=.returned (.int .i64 (-1))∧Fp [] w w'):=HC1;have HC2':Hid (∀w,Calls Tryz.prog 219 #[.agg #[.string yr,.string yc,.int .u64 yt,.int .u64 ys,.bool yd,.string yv,.int .i64 yp],.agg #[.string xr,.string xc,.int .u64 xt,.int .u64 xs,.bool xd,.string xv,.int .i64 xp]] w fun e w'=>e=.returned (.bool false)∧Fp [] w w'):=HC2;clear hx hy hm1 hs1 hc1 hck hcp hp hkp HC1 HC2;go_wp2_with (fail);refine Dy (by kernel_rfl) (by kernel_rfl) ?_
    iterate 27
     first|apply A9 rfl rfl rfl|apply I7 2 11 rfl rfl rfl rfl (by kernel_rfl) rfl rfl|apply I7 14 23 rfl rfl rfl rfl (by kernel_rfl) rfl rfl
     ·intro a w hC hA K hK
      try have h3:=hA.fr 3 rfl
      try have h9:=hA.eq 0 9 rfl
      try have h10:=hA.eq 1 10 rfl
      try have h0:=hA.fr 0 rfl
      try have h13:=hA.eq 4 13 rfl
      try have h12:=hA.eq 3 12 rfl
      try have h14:=hA.eq 5 14 rfl
      try have h15:=hA.eq 6 15 rfl
      try have h17:=hA.eq 8 17 rfl
      try have h18:=hA.eq 9 18 rfl
      try have h19:=hA.eq 10 19 rfl
      try have h16:=hA.eq 7 16 rfl
      try have h20:=hA.eq 11 20 rfl
      try have h21:=hA.eq 12 21 rfl
      try have h22:=hA.eq 13 22 rfl
      try have h25:=hA.eq 16 25 rfl
      try have h24:=hA.eq 15 24 rfl
      try have h26:=hA.eq 17 26 rfl
      try have h27:=hA.eq 18 27 rfl
      try have h29:=hA.eq 20 29 rfl
      try have h30:=hA.eq 21 30 rfl
      try have h31:=hA.eq 22 31 rfl
      try have h28:=hA.eq 19 28 rfl
      try have h32:=hA.eq 23 32 rfl
      try have h23:=hA.eq 14 23 rfl
      try have h33:=hA.eq 24 33 rfl
      try have h11:=hA.eq 2 11 rfl
      try have h34:=hA.eq 25 34 rfl
      obtain⟨a0,a1,a2,a3,a4,a5,a6⟩:=HCK.out _ hC;obtain⟨b0,b1,b2,b3,b4,b5,b6⟩:=HCP.out _ hC;simp only at a0 a1 a2 a3 a4 a5 a6 b0 b1 b2 b3 b4 b5 b6;simp only[Oper.wp,execOp];go_simp
      first
      |exact hK _ hC (Fp.refl _ _)
      |first
        |((with_reducible refine(HC1'.out _).mono ?_);rintro e w2 ⟨rfl,hf⟩;exact hK _ (hC.trans hf (by simp)) hf)
        |((with_reducible refine(HC2'.out _).mono ?_);rintro e w2 ⟨rfl,hf⟩;exact hK _ (hC.trans hf (by simp)) hf)
    refine⟨?_,?_⟩
    ·repeat(first|exact trivial|refine Dj _ ?_ |refine⟨fun w1 w2 v _ hf ⟨g,h1,h2⟩=>⟨g,h1,(hf.block g (Ab h2) (by simp)).trans h2⟩,?_⟩)
    ·intro w' hC;simp only[a1z,a1x,a1u,a1w]
     iterate 27 (refine Aq ?_)
     refine A8 ?_;simp only[Am,Act.put,a0x,a0v,a0u];have HF3:=a0z (HF.out.trans hC (by simp));clear hC;go_wp2_with (fail)
     go_roundg (gk-1)
     case measure=>omega
     case rel=>exact⟨k+1,by omega,by simp,HF3.out⟩
  ·have zk:¬(k:Int)<(n:Int):=by omega
   go_wp2_with (fail);go_ret;exact⟨rfl,HF.out⟩
end
section
open Go.RowKit Go.Lib
def C3(sz len i:Nat):List (Nat × Nat):=if i<len∧0<sz then(i,min sz (len-i))::C3 sz len (i+sz) else[]
 termination_by len-i
theorem Nj{sz len i:Nat}(h:i<len)(hs:0<sz):C3 sz len i=(i,min sz (len-i))::C3 sz len (i+sz):=by
 rw[C3];exact if_pos ⟨h,hs⟩
theorem Uw{sz len i:Nat}(h:¬i<len):C3 sz len i=[]:=by
 rw[C3];exact if_neg (fun c=>h c.1)
theorem Ux(sz len i:Nat):(C3 sz len i).length≤len-i:=by
 rw[C3];split
 ·rename_i h;have:=Ux sz len (i+sz);rw[List.length_cons];omega
 ·simp
 termination_by len-i
def Ru(b o:Nat)(x:Nat × Nat):Value:=.slice (some ⟨b,o+x.1*7,none⟩) x.2 x.2
def Uy(b o:Nat)(x:Nat × Nat):Array Value:=#[Ru b o x]
theorem tX(base L n bs bn sz:Nat)(hsz0:0<sz)(hszm:sz<2^63)(w:World)(b o len cap:Nat)(hn:1≤n)(hbs:w.heap[bs]?=some (.cells #[.slice (some ⟨b,o,none⟩) len cap] 162 (0,0)))(hbn:w.heap[bn]?=some (.cells #[.int .i64 sz] 3 (0,0)))
  (hlc:len≤cap)(hcm:len≤1000000000)(hbsl:bs<base)(hbnl:bn<base)(hsL:bs≠L)(hnL:bn≠L)
  (S0:List Nat)(hS0:∀k∈S0,k<base∧k≠bs∧k≠bn)(J Jx:List (Nat × Nat)→World→Prop)
  (hJ:∀s A B,J s A→Fp [] A B→J s B)
  (hy:∀pre x W,(∃post,C3 sz len 0=pre++x::post)→J pre W→YieldAt Fence.wide (n-1) Tryz.prog L (Uy b o x) W fun e W'=>(e=.returned (.bool true)∧J (pre++[x]) W'∧An 221 base (L::S0) W W')∨(e=.returned (.bool false)∧Jx (pre++[x]) W'))
  (h0:J [] w):
  CallsIn Fence.wide n Tryz.prog 215 #[.func (.yield L) #[] #[],.pointer (some ⟨bs,0,none⟩),.pointer (some ⟨bn,0,none⟩)] w fun e w'=>(∃v,e=.returned v)∧((∃xs,xs=C3 sz len 0∧J xs w')∨∃pre,Jx pre w'):=by
 rw[callsIn_wide];have HY:=a0z hy;have HJ:=a0z hJ;have HS0:=a0z hS0;have HBS:=a0z hbs;have HBN:=a0z hbn;clear hy hJ hS0 hbs hbn;go_enter Tryz.func215,Tryz.ntmps215;go_wp2_with (fail)
 go_loopg [4] len (fun g vi wr=>∃(i:Nat) (pre:List (Nat × Nat)),g=len-i∧(i=0∨sz≤i)∧vi=.int .i64 i∧C3 sz len 0=pre++C3 sz len i∧J pre wr∧An 221 base (L::S0) w wr)
 case atStart=>exact⟨0,[],rfl,.inl rfl,rfl,rfl,h0,An.of (Fp.refl [] _) (by simp) |>.mono (by simp)⟩
 case round=>
  obtain⟨i,pre,hg,hi0,rfl,hpre,hj,hf⟩:=hrel;have HFW:=a0z hf;have HJK:=a0z hj;clear hf hj;have hbs1:wr.heap[bs]?=some (.cells #[.slice (some ⟨b,o,none⟩) len cap] 162 (0,0)):=(HFW.out.low _ hbsl (Ab HBS.out) (by intro h;rcases List.mem_cons.1 h with h|h;exact hsL h;exact(HS0.out _ h).2.1 rfl)).trans HBS.out;have hbn1:wr.heap[bn]?=some (.cells #[.int .i64 sz] 3 (0,0)):=(HFW.out.low _ hbnl (Ab HBN.out) (by intro h;rcases List.mem_cons.1 h with h|h;exact hnL h;exact(HS0.out _ h).2.2 rfl)).trans HBN.out;have q0:wr.cell? ⟨bs,0,none⟩=some (.slice (some ⟨b,o,none⟩) len cap):=Aa hbs1 0;have HBS1:=a0z hbs1;have HBN1:=a0z hbn1;clear hbs1 hbn1
  by_cases hlt:i<len
  ·have z0:(i:Int)<(len:Int):=by omega
   have z1:(i:Int)≤(len:Int):=by omega
   have z2:(len:Int)≤(cap:Int):=by omega
   have hci:¬cap=i:=by omega
   rw[Nj hlt hsz0] at hpre
   obtain⟨m,hm⟩:∃m,min sz (len-i)=m:=⟨_,rfl⟩
   have hmin:min (sz:Int) ((len-i:Nat):Int)=(m:Int):=by omega
   have hm0:0<m:=by omega
   rw[hm] at hpre;have HSP:=a0z hpre
   obtain⟨d,hd⟩:∃d,len-i=d:=⟨_,rfl⟩
   rw[hd] at hmin
   obtain⟨e2,he2⟩:∃e2,i+m=e2:=⟨_,rfl⟩
   have n1:IntKind.i64.wrap ((i:Int)+(m:Int))=(e2:Int):=by rw[a0w];omega
   have z3:(e2:Int)≤(cap:Int):=by omega
   have z4:(i:Int)≤(e2:Int):=by omega
   have hde:e2-i=m:=by omega
   have hei:¬e2=i:=by omega
   have n2:IntKind.i64.wrap ((i:Int)+(sz:Int))=((i+sz:Nat):Int):=by rw[a0w];omega
   obtain⟨j,hj2⟩:∃j,i+sz=j:=⟨_,rfl⟩
   rw[hj2] at n2;have HG:=a0z hg;have HE2:=a0z he2;have HJJ:=a0z hj2;clear hg hi0 hpre hm he2 hj2;go_wp2_with (fail);refine Dy (by kernel_rfl) (by kernel_rfl) ?_
   iterate 7
    apply A9 rfl rfl rfl
    ·intro a w hC hA K hK
     try have h2:=hA.fr 2 rfl
     try have h1:=hA.fr 1 rfl
     try have h4:=hA.fr 4 rfl
     try have h14:=hA.eq 1 14 rfl
     try have h15:=hA.eq 2 15 rfl
     try have h16:=hA.eq 3 16 rfl
     try have h13:=hA.eq 0 13 rfl
     try have h17:=hA.eq 4 17 rfl
     try have h18:=hA.eq 5 18 rfl
     have r0:=Aa ((hC.block _ (Ab HBS1.out) (by simp)).trans HBS1.out) 0;have r1:=Aa ((hC.block _ (Ab HBN1.out) (by simp)).trans HBN1.out) 0;simp only[List.getElem?_toArray,List.getElem?_cons_zero] at r0 r1;simp only[Oper.wp,execOp];go_simp;exact hK _ hC (Fp.refl _ _)
   refine⟨?_,?_⟩
   ·repeat(first|exact trivial|refine Dj _ ?_ |refine⟨fun w1 w2 v _ hf ⟨g,h1,h2⟩=>⟨g,h1,(hf.block g (Ab h2) (by simp)).trans h2⟩,?_⟩)
   ·intro w' hC;simp only[a1z,a1x,a1u,a1w]
    iterate 7 (refine Aq ?_)
    refine A8 ?_;simp only[Am,Act.put,a0x,a0v,a0u];have HF1:=a0z (HFW.out.trans (An.of (hC.mono (by simp):Fp [] wr w') (by simp)) (by simp));have HJ1:=a0z (HJ.out _ _ _ HJK.out hC);have hbs2:=(hC.block _ (Ab HBS1.out) (by simp)).trans HBS1.out;have q1:w'.cell? ⟨bs,0,none⟩=some (.slice (some ⟨b,o,none⟩) len cap):=Aa hbs2 0;have HBN2:=a0z ((hC.block _ (Ab HBN1.out) (by simp)).trans HBN1.out);clear hC hbs2;obtain⟨fn,tm,asg,bd,hyl,hrd⟩:=HY.out pre (i,m) w' ⟨_,HSP.out⟩ HJ1.out;have HRD:=a0z hrd;clear hrd;unfold Uy Ru at hyl;simp only at hyl
    go_upto_region 4 with(fail)
    refine(wpIn_wide (n:=n)).1 ?_
    gi_wp2_with (fail)
    (with_reducible refine HRD.out.mono ?_);rintro e W1 (⟨rfl,hj1,hf1⟩|⟨rfl,hjx⟩)
    ·have HJ2:=a0z hj1;have HFW2:=a0z (HF1.out.trans hf1 (by intro i hi;exact hi));have r2:W1.cell? ⟨bn,0,none⟩=some (.int .i64 sz):=Aa ((HFW2.out.low _ hbnl (Ab HBN.out) (by intro h;rcases List.mem_cons.1 h with h|h;exact hnL h;exact(HS0.out _ h).2.2 rfl)).trans HBN.out) 0;clear hj1 hf1
     gi_wp2_with (fail)
     go_wp2_with (fail)
     go_roundg (len-j)
     case measure=>have:=HG.out;have:=HJJ.out;omega
     case rel=>
      refine⟨j,pre++[(i,m)],rfl,.inr (by have:=HJJ.out;omega),rfl,?_,HJ2.out,HFW2.out⟩;have h2:=HSP.out;rw[HJJ.out] at h2;rw[h2,List.append_assoc];rfl
    ·have HJX:=a0z hjx;clear hjx
     gi_wp2_with (fail)
     go_wp2_with (fail);refine bodyPost_ret (results_none rfl _ _ _) rfl ?_;exact⟨⟨_,rfl⟩,Or.inr ⟨_,HJX.out⟩⟩
  ·have z0:¬(i:Int)<(len:Int):=by omega
   rw[Uw hlt,List.append_nil] at hpre;have HP:=a0z hpre;have HG:=a0z hg;clear hpre hg hi0;go_wp2_with (fail);go_end0;refine⟨⟨_,rfl⟩,Or.inl ?_⟩;rw[HP.out];exact HJK.out
theorem tY(w:World)(sz:Nat)(hsz0:0<sz)(v:Value)(a:Option Addr)(len cap:Nat)(hv:v=.slice a len cap):Calls Tryz.prog 140 #[v,.int .i64 sz] w fun e w'=>e=.returned (.func (.func 215) #[] #[.pointer (some ⟨w.heap.size,0,none⟩),.pointer (some ⟨w.heap.size+1,0,none⟩)])∧
  w'.heap[w.heap.size]?=some (.cells #[v] 162 (0,0))∧w'.heap[w.heap.size+1]?=some (.cells #[.int .i64 sz] 3 (0,0))∧Fp [] w w':=by
 subst hv
 have z1:¬(sz:Int)<1:=by omega
 have q:((w.alloc (.cells #[.slice a len cap] 162)).alloc (.cells #[.int .i64 sz] 3)).cell? ⟨w.heap.size+1,0,none⟩=some (.int .i64 sz):=Aa (Aj (by simp) _) 0;go_enter Tryz.func140,Tryz.ntmps140;go_wp2_with (fail);go_ret;exact⟨rfl,C7 (Aj rfl _),Aj (by simp) _,(Fp.alloc _ _).alloc' _⟩
end
section
open Go.RowKit Go.Lib
theorem Ag.keptT{α:Type}{R:G3 α}{W W':World}{base:Nat}{S:List Nat}{v:Value}{l:List α}(h:Ag R W base v l)(hk:An R.e base S W W'):Ag R W' base v l:=by
 refine h.kept fun k hk'=>?_
 rcases h.2 with⟨rfl,_⟩|⟨g,cap,cur,rfl,hg,hh,_⟩
 ·cases hk'
 ·obtain rfl:g=k:=by simpa [Value.ownBlock] using hk'
  exact hk.high _ _ _ hg hh
inductive C9{α β:Type}(P:α→β→Prop):List α→List β→Prop
 |nil:C9 P [] []
 |cons {a b l m}:P a b→C9 P l m→C9 P (a::l) (b::m)
theorem C9.length_eq{α β:Type}{P:α→β→Prop}{l:List α}{m:List β}(h:C9 P l m):l.length=m.length:=by
 induction h with
 |nil=>rfl
 |cons _ _ ih=>simp[ih]
def Uz(W:World)(base:Nat)(vals:List Value)(rs:List (List Ad)):Prop:=C9 (fun v r=>Ag Bq W base v r) vals rs
def E3(W:World)(base:Nat)(v:Value)(rs:List (List Ad)):Prop:=∃vals,Bg 162 W base v vals∧Uz W base vals rs
theorem Ks{α β:Type}{P Q:α→β→Prop}(hpq:∀a b,P a b→Q a b){l:List α}{m:List β}(h:C9 P l m):C9 Q l m:=by
 induction h with
 |nil=>exact .nil
 |cons h _ ih=>exact .cons (hpq _ _ h) ih
theorem Rw{α β:Type}{P:α→β→Prop}{l:List α}{m:List β}(h:C9 P l m){a:α}{b:β}(hab:P a b):C9 P (l++[a]) (m++[b]):=by
 induction h with
 |nil=>exact .cons hab .nil
 |cons h _ ih=>exact .cons h ih
theorem Uz.keptT{W W':World}{base:Nat}{S:List Nat}{vals:List Value}{rs:List (List Ad)}(h:Uz W base vals rs)(hk:An 221 base S W W'):Uz W' base vals rs:=
 Ks (fun _ _ h1=>Ag.keptT h1 hk) h
theorem E3.fp{W W':World}{base:Nat}{S:List Nat}{v:Value}{rs:List (List Ad)}(h:E3 W base v rs)(hf:Fp S W W')(hS:∀k∈S,k<base):E3 W' base v rs:=by
 obtain⟨vals,h1,h2⟩:=h;exact⟨vals,h1.fp hf hS,h2.keptT (An.of hf hS)⟩
theorem E3.nil(W:World)(base:Nat):E3 W base (.slice none 0 0) []:=⟨[],Bg.nil _ _ _,.nil⟩
theorem E3.slice{W:World}{base:Nat}{v:Value}{rs:List (List Ad)}(h:E3 W base v rs):∃a n cap,v=.slice a n cap:=by
 obtain⟨vals,h1,_⟩:=h;obtain⟨⟨a,cap,e⟩,_⟩:=h1.at;exact⟨_,_,_,e⟩
theorem Tryz.infoRun:(Tryz.prog.info? 162).map (fun i=>(i.zero,i.size,i.bytes))=some (some (.slice none 0 0),1,24):=by kernel_rfl
end
section
open Go.RowKit Go.Lib
theorem eT{w:World}{o:Oper}{a:Act}{K:Act→World→Prop}{Q:Exit→Act→World→Prop}(s x:Operand)
  (ho:o.op=.call {callee:=.builtin .append,args:=#[s,x],argTypes:=#[159,159]})(base:Nat)(v:Value)(rs:List (List Ad))(hs:a.eval s=v)(hown:E3 w base v rs)
  (g:Nat)(t:Value)(r:List Ad)(ht:t.oneCell'=true)(htr:Ag Bq w base t r)(hx:a.eval x=.slice (some ⟨g,0,none⟩) 1 1)(hg:w.cell? ⟨g,0,none⟩=some t)(hlen:rs.length+1≤1000000000)(hbase:base≤w.heap.size)
  (h:∀v' w',E3 w' base v' (rs++[r])→Below base w w'→An 221 base [] w w'→K (a.put o.dst v') w'):o.wp Tryz.prog a w K Q:=by
 obtain⟨vals,hv,hr⟩:=hown;have hvl:vals.length=rs.length:=hr.length_eq;obtain⟨i0,hi,hz0,hz1,hz2⟩:=info_parts Tryz.infoRun;refine wp_append_own (P:=Tryz.prog) w s x 159 ho base 162 i0 _ 1 24 Tryz.underlying159 hi hz0 hz1 hz2 rfl (by decide) v vals.length vals hs hv ⟨g,0,none⟩ 1 1 [t] hx rfl ?_ (by intro u hu;simp at hu;subst hu;exact ht) (by unfold maxLen;omega) (by omega) hbase ?_
 ·intro j u hu
  have hj:j=0:=by
   have:=(List.getElem?_eq_some_iff.1 hu).1
   simpa using this
  subst hj;simp at hu;subst hu
  have e1:(⟨g,0,none⟩:Addr).add 0=⟨g,0,none⟩:=by unfold Addr.add;split<;>simp_all
  rw[e1];exact hg
 ·intro v' w' h1 h2 _;have hk:=U6 (show 221≠162 by decide) hv h2 hbase;refine h v' w' ⟨vals++[t],?_,Rw (hr.keptT hk) (Ag.keptT htr hk)⟩ ((Below.refl base w).grown h2 hbase (fun k hk=>(World.ownsRow.lt hv k hk).1)) hk;unfold Bg;rw[List.length_append];exact h1
structure Et(G:List Ad→Prop)(w W0:World)(base cl:Nat)(v:Value)(rs:List (List Ad))(b:Nat→Bool)(vs:Nat→Value)(W:World):Prop where
 own0:b 4=false→E3 W base v rs
 own1:b 4=true→∃r,G r∧E3 W base (vs 4) (rs++[r])
 res:b 2=true→b 4=false→∃r,G r∧Ag Bq W base (vs 2) r
 bld:b 3=true→b 4=false→∃g,vs 3=.slice (some ⟨g,0,none⟩) 1 1∧W.cell? ⟨g,0,none⟩=some (vs 2)
 cel:W.heap[cl]?=some (.cells #[if b 5=true then vs 4 else v] 159 (0,0))
 kept:An 221 base [cl] W0 W
 fp:Fp [] w W
 o54:b 5=true→b 4=true
 o43:b 4=true→b 3=true
 o32:b 3=true→b 2=true
 sz:base≤W.heap.size
variable {G : List Ad → Prop} {w W0 W W2 : World} {base cl : Nat} {v : Value} {rs : List (List Ad)} {b : Nat → Bool} {vs : Nat → Value}
theorem Em{a c:Bool}(h:a=true→c=true)(hc:c=false):a=false:=by cases a<;>cases c<;>simp_all
theorem Et.start{vs:Nat→Value}(ho:E3 W0 base v rs)(hc:W0.heap[cl]?=some (.cells #[v] 159 (0,0)))(hf:Fp [] w W0)(hb:base≤W0.heap.size)(hcl:cl<base):Et G w W0 base cl v rs (fun _=>false) vs {W0 with drawn:=W0.drawn+1}:=
 ⟨fun _=>ho.fp (Fp.drew W0) (by simp),(fun h=>by cases h),(fun h=>by cases h),(fun h=>by cases h),hc,An.of ((Fp.drew W0).mono (by simp)) (by simpa using hcl),hf.trans (Fp.drew W0) (by simp),(fun h=>by cases h),(fun h=>by cases h),(fun h=>by cases h),hb⟩
theorem Et.plain{k:Nat}{x:Value}(h:Et G w W0 base cl v rs b vs W)(hk:k≠2∧k≠3∧k≠4∧k≠5):Et G w W0 base cl v rs (Ao b k) (Bv vs k x) W:=by
 obtain⟨h2,h3,h4,h5⟩:=hk;refine⟨?_,?_,?_,?_,?_,h.kept,h.fp,?_,?_,?_,h.sz⟩
 ·rw[Af h4.symm];exact h.own0
 ·rw[Af h4.symm,Be h4.symm];exact h.own1
 ·rw[Af h4.symm,Af h2.symm,Be h2.symm];exact h.res
 ·rw[Af h4.symm,Af h3.symm,Be h3.symm,Be h2.symm];exact h.bld
 ·rw[Af h5.symm,Be h4.symm];exact h.cel
 ·rw[Af h5.symm,Af h4.symm];exact h.o54
 ·rw[Af h4.symm,Af h3.symm];exact h.o43
 ·rw[Af h3.symm,Af h2.symm];exact h.o32
theorem Et.first(h:Et G w W0 base cl v rs b vs W)(h4:b 4=false):W.heap[cl]?=some (.cells #[v] 159 (0,0)):=by
 have:=h.cel;rw[Em h.o54 h4] at this;exact this
theorem Et.call{r:List Ad}{vr:Value}(h:Et G w W0 base cl v rs b vs W)(h2:b 2=false)(hf:Fp [] W W2)(hg:G r)(hr:Ag Bq W2 W.heap.size vr r):Et G w W0 base cl v rs (Ao b 2) (Bv vs 2 vr) W2:=by
 have h3:=Em h.o32 h2;have h4:=Em h.o43 h3;have h5:=Em h.o54 h4;refine⟨fun _=>(h.own0 h4).fp hf (by simp),fun e=>?_,fun _ _=>⟨r,hg,by rw[Gp];exact hr.mono h.sz⟩,fun e=>?_,?_,?_,h.fp.trans hf (by simp),fun e=>?_,fun e=>?_,fun e=>?_,a1v h.sz hf.size⟩
 ·rw[Af (by decide),h4] at e;cases e
 ·rw[Af (by decide),h3] at e;cases e
 ·rw[Af (by decide),h5];exact(hf.block _ (Ab h.cel) (by simp)).trans (h.first h4)
 ·exact h.kept.trans (An.of (hf.mono (by simp):Fp [] W W2) (by simp)) (by simp)
 ·rw[Af (by decide),h5] at e;cases e
 ·rw[Af (by decide),h4] at e;cases e
 ·exact Ei _ _
theorem Et.build(h:Et G w W0 base cl v rs b vs W)(h2:b 2=true)(h3:b 3=false):Et G w W0 base cl v rs (Ao b 3) (Bv vs 3 (.slice (some ⟨W.heap.size,0,none⟩) 1 1)) (W.alloc (.cells #[vs 2] 162)):=by
 have h4:=Em h.o43 h3;have h5:=Em h.o54 h4;have hf:=Fp.alloc W (.cells #[vs 2] 162);refine⟨fun _=>(h.own0 h4).fp hf (by simp),fun e=>?_,fun _ _=>?_,fun _ _=>⟨W.heap.size,Gp _ _ _,?_⟩,?_,?_,h.fp.trans hf (by simp),fun e=>?_,fun e=>?_,fun e=>?_,a1v h.sz hf.size⟩
 ·rw[Af (by decide),h4] at e;cases e
 ·obtain⟨r,hg,hr⟩:=h.res h2 h4;exact⟨r,hg,by rw[Be (by decide)];exact hr.fp hf (by simp)⟩
 ·rw[Be (by decide),Aa (Aj rfl _)];rfl
 ·rw[Af (by decide),h5];exact C7 (h.first h4)
 ·exact h.kept.trans (An.of (hf.mono (by simp):Fp [] W _) (by simp)) (by simp)
 ·rw[Af (by decide),h5] at e;cases e
 ·rw[Af (by decide),h4] at e;cases e
 ·rw[Af (by decide)];exact h2
theorem Et.append{r:List Ad}{v':Value}(h:Et G w W0 base cl v rs b vs W)(h3:b 3=true)(h4:b 4=false)(hg:G r)(ho:E3 W2 base v' (rs++[r]))(hb:Below base W W2)(hk:An 221 base [] W W2)(hcl:cl<base)(hwb:w.heap.size≤base):
  Et G w W0 base cl v rs (Ao b 4) (Bv vs 4 v') W2:=by
 have h5:=Em h.o54 h4;refine⟨fun e=>?_,fun _=>⟨r,hg,by rw[Gp];exact ho⟩,fun _ e=>?_,fun _ e=>?_,?_,h.kept.trans hk (by simp),h.fp.belowTrans (hb.mono hwb),fun e=>?_,fun _=>?_,fun e=>?_,a1v h.sz hb.size⟩
 ·rw[Ei] at e;cases e
 ·rw[Ei] at e;cases e
 ·rw[Ei] at e;cases e
 ·rw[Af (by decide),h5];exact(hb.block _ hcl).trans (h.first h4)
 ·rw[Af (by decide),h5] at e;cases e
 ·rw[Af (by decide)];exact h3
 ·rw[Af (by decide)];exact h.o32 h3
theorem Et.store(h:Et G w W0 base cl v rs b vs W)(h4:b 4=true)(hcl:cl<base)(hwb:w.heap.size≤cl):Et G w W0 base cl v rs (Ao b 5) (Bv vs 5 undef) (W.setCell ⟨cl,0,none⟩ (vs 4)):=by
 have hf:Fp [cl] W (W.setCell ⟨cl,0,none⟩ (vs 4)):=Fp.setCell W ⟨cl,0,none⟩ (vs 4);refine⟨fun e=>?_,fun _=>?_,fun _ e=>?_,fun _ e=>?_,?_,h.kept.trans (An.of hf (by simpa using hcl)) (by simp),h.fp.trans hf (by intro i hi;right;simp at hi;omega),fun _=>?_,fun e=>?_,fun e=>?_,a1v h.sz hf.size⟩
 ·rw[Af (by decide),h4] at e;cases e
 ·obtain⟨r,hg,hr⟩:=h.own1 h4;exact⟨r,hg,by rw[Be (by decide)];exact hr.fp hf (by simpa using hcl)⟩
 ·rw[Af (by decide),h4] at e;cases e
 ·rw[Af (by decide),h4] at e;cases e
 ·rw[Ei,if_pos rfl,Be (by decide)];exact(Bt h.cel _).trans rfl
 ·rw[Af (by decide)];exact h4
 ·rw[Af (by decide)];exact h.o43 h4
 ·rw[Af (by decide)];rw[Af (by decide)] at e;exact h.o32 e
theorem Et.slice(h:Et G w W0 base cl v rs b vs W)(h4:b 4=true):∃a n c,vs 4=.slice a n c:=by
 obtain⟨r,_,hr⟩:=h.own1 h4;exact hr.slice
end
end Go.Proofs.YtkagolpnaicdoaaGreatDoor
