/-
 slices.CompactFunc of items; clear; Clone; runs.Resolve. runs.Items; slices.Clone of items; runs.Resolve. merge: queues and sources as they lie; first, Len, Less. merge: sources are exchanged; Push, Pop.
-/
import Derived.Test.YtkagolpnaicdoaaGreatDoorPRunA
import Derived.Test.YtkagolpnaicdoaaGreatDoorPTabA
import Derived.Test.YtkagolpnaicdoaaGreatDoorPWalE
import Derived.Test.YtkagolpnaicdoaaGreatDoorPRef20D
import Derived.Test.YtkagolpnaicdoaaGreatDoorPAppG
import Derived.Test.YtkagolpnaicdoaaGreatDoorPTabG
set_option maxRecDepth 100000
set_option maxHeartbeats 8000000
open Go.Lib renaming hid→a0z
open List renaming setIfInBounds_toArray→a0x,set_cons_succ→a0w,set_cons_zero→a0v,reverse_cons→a0u,reverse_nil→a1z,cons_append→a1x,nil_append→a1w,take_succ_eq_append_getElem→a2z,getElem_mem→a2x,length_map→a2w,getD_eq_getElem?_getD→a2v,getElem?_eq_getElem→a2u
open Go.IntKind renaming wrap_i64→a1v
open Nat renaming le_refl→a1u
namespace Go.Proofs.YtkagolpnaicdoaaGreatDoor
section
open Go.RowKit Go.Lib
theorem wV(w:World)(g k n m:Nat)(cur:Array Value)(hh:w.heap[g]?=some (.cells cur 221 (0,0)))(hs:k+n*7≤cur.size)(hn:0<n):∃vs,∀ty,(Builtin.clear_ #[162] ty #[.slice (some ⟨g,k,none⟩) n m]).run Tryz.prog w=.ok (.tuple #[]) (w.setCells g k vs):=by
 obtain⟨Z,hZ⟩:∃Z,(Builtin.zeroCells (Value.agg #[.string ⟨#[]⟩,.string ⟨#[]⟩,.int .u64 0,.int .u64 0,.bool false,.string ⟨#[]⟩,.int .i64 0]).cells n).toList=Z:=⟨_,rfl⟩
 have hlen:Z.length=n*7:=by rw[←hZ];simp[Builtin.zeroCells,Value.cells]
 have hone:∀v∈Z,v.oneCell'=true:=by
  intro v hv;rw[←hZ] at hv;simp only[Builtin.zeroCells,Value.cells] at hv;obtain⟨i,hi⟩:=List.getElem?_of_mem hv;simp only[Array.getElem?_toList] at hi;obtain⟨hlt,hi⟩:=Array.getElem?_eq_some_iff.1 hi;simp at hi;subst hi;have h6:i%7<7:=Nat.mod_lt _ (by decide)
  have key:∀j,j<7→(([Value.string ⟨#[]⟩,.string ⟨#[]⟩,.int .u64 0,.int .u64 0,.bool false,.string ⟨#[]⟩,.int .i64 0]:List Value)[j]?.getD default).oneCell'=true:=by
   intro j h
   match j,h with
   |0,_=>rfl
   |1,_=>rfl
   |2,_=>rfl
   |3,_=>rfl
   |4,_=>rfl
   |5,_=>rfl
   |6,_=>rfl
  exact key _ h6
 refine⟨Z,fun ty=>?_⟩
 have hst:=run_storeCells_cells (P:=Tryz.prog) g k Z 0 w (by
  intro j hj
  rw[Aa hh,Array.getElem?_eq_getElem (by omega)];rfl) (by intro j hj;exact Ar hh _) hone
 simp only[Nat.add_zero] at hst
 obtain⟨m,rfl⟩:∃m,n=m+1:=⟨n-1,by omega⟩
 simp[Builtin.clear_,run_underlying Tryz.underlying162,Tryz.zeroValue221,hZ,hst]
structure L0(l L:List Ad)(k j:Nat):Prop where
 len:L.length=l.length
 kept:L.take k=Ko l j
 rest:∀m,j-1≤m→Ag L m=Ag l m
 lt:k<j
 le:j≤l.length
 pos:1≤k
theorem L0.drop{l L:List Ad}{k j:Nat}(h:L0 l L k j)(hj:j<l.length)(hr:Bl (Ag l j) (Ag l (j-1))=true):L0 l L k (j+1):=by
 have hp:=h.pos;have hl:=h.lt;refine⟨h.len,?_,fun m hm=>h.rest m (by omega),by omega,hj,hp⟩;rw[Si,if_neg,List.append_nil]
 ·exact h.kept
 ·unfold N7;intro e
  rcases of_decide_eq_true e with e|e
  ·omega
  ·exact absurd (hr.symm.trans e) (by decide)
theorem L0.keep{l L:List Ad}{k j:Nat}(h:L0 l L k j)(hj:j<l.length)(hr:Bl (Ag l j) (Ag l (j-1))=false):L0 l (L.set k (Ag l j)) (k+1) (j+1):=by
 have hp:=h.pos;have hl:=h.lt
 have hk:k<L.length:=by rw[h.len];omega
 refine⟨by rw[List.length_set];exact h.len,?_,fun m hm=>?_,by omega,hj,by omega⟩
 ·rw[Si,if_pos (by unfold N7;exact decide_eq_true (Or.inr hr)),←h.kept];rw[a2z (by rw[List.length_set];exact hk),List.getElem_set_self,List.take_set_of_le (a1u _)];rfl
 ·rw[Yp _ _ _ _ hk,if_neg (by omega)];exact h.rest m (by omega)
theorem Vv{l:List Ad}:∀k,k≤l.length→(∀i,i<k→0<i→Bl (Ag l i) (Ag l (i-1))=false)→Ko l k=l.take k
 |0,_,_=>by rw[List.take_zero];rfl
 |k+1,hk,h=>by
  rw[Si,Vv k (by omega) (fun i h1 h2=>h i (by omega) h2),if_pos,a2z (by omega),O5 l (by omega)];unfold N7;refine decide_eq_true ?_
  by_cases e:k=0
  ·exact Or.inl e
  ·exact Or.inr (h k (by omega) (by omega))
theorem L0.start{l:List Ad}{k:Nat}(h0:1≤k)(hk:k<l.length)(hr:Bl (Ag l k) (Ag l (k-1))=true)(h:∀i,i<k→0<i→Bl (Ag l i) (Ag l (i-1))=false):L0 l l k (k+1):=by
 refine⟨rfl,?_,fun _ _=>rfl,by omega,hk,h0⟩;rw[Si,if_neg,List.append_nil,Vv k (by omega) h];unfold N7;intro e
 rcases of_decide_eq_true e with e|e
 ·omega
 ·exact absurd (hr.symm.trans e) (by decide)
theorem wW(w:World)(base:Nat)(v:Value)(l:List Ad)(ho:Ae Bz w base v l)(hn:l.length≤1000000):
  Calls Tryz.prog 218 #[v,.func (.func 219) #[] #[]] w fun e w'=>(∃v',e=.returned v'∧Ae Bz w' base v' (Ko l l.length))∧∃g,(v.ownBlock=some g∨l.length=0)∧Fp [g] w w':=by
 by_cases h2:l.length<2
 ·obtain⟨a,cap,rfl,-,-⟩:=ho.len
  have hci:Ko l l.length=l:=by
   rw[Vv l.length (a1u _) (fun i h1 h2=>by omega),List.take_length]
  rw[hci];have HO:=a0z ho
  have hgb:∃g,((Value.slice a l.length cap).ownBlock=some g∨l.length=0):=by
   by_cases h0:l.length=0
   ·exact⟨0,Or.inr h0⟩
   ·obtain⟨g,cap',cur,e,-⟩:=ho.open (by omega);exact⟨g,Or.inl (by rw[e];rfl)⟩
  obtain⟨g,hg⟩:=hgb;have HG:=a0z hg
  obtain⟨n,hnl⟩:∃n,l.length=n:=⟨_,rfl⟩
  have HN:=a0z hnl;rw[hnl] at HO HG h2 ⊢
  have z:(n:Int)<2:=by omega
  clear ho hci hg hnl hn;go_enter Tryz.func218,Tryz.ntmps218;go_wp2_with (fail);go_ret;exact⟨⟨_,rfl,HO.out⟩,g,HG.out,Fp.refl _ _⟩
 obtain⟨g,cap,cur,rfl,hbg,hh,hncap,-⟩:=ho.open (by omega);have hgw:=Ab hh
 obtain⟨n,hnl⟩:∃n,l.length=n:=⟨_,rfl⟩
 have HN:=a0z hnl;have HO:=a0z ho;rw[hnl] at HO h2 hn hncap;rw[hnl]
 have z:¬(n:Int)<2:=by omega
 have HSA:=a0z iD;clear ho hh hnl;go_enter Tryz.func218,Tryz.ntmps218;go_wp2_with (fail)
 go_loopg [5] n (fun gg vk wr=>∃k:Nat,vk=.int .i64 k∧gg+k=n+1∧1≤k∧k≤n∧(∀i,i<k→0<i→Bl (Ag l i) (Ag l (i-1))=false)∧Fp [] w wr)
 case atStart=>exact⟨1,rfl,by omega,a1u _,by omega,fun i h1 h2=>by omega,Fp.refl _ _⟩
 case round=>
  obtain⟨k,rfl,hgk,hk1,hkn,hall,hf⟩:=hrel;have HALL:=a0z hall;have HF:=a0z hf;clear hall hf
  by_cases hk:k<n
  ·have zk:(k:Int)<(n:Int):=by omega
   have n1:IntKind.i64.wrap ((k:Int)-1)=((k-1:Nat):Int):=by rw[a1v];omega
   have n2:IntKind.i64.wrap ((k:Int)+1)=((k+1:Nat):Int):=by rw[a1v];omega
   obtain⟨p,hp⟩:∃p,k-1=p:=⟨_,rfl⟩
   rw[hp] at n1
   have zp:(p:Int)<(n:Int):=by omega
   have hkl:k<l.length:=by rw[HN.out];exact hk
   have hpl:p<l.length:=by rw[HN.out];omega
   have HCK:Hid (∀w',Fp [] wr w'→Jl w' g (k*7) (Ag l k)):=fun w' hf=>K6 ((HO.out.fp HF.out (by simp)).fp hf (by simp)) hkl
   have HCP:Hid (∀w',Fp [] wr w'→Jl w' g (p*7) (Ag l p)):=fun w' hf=>K6 ((HO.out.fp HF.out (by simp)).fp hf (by simp)) hpl
   have HC1:=a0z (fun w=>HSA.out (Ag l k) (Ag l p) w);have HSTART:=a0z (fun h=>L0.start hk1 hkl h HALL.out)
   have HMORE:Hid (Bl (Ag l k) (Ag l p)=false→∀i,i<k+1→0<i→Bl (Ag l i) (Ag l (i-1))=false):=fun h i h1 h2=>by
    by_cases e:i=k
    ·subst e;rw[hp];exact h
    ·exact HALL.out i (by omega) h2
   rw[hp] at HSTART
   obtain⟨x,hx⟩:∃x,Ag l k=x:=⟨_,rfl⟩
   obtain⟨y,hy⟩:∃y,Ag l p=y:=⟨_,rfl⟩
   rw[hx] at HCK HC1 HSTART HMORE;rw[hy] at HCP HC1 HSTART HMORE
   obtain⟨r,hr⟩:∃r,Bl x y=r:=⟨_,rfl⟩
   rw[hr] at HC1 HSTART HMORE;obtain⟨⟨xr,xc,xt,xs,xd,xv⟩,xp⟩:=x;obtain⟨⟨yr,yc,yt,ys,yd,yv⟩,yp⟩:=y;have HC1':Hid (∀w,Calls Tryz.prog 219 #[.agg #[.string xr,.string xc,.int .u64 xt,.int .u64 xs,.bool xd,.string xv,.int .i64 xp],.agg #[.string yr,.string yc,.int .u64 yt,.int .u64 ys,.bool yd,.string yv,.int .i64 yp]] w fun e w'=>e=.returned (.bool r)∧Fp [] w w'):=HC1;clear hx hy hr HC1 hp;go_wp2_with (fail);refine Df (by kernel_rfl) (by kernel_rfl) ?_
   iterate 11
    apply A9 rfl rfl rfl
    ·intro a w hC hA K hK
     try have h1:=hA.fr 1 rfl
     try have h0:=hA.fr 0 rfl
     try have h5:=hA.fr 5 rfl
     try have h19:=hA.eq 1 19 rfl
     try have h20:=hA.eq 2 20 rfl
     try have h21:=hA.eq 3 21 rfl
     try have h24:=hA.eq 6 24 rfl
     try have h23:=hA.eq 5 23 rfl
     try have h25:=hA.eq 7 25 rfl
     try have h26:=hA.eq 8 26 rfl
     try have h18:=hA.eq 0 18 rfl
     try have h22:=hA.eq 4 22 rfl
     try have h27:=hA.eq 9 27 rfl
     obtain⟨a0,a1,a2,a3,a4,a5,a6⟩:=HCK.out _ hC;obtain⟨b0,b1,b2,b3,b4,b5,b6⟩:=HCP.out _ hC;simp only at a0 a1 a2 a3 a4 a5 a6 b0 b1 b2 b3 b4 b5 b6;simp only[Oper.wp,execOp];go_simp
     first
     |exact hK _ hC (Fp.refl _ _)
     |(with_reducible refine(HC1'.out _).mono ?_);rintro e w2 ⟨rfl,hf⟩;exact hK _ (hC.trans hf (by simp)) hf
   refine⟨?_,?_⟩
   ·repeat(first|exact trivial|refine C3 _ ?_ |refine⟨fun w1 w2 v _ hf ⟨g,h1,h2⟩=>⟨g,h1,(hf.block g (Ab h2) (by simp)).trans h2⟩,?_⟩)
   ·intro w' hC;simp only[a0u,a1z,a1w,a1x]
    iterate 11 (refine Au ?_)
    refine A6 ?_;simp only[Am,Act.put,a0x,a0w,a0v];have HF3:=a0z (HF.out.trans hC (by simp));clear hC;cases r
    ·go_wp2_with (fail)
     go_roundg (gk-1)
     case measure=>omega
     case rel=>exact⟨k+1,by simp,by omega,by omega,by omega,HMORE.out (by first|rfl|trivial),HF3.out⟩
    ·have HC0:=a0z (HSTART.out (by first|rfl|trivial));have HO3:=a0z (HO.out.fp HF3.out (by simp))
     have zkc:(k:Int)≤(cap:Int):=by omega
     have zke:(k:Int)≤(n:Int):=by omega
     have hkc:¬cap=k:=by omega
     obtain⟨w3,hw3⟩:∃x,x=w':=⟨_,rfl⟩
     rw[←hw3] at HF3 HO3 ⊢;clear hw3 HCK HCP HC1' HMORE HSTART;go_wp2_with (fail)
     obtain⟨m,hm⟩:∃m,n-k=m:=⟨_,rfl⟩
     rw[hm]
     have hkm:k+m=n:=by omega
     clear hm
     go_loopg [5,7] m (fun gg vk vj wt=>∃(kk k2:Nat) (L:List Ad),vk=.int .i64 kk∧vj=.int .i64 k2∧gg+k2=m+1∧1≤k2∧k2≤m∧L0 l L kk (k+k2)∧Ae Bz wt base (.slice (some ⟨g,0,none⟩) n cap) L∧Fp [g] w wt)
     case atStart=>exact⟨k,1,l,rfl,rfl,by omega,a1u _,by omega,HC0.out,HO3.out,HF3.out.mono (by simp)⟩
     case round=>
      obtain⟨kk,k2,L,rfl,rfl,hg2,h21,h2m,hci,ho,hf⟩:=hrel;have HCI:=a0z hci;have HO4:=a0z ho;have HF4:=a0z hf;have HLN:Hid (L.length=n):=hci.len.trans HN.out;have hkp:=hci.pos;have hkl2:=hci.lt;clear hci ho hf
      by_cases hk2:k2<m
      ·have z2:(k2:Int)<(m:Int):=by omega
       have n3:IntKind.i64.wrap ((k2:Int)-1)=((k2-1:Nat):Int):=by rw[a1v];omega
       have n4:IntKind.i64.wrap ((k2:Int)+1)=((k2+1:Nat):Int):=by rw[a1v];omega
       have n5:IntKind.i64.wrap ((kk:Int)+1)=((kk+1:Nat):Int):=by rw[a1v];omega
       obtain⟨p,hp⟩:∃p,k2-1=p:=⟨_,rfl⟩
       rw[hp] at n3
       have zp:(p:Int)<(m:Int):=by omega
       have hjL:k+k2<L.length:=by rw[HLN.out];omega
       have hpL:k+p<L.length:=by rw[HLN.out];omega
       have hjl:k+k2<l.length:=by rw[HN.out];omega
       have hkL:kk<L.length:=by rw[HLN.out];omega
       have zkk:(kk:Int)<(n:Int):=by omega
       have HCK:Hid (∀w',Fp [] wr w'→Jl w' g (k*7+k2*7) (Ag l (k+k2))):=fun w' hf=>by
        have h:=K6 (HO4.out.fp hf (by simp)) hjL;rw[HCI.out.rest _ (by omega),Nat.add_mul] at h;exact h
       have HCP:Hid (∀w',Fp [] wr w'→Jl w' g (k*7+p*7) (Ag l (k+p))):=fun w' hf=>by
        have h:=K6 (HO4.out.fp hf (by simp)) hpL;rw[HCI.out.rest _ (by omega),Nat.add_mul] at h;exact h
       have HDR:=a0z (fun h=>HCI.out.drop hjl h);have HKP:=a0z (fun h=>HCI.out.keep hjl h);rw[show k+k2-1=k+p by omega] at HDR HKP;have HC1:=a0z (fun w=>HSA.out (Ag l (k+k2)) (Ag l (k+p)) w)
       obtain⟨x,hx⟩:∃x,Ag l (k+k2)=x:=⟨_,rfl⟩
       obtain⟨y,hy⟩:∃y,Ag l (k+p)=y:=⟨_,rfl⟩
       rw[hx] at HCK HC1 HDR HKP;rw[hy] at HCP HC1 HDR HKP
       obtain⟨r,hr⟩:∃r,Bl x y=r:=⟨_,rfl⟩
       rw[hr] at HC1 HDR HKP;obtain⟨⟨xr,xc,xt,xs,xd,xv⟩,xp⟩:=x;obtain⟨⟨yr,yc,yt,ys,yd,yv⟩,yp⟩:=y;have HC1':Hid (∀w,Calls Tryz.prog 219 #[.agg #[.string xr,.string xc,.int .u64 xt,.int .u64 xs,.bool xd,.string xv,.int .i64 xp],.agg #[.string yr,.string yc,.int .u64 yt,.int .u64 ys,.bool yd,.string yv,.int .i64 yp]] w fun e w'=>e=.returned (.bool r)∧Fp [] w w'):=HC1;clear hx hy hr HC1 hp;go_wp2_with (fail);refine Df (by kernel_rfl) (by kernel_rfl) ?_
       iterate 12
        apply A9 rfl rfl rfl
        ·intro a w hC hA K hK
         try have h1:=hA.fr 1 rfl
         try have h6:=hA.fr 6 rfl
         try have h7:=hA.fr 7 rfl
         try have h39:=hA.eq 1 39 rfl
         try have h40:=hA.eq 2 40 rfl
         try have h41:=hA.eq 3 41 rfl
         try have h44:=hA.eq 6 44 rfl
         try have h43:=hA.eq 5 43 rfl
         try have h45:=hA.eq 7 45 rfl
         try have h46:=hA.eq 8 46 rfl
         try have h38:=hA.eq 0 38 rfl
         try have h42:=hA.eq 4 42 rfl
         try have h47:=hA.eq 9 47 rfl
         try have h48:=hA.eq 10 48 rfl
         obtain⟨a0,a1,a2,a3,a4,a5,a6⟩:=HCK.out _ hC;obtain⟨b0,b1,b2,b3,b4,b5,b6⟩:=HCP.out _ hC;simp only at a0 a1 a2 a3 a4 a5 a6 b0 b1 b2 b3 b4 b5 b6;simp only[Oper.wp,execOp];go_simp
         first
         |exact hK _ hC (Fp.refl _ _)
         |(with_reducible refine(HC1'.out _).mono ?_);rintro e w2 ⟨rfl,hf⟩;exact hK _ (hC.trans hf (by simp)) hf
       refine⟨?_,?_⟩
       ·repeat(first|exact trivial|refine C3 _ ?_ |refine⟨fun w1 w2 v _ hf ⟨g,h1,h2⟩=>⟨g,h1,(hf.block g (Ab h2) (by simp)).trans h2⟩,?_⟩)
       ·intro w' hC;simp only[a0u,a1z,a1w,a1x]
        iterate 12 (refine Au ?_)
        refine A6 ?_;simp only[Am,Act.put,a0x,a0w,a0v];obtain⟨a0,a1,a2,a3,a4,a5,a6⟩:=HCK.out _ hC;simp only at a0 a1 a2 a3 a4 a5 a6;have HF5:=a0z (HF4.out.trans hC (by simp));have HO5:=a0z (HO4.out.fp hC (by simp))
        obtain⟨w5,hw5⟩:∃x,x=w':=⟨_,rfl⟩
        rw[←hw5] at HF5 HO5 a0 a1 a2 a3 a4 a5 a6 ⊢;clear hC hw5 HCK HCP HC1';cases r
        ·obtain⟨c0,c1,c2,c3,c4,c5,c6⟩:=K6 HO5.out hkL;obtain⟨-,hz,-,-,-,-⟩:=HO5.out.elem hkL;have z0:=hz (kk*7);have z1:=hz (kk*7+1);have z2:=hz (kk*7+2);have z3:=hz (kk*7+3);have z4:=hz (kk*7+4);have z5:=hz (kk*7+5);have z6:=hz (kk*7+6);obtain⟨ho6,hf6⟩:=Yw ⟨⟨xr,xc,xt,xs,xd,xv⟩,xp⟩ HO5.out hkL;have HO6:=a0z ho6;have HF6:=a0z (HF5.out.trans hf6 (by simp));have HK6:=a0z (HKP.out (by first|rfl|trivial));clear hz ho6 hf6;go_wp2_with (fail)
         go_roundg (gk-1)
         case measure=>omega
         case rel=>exact⟨kk+1,k2+1,_,by simp,by simp,by omega,by omega,by omega,HK6.out,HO6.out,HF6.out⟩
        ·have HD6:=a0z (HDR.out (by first|rfl|trivial));clear a0 a1 a2 a3 a4 a5 a6;go_wp2_with (fail)
         go_roundg (gk-1)
         case measure=>omega
         case rel=>exact⟨kk,k2+1,L,rfl,by simp,by omega,by omega,by omega,HD6.out,HO5.out,HF5.out⟩
      ·have z2:¬(k2:Int)<(m:Int):=by omega
       have hjn:k+k2=n:=by omega
       have hkn3:kk<n:=by omega
       have HKE:Hid (L.take kk=Ko l n):=by
        have h:=HCI.out.kept;rw[hjn] at h;exact h
       obtain⟨g2,cap2,cur2,e2,hg2',hh2,hn2,hm2,hs2,ht2⟩:=Ae.open HO4.out (by rw[HLN.out];omega);rw[HLN.out] at hn2 e2;cases e2
       have hci:¬cap=kk:=by omega
       have zc:(n:Int)≤(cap:Int):=by omega
       have zi:(kk:Int)≤(n:Int):=by omega
       have zic:(kk:Int)≤(cap:Int):=by omega
       obtain⟨vs,hcl⟩:=wV wr g (kk*7) (n-kk) (cap-kk) cur2 hh2 (by rw[hs2];show kk*7+(n-kk)*7≤cap*7;omega) (by omega);obtain⟨ho5,hf5⟩:=Ae.cut (m:=kk) (p:=kk*7) vs HO4.out (by rw[HLN.out];omega) (by rw[HLN.out];omega) rfl;rw[HKE.out] at ho5;have HF5:=a0z (HF4.out.trans hf5 (by simp));have HO5:=a0z ho5
       obtain⟨w5,hw5⟩:∃w5,wr.setCells g (kk*7) vs=w5:=⟨_,rfl⟩
       rw[hw5] at hcl HF5 HO5;clear ho5 hf5 hw5 hh2 hs2 ht2 hm2;go_wp2_with (fail);go_ret;exact⟨⟨_,rfl,HO5.out⟩,g,Or.inl rfl,HF5.out⟩
  ·have hkn2:k=n:=by omega
   have hci:Ko l n=l:=by
    have:=Vv l.length (a1u _) (fun i h1 h2=>HALL.out i (by have:=HN.out;omega) h2);rw[List.take_length,HN.out] at this;exact this
   have HCI:=a0z hci
   have zk:¬(k:Int)<(n:Int):=by omega
   clear hci;go_wp2_with (fail);go_ret;exact⟨⟨_,rfl,by rw[HCI.out];exact HO.out.fp HF.out (by simp)⟩,g,Or.inl rfl,HF.out.mono (by simp)⟩
end
section
open Go.RowKit Go.Lib
theorem Tryz.infoItm:(Tryz.prog.info? 221).map (fun i=>(i.zero,i.size,i.bytes))=some (some (.agg #[.string ⟨#[]⟩,.string ⟨#[]⟩,.int .u64 0,.int .u64 0,.bool false,.string ⟨#[]⟩,.int .i64 0]),7,80):=by kernel_rfl
theorem Yy{w:World}{ops:Array Oper}{rest:List Oper}{o:Oper}{a:Act}{Q:Exit→Act→World→Prop}(hgd:o.guard=none)(s x:Operand)
  (ho:o.op=.call {callee:=.builtin .append,args:=#[s,x],argTypes:=#[162,162]})(base:Nat)(v:Value)(l:List Ad)(hs:a.eval s=v)(hown:Ae Bz w base v l)
  (ad:Option Addr)(m c:Nat)(ls:List Ad)(hx:a.eval x=.slice ad m c)(hl:Bf Bz w ad m ls)(hnone:ad=none→c=0)(hlen:l.length+ls.length≤1000000000)(hbase:base≤w.heap.size)
  (h:∀v' w',Ae Bz w' base v' (l++ls)→Below base w w'→w.grownBy w' v.ownBlock→wpList Tryz.prog ops Q rest (a.put o.dst v') w'):wpList Tryz.prog ops Q (o::rest) a w:=
 Wh (R:=Bz) 162 Tryz.underlying162 Tryz.infoItm rfl (by decide) hgd s x ho base v l hs hown ad m c ls hx hl hnone hlen hbase h
def Ks(l:List Ac)(k:Nat):List Ad:=(List.range k).map fun i=>⟨l.getD i Bv,i⟩
def Ds(l:List Ac):List Ad:=Ks l l.length
theorem wX(l:List Ac)(k:Nat):Ks l (k+1)=Ks l k++[⟨l.getD k Bv,k⟩]:=by
 unfold Ks;rw[List.range_succ,List.map_append];rfl
theorem O9(l:List Ac)(k:Nat):(Ks l k).length=k:=by simp[Ks]
theorem wY(w:World)(a:Option Addr)(n cap:Nat)(l:List Ac)(hl:Bt w a n l)(hn:n≤1000000):
  Calls Tryz.prog 141 #[.slice a n cap] w fun e w'=>∃v,e=.returned v∧Ae Bz w' w.heap.size v (Ds l)∧Fp [] w w':=by
 have HL:=a0z hl;have HLN:=a0z hl.len;clear hl;go_enter Tryz.func141,Tryz.ntmps141;go_wp2_with (fail)
 go_loopg [2,7] n (fun g va vi wr=>∃(k:Nat) (v:Value),g+k=n∧v=va∧vi=.int .i64 k∧Ae Bz wr w.heap.size v (Ks l k)∧Fp [] w wr)
 case atStart=>exact⟨0,_,by omega,rfl,rfl,Ae.nil _ _,Fp.refl _ _⟩
 case round=>
  obtain⟨k,va,hg,rfl,rfl,ho,hf⟩:=hrel;have HO:=a0z ho;have HF:=a0z hf;clear ho hf;have hbw:w.heap.size≤wr.heap.size:=HF.out.size
  by_cases hk:k<n
  ·have zk:(k:Int)<(n:Int):=by omega
   have hkl:k<l.length:=by rw[←HLN.out];exact hk
   have hsu:=wX l k;have hle:=O9 l k;have HLE:=a0z hle;rw[show l.getD k Bv=l[k] by rw[a2v,a2u hkl];rfl] at hsu;obtain⟨b1,o1,rfl,_,hcells⟩:=P1 HL.out hkl
   obtain⟨c,hc⟩:∃c,l[k]=c:=⟨_,rfl⟩
   rw[hc] at hcells hsu;obtain⟨r,co,ts,sq,de,va2⟩:=c;have HSU:=a0z hsu;obtain⟨q0,q1,q2,q3,q4,q5⟩:=hcells wr HF.out;simp only at q0 q1 q2 q3 q4 q5
   have n1:IntKind.i64.wrap ((k:Int)+1)=((k+1:Nat):Int):=by rw[a1v];omega
   have HFW:Hid (∀o1 o2,Fp [] wr ((wr.alloc o1).alloc o2)):=fun o1 o2=>(Fp.alloc wr o1).alloc' o2
   clear hcells hc hsu hle;go_wp2_with (at_builtin;(refine Yy rfl _ _ rfl w.heap.size _ (Ks l k) rfl (HO.out.fp (HFW.out _ _) (by simp)) _ _ _ [⟨⟨r,co,ts,sq,de,va2⟩,k⟩] rfl (Bf.one (Ai (by simp) _)) (fun h=>by cases h) (by have:=HLE.out;simp;omega) (by simp;omega) ?_);intro v2 w2 ho2 hb2 _;have HO2:=a0z ho2;have HB2:=a0z hb2;clear ho2 hb2)
   go_roundg (gk-1)
   case measure=>omega
   case rel=>exact⟨k+1,_,by omega,rfl,by simp,by rw[HSU.out];exact HO2.out,(HF.out.trans (HFW.out _ _) (by simp)).belowTrans HB2.out⟩
  ·have zk:¬(k:Int)<(n:Int):=by omega
   have hkn:k=l.length:=by have:=HLN.out;omega
   have ho2:=HO.out;rw[hkn] at ho2;have HO2:=a0z ho2;clear ho2;go_wp2_with (fail);go_ret;exact⟨_,rfl,HO2.out,HF.out⟩
theorem iK(w:World)(a:Option Addr)(n cap:Nat)(l:List Ad)(hl:Bf Bz w a n l)(hnone:a=none→cap=0)(hn:n≤1000000):
  Calls Tryz.prog 144 #[.slice a n cap] w fun e w'=>∃v',e=.returned v'∧Ae Bz w' w.heap.size v' l∧Fp [] w w':=by
 have HAT:=a0z hl;have HLN:=a0z hl.len
 have q22:∀(w:World) (a:Option Addr) (n c n' c':Nat),(binOp .eql 162 (.slice a n c) (.slice none n' c')).run Tryz.prog w=.ok (.bool a.isNone) w:=fun w a n c n' c'=>Lib.run_eql_slice_nil w _ _ a n c n' c' Tryz.underlying162
 cases a with
 |none=>
  obtain rfl:=hnone rfl
  have hl0:l=[]:=by
   rcases hl.cells with h|⟨b,o,h,_⟩
   ·exact h
   ·cases h
  subst hl0;have hn0:n=0:=hl.len;subst hn0;clear hl hnone;go_enter Tryz.func144,Tryz.ntmps144;go_wp2_with (fail);go_ret;exact⟨_,rfl,Ae.nil _ _,Fp.refl _ _⟩
 |some ad=>
  clear hl hnone;go_enter Tryz.func144,Tryz.ntmps144;go_wp2_with (at_builtin;refine Yy rfl _ _ rfl w.heap.size _ [] rfl (Ae.made w _ (a1u _)) _ _ _ l rfl (HAT.out.fp (Fp.alloc _ _)) (by intro h;cases h) (by have:=HLN.out;simp;omega) (by simp) ?_;intro v2 w2 hown2 hbel2 _;have HO2:=a0z hown2;have HB2:=a0z hbel2;clear hown2 hbel2);go_ret;exact⟨_,rfl,HO2.out,(Fp.alloc w _).belowTrans (HB2.out.mono (by simp))⟩
end
section
open Go.RowKit Go.Lib
theorem wZ(x y:Ad)(w:World):Calls Tryz.prog 327 #[Jk x,Jk y] w fun e w'=>e=.returned (.int .i64 (D6 x y))∧Fp [] w w':=by
 have HC:=a0z (fun w=>Yv x y w)
 obtain⟨r,hr⟩:∃r,D6 x y=r:=⟨_,rfl⟩
 rw[hr] at HC ⊢;clear hr;obtain⟨⟨xr,xc,xt,xs,xd,xv⟩,xp⟩:=x;obtain⟨⟨yr,yc,yt,ys,yd,yv⟩,yp⟩:=y;have HC1':Hid (∀w,Calls Tryz.prog 217 #[.agg #[.string xr,.string xc,.int .u64 xt,.int .u64 xs,.bool xd,.string xv,.int .i64 xp],.agg #[.string yr,.string yc,.int .u64 yt,.int .u64 ys,.bool yd,.string yv,.int .i64 yp]] w fun e w'=>e=.returned (.int .i64 r)∧Fp [] w w'):=HC;clear HC;unfold Jk K5;simp only;go_enter Tryz.func327,Tryz.ntmps327;go_wp2_with (fail);(with_reducible refine(HC1'.out _).mono ?_);rintro e w1 ⟨rfl,hf⟩;have HF:=a0z hf;clear hf;go_wp2_with (fail);go_ret;exact⟨rfl,((Fp.alloc _ _).alloc' _).trans HF.out (by simp)⟩
structure Is where
 q:Nat
 at_:Nat
def iL(s:Is):List Value:=[.pointer (some ⟨s.q,0,none⟩),.int .i64 s.at_]
def Hf:Gx Is where
 e:=331
 k:=2
 enc:=iL
 len:=fun _=>rfl
 pos:=by decide
 one:=fun x v hv=>by
  unfold iL at hv;simp only[List.mem_cons,List.not_mem_nil,or_false] at hv
  rcases hv with rfl|rfl<;>rfl
abbrev Ei:=Is × List Ad
def E2(x:Ei):Ad:=x.2.headD H8
structure Ib(W:World)(base q:Nat)(r:List Ad):Prop where
 ge:base≤q
 ex:∃b o n cap,W.heap[q]?=some (.cells #[.slice (some ⟨b,o,none⟩) n cap] 329 (0,0))∧n≤cap∧b<base∧Bf Bz W (some ⟨b,o,none⟩) n r
theorem Ib.tf{base base' q:Nat}{D:List TypeId}{S:List Nat}{W W':World}{r:List Ad}(h:Ib W base q r)(ht:Tf base' D S W W')(hb:base≤base')(hD:329∉D)(hS:∀k∈S,base≤k∧k≠q):Ib W' base q r:=by
 obtain⟨b,o,n,cap,h1,h2,h3,h4⟩:=h.ex;exact⟨h.ge,b,o,n,cap,ht.cells h1 (fun hm=>(hS _ hm).2 rfl) hD,h2,h3,h4.tf ht (by omega) (fun hm=>by have:=(hS _ hm).1;omega)⟩
theorem Ib.fp{base q:Nat}{W W':World}{r:List Ad}(h:Ib W base q r)(hf:Fp [] W W'):Ib W' base q r:=h.tf (Tf.of (base:=base) (D:=[]) hf) (a1u _) (by simp) (by simp)
theorem Yz(W:World)(base q:Nat)(x:Ad)(r:List Ad)(h:Ib W base q (x::r)):
  Calls Tryz.prog 273 #[.pointer (some ⟨q,0,none⟩)] W fun e W'=>e=.returned (Jk x)∧Fp [] W W':=by
 obtain⟨b,o,n,cap,h1,h2,h3,h4⟩:=h.ex;have hn:n=r.length+1:=h4.len;obtain⟨b',o',e,_,hc⟩:=h4.get (i:=0) (by simp);cases e;have HC:=a0z hc;have H1:=a0z h1
 have zn:(0:Int)<(n:Int):=by omega
 have HX:=a0z (fun W' (hf:Fp [] W W')=>S7 (hc W' hf));simp only[Nat.zero_mul,Nat.add_zero,List.getElem_cons_zero] at HX;obtain⟨⟨xr,xc,xt,xs,xd,xv⟩,xp⟩:=x
 have hq:∀X:Obj,(W.alloc X).cell? ⟨q,0,none⟩=some (.slice (some ⟨b,o,none⟩) n cap):=fun X=>Aa (Cb h1) 0
 obtain⟨a0,a1,a2,a3,a4,a5,a6⟩:=HX.out _ (Fp.alloc W (.cells #[.string ⟨#[]⟩,.string ⟨#[]⟩,.int .u64 0,.int .u64 0,.bool false,.string ⟨#[]⟩,.int .i64 0] 221));simp only at a0 a1 a2 a3 a4 a5 a6;clear h1 h2 h3 h4 hn hc h;unfold Jk K5;simp only;go_enter Tryz.func273,Tryz.ntmps273;go_wp2_with (fail);refine bodyPost_ret (v:=.agg #[.string xr,.string xc,.int .u64 xt,.int .u64 xs,.bool xd,.string xv,.int .i64 xp]) (by simp[results,Tryz.results273,go_sem]) rfl ⟨rfl,Fp.alloc _ _⟩
theorem Y0(W:World)(a:Option Addr)(n cap:Nat):Calls Tryz.prog 271 #[.slice a n cap] W fun e W'=>e=.returned (.int .i64 n)∧W'=W:=by
 go_enter Tryz.func271,Tryz.ntmps271;go_wp2_with (fail);go_ret;exact⟨rfl,rfl⟩
theorem Y1{W:World}{base g n cap i:Nat}{l:List Is}(h:Ae Hf W base (.slice (some ⟨g,0,none⟩) n cap) l)(hi:i<l.length):∀W',Fp [] W W'→W'.cell? ⟨g,i*2,none⟩=some (.pointer (some ⟨l[i].q,0,none⟩))∧W'.cell? ⟨g,i*2+1,none⟩=some (.int .i64 l[i].at_):=by
 intro W' hf;obtain⟨h1,-,-,h2,-,-⟩:=h.elem hi;have h3:=h1.fp hf h2 (by simp);exact⟨h3 0 _ rfl,h3 1 _ rfl⟩
theorem Qw{l:List Ad}(h:0<l.length):∃r,l=l.headD H8::r:=by
 cases l with
 |nil=>simp at h
 |cons x r=>exact⟨r,rfl⟩
theorem xA(W:World)(base:Nat)(v:Value)(es:List Ei)(i j:Nat)(hown:Ae Hf W base v (es.map (·.1)))(hqs:∀x∈es,Ib W base x.1.q x.2∧0<x.2.length)(hok:∀x∈es,Ci x.2)(hi:i<es.length)(hj:j<es.length)(hn:es.length≤1000000):
  Calls Tryz.prog 323 #[v,.int .i64 i,.int .i64 j] W fun e W'=>∃b,e=.returned (.bool b)∧(b=true→A7 (E2 es[i]) (E2 es[j]))∧(b=false→A7 (E2 es[j]) (E2 es[i]))∧Fp [] W W':=by
 obtain⟨g,cap,cur,rfl,hg,hh,-⟩:=hown.open (by rw[a2w];omega);have HCI:=a0z (Y1 hown (i:=i) (by rw[a2w];exact hi));have HCJ:=a0z (Y1 hown (i:=j) (by rw[a2w];exact hj));simp only[List.getElem_map] at HCI HCJ;have hgw:=Ab hh
 obtain⟨n,hln⟩:∃n,(es.map (·.1)).length=n:=⟨_,rfl⟩
 rw[hln];rw[a2w] at hln;obtain⟨h1,h1'⟩:=hqs _ (a2x hi);obtain⟨h2,h2'⟩:=hqs _ (a2x hj)
 have ox:B6 (E2 es[i]):=by
  obtain⟨r,hr⟩:=Qw h1';have:=hok _ (a2x hi);rw[hr] at this;exact this _ List.mem_cons_self
 have oy:B6 (E2 es[j]):=by
  obtain⟨r,hr⟩:=Qw h2';have:=hok _ (a2x hj);rw[hr] at this;exact this _ List.mem_cons_self
 obtain⟨rx,hrx⟩:=Qw h1';obtain⟨ry,hry⟩:=Qw h2';rw[hrx] at h1;rw[hry] at h2;have HFX:=a0z (fun W' (hf:Fp [] W W')=>Yz W' base _ _ _ (h1.fp hf));have HFY:=a0z (fun W' (hf:Fp [] W W')=>Yz W' base _ _ _ (h2.fp hf));have ex:es[i].2.headD H8=E2 es[i]:=rfl;have ey:es[j].2.headD H8=E2 es[j]:=rfl;rw[ex] at HFX;rw[ey] at HFY;clear h1 h2 h1' h2' hrx hry ex ey
 obtain⟨x,hx⟩:∃x,E2 es[i]=x:=⟨_,rfl⟩
 obtain⟨y,hy⟩:∃y,E2 es[j]=y:=⟨_,rfl⟩
 obtain⟨sx,hsx⟩:∃s,es[i].1=s:=⟨_,rfl⟩
 obtain⟨sy,hsy⟩:∃s,es[j].1=s:=⟨_,rfl⟩
 rw[hx] at ox HFX ⊢;rw[hy] at oy HFY ⊢;rw[hsx] at HCI HFX;rw[hsy] at HCJ HFY;obtain⟨qx,ax⟩:=sx;obtain⟨qy,ay⟩:=sy;simp only at HCI HCJ HFX HFY;have HCMP:=a0z (fun w=>wZ x y w);have HNEG:=a0z (Yl ox oy)
 obtain⟨r,hr⟩:∃r,D6 x y=r:=⟨_,rfl⟩
 rw[hr] at HCMP HNEG;have HR:=a0z hr
 have zi:(i:Int)<(n:Int):=by omega
 have zj:(j:Int)<(n:Int):=by omega
 have hn2:n≤1000000:=by omega
 clear hown hqs hok hh hln hx hy hsx hsy hr hg hi hj hn ox oy
 obtain⟨X,hX⟩:∃X,Jk x=X:=⟨_,rfl⟩
 obtain⟨Y,hY⟩:∃Y,Jk y=Y:=⟨_,rfl⟩
 rw[hX] at HFX HCMP;rw[hY] at HFY HCMP;clear hX hY;go_enter Tryz.func323,Tryz.ntmps323;go_wp2_with (fail);refine Df (by kernel_rfl) (by kernel_rfl) ?_
 iterate 14
  apply A9 rfl rfl rfl
  ·intro a w hC hA K hK
   try have h0:=hA.fr 0 rfl
   try have h1:=hA.fr 1 rfl
   try have h8:=hA.eq 0 8 rfl
   try have h9:=hA.eq 1 9 rfl
   try have h10:=hA.eq 2 10 rfl
   try have h11:=hA.eq 3 11 rfl
   try have h12:=hA.eq 4 12 rfl
   try have h2:=hA.fr 2 rfl
   try have h14:=hA.eq 6 14 rfl
   try have h15:=hA.eq 7 15 rfl
   try have h16:=hA.eq 8 16 rfl
   try have h17:=hA.eq 9 17 rfl
   try have h18:=hA.eq 10 18 rfl
   try have h13:=hA.eq 5 13 rfl
   try have h19:=hA.eq 11 19 rfl
   try have h20:=hA.eq 12 20 rfl
   obtain⟨p0,p1⟩:=HCI.out _ hC;obtain⟨r0,r1⟩:=HCJ.out _ hC;simp only[Oper.wp,execOp];go_simp
   first
   |exact hK _ hC (Fp.refl _ _)
   |(with_reducible refine(HFX.out _ hC).mono ?_);rintro e w2 ⟨rfl,hf⟩;exact hK _ (hC.trans hf (by simp)) hf
   |(with_reducible refine(HFY.out _ hC).mono ?_);rintro e w2 ⟨rfl,hf⟩;exact hK _ (hC.trans hf (by simp)) hf
   |(with_reducible refine(HCMP.out _).mono ?_);rintro e w2 ⟨rfl,hf⟩;exact hK _ (hC.trans hf (by simp)) hf
 refine⟨?_,?_⟩
 ·repeat(first|exact trivial|refine C3 _ ?_ |refine⟨fun w1 w2 v _ hf ⟨g,h1,h2⟩=>⟨g,h1,(hf.block g (Ab h2) (by simp)).trans h2⟩,?_⟩)
 ·intro w' hC;simp only[a0u,a1z,a1w,a1x]
  iterate 14 (refine Au ?_)
  refine A6 ?_;simp only[Am,Act.put,a0x,a0w,a0v];have HF:=a0z hC;clear hC
  have HCI2:Hid (∀W2,Fp [] w' W2→W2.cell? ⟨g,i*2,none⟩=some (.pointer (some ⟨qx,0,none⟩))∧W2.cell? ⟨g,i*2+1,none⟩=some (.int .i64 ax)):=fun W2 h=>HCI.out W2 (HF.out.trans h (by simp))
  have HCJ2:Hid (∀W2,Fp [] w' W2→W2.cell? ⟨g,j*2,none⟩=some (.pointer (some ⟨qy,0,none⟩))∧W2.cell? ⟨g,j*2+1,none⟩=some (.int .i64 ay)):=fun W2 h=>HCJ.out W2 (HF.out.trans h (by simp))
  by_cases h0:r<0
  ·have z0:decide (r<0)=true:=decide_eq_true h0;go_wp2_with (fail);refine Df (by kernel_rfl) (by kernel_rfl) ?_
   iterate 3
    apply A9 rfl rfl rfl
    ·intro a w hC hA K hK
     try have h7:=hA.fr 7 rfl
     try have h21:=hA.eq 0 21 rfl
     try have h22:=hA.eq 1 22 rfl
     simp only[Oper.wp,execOp];go_simp;exact hK _ hC (Fp.refl _ _)
   apply A1 2 23 rfl rfl rfl rfl (by kernel_rfl) rfl rfl;apply A1 2 23 rfl rfl rfl rfl (by kernel_rfl) rfl rfl;apply A1 2 23 rfl rfl rfl rfl (by kernel_rfl) rfl rfl;apply Gp 5 26 rfl rfl rfl rfl (by kernel_rfl) rfl;apply Gp 5 26 rfl rfl rfl rfl (by kernel_rfl) rfl;apply Gp 5 26 rfl rfl rfl rfl (by kernel_rfl) rfl;apply Gp 5 26 rfl rfl rfl rfl (by kernel_rfl) rfl;apply Gp 5 26 rfl rfl rfl rfl (by kernel_rfl) rfl;apply Gp 5 26 rfl rfl rfl rfl (by kernel_rfl) rfl;apply Gp 5 26 rfl rfl rfl rfl (by kernel_rfl) rfl;apply Gp 5 26 rfl rfl rfl rfl (by kernel_rfl) rfl;apply Gp 5 26 rfl rfl rfl rfl (by kernel_rfl) rfl;apply Gp 5 26 rfl rfl rfl rfl (by kernel_rfl) rfl;apply Gp 5 26 rfl rfl rfl rfl (by kernel_rfl) rfl;apply A1 2 23 rfl rfl rfl rfl (by kernel_rfl) rfl rfl
   iterate 2
    apply A9 rfl rfl rfl
    ·intro a w hC hA K hK
     try have h23:=hA.eq 2 23 rfl
     try have h38:=hA.eq 17 38 rfl
     try have h39:=hA.eq 18 39 rfl
     simp only[Oper.wp,execOp];go_simp;exact hK _ hC (Fp.refl _ _)
   refine⟨?_,?_⟩
   ·repeat(first|exact trivial|refine C3 _ ?_ |refine⟨fun w1 w2 v _ hf ⟨g,h1,h2⟩=>⟨g,h1,(hf.block g (Ab h2) (by simp)).trans h2⟩,?_⟩)
   ·intro w' hC;simp only[a0u,a1z,a1w,a1x]
    iterate 20 (refine Au ?_)
    refine A6 ?_;simp only[Am,Act.put,a0x,a0w,a0v];have HF2:=a0z (HF.out.trans hC (by simp));clear hC;go_wp2_with (fail);go_ret;exact⟨true,rfl,fun _=>(by unfold A7;rw[HR.out];omega),(fun h=>by cases h),HF2.out⟩
  ·have z0:decide (r<0)=false:=decide_eq_false h0
   by_cases h1:r=0
   ·have z1:(r==0)=true:=by simpa using h1
    have HZ:=a0z h1;clear h1;go_wp2_with (fail);refine Df (by kernel_rfl) (by kernel_rfl) ?_
    iterate 20
     first|apply A9 rfl rfl rfl|apply Jj 2 23 rfl rfl rfl rfl (by kernel_rfl) rfl rfl|apply Jj 5 26 rfl rfl rfl rfl (by kernel_rfl) rfl rfl
     ·intro a w hC hA K hK
      try have h7:=hA.fr 7 rfl
      try have h21:=hA.eq 0 21 rfl
      try have h22:=hA.eq 1 22 rfl
      try have h24:=hA.eq 3 24 rfl
      try have h25:=hA.eq 4 25 rfl
      try have h0:=hA.fr 0 rfl
      try have h1:=hA.fr 1 rfl
      try have h27:=hA.eq 6 27 rfl
      try have h28:=hA.eq 7 28 rfl
      try have h29:=hA.eq 8 29 rfl
      try have h30:=hA.eq 9 30 rfl
      try have h2:=hA.fr 2 rfl
      try have h32:=hA.eq 11 32 rfl
      try have h33:=hA.eq 12 33 rfl
      try have h34:=hA.eq 13 34 rfl
      try have h35:=hA.eq 14 35 rfl
      try have h31:=hA.eq 10 31 rfl
      try have h36:=hA.eq 15 36 rfl
      try have h26:=hA.eq 5 26 rfl
      try have h37:=hA.eq 16 37 rfl
      try have h23:=hA.eq 2 23 rfl
      try have h38:=hA.eq 17 38 rfl
      try have h39:=hA.eq 18 39 rfl
      obtain⟨p0,p1⟩:=HCI2.out _ hC;obtain⟨r0,r1⟩:=HCJ2.out _ hC;simp only[Oper.wp,execOp];go_simp;exact hK _ hC (Fp.refl _ _)
    refine⟨?_,?_⟩
    ·repeat(first|exact trivial|refine C3 _ ?_ |refine⟨fun w1 w2 v _ hf ⟨g,h1,h2⟩=>⟨g,h1,(hf.block g (Ab h2) (by simp)).trans h2⟩,?_⟩)
    ·intro w' hC;simp only[a0u,a1z,a1w,a1x]
     iterate 20 (refine Au ?_)
     refine A6 ?_;simp only[Am,Act.put,a0x,a0w,a0v];have HF2:=a0z (HF.out.trans hC (by simp));clear hC;go_wp2_with (fail);go_ret;exact⟨_,rfl,fun _=>(by unfold A7;rw[HR.out,HZ.out];omega),fun _=>(by unfold A7;rw[HNEG.out,HZ.out];omega),HF2.out⟩
   ·have z1:(r==0)=false:=by simpa using h1
    have hr1:0<r:=by omega
    clear h1;go_wp2_with (fail);refine Df (by kernel_rfl) (by kernel_rfl) ?_
    iterate 6
     first|apply A9 rfl rfl rfl|apply Jj 2 23 rfl rfl rfl rfl (by kernel_rfl) rfl rfl
     ·intro a w hC hA K hK
      try have h7:=hA.fr 7 rfl
      try have h21:=hA.eq 0 21 rfl
      try have h22:=hA.eq 1 22 rfl
      try have h24:=hA.eq 3 24 rfl
      try have h25:=hA.eq 4 25 rfl
      simp only[Oper.wp,execOp];go_simp;exact hK _ hC (Fp.refl _ _)
    apply A1 5 26 rfl rfl rfl rfl (by kernel_rfl) rfl rfl;apply A1 5 26 rfl rfl rfl rfl (by kernel_rfl) rfl rfl;apply A1 5 26 rfl rfl rfl rfl (by kernel_rfl) rfl rfl;apply A1 5 26 rfl rfl rfl rfl (by kernel_rfl) rfl rfl;apply A1 5 26 rfl rfl rfl rfl (by kernel_rfl) rfl rfl;apply A1 5 26 rfl rfl rfl rfl (by kernel_rfl) rfl rfl;apply A1 5 26 rfl rfl rfl rfl (by kernel_rfl) rfl rfl;apply A1 5 26 rfl rfl rfl rfl (by kernel_rfl) rfl rfl;apply A1 5 26 rfl rfl rfl rfl (by kernel_rfl) rfl rfl;apply A1 5 26 rfl rfl rfl rfl (by kernel_rfl) rfl rfl;apply A1 5 26 rfl rfl rfl rfl (by kernel_rfl) rfl rfl
    iterate 3
     first|apply Jj 2 23 rfl rfl rfl rfl (by kernel_rfl) rfl rfl|apply A9 rfl rfl rfl
     ·intro a w hC hA K hK
      try have h26:=hA.eq 5 26 rfl
      try have h37:=hA.eq 16 37 rfl
      try have h23:=hA.eq 2 23 rfl
      try have h38:=hA.eq 17 38 rfl
      try have h39:=hA.eq 18 39 rfl
      simp only[Oper.wp,execOp];go_simp;exact hK _ hC (Fp.refl _ _)
    refine⟨?_,?_⟩
    ·repeat(first|exact trivial|refine C3 _ ?_ |refine⟨fun w1 w2 v _ hf ⟨g,h1,h2⟩=>⟨g,h1,(hf.block g (Ab h2) (by simp)).trans h2⟩,?_⟩)
    ·intro w' hC;simp only[a0u,a1z,a1w,a1x]
     iterate 20 (refine Au ?_)
     refine A6 ?_;simp only[Am,Act.put,a0x,a0w,a0v];have HF2:=a0z (HF.out.trans hC (by simp));clear hC;go_wp2_with (fail);go_ret;exact⟨false,rfl,(fun h=>by cases h),fun _=>(by unfold A7;rw[HNEG.out];omega),HF2.out⟩
end
section
open Go.RowKit Go.Lib
def Nc:Is:=⟨0,0⟩
structure iM(w:World)(b o:Nat)(x:Is):Prop where
 c0:w.cell? ⟨b,o,none⟩=some (.pointer (some ⟨x.q,0,none⟩))
 c1:w.cell? ⟨b,o+1,none⟩=some (.int .i64 x.at_)
theorem Ta{w:World}{base g n cap i:Nat}{l:List Is}(h:Ae Hf w base (.slice (some ⟨g,0,none⟩) n cap) l)(hi:i<l.length):iM w g (i*2) (l.getD i Nc):=by
 rw[a2v,a2u hi];have h1:=(h.elem hi).1;exact⟨h1 0 _ rfl,h1 1 _ rfl⟩
theorem Y2{w:World}{base g n cap i:Nat}{l:List Is}{x:Is}(h:Ae Hf w base (.slice (some ⟨g,0,none⟩) n cap) l)(hi:i<l.length)(hx:l.getD i Nc=x):iM w g (i*2) x:=by
 rw[←hx];exact Ta h hi
theorem xB(W:World)(base g n cap i j:Nat)(l:List Is)(ho:Ae Hf W base (.slice (some ⟨g,0,none⟩) n cap) l)(hi:i<l.length)(hj:j<l.length):
  Calls Tryz.prog 326 #[.slice (some ⟨g,0,none⟩) n cap,.int .i64 i,.int .i64 j] W fun e W'=>e=.returned (.tuple #[])∧Ae Hf W' base (.slice (some ⟨g,0,none⟩) n cap) (Gj Nc l i j)∧Fp [g] W W':=by
 have HO:=a0z ho
 have hm:l.length=n:=by
  obtain⟨a',c',e,-⟩:=ho.len;cases e;rfl
 obtain⟨-,-,-,hgw,-,-⟩:=ho.elem hi
 have zi:(i:Int)<(n:Int):=by omega
 have zj:(j:Int)<(n:Int):=by omega
 obtain⟨xx,hx⟩:∃x,l.getD i Nc=x:=⟨_,rfl⟩
 obtain⟨yy,hy⟩:∃y,l.getD j Nc=y:=⟨_,rfl⟩
 have HX:=a0z hx;have HY:=a0z hy;obtain⟨xq,xa⟩:=xx;obtain⟨yq,ya⟩:=yy;have HM:=a0z hm;clear ho hm hx hy
 by_cases hij:i=j
 ·subst hij;have hxy:=HX.out.symm.trans HY.out;cases hxy;rw[aE];go_enter Tryz.func326,Tryz.ntmps326;go_wp2_with (fail);refine F9 (fun bb w'=>Ae Hf w' base (.slice (some ⟨g,0,none⟩) n cap) l∧Fp [g] W w') (fun _ _=>True) (by kernel_rfl) (by kernel_rfl) ⟨HO.out.kept (fun k hk=>rfl),(Fp.drew _).mono (by simp)⟩ ?_
  iterate 13
   apply Bi (fun _ _ h=>h) rfl rfl rfl
   ·intro b a w hC hA K hK
    try have h0:=hA.fr 0 rfl
    try have h1:=hA.fr 1 rfl
    try have h2:=hA.fr 2 rfl
    try have h10:=hA.eq 4 10 rfl
    try have h11:=hA.eq 5 11 rfl
    try have h12:=hA.eq 6 12 rfl
    try have h14:=hA.eq 8 14 rfl
    try have h15:=hA.eq 9 15 rfl
    try have h16:=hA.eq 10 16 rfl
    try have h6:=hA.eq 0 6 rfl
    try have h7:=hA.eq 1 7 rfl
    obtain⟨b0,b1⟩:=Y2 hC.1 hi HX.out;simp only at b0 b1;simp only[Oper.wp,execOp];go_simp;exact hK _ hC trivial
  apply Gw (fun _=>True) rfl rfl
  ·intro b a w hC hA K hK;have h18:=hA.eq 12 18 rfl;have h13:=hA.eq 7 13 rfl;obtain⟨a0,a1⟩:=Ta hC.1 hi;obtain⟨-,hz,-,-,-,-⟩:=hC.1.elem hi;have z0:=hz (i*2);have z1:=hz (i*2+1);have hst:=hC.1.setSame (d:=Nc) hi;rw[HX.out] at hst;have hst2:=And.intro hst.1 (hC.2.trans hst.2 (by intro k hk;exact Or.inl hk));clear hz hst;simp only[Oper.wp,execOp];go_simp;exact hK undef _ hst2 trivial trivial
  apply Bi (fun _ _ h=>h) rfl rfl rfl
  ·intro b a w hC hA K hK;have h8:=hA.eq 2 8 rfl;have h9:=hA.eq 3 9 rfl;simp only[Oper.wp,execOp];go_simp;exact hK _ hC trivial
  apply Gw (fun _=>True) rfl rfl
  ·intro b a w hC hA K hK;have h19:=hA.eq 14 19 rfl;have h17:=hA.eq 11 17 rfl;obtain⟨a0,a1⟩:=Ta hC.1 hi;obtain⟨-,hz,-,-,-,-⟩:=hC.1.elem hi;have z0:=hz (i*2);have z1:=hz (i*2+1);have hst:=hC.1.setSame (d:=Nc) hi;rw[HX.out] at hst;have hst2:=And.intro hst.1 (hC.2.trans hst.2 (by intro k hk;exact Or.inl hk));clear hz hst;simp only[Oper.wp,execOp];go_simp;exact hK undef _ hst2 trivial trivial
  refine⟨?_,?_⟩
  ·refine⟨fun _ _ _ _ _=>trivial,?_⟩;refine Cc _ ?_;refine⟨fun _ _ _ _ _=>trivial,?_⟩
   iterate 13 refine Cc _ ?_
   exact trivial
  ·intro w' bb hC hbb;simp only[a0u,a1z,a1w,a1x]
   iterate 13 (refine Au ?_)
   refine Az ?_;intro v13 u13
   iterate 1 (refine Au ?_)
   refine Az ?_;intro v15 u15;refine A6 ?_;simp only[Am,Act.put,a0x,a0w,a0v];have HC:=a0z hC;clear hC hbb u13 u15;go_wp2_with (fail);go_end0;exact⟨rfl,HC.out.1,HC.out.2⟩
 ·go_enter Tryz.func326,Tryz.ntmps326;go_wp2_with (fail);refine F9 (fun bb w'=>Jp Hf Nc W base g n cap l i j 13 15 bb w') (fun _ _=>True) (by kernel_rfl) (by kernel_rfl) ⟨HO.out.kept (fun k hk=>rfl),(Fp.drew _).mono (by simp)⟩ ?_
  iterate 7
   apply Bi (fun _ _ h=>h.plain (by decide)) rfl rfl rfl
   ·intro b a w hC hA K hK
    try have h0:=hA.fr 0 rfl
    try have h1:=hA.fr 1 rfl
    try have h2:=hA.fr 2 rfl
    try have h10:=hA.eq 4 10 rfl
    try have h11:=hA.eq 5 11 rfl
    simp only[Oper.wp,execOp];go_simp;exact hK _ hC trivial
  apply Bi (fun _ _ h=>h.plain (by decide)) rfl rfl rfl
  ·intro b a w hC hA K hK;have h12:=hA.eq 6 12 rfl;obtain⟨b0,b1⟩:=Y2 (hC.first (hA.post 13 (by kernel_rfl)) (hA.post 15 (by kernel_rfl))) hj HY.out;simp only at b0 b1;simp only[Oper.wp,execOp];go_simp;exact hK _ hC trivial
  iterate 3
   apply Bi (fun _ _ h=>h.plain (by decide)) rfl rfl rfl
   ·intro b a w hC hA K hK
    try have h0:=hA.fr 0 rfl
    try have h1:=hA.fr 1 rfl
    try have h14:=hA.eq 8 14 rfl
    try have h15:=hA.eq 9 15 rfl
    simp only[Oper.wp,execOp];go_simp;exact hK _ hC trivial
  apply Bi (fun _ _ h=>h.plain (by decide)) rfl rfl rfl
  ·intro b a w hC hA K hK;have h16:=hA.eq 10 16 rfl;obtain⟨a0,a1⟩:=Y2 (hC.first (hA.post 13 (by kernel_rfl)) (hA.post 15 (by kernel_rfl))) hi HX.out;simp only at a0 a1;simp only[Oper.wp,execOp];go_simp;exact hK _ hC trivial
  apply Bi (fun _ _ h=>h.plain (by decide)) rfl rfl rfl
  ·intro b a w hC hA K hK;have h6:=hA.eq 0 6 rfl;have h7:=hA.eq 1 7 rfl;simp only[Oper.wp,execOp];go_simp;exact hK _ hC trivial
  apply Gw (fun _=>True) rfl rfl
  ·intro b a w hC hA K hK;have h18:=hA.eq 12 18 rfl;have h13:=hA.eq 7 13 rfl;obtain⟨a0,a1⟩:=Ta hC.own (i:=i) (by rw[Py];exact hi);obtain⟨-,hz,-,-,-,-⟩:=hC.own.elem (i:=i) (by rw[Py];exact hi);have z0:=hz (i*2);have z1:=hz (i*2+1);have hst:=hC.storeP hA.self hi hij (by decide);rw[HY.out] at hst;clear hz;simp only[Oper.wp,execOp];go_simp;exact hK undef _ hst trivial trivial
  apply Bi (fun _ _ h=>h.plain (by decide)) rfl rfl rfl
  ·intro b a w hC hA K hK;have h8:=hA.eq 2 8 rfl;have h9:=hA.eq 3 9 rfl;simp only[Oper.wp,execOp];go_simp;exact hK _ hC trivial
  apply Gw (fun _=>True) rfl rfl
  ·intro b a w hC hA K hK;have h19:=hA.eq 14 19 rfl;have h17:=hA.eq 11 17 rfl;obtain⟨a0,a1⟩:=Ta hC.own (i:=j) (by rw[Py];exact hj);obtain⟨-,hz,-,-,-,-⟩:=hC.own.elem (i:=j) (by rw[Py];exact hj);have z0:=hz (j*2);have z1:=hz (j*2+1);have hst:=hC.storeQ hA.self hj (by decide);rw[HX.out] at hst;clear hz;simp only[Oper.wp,execOp];go_simp;exact hK undef _ hst trivial trivial
  refine⟨?_,?_⟩
  ·refine⟨fun _ _ _ _ _=>trivial,?_⟩;refine Cc _ ?_;refine⟨fun _ _ _ _ _=>trivial,?_⟩
   iterate 13 refine Cc _ ?_
   exact trivial
  ·intro w' bb hC hbb;simp only[a0u,a1z,a1w,a1x]
   iterate 13 (refine Au ?_)
   refine Az ?_;intro v13 u13
   iterate 1 (refine Au ?_)
   refine Az ?_;intro v15 u15;refine A6 ?_;simp only[Am,Act.put,a0x,a0w,a0v];have ho4:=hC.own;rw[lO (hbb 13 (by simp)) (hbb 15 (by simp))] at ho4;have HO4:=a0z ho4;have HF4:=a0z hC.fp;clear hC hbb ho4 u13 u15;go_wp2_with (fail);go_end0;exact⟨rfl,HO4.out,HF4.out⟩
end
end Go.Proofs.YtkagolpnaicdoaaGreatDoor
