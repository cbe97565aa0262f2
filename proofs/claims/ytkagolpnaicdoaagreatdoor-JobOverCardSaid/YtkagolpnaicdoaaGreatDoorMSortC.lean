/-
 slices.CompactFunc of items; clear; Clone; runs.Resolve. runs.Items; slices.Clone of items; runs.Resolve.
-/
import Derived.Test.YtkagolpnaicdoaaGreatDoorMSortA
import Derived.Test.YtkagolpnaicdoaaGreatDoorMTabA
set_option maxRecDepth 100000
set_option maxHeartbeats 8000000
open Go.Lib renaming hid→a0z
open Go.IntKind renaming wrap_i64→a0x
open Nat renaming le_refl→a0w
open List renaming take_succ_eq_append_getElem→a0v,setIfInBounds_toArray→a0u
namespace Go.Proofs.YtkagolpnaicdoaaGreatDoor
section
open Go.RowKit Go.Lib
theorem uH(w:World)(g k n m:Nat)(cur:Array Value)(hh:w.heap[g]?=some (.cells cur 221 (0,0)))(hs:k+n*7≤cur.size)(hn:0<n):∃vs,∀ty,(Builtin.clear_ #[162] ty #[.slice (some ⟨g,k,none⟩) n m]).run Tryz.prog w=.ok (.tuple #[]) (w.setCells g k vs):=by
 obtain⟨Z,hZ⟩:∃Z,(Builtin.zeroCells (Value.agg #[.string ⟨#[]⟩,.string ⟨#[]⟩,.int .u64 0,.int .u64 0,.bool false,.string ⟨#[]⟩,.int .i64 0]).cells n).toList=Z:=⟨_,rfl⟩
 have hlen:Z.length=n*7:=by rw[←hZ];simp[Builtin.zeroCells,Value.cells]
 have hone:∀v∈Z,v.oneCell'=true:=by
  intro v hv;rw[←hZ] at hv;simp only[Builtin.zeroCells,Value.cells] at hv;obtain⟨i,hi⟩:=List.getElem?_of_mem hv;simp only[Array.getElem?_toList] at hi;obtain⟨hlt,hi⟩:=Array.getElem?_eq_some_iff.1 hi;simp at hi;subst hi;have h6:i%7<7:=Nat.mod_lt _ (by decide)
  have key:∀j,j<7→(([Value.string ⟨#[]⟩,.string ⟨#[]⟩,.int .u64 0,.int .u64 0,.bool false,.string ⟨#[]⟩,.int .i64 0]:List Value)[j]?.getD default).oneCell'=true:=by
   intro j h
   match j,h with
   |0,_=>rfl
   |1,_=>rfl
   |2,_=>rfl
   |3,_=>rfl
   |4,_=>rfl
   |5,_=>rfl
   |6,_=>rfl
  exact key _ h6
 refine⟨Z,fun ty=>?_⟩
 have hst:=run_storeCells_cells (P:=Tryz.prog) g k Z 0 w (by
  intro j hj
  rw[Aa hh,Array.getElem?_eq_getElem (by omega)];rfl) (by intro j hj;exact Aw hh _) hone
 simp only[Nat.add_zero] at hst
 obtain⟨m,rfl⟩:∃m,n=m+1:=⟨n-1,by omega⟩
 simp[Builtin.clear_,run_underlying Tryz.underlying162,Tryz.zeroValue221,hZ,hst]
structure Lc(l L:List Ad)(k j:Nat):Prop where
 len:L.length=l.length
 kept:L.take k=Jh l j
 rest:∀m,j-1≤m→Ae L m=Ae l m
 lt:k<j
 le:j≤l.length
 pos:1≤k
theorem Lc.drop{l L:List Ad}{k j:Nat}(h:Lc l L k j)(hj:j<l.length)(hr:Bj (Ae l j) (Ae l (j-1))=true):Lc l L k (j+1):=by
 have hp:=h.pos;have hl:=h.lt;refine⟨h.len,?_,fun m hm=>h.rest m (by omega),by omega,hj,hp⟩;rw[Q0,if_neg,List.append_nil]
 ·exact h.kept
 ·unfold M7;intro e
  rcases of_decide_eq_true e with e|e
  ·omega
  ·exact absurd (hr.symm.trans e) (by decide)
theorem Lc.keep{l L:List Ad}{k j:Nat}(h:Lc l L k j)(hj:j<l.length)(hr:Bj (Ae l j) (Ae l (j-1))=false):Lc l (L.set k (Ae l j)) (k+1) (j+1):=by
 have hp:=h.pos;have hl:=h.lt
 have hk:k<L.length:=by rw[h.len];omega
 refine⟨by rw[List.length_set];exact h.len,?_,fun m hm=>?_,by omega,hj,by omega⟩
 ·rw[Q0,if_pos (by unfold M7;exact decide_eq_true (Or.inr hr)),←h.kept];rw[a0v (by rw[List.length_set];exact hk),List.getElem_set_self,List.take_set_of_le (a0w _)];rfl
 ·rw[We _ _ _ _ hk,if_neg (by omega)];exact h.rest m (by omega)
theorem U3{l:List Ad}:∀k,k≤l.length→(∀i,i<k→0<i→Bj (Ae l i) (Ae l (i-1))=false)→Jh l k=l.take k
 |0,_,_=>by rw[List.take_zero];rfl
 |k+1,hk,h=>by
  rw[Q0,U3 k (by omega) (fun i h1 h2=>h i (by omega) h2),if_pos,a0v (by omega),Nx l (by omega)];unfold M7;refine decide_eq_true ?_
  by_cases e:k=0
  ·exact Or.inl e
  ·exact Or.inr (h k (by omega) (by omega))
theorem Lc.start{l:List Ad}{k:Nat}(h0:1≤k)(hk:k<l.length)(hr:Bj (Ae l k) (Ae l (k-1))=true)(h:∀i,i<k→0<i→Bj (Ae l i) (Ae l (i-1))=false):Lc l l k (k+1):=by
 refine⟨rfl,?_,fun _ _=>rfl,by omega,hk,h0⟩;rw[Q0,if_neg,List.append_nil,U3 k (by omega) h];unfold M7;intro e
 rcases of_decide_eq_true e with e|e
 ·omega
 ·exact absurd (hr.symm.trans e) (by decide)
theorem uI(w:World)(base:Nat)(v:Value)(l:List Ad)(ho:Ag Bq w base v l)(hn:l.length≤1000000):
  Calls Tryz.prog 218 #[v,.func (.func 219) #[] #[]] w fun e w'=>(∃v',e=.returned v'∧Ag Bq w' base v' (Jh l l.length))∧∃g,(v.ownBlock=some g∨l.length=0)∧Fp [g] w w':=by
 by_cases h2:l.length<2
 ·obtain⟨a,cap,rfl,-,-⟩:=ho.len
  have hci:Jh l l.length=l:=by
   rw[U3 l.length (a0w _) (fun i h1 h2=>by omega),List.take_length]
  rw[hci];have HO:=a0z ho
  have hgb:∃g,((Value.slice a l.length cap).ownBlock=some g∨l.length=0):=by
   by_cases h0:l.length=0
   ·exact⟨0,Or.inr h0⟩
   ·obtain⟨g,cap',cur,e,-⟩:=ho.open (by omega);exact⟨g,Or.inl (by rw[e];rfl)⟩
  obtain⟨g,hg⟩:=hgb;have HG:=a0z hg
  obtain⟨n,hnl⟩:∃n,l.length=n:=⟨_,rfl⟩
  have HN:=a0z hnl;rw[hnl] at HO HG h2 ⊢
  have z:(n:Int)<2:=by omega
  clear ho hci hg hnl hn;go_enter Tryz.func218,Tryz.ntmps218;go_wp2_with (fail);go_ret;exact⟨⟨_,rfl,HO.out⟩,g,HG.out,Fp.refl _ _⟩
 obtain⟨g,cap,cur,rfl,hbg,hh,hncap,-⟩:=ho.open (by omega);have hgw:=Ab hh
 obtain⟨n,hnl⟩:∃n,l.length=n:=⟨_,rfl⟩
 have HN:=a0z hnl;have HO:=a0z ho;rw[hnl] at HO h2 hn hncap;rw[hnl]
 have z:¬(n:Int)<2:=by omega
 have HSA:=a0z eS;clear ho hh hnl;go_enter Tryz.func218,Tryz.ntmps218;go_wp2_with (fail)
 go_loopg [5] n (fun gg vk wr=>∃k:Nat,vk=.int .i64 k∧gg+k=n+1∧1≤k∧k≤n∧(∀i,i<k→0<i→Bj (Ae l i) (Ae l (i-1))=false)∧Fp [] w wr)
 case atStart=>exact⟨1,rfl,by omega,a0w _,by omega,fun i h1 h2=>by omega,Fp.refl _ _⟩
 case round=>
  obtain⟨k,rfl,hgk,hk1,hkn,hall,hf⟩:=hrel;have HALL:=a0z hall;have HF:=a0z hf;clear hall hf
  by_cases hk:k<n
  ·have zk:(k:Int)<(n:Int):=by omega
   have n1:IntKind.i64.wrap ((k:Int)-1)=((k-1:Nat):Int):=by rw[a0x];omega
   have n2:IntKind.i64.wrap ((k:Int)+1)=((k+1:Nat):Int):=by rw[a0x];omega
   obtain⟨p,hp⟩:∃p,k-1=p:=⟨_,rfl⟩
   rw[hp] at n1
   have zp:(p:Int)<(n:Int):=by omega
   have hkl:k<l.length:=by rw[HN.out];exact hk
   have hpl:p<l.length:=by rw[HN.out];omega
   have HCK:Hid (∀w',Fp [] wr w'→Ja w' g (k*7) (Ae l k)):=fun w' hf=>Kt ((HO.out.fp HF.out (by simp)).fp hf (by simp)) hkl
   have HCP:Hid (∀w',Fp [] wr w'→Ja w' g (p*7) (Ae l p)):=fun w' hf=>Kt ((HO.out.fp HF.out (by simp)).fp hf (by simp)) hpl
   have HC1:=a0z (fun w=>HSA.out (Ae l k) (Ae l p) w);have HSTART:=a0z (fun h=>Lc.start hk1 hkl h HALL.out)
   have HMORE:Hid (Bj (Ae l k) (Ae l p)=false→∀i,i<k+1→0<i→Bj (Ae l i) (Ae l (i-1))=false):=fun h i h1 h2=>by
    by_cases e:i=k
    ·subst e;rw[hp];exact h
    ·exact HALL.out i (by omega) h2
   rw[hp] at HSTART
   obtain⟨x,hx⟩:∃x,Ae l k=x:=⟨_,rfl⟩
   obtain⟨y,hy⟩:∃y,Ae l p=y:=⟨_,rfl⟩
   rw[hx] at HCK HC1 HSTART HMORE;rw[hy] at HCP HC1 HSTART HMORE
   obtain⟨r,hr⟩:∃r,Bj x y=r:=⟨_,rfl⟩
   rw[hr] at HC1 HSTART HMORE;obtain⟨⟨xr,xc,xt,xs,xd,xv⟩,xp⟩:=x;obtain⟨⟨yr,yc,yt,ys,yd,yv⟩,yp⟩:=y;have HC1':Hid (∀w,Calls Tryz.prog 219 #[.agg #[.string xr,.string xc,.int .u64 xt,.int .u64 xs,.bool xd,.string xv,.int .i64 xp],.agg #[.string yr,.string yc,.int .u64 yt,.int .u64 ys,.bool yd,.string yv,.int .i64 yp]] w fun e w'=>e=.returned (.bool r)∧Fp [] w w'):=HC1;clear hx hy hr HC1 hp;go_wp2_with (fail);refine Dy (by kernel_rfl) (by kernel_rfl) ?_
   iterate 11
    apply A9 rfl rfl rfl
    ·intro a w hC hA K hK
     try have h1:=hA.fr 1 rfl
     try have h0:=hA.fr 0 rfl
     try have h5:=hA.fr 5 rfl
     try have h19:=hA.eq 1 19 rfl
     try have h20:=hA.eq 2 20 rfl
     try have h21:=hA.eq 3 21 rfl
     try have h24:=hA.eq 6 24 rfl
     try have h23:=hA.eq 5 23 rfl
     try have h25:=hA.eq 7 25 rfl
     try have h26:=hA.eq 8 26 rfl
     try have h18:=hA.eq 0 18 rfl
     try have h22:=hA.eq 4 22 rfl
     try have h27:=hA.eq 9 27 rfl
     obtain⟨a0,a1,a2,a3,a4,a5,a6⟩:=HCK.out _ hC;obtain⟨b0,b1,b2,b3,b4,b5,b6⟩:=HCP.out _ hC;simp only at a0 a1 a2 a3 a4 a5 a6 b0 b1 b2 b3 b4 b5 b6;simp only[Oper.wp,execOp];go_simp
     first
     |exact hK _ hC (Fp.refl _ _)
     |(with_reducible refine(HC1'.out _).mono ?_);rintro e w2 ⟨rfl,hf⟩;exact hK _ (hC.trans hf (by simp)) hf
   refine⟨?_,?_⟩
   ·repeat(first|exact trivial|refine Dj _ ?_ |refine⟨fun w1 w2 v _ hf ⟨g,h1,h2⟩=>⟨g,h1,(hf.block g (Ab h2) (by simp)).trans h2⟩,?_⟩)
   ·intro w' hC;simp only[List.reverse_cons,List.reverse_nil,List.nil_append,List.cons_append]
    iterate 11 (refine Aq ?_)
    refine A8 ?_;simp only[Am,Act.put,a0u,List.set_cons_succ,List.set_cons_zero];have HF3:=a0z (HF.out.trans hC (by simp));clear hC;cases r
    ·go_wp2_with (fail)
     go_roundg (gk-1)
     case measure=>omega
     case rel=>exact⟨k+1,by simp,by omega,by omega,by omega,HMORE.out (by first|rfl|trivial),HF3.out⟩
    ·have HC0:=a0z (HSTART.out (by first|rfl|trivial));have HO3:=a0z (HO.out.fp HF3.out (by simp))
     have zkc:(k:Int)≤(cap:Int):=by omega
     have zke:(k:Int)≤(n:Int):=by omega
     have hkc:¬cap=k:=by omega
     obtain⟨w3,hw3⟩:∃x,x=w':=⟨_,rfl⟩
     rw[←hw3] at HF3 HO3 ⊢;clear hw3 HCK HCP HC1' HMORE HSTART;go_wp2_with (fail)
     obtain⟨m,hm⟩:∃m,n-k=m:=⟨_,rfl⟩
     rw[hm]
     have hkm:k+m=n:=by omega
     clear hm
     go_loopg [5,7] m (fun gg vk vj wt=>∃(kk k2:Nat) (L:List Ad),vk=.int .i64 kk∧vj=.int .i64 k2∧gg+k2=m+1∧1≤k2∧k2≤m∧Lc l L kk (k+k2)∧Ag Bq wt base (.slice (some ⟨g,0,none⟩) n cap) L∧Fp [g] w wt)
     case atStart=>exact⟨k,1,l,rfl,rfl,by omega,a0w _,by omega,HC0.out,HO3.out,HF3.out.mono (by simp)⟩
     case round=>
      obtain⟨kk,k2,L,rfl,rfl,hg2,h21,h2m,hci,ho,hf⟩:=hrel;have HCI:=a0z hci;have HO4:=a0z ho;have HF4:=a0z hf;have HLN:Hid (L.length=n):=hci.len.trans HN.out;have hkp:=hci.pos;have hkl2:=hci.lt;clear hci ho hf
      by_cases hk2:k2<m
      ·have z2:(k2:Int)<(m:Int):=by omega
       have n3:IntKind.i64.wrap ((k2:Int)-1)=((k2-1:Nat):Int):=by rw[a0x];omega
       have n4:IntKind.i64.wrap ((k2:Int)+1)=((k2+1:Nat):Int):=by rw[a0x];omega
       have n5:IntKind.i64.wrap ((kk:Int)+1)=((kk+1:Nat):Int):=by rw[a0x];omega
       obtain⟨p,hp⟩:∃p,k2-1=p:=⟨_,rfl⟩
       rw[hp] at n3
       have zp:(p:Int)<(m:Int):=by omega
       have hjL:k+k2<L.length:=by rw[HLN.out];omega
       have hpL:k+p<L.length:=by rw[HLN.out];omega
       have hjl:k+k2<l.length:=by rw[HN.out];omega
       have hkL:kk<L.length:=by rw[HLN.out];omega
       have zkk:(kk:Int)<(n:Int):=by omega
       have HCK:Hid (∀w',Fp [] wr w'→Ja w' g (k*7+k2*7) (Ae l (k+k2))):=fun w' hf=>by
        have h:=Kt (HO4.out.fp hf (by simp)) hjL;rw[HCI.out.rest _ (by omega),Nat.add_mul] at h;exact h
       have HCP:Hid (∀w',Fp [] wr w'→Ja w' g (k*7+p*7) (Ae l (k+p))):=fun w' hf=>by
        have h:=Kt (HO4.out.fp hf (by simp)) hpL;rw[HCI.out.rest _ (by omega),Nat.add_mul] at h;exact h
       have HDR:=a0z (fun h=>HCI.out.drop hjl h);have HKP:=a0z (fun h=>HCI.out.keep hjl h);rw[show k+k2-1=k+p by omega] at HDR HKP;have HC1:=a0z (fun w=>HSA.out (Ae l (k+k2)) (Ae l (k+p)) w)
       obtain⟨x,hx⟩:∃x,Ae l (k+k2)=x:=⟨_,rfl⟩
       obtain⟨y,hy⟩:∃y,Ae l (k+p)=y:=⟨_,rfl⟩
       rw[hx] at HCK HC1 HDR HKP;rw[hy] at HCP HC1 HDR HKP
       obtain⟨r,hr⟩:∃r,Bj x y=r:=⟨_,rfl⟩
       rw[hr] at HC1 HDR HKP;obtain⟨⟨xr,xc,xt,xs,xd,xv⟩,xp⟩:=x;obtain⟨⟨yr,yc,yt,ys,yd,yv⟩,yp⟩:=y;have HC1':Hid (∀w,Calls Tryz.prog 219 #[.agg #[.string xr,.string xc,.int .u64 xt,.int .u64 xs,.bool xd,.string xv,.int .i64 xp],.agg #[.string yr,.string yc,.int .u64 yt,.int .u64 ys,.bool yd,.string yv,.int .i64 yp]] w fun e w'=>e=.returned (.bool r)∧Fp [] w w'):=HC1;clear hx hy hr HC1 hp;go_wp2_with (fail);refine Dy (by kernel_rfl) (by kernel_rfl) ?_
       iterate 12
        apply A9 rfl rfl rfl
        ·intro a w hC hA K hK
         try have h1:=hA.fr 1 rfl
         try have h6:=hA.fr 6 rfl
         try have h7:=hA.fr 7 rfl
         try have h39:=hA.eq 1 39 rfl
         try have h40:=hA.eq 2 40 rfl
         try have h41:=hA.eq 3 41 rfl
         try have h44:=hA.eq 6 44 rfl
         try have h43:=hA.eq 5 43 rfl
         try have h45:=hA.eq 7 45 rfl
         try have h46:=hA.eq 8 46 rfl
         try have h38:=hA.eq 0 38 rfl
         try have h42:=hA.eq 4 42 rfl
         try have h47:=hA.eq 9 47 rfl
         try have h48:=hA.eq 10 48 rfl
         obtain⟨a0,a1,a2,a3,a4,a5,a6⟩:=HCK.out _ hC;obtain⟨b0,b1,b2,b3,b4,b5,b6⟩:=HCP.out _ hC;simp only at a0 a1 a2 a3 a4 a5 a6 b0 b1 b2 b3 b4 b5 b6;simp only[Oper.wp,execOp];go_simp
         first
         |exact hK _ hC (Fp.refl _ _)
         |(with_reducible refine(HC1'.out _).mono ?_);rintro e w2 ⟨rfl,hf⟩;exact hK _ (hC.trans hf (by simp)) hf
       refine⟨?_,?_⟩
       ·repeat(first|exact trivial|refine Dj _ ?_ |refine⟨fun w1 w2 v _ hf ⟨g,h1,h2⟩=>⟨g,h1,(hf.block g (Ab h2) (by simp)).trans h2⟩,?_⟩)
       ·intro w' hC;simp only[List.reverse_cons,List.reverse_nil,List.nil_append,List.cons_append]
        iterate 12 (refine Aq ?_)
        refine A8 ?_;simp only[Am,Act.put,a0u,List.set_cons_succ,List.set_cons_zero];obtain⟨a0,a1,a2,a3,a4,a5,a6⟩:=HCK.out _ hC;simp only at a0 a1 a2 a3 a4 a5 a6;have HF5:=a0z (HF4.out.trans hC (by simp));have HO5:=a0z (HO4.out.fp hC (by simp))
        obtain⟨w5,hw5⟩:∃x,x=w':=⟨_,rfl⟩
        rw[←hw5] at HF5 HO5 a0 a1 a2 a3 a4 a5 a6 ⊢;clear hC hw5 HCK HCP HC1';cases r
        ·obtain⟨c0,c1,c2,c3,c4,c5,c6⟩:=Kt HO5.out hkL;obtain⟨-,hz,-,-,-,-⟩:=HO5.out.elem hkL;have z0:=hz (kk*7);have z1:=hz (kk*7+1);have z2:=hz (kk*7+2);have z3:=hz (kk*7+3);have z4:=hz (kk*7+4);have z5:=hz (kk*7+5);have z6:=hz (kk*7+6);obtain⟨ho6,hf6⟩:=X1 ⟨⟨xr,xc,xt,xs,xd,xv⟩,xp⟩ HO5.out hkL;have HO6:=a0z ho6;have HF6:=a0z (HF5.out.trans hf6 (by simp));have HK6:=a0z (HKP.out (by first|rfl|trivial));clear hz ho6 hf6;go_wp2_with (fail)
         go_roundg (gk-1)
         case measure=>omega
         case rel=>exact⟨kk+1,k2+1,_,by simp,by simp,by omega,by omega,by omega,HK6.out,HO6.out,HF6.out⟩
        ·have HD6:=a0z (HDR.out (by first|rfl|trivial));clear a0 a1 a2 a3 a4 a5 a6;go_wp2_with (fail)
         go_roundg (gk-1)
         case measure=>omega
         case rel=>exact⟨kk,k2+1,L,rfl,by simp,by omega,by omega,by omega,HD6.out,HO5.out,HF5.out⟩
      ·have z2:¬(k2:Int)<(m:Int):=by omega
       have hjn:k+k2=n:=by omega
       have hkn3:kk<n:=by omega
       have HKE:Hid (L.take kk=Jh l n):=by
        have h:=HCI.out.kept;rw[hjn] at h;exact h
       obtain⟨g2,cap2,cur2,e2,hg2',hh2,hn2,hm2,hs2,ht2⟩:=Ag.open HO4.out (by rw[HLN.out];omega);rw[HLN.out] at hn2 e2;cases e2
       have hci:¬cap=kk:=by omega
       have zc:(n:Int)≤(cap:Int):=by omega
       have zi:(kk:Int)≤(n:Int):=by omega
       have zic:(kk:Int)≤(cap:Int):=by omega
       obtain⟨vs,hcl⟩:=uH wr g (kk*7) (n-kk) (cap-kk) cur2 hh2 (by rw[hs2];show kk*7+(n-kk)*7≤cap*7;omega) (by omega);obtain⟨ho5,hf5⟩:=Ag.cut (m:=kk) (p:=kk*7) vs HO4.out (by rw[HLN.out];omega) (by rw[HLN.out];omega) rfl;rw[HKE.out] at ho5;have HF5:=a0z (HF4.out.trans hf5 (by simp));have HO5:=a0z ho5
       obtain⟨w5,hw5⟩:∃w5,wr.setCells g (kk*7) vs=w5:=⟨_,rfl⟩
       rw[hw5] at hcl HF5 HO5;clear ho5 hf5 hw5 hh2 hs2 ht2 hm2;go_wp2_with (fail);go_ret;exact⟨⟨_,rfl,HO5.out⟩,g,Or.inl rfl,HF5.out⟩
  ·have hkn2:k=n:=by omega
   have hci:Jh l n=l:=by
    have:=U3 l.length (a0w _) (fun i h1 h2=>HALL.out i (by have:=HN.out;omega) h2);rw[List.take_length,HN.out] at this;exact this
   have HCI:=a0z hci
   have zk:¬(k:Int)<(n:Int):=by omega
   clear hci;go_wp2_with (fail);go_ret;exact⟨⟨_,rfl,by rw[HCI.out];exact HO.out.fp HF.out (by simp)⟩,g,Or.inl rfl,HF.out.mono (by simp)⟩
end
section
open Go.RowKit Go.Lib
theorem Tryz.infoItm:(Tryz.prog.info? 221).map (fun i=>(i.zero,i.size,i.bytes))=some (some (.agg #[.string ⟨#[]⟩,.string ⟨#[]⟩,.int .u64 0,.int .u64 0,.bool false,.string ⟨#[]⟩,.int .i64 0]),7,80):=by kernel_rfl
theorem X2{w:World}{ops:Array Oper}{rest:List Oper}{o:Oper}{a:Act}{Q:Exit→Act→World→Prop}(hgd:o.guard=none)(s x:Operand)
  (ho:o.op=.call {callee:=.builtin .append,args:=#[s,x],argTypes:=#[162,162]})(base:Nat)(v:Value)(l:List Ad)(hs:a.eval s=v)(hown:Ag Bq w base v l)
  (ad:Option Addr)(m c:Nat)(ls:List Ad)(hx:a.eval x=.slice ad m c)(hl:Bz Bq w ad m ls)(hnone:ad=none→c=0)(hlen:l.length+ls.length≤1000000000)(hbase:base≤w.heap.size)
  (h:∀v' w',Ag Bq w' base v' (l++ls)→Below base w w'→w.grownBy w' v.ownBlock→wpList Tryz.prog ops Q rest (a.put o.dst v') w'):wpList Tryz.prog ops Q (o::rest) a w:=
 Xl (R:=Bq) 162 Tryz.underlying162 Tryz.infoItm rfl (by decide) hgd s x ho base v l hs hown ad m c ls hx hl hnone hlen hbase h
def Jw(l:List Ac)(k:Nat):List Ad:=(List.range k).map fun i=>⟨l.getD i Bo,i⟩
def Dp(l:List Ac):List Ad:=Jw l l.length
theorem uJ(l:List Ac)(k:Nat):Jw l (k+1)=Jw l k++[⟨l.getD k Bo,k⟩]:=by
 unfold Jw;rw[List.range_succ,List.map_append];rfl
theorem Oj(l:List Ac)(k:Nat):(Jw l k).length=k:=by simp[Jw]
theorem uK(w:World)(a:Option Addr)(n cap:Nat)(l:List Ac)(hl:Bn w a n l)(hn:n≤1000000):
  Calls Tryz.prog 141 #[.slice a n cap] w fun e w'=>∃v,e=.returned v∧Ag Bq w' w.heap.size v (Dp l)∧Fp [] w w':=by
 have HL:=a0z hl;have HLN:=a0z hl.len;clear hl;go_enter Tryz.func141,Tryz.ntmps141;go_wp2_with (fail)
 go_loopg [2,7] n (fun g va vi wr=>∃(k:Nat) (v:Value),g+k=n∧v=va∧vi=.int .i64 k∧Ag Bq wr w.heap.size v (Jw l k)∧Fp [] w wr)
 case atStart=>exact⟨0,_,by omega,rfl,rfl,Ag.nil _ _,Fp.refl _ _⟩
 case round=>
  obtain⟨k,va,hg,rfl,rfl,ho,hf⟩:=hrel;have HO:=a0z ho;have HF:=a0z hf;clear ho hf;have hbw:w.heap.size≤wr.heap.size:=HF.out.size
  by_cases hk:k<n
  ·have zk:(k:Int)<(n:Int):=by omega
   have hkl:k<l.length:=by rw[←HLN.out];exact hk
   have hsu:=uJ l k;have hle:=Oj l k;have HLE:=a0z hle;rw[show l.getD k Bo=l[k] by rw[List.getD_eq_getElem?_getD,List.getElem?_eq_getElem hkl];rfl] at hsu;obtain⟨b1,o1,rfl,_,hcells⟩:=O1 HL.out hkl
   obtain⟨c,hc⟩:∃c,l[k]=c:=⟨_,rfl⟩
   rw[hc] at hcells hsu;obtain⟨r,co,ts,sq,de,va2⟩:=c;have HSU:=a0z hsu;obtain⟨q0,q1,q2,q3,q4,q5⟩:=hcells wr HF.out;simp only at q0 q1 q2 q3 q4 q5
   have n1:IntKind.i64.wrap ((k:Int)+1)=((k+1:Nat):Int):=by rw[a0x];omega
   have HFW:Hid (∀o1 o2,Fp [] wr ((wr.alloc o1).alloc o2)):=fun o1 o2=>(Fp.alloc wr o1).alloc' o2
   clear hcells hc hsu hle;go_wp2_with (at_builtin;(refine X2 rfl _ _ rfl w.heap.size _ (Jw l k) rfl (HO.out.fp (HFW.out _ _) (by simp)) _ _ _ [⟨⟨r,co,ts,sq,de,va2⟩,k⟩] rfl (Bz.one (Aj (by simp) _)) (fun h=>by cases h) (by have:=HLE.out;simp;omega) (by simp;omega) ?_);intro v2 w2 ho2 hb2 _;have HO2:=a0z ho2;have HB2:=a0z hb2;clear ho2 hb2)
   go_roundg (gk-1)
   case measure=>omega
   case rel=>exact⟨k+1,_,by omega,rfl,by simp,by rw[HSU.out];exact HO2.out,(HF.out.trans (HFW.out _ _) (by simp)).belowTrans HB2.out⟩
  ·have zk:¬(k:Int)<(n:Int):=by omega
   have hkn:k=l.length:=by have:=HLN.out;omega
   have ho2:=HO.out;rw[hkn] at ho2;have HO2:=a0z ho2;clear ho2;go_wp2_with (fail);go_ret;exact⟨_,rfl,HO2.out,HF.out⟩
theorem eZ(w:World)(a:Option Addr)(n cap:Nat)(l:List Ad)(hl:Bz Bq w a n l)(hnone:a=none→cap=0)(hn:n≤1000000):
  Calls Tryz.prog 144 #[.slice a n cap] w fun e w'=>∃v',e=.returned v'∧Ag Bq w' w.heap.size v' l∧Fp [] w w':=by
 have HAT:=a0z hl;have HLN:=a0z hl.len
 have q22:∀(w:World) (a:Option Addr) (n c n' c':Nat),(binOp .eql 162 (.slice a n c) (.slice none n' c')).run Tryz.prog w=.ok (.bool a.isNone) w:=fun w a n c n' c'=>Lib.run_eql_slice_nil w _ _ a n c n' c' Tryz.underlying162
 cases a with
 |none=>
  obtain rfl:=hnone rfl
  have hl0:l=[]:=by
   rcases hl.cells with h|⟨b,o,h,_⟩
   ·exact h
   ·cases h
  subst hl0;have hn0:n=0:=hl.len;subst hn0;clear hl hnone;go_enter Tryz.func144,Tryz.ntmps144;go_wp2_with (fail);go_ret;exact⟨_,rfl,Ag.nil _ _,Fp.refl _ _⟩
 |some ad=>
  clear hl hnone;go_enter Tryz.func144,Tryz.ntmps144;go_wp2_with (at_builtin;refine X2 rfl _ _ rfl w.heap.size _ [] rfl (Ag.made w _ (a0w _)) _ _ _ l rfl (HAT.out.fp (Fp.alloc _ _)) (by intro h;cases h) (by have:=HLN.out;simp;omega) (by simp) ?_;intro v2 w2 hown2 hbel2 _;have HO2:=a0z hown2;have HB2:=a0z hbel2;clear hown2 hbel2);go_ret;exact⟨_,rfl,HO2.out,(Fp.alloc w _).belowTrans (HB2.out.mono (by simp))⟩
end
end Go.Proofs.YtkagolpnaicdoaaGreatDoor
