/-
 merge: queues and sources as they lie; first, Len, Less. merge: sources are exchanged; Push, Pop. merge: Push, Pop of sources.
-/
import Derived.Test.YtkagolpnaicdoaaGreatDoorMWalD
import Derived.Test.YtkagolpnaicdoaaGreatDoorMItem
import Derived.Test.YtkagolpnaicdoaaGreatDoorMSortA
import Derived.Test.YtkagolpnaicdoaaGreatDoorMSortC
import Derived.Test.YtkagolpnaicdoaaGreatDoorMDrvA
import Derived.Test.YtkagolpnaicdoaaGreatDoorMRegionV
import Derived.Test.YtkagolpnaicdoaaGreatDoorMTabG
set_option maxRecDepth 100000
set_option maxHeartbeats 8000000
open Go.Lib renaming hid→a0z
open List renaming setIfInBounds_toArray→a0x,set_cons_succ→a0w,set_cons_zero→a0v,reverse_cons→a0u,reverse_nil→a1z,cons_append→a1x,nil_append→a1w,getElem_mem→a1v,length_map→a1u
namespace Go.Proofs.YtkagolpnaicdoaaGreatDoor
section
open Go.RowKit Go.Lib
theorem pR(x y:Ad)(w:World):Calls Tryz.prog 327 #[I9 x,I9 y] w fun e w'=>e=.returned (.int .i64 (D2 x y))∧Fp [] w w':=by
 have HC:=a0z (fun w=>Xz x y w)
 obtain⟨r,hr⟩:∃r,D2 x y=r:=⟨_,rfl⟩
 rw[hr] at HC ⊢;clear hr;obtain⟨⟨xr,xc,xt,xs,xd,xv⟩,xp⟩:=x;obtain⟨⟨yr,yc,yt,ys,yd,yv⟩,yp⟩:=y;have HC1':Hid (∀w,Calls Tryz.prog 217 #[.agg #[.string xr,.string xc,.int .u64 xt,.int .u64 xs,.bool xd,.string xv,.int .i64 xp],.agg #[.string yr,.string yc,.int .u64 yt,.int .u64 ys,.bool yd,.string yv,.int .i64 yp]] w fun e w'=>e=.returned (.int .i64 r)∧Fp [] w w'):=HC;clear HC;unfold I9 Kr;simp only;go_enter Tryz.func327,Tryz.ntmps327;go_wp2_with (fail);(with_reducible refine(HC1'.out _).mono ?_);rintro e w1 ⟨rfl,hf⟩;have HF:=a0z hf;clear hf;go_wp2_with (fail);go_ret;exact⟨rfl,((Fp.alloc _ _).alloc' _).trans HF.out (by simp)⟩
structure Ib where
 q:Nat
 at_:Nat
def cL(s:Ib):List Value:=[.pointer (some ⟨s.q,0,none⟩),.int .i64 s.at_]
def G0:G3 Ib where
 e:=331
 k:=2
 enc:=cL
 len:=fun _=>rfl
 pos:=by decide
 one:=fun x v hv=>by
  unfold cL at hv;simp only[List.mem_cons,List.not_mem_nil,or_false] at hv
  rcases hv with rfl|rfl<;>rfl
abbrev Ea:=Ib × List Ad
def Es(x:Ea):Ad:=x.2.headD Hq
structure Ht(W:World)(base q:Nat)(r:List Ad):Prop where
 ge:base≤q
 ex:∃b o n cap,W.heap[q]?=some (.cells #[.slice (some ⟨b,o,none⟩) n cap] 329 (0,0))∧n≤cap∧b<base∧Bz Bq W (some ⟨b,o,none⟩) n r
theorem Ht.tf{base base' q:Nat}{D:List TypeId}{S:List Nat}{W W':World}{r:List Ad}(h:Ht W base q r)(ht:Tf base' D S W W')(hb:base≤base')(hD:329∉D)(hS:∀k∈S,base≤k∧k≠q):Ht W' base q r:=by
 obtain⟨b,o,n,cap,h1,h2,h3,h4⟩:=h.ex;exact⟨h.ge,b,o,n,cap,ht.cells h1 (fun hm=>(hS _ hm).2 rfl) hD,h2,h3,h4.tf ht (by omega) (fun hm=>by have:=(hS _ hm).1;omega)⟩
theorem Ht.fp{base q:Nat}{W W':World}{r:List Ad}(h:Ht W base q r)(hf:Fp [] W W'):Ht W' base q r:=h.tf (Tf.of (base:=base) (D:=[]) hf) (Nat.le_refl _) (by simp) (by simp)
theorem W8(W:World)(base q:Nat)(x:Ad)(r:List Ad)(h:Ht W base q (x::r)):
  Calls Tryz.prog 273 #[.pointer (some ⟨q,0,none⟩)] W fun e W'=>e=.returned (I9 x)∧Fp [] W W':=by
 obtain⟨b,o,n,cap,h1,h2,h3,h4⟩:=h.ex;have hn:n=r.length+1:=h4.len;obtain⟨b',o',e,_,hc⟩:=h4.get (i:=0) (by simp);cases e;have HC:=a0z hc;have H1:=a0z h1
 have zn:(0:Int)<(n:Int):=by omega
 have HX:=a0z (fun W' (hf:Fp [] W W')=>Rx (hc W' hf));simp only[Nat.zero_mul,Nat.add_zero,List.getElem_cons_zero] at HX;obtain⟨⟨xr,xc,xt,xs,xd,xv⟩,xp⟩:=x
 have hq:∀X:Obj,(W.alloc X).cell? ⟨q,0,none⟩=some (.slice (some ⟨b,o,none⟩) n cap):=fun X=>Aa (C7 h1) 0
 obtain⟨a0,a1,a2,a3,a4,a5,a6⟩:=HX.out _ (Fp.alloc W (.cells #[.string ⟨#[]⟩,.string ⟨#[]⟩,.int .u64 0,.int .u64 0,.bool false,.string ⟨#[]⟩,.int .i64 0] 221));simp only at a0 a1 a2 a3 a4 a5 a6;clear h1 h2 h3 h4 hn hc h;unfold I9 Kr;simp only;go_enter Tryz.func273,Tryz.ntmps273;go_wp2_with (fail);refine bodyPost_ret (v:=.agg #[.string xr,.string xc,.int .u64 xt,.int .u64 xs,.bool xd,.string xv,.int .i64 xp]) (by simp[results,Tryz.results273,go_sem]) rfl ⟨rfl,Fp.alloc _ _⟩
theorem W9(W:World)(a:Option Addr)(n cap:Nat):Calls Tryz.prog 271 #[.slice a n cap] W fun e W'=>e=.returned (.int .i64 n)∧W'=W:=by
 go_enter Tryz.func271,Tryz.ntmps271;go_wp2_with (fail);go_ret;exact⟨rfl,rfl⟩
theorem Xa{W:World}{base g n cap i:Nat}{l:List Ib}(h:Ag G0 W base (.slice (some ⟨g,0,none⟩) n cap) l)(hi:i<l.length):∀W',Fp [] W W'→W'.cell? ⟨g,i*2,none⟩=some (.pointer (some ⟨l[i].q,0,none⟩))∧W'.cell? ⟨g,i*2+1,none⟩=some (.int .i64 l[i].at_):=by
 intro W' hf;obtain⟨h1,-,-,h2,-,-⟩:=h.elem hi;have h3:=h1.fp hf h2 (by simp);exact⟨h3 0 _ rfl,h3 1 _ rfl⟩
theorem Pq{l:List Ad}(h:0<l.length):∃r,l=l.headD Hq::r:=by
 cases l with
 |nil=>simp at h
 |cons x r=>exact⟨r,rfl⟩
theorem pS(W:World)(base:Nat)(v:Value)(es:List Ea)(i j:Nat)(hown:Ag G0 W base v (es.map (·.1)))(hqs:∀x∈es,Ht W base x.1.q x.2∧0<x.2.length)(hok:∀x∈es,B8 x.2)(hi:i<es.length)(hj:j<es.length)(hn:es.length≤1000000):
  Calls Tryz.prog 323 #[v,.int .i64 i,.int .i64 j] W fun e W'=>∃b,e=.returned (.bool b)∧(b=true→A7 (Es es[i]) (Es es[j]))∧(b=false→A7 (Es es[j]) (Es es[i]))∧Fp [] W W':=by
 obtain⟨g,cap,cur,rfl,hg,hh,-⟩:=hown.open (by rw[a1u];omega);have HCI:=a0z (Xa hown (i:=i) (by rw[a1u];exact hi));have HCJ:=a0z (Xa hown (i:=j) (by rw[a1u];exact hj));simp only[List.getElem_map] at HCI HCJ;have hgw:=Ab hh
 obtain⟨n,hln⟩:∃n,(es.map (·.1)).length=n:=⟨_,rfl⟩
 rw[hln];rw[a1u] at hln;obtain⟨h1,h1'⟩:=hqs _ (a1v hi);obtain⟨h2,h2'⟩:=hqs _ (a1v hj)
 have ox:B5 (Es es[i]):=by
  obtain⟨r,hr⟩:=Pq h1';have:=hok _ (a1v hi);rw[hr] at this;exact this _ List.mem_cons_self
 have oy:B5 (Es es[j]):=by
  obtain⟨r,hr⟩:=Pq h2';have:=hok _ (a1v hj);rw[hr] at this;exact this _ List.mem_cons_self
 obtain⟨rx,hrx⟩:=Pq h1';obtain⟨ry,hry⟩:=Pq h2';rw[hrx] at h1;rw[hry] at h2;have HFX:=a0z (fun W' (hf:Fp [] W W')=>W8 W' base _ _ _ (h1.fp hf));have HFY:=a0z (fun W' (hf:Fp [] W W')=>W8 W' base _ _ _ (h2.fp hf));have ex:es[i].2.headD Hq=Es es[i]:=rfl;have ey:es[j].2.headD Hq=Es es[j]:=rfl;rw[ex] at HFX;rw[ey] at HFY;clear h1 h2 h1' h2' hrx hry ex ey
 obtain⟨x,hx⟩:∃x,Es es[i]=x:=⟨_,rfl⟩
 obtain⟨y,hy⟩:∃y,Es es[j]=y:=⟨_,rfl⟩
 obtain⟨sx,hsx⟩:∃s,es[i].1=s:=⟨_,rfl⟩
 obtain⟨sy,hsy⟩:∃s,es[j].1=s:=⟨_,rfl⟩
 rw[hx] at ox HFX ⊢;rw[hy] at oy HFY ⊢;rw[hsx] at HCI HFX;rw[hsy] at HCJ HFY;obtain⟨qx,ax⟩:=sx;obtain⟨qy,ay⟩:=sy;simp only at HCI HCJ HFX HFY;have HCMP:=a0z (fun w=>pR x y w);have HNEG:=a0z (aO ox oy)
 obtain⟨r,hr⟩:∃r,D2 x y=r:=⟨_,rfl⟩
 rw[hr] at HCMP HNEG;have HR:=a0z hr
 have zi:(i:Int)<(n:Int):=by omega
 have zj:(j:Int)<(n:Int):=by omega
 have hn2:n≤1000000:=by omega
 clear hown hqs hok hh hln hx hy hsx hsy hr hg hi hj hn ox oy
 obtain⟨X,hX⟩:∃X,I9 x=X:=⟨_,rfl⟩
 obtain⟨Y,hY⟩:∃Y,I9 y=Y:=⟨_,rfl⟩
 rw[hX] at HFX HCMP;rw[hY] at HFY HCMP;clear hX hY;go_enter Tryz.func323,Tryz.ntmps323;go_wp2_with (fail);refine Dy (by kernel_rfl) (by kernel_rfl) ?_
 iterate 14
  apply A9 rfl rfl rfl
  ·intro a w hC hA K hK
   try have h0:=hA.fr 0 rfl
   try have h1:=hA.fr 1 rfl
   try have h8:=hA.eq 0 8 rfl
   try have h9:=hA.eq 1 9 rfl
   try have h10:=hA.eq 2 10 rfl
   try have h11:=hA.eq 3 11 rfl
   try have h12:=hA.eq 4 12 rfl
   try have h2:=hA.fr 2 rfl
   try have h14:=hA.eq 6 14 rfl
   try have h15:=hA.eq 7 15 rfl
   try have h16:=hA.eq 8 16 rfl
   try have h17:=hA.eq 9 17 rfl
   try have h18:=hA.eq 10 18 rfl
   try have h13:=hA.eq 5 13 rfl
   try have h19:=hA.eq 11 19 rfl
   try have h20:=hA.eq 12 20 rfl
   obtain⟨p0,p1⟩:=HCI.out _ hC;obtain⟨r0,r1⟩:=HCJ.out _ hC;simp only[Oper.wp,execOp];go_simp
   first
   |exact hK _ hC (Fp.refl _ _)
   |(with_reducible refine(HFX.out _ hC).mono ?_);rintro e w2 ⟨rfl,hf⟩;exact hK _ (hC.trans hf (by simp)) hf
   |(with_reducible refine(HFY.out _ hC).mono ?_);rintro e w2 ⟨rfl,hf⟩;exact hK _ (hC.trans hf (by simp)) hf
   |(with_reducible refine(HCMP.out _).mono ?_);rintro e w2 ⟨rfl,hf⟩;exact hK _ (hC.trans hf (by simp)) hf
 refine⟨?_,?_⟩
 ·repeat(first|exact trivial|refine Dj _ ?_ |refine⟨fun w1 w2 v _ hf ⟨g,h1,h2⟩=>⟨g,h1,(hf.block g (Ab h2) (by simp)).trans h2⟩,?_⟩)
 ·intro w' hC;simp only[a0u,a1z,a1w,a1x]
  iterate 14 (refine Aq ?_)
  refine A8 ?_;simp only[Am,Act.put,a0x,a0w,a0v];have HF:=a0z hC;clear hC
  have HCI2:Hid (∀W2,Fp [] w' W2→W2.cell? ⟨g,i*2,none⟩=some (.pointer (some ⟨qx,0,none⟩))∧W2.cell? ⟨g,i*2+1,none⟩=some (.int .i64 ax)):=fun W2 h=>HCI.out W2 (HF.out.trans h (by simp))
  have HCJ2:Hid (∀W2,Fp [] w' W2→W2.cell? ⟨g,j*2,none⟩=some (.pointer (some ⟨qy,0,none⟩))∧W2.cell? ⟨g,j*2+1,none⟩=some (.int .i64 ay)):=fun W2 h=>HCJ.out W2 (HF.out.trans h (by simp))
  by_cases h0:r<0
  ·have z0:decide (r<0)=true:=decide_eq_true h0;go_wp2_with (fail);refine Dy (by kernel_rfl) (by kernel_rfl) ?_
   iterate 3
    apply A9 rfl rfl rfl
    ·intro a w hC hA K hK
     try have h7:=hA.fr 7 rfl
     try have h21:=hA.eq 0 21 rfl
     try have h22:=hA.eq 1 22 rfl
     simp only[Oper.wp,execOp];go_simp;exact hK _ hC (Fp.refl _ _)
   apply Az 2 23 rfl rfl rfl rfl (by kernel_rfl) rfl rfl;apply Az 2 23 rfl rfl rfl rfl (by kernel_rfl) rfl rfl;apply Az 2 23 rfl rfl rfl rfl (by kernel_rfl) rfl rfl;apply Gi 5 26 rfl rfl rfl rfl (by kernel_rfl) rfl;apply Gi 5 26 rfl rfl rfl rfl (by kernel_rfl) rfl;apply Gi 5 26 rfl rfl rfl rfl (by kernel_rfl) rfl;apply Gi 5 26 rfl rfl rfl rfl (by kernel_rfl) rfl;apply Gi 5 26 rfl rfl rfl rfl (by kernel_rfl) rfl;apply Gi 5 26 rfl rfl rfl rfl (by kernel_rfl) rfl;apply Gi 5 26 rfl rfl rfl rfl (by kernel_rfl) rfl;apply Gi 5 26 rfl rfl rfl rfl (by kernel_rfl) rfl;apply Gi 5 26 rfl rfl rfl rfl (by kernel_rfl) rfl;apply Gi 5 26 rfl rfl rfl rfl (by kernel_rfl) rfl;apply Gi 5 26 rfl rfl rfl rfl (by kernel_rfl) rfl;apply Az 2 23 rfl rfl rfl rfl (by kernel_rfl) rfl rfl
   iterate 2
    apply A9 rfl rfl rfl
    ·intro a w hC hA K hK
     try have h23:=hA.eq 2 23 rfl
     try have h38:=hA.eq 17 38 rfl
     try have h39:=hA.eq 18 39 rfl
     simp only[Oper.wp,execOp];go_simp;exact hK _ hC (Fp.refl _ _)
   refine⟨?_,?_⟩
   ·repeat(first|exact trivial|refine Dj _ ?_ |refine⟨fun w1 w2 v _ hf ⟨g,h1,h2⟩=>⟨g,h1,(hf.block g (Ab h2) (by simp)).trans h2⟩,?_⟩)
   ·intro w' hC;simp only[a0u,a1z,a1w,a1x]
    iterate 20 (refine Aq ?_)
    refine A8 ?_;simp only[Am,Act.put,a0x,a0w,a0v];have HF2:=a0z (HF.out.trans hC (by simp));clear hC;go_wp2_with (fail);go_ret;exact⟨true,rfl,fun _=>(by unfold A7;rw[HR.out];omega),(fun h=>by cases h),HF2.out⟩
  ·have z0:decide (r<0)=false:=decide_eq_false h0
   by_cases h1:r=0
   ·have z1:(r==0)=true:=by simpa using h1
    have HZ:=a0z h1;clear h1;go_wp2_with (fail);refine Dy (by kernel_rfl) (by kernel_rfl) ?_
    iterate 20
     first|apply A9 rfl rfl rfl|apply I7 2 23 rfl rfl rfl rfl (by kernel_rfl) rfl rfl|apply I7 5 26 rfl rfl rfl rfl (by kernel_rfl) rfl rfl
     ·intro a w hC hA K hK
      try have h7:=hA.fr 7 rfl
      try have h21:=hA.eq 0 21 rfl
      try have h22:=hA.eq 1 22 rfl
      try have h24:=hA.eq 3 24 rfl
      try have h25:=hA.eq 4 25 rfl
      try have h0:=hA.fr 0 rfl
      try have h1:=hA.fr 1 rfl
      try have h27:=hA.eq 6 27 rfl
      try have h28:=hA.eq 7 28 rfl
      try have h29:=hA.eq 8 29 rfl
      try have h30:=hA.eq 9 30 rfl
      try have h2:=hA.fr 2 rfl
      try have h32:=hA.eq 11 32 rfl
      try have h33:=hA.eq 12 33 rfl
      try have h34:=hA.eq 13 34 rfl
      try have h35:=hA.eq 14 35 rfl
      try have h31:=hA.eq 10 31 rfl
      try have h36:=hA.eq 15 36 rfl
      try have h26:=hA.eq 5 26 rfl
      try have h37:=hA.eq 16 37 rfl
      try have h23:=hA.eq 2 23 rfl
      try have h38:=hA.eq 17 38 rfl
      try have h39:=hA.eq 18 39 rfl
      obtain⟨p0,p1⟩:=HCI2.out _ hC;obtain⟨r0,r1⟩:=HCJ2.out _ hC;simp only[Oper.wp,execOp];go_simp;exact hK _ hC (Fp.refl _ _)
    refine⟨?_,?_⟩
    ·repeat(first|exact trivial|refine Dj _ ?_ |refine⟨fun w1 w2 v _ hf ⟨g,h1,h2⟩=>⟨g,h1,(hf.block g (Ab h2) (by simp)).trans h2⟩,?_⟩)
    ·intro w' hC;simp only[a0u,a1z,a1w,a1x]
     iterate 20 (refine Aq ?_)
     refine A8 ?_;simp only[Am,Act.put,a0x,a0w,a0v];have HF2:=a0z (HF.out.trans hC (by simp));clear hC;go_wp2_with (fail);go_ret;exact⟨_,rfl,fun _=>(by unfold A7;rw[HR.out,HZ.out];omega),fun _=>(by unfold A7;rw[HNEG.out,HZ.out];omega),HF2.out⟩
   ·have z1:(r==0)=false:=by simpa using h1
    have hr1:0<r:=by omega
    clear h1;go_wp2_with (fail);refine Dy (by kernel_rfl) (by kernel_rfl) ?_
    iterate 6
     first|apply A9 rfl rfl rfl|apply I7 2 23 rfl rfl rfl rfl (by kernel_rfl) rfl rfl
     ·intro a w hC hA K hK
      try have h7:=hA.fr 7 rfl
      try have h21:=hA.eq 0 21 rfl
      try have h22:=hA.eq 1 22 rfl
      try have h24:=hA.eq 3 24 rfl
      try have h25:=hA.eq 4 25 rfl
      simp only[Oper.wp,execOp];go_simp;exact hK _ hC (Fp.refl _ _)
    apply Az 5 26 rfl rfl rfl rfl (by kernel_rfl) rfl rfl;apply Az 5 26 rfl rfl rfl rfl (by kernel_rfl) rfl rfl;apply Az 5 26 rfl rfl rfl rfl (by kernel_rfl) rfl rfl;apply Az 5 26 rfl rfl rfl rfl (by kernel_rfl) rfl rfl;apply Az 5 26 rfl rfl rfl rfl (by kernel_rfl) rfl rfl;apply Az 5 26 rfl rfl rfl rfl (by kernel_rfl) rfl rfl;apply Az 5 26 rfl rfl rfl rfl (by kernel_rfl) rfl rfl;apply Az 5 26 rfl rfl rfl rfl (by kernel_rfl) rfl rfl;apply Az 5 26 rfl rfl rfl rfl (by kernel_rfl) rfl rfl;apply Az 5 26 rfl rfl rfl rfl (by kernel_rfl) rfl rfl;apply Az 5 26 rfl rfl rfl rfl (by kernel_rfl) rfl rfl
    iterate 3
     first|apply I7 2 23 rfl rfl rfl rfl (by kernel_rfl) rfl rfl|apply A9 rfl rfl rfl
     ·intro a w hC hA K hK
      try have h26:=hA.eq 5 26 rfl
      try have h37:=hA.eq 16 37 rfl
      try have h23:=hA.eq 2 23 rfl
      try have h38:=hA.eq 17 38 rfl
      try have h39:=hA.eq 18 39 rfl
      simp only[Oper.wp,execOp];go_simp;exact hK _ hC (Fp.refl _ _)
    refine⟨?_,?_⟩
    ·repeat(first|exact trivial|refine Dj _ ?_ |refine⟨fun w1 w2 v _ hf ⟨g,h1,h2⟩=>⟨g,h1,(hf.block g (Ab h2) (by simp)).trans h2⟩,?_⟩)
    ·intro w' hC;simp only[a0u,a1z,a1w,a1x]
     iterate 20 (refine Aq ?_)
     refine A8 ?_;simp only[Am,Act.put,a0x,a0w,a0v];have HF2:=a0z (HF.out.trans hC (by simp));clear hC;go_wp2_with (fail);go_ret;exact⟨false,rfl,(fun h=>by cases h),fun _=>(by unfold A7;rw[HNEG.out];omega),HF2.out⟩
end
section
open Go.RowKit Go.Lib
def Lx:Ib:=⟨0,0⟩
structure cM(w:World)(b o:Nat)(x:Ib):Prop where
 c0:w.cell? ⟨b,o,none⟩=some (.pointer (some ⟨x.q,0,none⟩))
 c1:w.cell? ⟨b,o+1,none⟩=some (.int .i64 x.at_)
theorem Q4{w:World}{base g n cap i:Nat}{l:List Ib}(h:Ag G0 w base (.slice (some ⟨g,0,none⟩) n cap) l)(hi:i<l.length):cM w g (i*2) (l.getD i Lx):=by
 rw[List.getD_eq_getElem?_getD,List.getElem?_eq_getElem hi];have h1:=(h.elem hi).1;exact⟨h1 0 _ rfl,h1 1 _ rfl⟩
theorem Xb{w:World}{base g n cap i:Nat}{l:List Ib}{x:Ib}(h:Ag G0 w base (.slice (some ⟨g,0,none⟩) n cap) l)(hi:i<l.length)(hx:l.getD i Lx=x):cM w g (i*2) x:=by
 rw[←hx];exact Q4 h hi
theorem pT(W:World)(base g n cap i j:Nat)(l:List Ib)(ho:Ag G0 W base (.slice (some ⟨g,0,none⟩) n cap) l)(hi:i<l.length)(hj:j<l.length):
  Calls Tryz.prog 326 #[.slice (some ⟨g,0,none⟩) n cap,.int .i64 i,.int .i64 j] W fun e W'=>e=.returned (.tuple #[])∧Ag G0 W' base (.slice (some ⟨g,0,none⟩) n cap) (F7 Lx l i j)∧Fp [g] W W':=by
 have HO:=a0z ho
 have hm:l.length=n:=by
  obtain⟨a',c',e,-⟩:=ho.len;cases e;rfl
 obtain⟨-,-,-,hgw,-,-⟩:=ho.elem hi
 have zi:(i:Int)<(n:Int):=by omega
 have zj:(j:Int)<(n:Int):=by omega
 obtain⟨xx,hx⟩:∃x,l.getD i Lx=x:=⟨_,rfl⟩
 obtain⟨yy,hy⟩:∃y,l.getD j Lx=y:=⟨_,rfl⟩
 have HX:=a0z hx;have HY:=a0z hy;obtain⟨xq,xa⟩:=xx;obtain⟨yq,ya⟩:=yy;have HM:=a0z hm;clear ho hm hx hy
 by_cases hij:i=j
 ·subst hij;have hxy:=HX.out.symm.trans HY.out;cases hxy;rw[aD];go_enter Tryz.func326,Tryz.ntmps326;go_wp2_with (fail);refine Gj (fun bb w'=>Ag G0 w' base (.slice (some ⟨g,0,none⟩) n cap) l∧Fp [g] W w') (fun _ _=>True) (by kernel_rfl) (by kernel_rfl) ⟨HO.out.kept (fun k hk=>rfl),(Fp.drew _).mono (by simp)⟩ ?_
  iterate 13
   apply Bm (fun _ _ h=>h) rfl rfl rfl
   ·intro b a w hC hA K hK
    try have h0:=hA.fr 0 rfl
    try have h1:=hA.fr 1 rfl
    try have h2:=hA.fr 2 rfl
    try have h10:=hA.eq 4 10 rfl
    try have h11:=hA.eq 5 11 rfl
    try have h12:=hA.eq 6 12 rfl
    try have h14:=hA.eq 8 14 rfl
    try have h15:=hA.eq 9 15 rfl
    try have h16:=hA.eq 10 16 rfl
    try have h6:=hA.eq 0 6 rfl
    try have h7:=hA.eq 1 7 rfl
    obtain⟨b0,b1⟩:=Xb hC.1 hi HX.out;simp only at b0 b1;simp only[Oper.wp,execOp];go_simp;exact hK _ hC trivial
  apply Gn (fun _=>True) rfl rfl
  ·intro b a w hC hA K hK;have h18:=hA.eq 12 18 rfl;have h13:=hA.eq 7 13 rfl;obtain⟨a0,a1⟩:=Q4 hC.1 hi;obtain⟨-,hz,-,-,-,-⟩:=hC.1.elem hi;have z0:=hz (i*2);have z1:=hz (i*2+1);have hst:=hC.1.setSame (d:=Lx) hi;rw[HX.out] at hst;have hst2:=And.intro hst.1 (hC.2.trans hst.2 (by intro k hk;exact Or.inl hk));clear hz hst;simp only[Oper.wp,execOp];go_simp;exact hK undef _ hst2 trivial trivial
  apply Bm (fun _ _ h=>h) rfl rfl rfl
  ·intro b a w hC hA K hK;have h8:=hA.eq 2 8 rfl;have h9:=hA.eq 3 9 rfl;simp only[Oper.wp,execOp];go_simp;exact hK _ hC trivial
  apply Gn (fun _=>True) rfl rfl
  ·intro b a w hC hA K hK;have h19:=hA.eq 14 19 rfl;have h17:=hA.eq 11 17 rfl;obtain⟨a0,a1⟩:=Q4 hC.1 hi;obtain⟨-,hz,-,-,-,-⟩:=hC.1.elem hi;have z0:=hz (i*2);have z1:=hz (i*2+1);have hst:=hC.1.setSame (d:=Lx) hi;rw[HX.out] at hst;have hst2:=And.intro hst.1 (hC.2.trans hst.2 (by intro k hk;exact Or.inl hk));clear hz hst;simp only[Oper.wp,execOp];go_simp;exact hK undef _ hst2 trivial trivial
  refine⟨?_,?_⟩
  ·refine⟨fun _ _ _ _ _=>trivial,?_⟩;refine B6 _ ?_;refine⟨fun _ _ _ _ _=>trivial,?_⟩
   iterate 13 refine B6 _ ?_
   exact trivial
  ·intro w' bb hC hbb;simp only[a0u,a1z,a1w,a1x]
   iterate 13 (refine Aq ?_)
   refine Av ?_;intro v13 u13
   iterate 1 (refine Aq ?_)
   refine Av ?_;intro v15 u15;refine A8 ?_;simp only[Am,Act.put,a0x,a0w,a0v];have HC:=a0z hC;clear hC hbb u13 u15;go_wp2_with (fail);go_end0;exact⟨rfl,HC.out.1,HC.out.2⟩
 ·go_enter Tryz.func326,Tryz.ntmps326;go_wp2_with (fail);refine Gj (fun bb w'=>Jg G0 Lx W base g n cap l i j 13 15 bb w') (fun _ _=>True) (by kernel_rfl) (by kernel_rfl) ⟨HO.out.kept (fun k hk=>rfl),(Fp.drew _).mono (by simp)⟩ ?_
  iterate 7
   apply Bm (fun _ _ h=>h.plain (by decide)) rfl rfl rfl
   ·intro b a w hC hA K hK
    try have h0:=hA.fr 0 rfl
    try have h1:=hA.fr 1 rfl
    try have h2:=hA.fr 2 rfl
    try have h10:=hA.eq 4 10 rfl
    try have h11:=hA.eq 5 11 rfl
    simp only[Oper.wp,execOp];go_simp;exact hK _ hC trivial
  apply Bm (fun _ _ h=>h.plain (by decide)) rfl rfl rfl
  ·intro b a w hC hA K hK;have h12:=hA.eq 6 12 rfl;obtain⟨b0,b1⟩:=Xb (hC.first (hA.post 13 (by kernel_rfl)) (hA.post 15 (by kernel_rfl))) hj HY.out;simp only at b0 b1;simp only[Oper.wp,execOp];go_simp;exact hK _ hC trivial
  iterate 3
   apply Bm (fun _ _ h=>h.plain (by decide)) rfl rfl rfl
   ·intro b a w hC hA K hK
    try have h0:=hA.fr 0 rfl
    try have h1:=hA.fr 1 rfl
    try have h14:=hA.eq 8 14 rfl
    try have h15:=hA.eq 9 15 rfl
    simp only[Oper.wp,execOp];go_simp;exact hK _ hC trivial
  apply Bm (fun _ _ h=>h.plain (by decide)) rfl rfl rfl
  ·intro b a w hC hA K hK;have h16:=hA.eq 10 16 rfl;obtain⟨a0,a1⟩:=Xb (hC.first (hA.post 13 (by kernel_rfl)) (hA.post 15 (by kernel_rfl))) hi HX.out;simp only at a0 a1;simp only[Oper.wp,execOp];go_simp;exact hK _ hC trivial
  apply Bm (fun _ _ h=>h.plain (by decide)) rfl rfl rfl
  ·intro b a w hC hA K hK;have h6:=hA.eq 0 6 rfl;have h7:=hA.eq 1 7 rfl;simp only[Oper.wp,execOp];go_simp;exact hK _ hC trivial
  apply Gn (fun _=>True) rfl rfl
  ·intro b a w hC hA K hK;have h18:=hA.eq 12 18 rfl;have h13:=hA.eq 7 13 rfl;obtain⟨a0,a1⟩:=Q4 hC.own (i:=i) (by rw[O8];exact hi);obtain⟨-,hz,-,-,-,-⟩:=hC.own.elem (i:=i) (by rw[O8];exact hi);have z0:=hz (i*2);have z1:=hz (i*2+1);have hst:=hC.storeP hA.self hi hij (by decide);rw[HY.out] at hst;clear hz;simp only[Oper.wp,execOp];go_simp;exact hK undef _ hst trivial trivial
  apply Bm (fun _ _ h=>h.plain (by decide)) rfl rfl rfl
  ·intro b a w hC hA K hK;have h8:=hA.eq 2 8 rfl;have h9:=hA.eq 3 9 rfl;simp only[Oper.wp,execOp];go_simp;exact hK _ hC trivial
  apply Gn (fun _=>True) rfl rfl
  ·intro b a w hC hA K hK;have h19:=hA.eq 14 19 rfl;have h17:=hA.eq 11 17 rfl;obtain⟨a0,a1⟩:=Q4 hC.own (i:=j) (by rw[O8];exact hj);obtain⟨-,hz,-,-,-,-⟩:=hC.own.elem (i:=j) (by rw[O8];exact hj);have z0:=hz (j*2);have z1:=hz (j*2+1);have hst:=hC.storeQ hA.self hj (by decide);rw[HX.out] at hst;clear hz;simp only[Oper.wp,execOp];go_simp;exact hK undef _ hst trivial trivial
  refine⟨?_,?_⟩
  ·refine⟨fun _ _ _ _ _=>trivial,?_⟩;refine B6 _ ?_;refine⟨fun _ _ _ _ _=>trivial,?_⟩
   iterate 13 refine B6 _ ?_
   exact trivial
  ·intro w' bb hC hbb;simp only[a0u,a1z,a1w,a1x]
   iterate 13 (refine Aq ?_)
   refine Av ?_;intro v13 u13
   iterate 1 (refine Aq ?_)
   refine Av ?_;intro v15 u15;refine A8 ?_;simp only[Am,Act.put,a0x,a0w,a0v];have ho4:=hC.own;rw[mB (hbb 13 (by simp)) (hbb 15 (by simp))] at ho4;have HO4:=a0z ho4;have HF4:=a0z hC.fp;clear hC hbb ho4 u13 u15;go_wp2_with (fail);go_end0;exact⟨rfl,HO4.out,HF4.out⟩
end
section
open Go.RowKit Go.Lib
theorem Tryz.infoSrc:(Tryz.prog.info? 331).map (fun i=>(i.zero,i.size,i.bytes))=some (some (.agg #[.pointer none,.int .i64 0]),2,16):=by kernel_rfl
theorem pU(W:World)(base B:Nat)(v:Value)(l:List Ib)(x:Ib)(hB:W.heap[B]?=some (.cells #[v] 325 (0,0)))(ho:Ag G0 W base v l)(hb:base≤W.heap.size)(hn:l.length≤1000000):
  Calls Tryz.prog 325 #[.pointer (some ⟨B,0,none⟩),.iface 331 (.agg #[.pointer (some ⟨x.q,0,none⟩),.int .i64 x.at_])] W fun e W'=>e=.returned (.tuple #[])∧(∃v',W'.heap[B]?=some (.cells #[v'] 325 (0,0))∧Ag G0 W' base v' (l++[x]))∧Tf base [331] [B] W W':=by
 have HB:=a0z hB;have HO:=a0z ho;have hBw:=Ab hB;obtain⟨va,vc,hv,-,-⟩:=ho.len;obtain⟨xq,xa⟩:=x;clear hB ho;go_enter Tryz.func325,Tryz.ntmps325;go_wp2_with (fail);refine P7 (F3 G0 [331] 325 (fun v=>#[v]) base B v l ⟨xq,xa⟩ 6 7 9 W) (fun _ _=>True) (by kernel_rfl) (by kernel_rfl) (fun _=>F3.start HO.out HB.out hb) ?_
 iterate 3
  apply Cc (fun _ _ _ h _=>h.plain (by decide)) rfl rfl rfl
  ·intro b a w hC hA K hK
   try have h0:=hA.fr 0 rfl
   try have h5:=hA.eq 1 5 rfl
   simp only[Oper.wp,execOp];go_simp;exact hK _ hC trivial
 apply Cc (fun _ _ _ h _=>h.plain (by decide)) rfl rfl rfl
 ·intro b a w hC hA K hK;have h6:=hA.eq 2 6 rfl;have q0:=Aa (hC.first (hA.post 7 (by kernel_rfl))) 0;simp only[List.getElem?_toArray,List.getElem?_cons_zero] at q0;rw[hv] at q0;simp only[Oper.wp,execOp];go_simp;rw[←hv];exact hK _ hC trivial
 iterate 2
  apply Cc (fun _ _ _ h _=>h.plain (by decide)) rfl rfl rfl
  ·intro b a w hC hA K hK
   try have h1:=hA.fr 1 rfl
   try have h8:=hA.eq 4 8 rfl
   simp only[Oper.wp,execOp];go_simp;exact hK _ hC trivial
 apply Dv (fun _ _=>True) rfl rfl rfl
 ·intro b a w hC hA K hK;have h9:=hA.eq 5 9 rfl;have hst:=hC.build hA.self (by decide);simp only[Oper.wp,execOp];go_simp;exact hK _ _ hst trivial trivial
 apply Dv (fun _ _=>True) rfl rfl rfl
 ·intro b a w hC hA K hK;have h7:=hA.eq 3 7 rfl;have h10:=hA.dep 6 10 _ (by kernel_rfl) rfl;obtain⟨g,hg1,hg2⟩:=hC.bld (hA.pre 6 (by kernel_rfl)) hA.self;refine eQ (R:=G0) 325 Tryz.underlying325 Tryz.infoSrc rfl (by decide) (.tmp 7) (.tmp 10) rfl base v l (F5 h7) (hC.own0 hA.self) _ _ _ [⟨xq,xa⟩] (F5 ((hA.val 6 10 (by kernel_rfl)).trans hg1)) hg2 (by simp;omega) hC.sz ?_;intro v' w' h1 h2 h3;exact hK _ _ (hC.append (hA.pre 6 (by kernel_rfl)) hA.self h1 h3 (by simp[G0]) (by decide) (by decide)) trivial trivial
 apply Cc (fun _ _ _ h _=>h.plain (by decide)) rfl rfl rfl
 ·intro b a w hC hA K hK;have h4:=hA.eq 0 4 rfl;simp only[Oper.wp,execOp];go_simp;exact hK _ hC trivial
 apply I8 (fun _=>True) rfl rfl rfl
 ·intro b a w hC hA K hK;have h12:=hA.eq 8 12 rfl;have h11:=hA.dep 7 11 _ (by kernel_rfl) rfl;obtain⟨a2,n2,c2,e2⟩:=hC.slice (hA.pre 7 (by kernel_rfl));have hvv:=(hA.val 7 11 (by kernel_rfl)).trans e2;have hst:=hC.store (off:=0) (hA.pre 7 (by kernel_rfl)) hA.self (by simp) (by decide) (by decide);rw[e2] at hst;have f0:=Aw hC.cel 0;have q0:=Aa hC.cel 0;simp only[Oper.wp,execOp];go_simp;exact hK undef _ hst trivial trivial
 refine⟨?_,?_⟩
 ·refine⟨fun _ _ _ _ _=>trivial,?_⟩;refine E2 _ ?_;refine⟨fun _ _ _ _ _=>trivial,?_⟩;refine⟨fun _ _ _ _ _=>trivial,?_⟩
  iterate 6 refine E2 _ ?_
  exact trivial
 ·intro w' bb hbb;simp only[a0u,a1z,a1w,a1x]
  iterate 6 (refine Aq ?_)
  refine Av ?_;intro v6 u6;refine Av ?_;intro v7 u7
  iterate 1 (refine Aq ?_)
  refine Av ?_;intro v9 u9;refine A8 ?_;intro hC;simp only[Am,Act.put,a0x,a0w,a0v];have hcel:=hC.cel;rw[hbb 9 (by simp)] at hcel;have HC1:=a0z hcel;have HC2:=a0z (hC.own1 (hbb 7 (by simp)));have HC3:=a0z hC.tf;clear hC hbb hcel;go_wp2_with (fail);go_end0;exact⟨rfl,⟨_,HC1.out,HC2.out⟩,HC3.out⟩
theorem pV(W:World)(base B:Nat)(v:Value)(l:List Ib)(x:Ib)(hB:W.heap[B]?=some (.cells #[v] 325 (0,0)))(ho:Ag G0 W base v (l++[x]))(hn:l.length≤1000000):
  Calls Tryz.prog 324 #[.pointer (some ⟨B,0,none⟩)] W fun e W'=>e=.returned (.iface 331 (.agg #[.pointer (some ⟨x.q,0,none⟩),.int .i64 x.at_]))∧(∃v',W'.heap[B]?=some (.cells #[v'] 325 (0,0))∧Ag G0 W' base v' l)∧Fp [B] W W':=by
 obtain⟨g,cap,cur,rfl,hg,hh,hcap,-⟩:=ho.open (by simp)
 have hl1:(l++[x]).length=l.length+1:=by simp
 have hc:=Xa ho (i:=l.length) (by omega)
 have hlast:(l++[x])[l.length]'(by omega)=x:=by simp
 rw[hlast] at hc;have hless:=ho.less (m:=l.length) (by omega) (by omega);rw[List.take_left] at hless;rw[hl1] at hcap
 obtain⟨n,hn1⟩:∃n,l.length=n:=⟨_,rfl⟩
 rw[hl1] at hB;rw[hn1] at hless hc hB hcap hn;have HC:=a0z hc;have HL:=a0z hless;have HB:=a0z hB;have q0:W.cell? ⟨B,0,none⟩=some (.slice (some ⟨g,0,none⟩) (n+1) cap):=Aa hB 0;have f0:W.frozen? ⟨B,0,none⟩=false:=Aw hB 0;have hBw:=Ab hB
 have hgB:g≠B:=by
  intro e;subst e;rw[hh] at hB;cases hB
 obtain⟨p0,p1⟩:=hc W (Fp.refl _ _);obtain⟨xq,xa⟩:=x;simp only at p0 p1
 have n1:IntKind.i64.wrap (((n+1:Nat):Int)-1)=(n:Int):=by rw[IntKind.wrap_i64];omega
 obtain⟨m,hm⟩:∃m,n+1=m:=⟨_,rfl⟩
 rw[hm] at n1 q0 hcap
 have z1:(n:Int)<(m:Int):=by omega
 have z2:(n:Int)≤(cap:Int):=by omega
 clear ho hh hc hlast hless hl1 hB hn1 hm;go_enter Tryz.func324,Tryz.ntmps324;go_wp2_with (fail);go_ret;have hf:Fp [B] W (W.setCell ⟨B,0,none⟩ (.slice (some ⟨g,0,none⟩) n cap)):=Fp.setCell W ⟨B,0,none⟩ _;refine⟨rfl,⟨_,C7 ((Bt HB.out _).trans rfl),?_⟩,hf.alloc' _⟩;refine Ag.fp (S:=[]) (HL.out.kept fun k hk=>hf.block k (HL.out.lt k hk).2 ?_) (Fp.alloc _ _) (by simp)
 have:g=k:=by simpa [Value.ownBlock] using hk
 subst this
 simpa using hgB
end
end Go.Proofs.YtkagolpnaicdoaaGreatDoor
