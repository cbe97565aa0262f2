/-
 runs: an item's compare, same, Cmp. slices.insertionSortCmpFunc of items. slices.SortStableFunc of fewer than 20 items.
-/
import Derived.Test.YtkagolpnaicdoaaGreatDoorPRef20D
import Derived.Test.YtkagolpnaicdoaaGreatDoorPWalE
import Derived.Test.YtkagolpnaicdoaaGreatDoorPTabL
import Derived.Test.YtkagolpnaicdoaaGreatDoorPCellA
import Derived.Test.YtkagolpnaicdoaaGreatDoorPRegionG
set_option maxRecDepth 100000
set_option maxHeartbeats 8000000
open Go.Lib renaming hid→a0z
open List renaming setIfInBounds_toArray→a0x,set_cons_succ→a0w,set_cons_zero→a0v,reverse_cons→a0u,reverse_nil→a1z,cons_append→a1x,nil_append→a1w
open Bool renaming false_eq_true→a1v
open Go.IntKind renaming wrap_i64→a1u
namespace Go.Proofs.YtkagolpnaicdoaaGreatDoor
section
open Go.RowKit Go.Lib
def K5(x:Ad):List Value:=[.string x.c.row,.string x.c.col,.int .u64 x.c.ts,.int .u64 x.c.seq,.bool x.c.del,.string x.c.val,.int .i64 x.pos]
def Jk(x:Ad):Value:=.agg (K5 x).toArray
def Bz:Gx Ad where
 e:=221
 k:=7
 enc:=K5
 len:=fun _=>rfl
 pos:=by decide
 one:=fun x v hv=>by
  unfold K5 at hv;simp only[List.mem_cons,List.not_mem_nil,or_false] at hv
  rcases hv with rfl|rfl|rfl|rfl|rfl|rfl|rfl<;>rfl
theorem wI(x y:Ad):Ff [Dq x y,Du y.pos x.pos]=D6 x y:=by
 rcases Qk x y with⟨h1,h2⟩|⟨h1,h2⟩
 ·rw[h2];unfold Ff;rw[if_pos h1]
 ·rw[h2,h1];unfold Ff;rw[if_neg (by decide)];unfold Ff;split
  ·rfl
  ·rename_i h;unfold Ff;omega
theorem Yu(a:Int)(w:World):Calls Tryz.prog 290 #[.int .i64 a] w fun e w'=>e=.returned (.bool false)∧w=w':=by
 go_enter Tryz.func290,Tryz.ntmps290;go_wp2;go_ret;exact⟨by simp,rfl⟩
theorem wJ(a b:Nat)(w:World):Calls Tryz.prog 264 #[.int .i64 a,.int .i64 b] w fun e w'=>e=.returned (.int .i64 (Du a b))∧w=w':=by
 by_cases h1:a<b
 ·have H:=a0z (Rh h1);go_enter Tryz.func264,Tryz.ntmps264;go_wp2_with (go_at_call 290;refine(Yu _ _).mono ?_;rintro e w' ⟨rfl,rfl⟩);go_ret;exact⟨by rw[H.out];rfl,rfl⟩
 ·by_cases h2:b<a
  ·have H:=a0z (Ri h2);go_enter Tryz.func264,Tryz.ntmps264;go_wp2_with (go_at_call 290;refine(Yu _ _).mono ?_;rintro e w' ⟨rfl,rfl⟩);go_ret;exact⟨by rw[H.out];rfl,rfl⟩
  ·have H:=a0z (W7 h1 h2);go_enter Tryz.func264,Tryz.ntmps264;go_wp2_with (go_at_call 290;refine(Yu _ _).mono ?_;rintro e w' ⟨rfl,rfl⟩);go_ret;exact⟨by rw[H.out];rfl,rfl⟩
def wK:Array Value:=#[.string ⟨#[]⟩,.string ⟨#[]⟩,.int .u64 0,.int .u64 0,.bool false,.string ⟨#[]⟩]
def iC(c:Ac):Array Value:=#[.string c.row,.string c.col,.int .u64 c.ts,.int .u64 c.seq,.bool c.del,.string c.val]
theorem Yv(x y:Ad)(w:World):Calls Tryz.prog 217 #[Jk x,Jk y] w fun e w'=>e=.returned (.int .i64 (D6 x y))∧Fp [] w w':=by
 have HFI:=a0z (wI x y);have C1:=a0z (fun w=>aV (K3 x) (K3 y) w);have C2:=a0z (fun w=>wJ y.pos x.pos w);rw[show Ez (K3 x) (K3 y)=Dq x y from rfl] at C1
 obtain⟨ck,hck⟩:∃z,Dq x y=z:=⟨_,rfl⟩
 obtain⟨cn,hcn⟩:∃z,Du y.pos x.pos=z:=⟨_,rfl⟩
 rw[hck] at C1 HFI;rw[hcn] at C2 HFI;have HO:=a0z (fun w sb (hs:w.heap[sb]?=some (.cells #[.int .i64 ck,.int .i64 cn] 3 (0,0)))=>aU w sb [ck,cn] hs (by show 2≤1000;decide))
 obtain⟨r,hr⟩:∃r,D6 x y=r:=⟨_,rfl⟩
 rw[hr] at HFI;rw[HFI.out] at HO;rw[hr];clear hck hcn hr;obtain⟨⟨xr,xc,xt,xs,xd,xv⟩,xp⟩:=x;obtain⟨⟨yr,yc,yt,ys,yd,yv⟩,yp⟩:=y;have C1':Hid (∀w,Calls Tryz.prog 156 #[.agg #[.string xr,.string xc,.int .u64 xt,.int .u64 0,.bool xd,.string xv],.agg #[.string yr,.string yc,.int .u64 yt,.int .u64 0,.bool yd,.string yv]] w fun e w'=>e=.returned (.int .i64 ck)∧Fp [] w w'):=C1;clear C1;unfold Jk K5;simp only;go_enter Tryz.func217,Tryz.ntmps217
 obtain⟨W,hW⟩:∃W,W=(w.alloc (.cells #[.string xr,.string xc,.int .u64 xt,.int .u64 xs,.bool xd,.string xv,.int .i64 xp] 221)).alloc (.cells #[.string yr,.string yc,.int .u64 yt,.int .u64 ys,.bool yd,.string yv,.int .i64 yp] 221):=⟨_,rfl⟩
 have hfw:Fp [] w W:=by rw[hW];exact(Fp.alloc _ _).alloc' _
 have hba:W.heap[w.heap.size]?=some (.cells #[.string xr,.string xc,.int .u64 xt,.int .u64 xs,.bool xd,.string xv,.int .i64 xp] 221 (0,0)):=by
  rw[hW,Below.heap_alloc _ _ _ (by simp)];exact Ai rfl _
 have hbb:W.heap[w.heap.size+1]?=some (.cells #[.string yr,.string yc,.int .u64 yt,.int .u64 ys,.bool yd,.string yv,.int .i64 yp] 221 (0,0)):=by
  rw[hW];exact Ai (by simp) _
 have HBA:=a0z hba;have HBB:=a0z hbb;have HFW:=a0z hfw
 have HX:Hid (∀w',Fp [] W w'→w'.cell? ⟨w.heap.size,0,none⟩=some (.string xr)∧w'.cell? ⟨w.heap.size,1,none⟩=some (.string xc)∧w'.cell? ⟨w.heap.size,2,none⟩=some (.int .u64 xt)∧w'.cell? ⟨w.heap.size,3,none⟩=some (.int .u64 xs)∧w'.cell? ⟨w.heap.size,4,none⟩=some (.bool xd)∧w'.cell? ⟨w.heap.size,5,none⟩=some (.string xv)∧w'.cell? ⟨w.heap.size,6,none⟩=some (.int .i64 xp)):=fun w' hf=>by
  have h1:=(hf.block _ (Ab HBA.out) (by simp)).trans HBA.out;exact⟨Aa h1 0,Aa h1 1,Aa h1 2,Aa h1 3,Aa h1 4,Aa h1 5,Aa h1 6⟩
 have HY:Hid (∀w',Fp [] W w'→w'.cell? ⟨w.heap.size+1,0,none⟩=some (.string yr)∧w'.cell? ⟨w.heap.size+1,1,none⟩=some (.string yc)∧w'.cell? ⟨w.heap.size+1,2,none⟩=some (.int .u64 yt)∧w'.cell? ⟨w.heap.size+1,3,none⟩=some (.int .u64 ys)∧w'.cell? ⟨w.heap.size+1,4,none⟩=some (.bool yd)∧w'.cell? ⟨w.heap.size+1,5,none⟩=some (.string yv)∧w'.cell? ⟨w.heap.size+1,6,none⟩=some (.int .i64 yp)):=fun w' hf=>by
  have h1:=(hf.block _ (Ab HBB.out) (by simp)).trans HBB.out;exact⟨Aa h1 0,Aa h1 1,Aa h1 2,Aa h1 3,Aa h1 4,Aa h1 5,Aa h1 6⟩
 have hWs:W.heap.size=w.heap.size+2:=by rw[hW];simp
 clear hba hbb hfw;go_wp2_with (fail);rw[←hW];clear hW;refine Px (Gi 80 wK (iC ⟨xr,xc,xt,xs,xd,xv⟩) (iC ⟨yr,yc,yt,ys,yd,yv⟩) 4 5 6 7 W) (fun _ _=>True) (by kernel_rfl) (by kernel_rfl) (fun _=>Gi.start (Fp.drew _)) ?_
 iterate 4
  apply Cj (fun _ _ _ h _=>h.plain (by decide)) rfl rfl rfl
  ·intro b a w hC hA K hK
   try have h2:=hA.fr 2 rfl
   try have h7:=hA.eq 0 7 rfl
   try have h3:=hA.fr 3 rfl
   try have h9:=hA.eq 2 9 rfl
   obtain⟨x0,x1,x2,x3,x4,x5,x6⟩:=HX.out _ hC.fp;obtain⟨y0,y1,y2,y3,y4,y5,y6⟩:=HY.out _ hC.fp;simp only[Oper.wp,execOp];go_simp;exact hK _ hC trivial
 apply Dt (fun _ _=>True) rfl rfl rfl
 ·intro b a w hC hA K hK;simp only[Oper.wp,execOp];go_simp;exact hK _ _ (hC.makeI (hA.post 6 (by kernel_rfl)) (by decide)) trivial trivial
 apply Dt (fun _ _=>True) rfl rfl rfl
 ·intro b a w hC hA K hK;simp only[Oper.wp,execOp];go_simp;exact hK _ _ (hC.makeJ (hA.post 7 (by kernel_rfl)) (by decide)) trivial trivial
 apply I9 (fun _=>True) rfl rfl rfl
 ·intro b a w hC hA K hK;have h5:=hA.dep 4 5 _ (by kernel_rfl) rfl;have h8:=hA.eq 1 8 rfl;obtain⟨B,e1,e2,e3⟩:=hC.ai (hA.pre 4 (by kernel_rfl));have h5:a.tmps[5]?.getD undef=.pointer (some ⟨B,0,none⟩):=(hA.val 4 5 (by kernel_rfl)).trans e1;rw[hA.self,if_neg (by decide)] at e3;have q0:w.cell? ⟨B,0,none⟩=some (.string ⟨#[]⟩):=Aa e3 0;have q1:w.cell? ⟨B,1,none⟩=some (.string ⟨#[]⟩):=Aa e3 1;have q2:w.cell? ⟨B,2,none⟩=some (.int .u64 0):=Aa e3 2;have q3:w.cell? ⟨B,3,none⟩=some (.int .u64 0):=Aa e3 3;have q4:w.cell? ⟨B,4,none⟩=some (.bool false):=Aa e3 4;have q5:w.cell? ⟨B,5,none⟩=some (.string ⟨#[]⟩):=Aa e3 5;have g0:=Ar e3 0;have g1:=Ar e3 1;have g2:=Ar e3 2;have g3:=Ar e3 3;have g4:=Ar e3 4;have g5:=Ar e3 5;have hst:=hC.fillP (w2:=((((((w.setCell ⟨B,0,none⟩ (.string xr)).setCell ⟨B,1,none⟩ (.string xc)).setCell ⟨B,2,none⟩ (.int .u64 xt)).setCell ⟨B,3,none⟩ (.int .u64 xs)).setCell ⟨B,4,none⟩ (.bool xd)).setCell ⟨B,5,none⟩ (.string xv))) (hA.pre 4 (by kernel_rfl)) e1 ((((((Fp.setCell w ⟨B,0,none⟩ _).setCell' (Or.inl (by simp)) _).setCell' (Or.inl (by simp)) _).setCell' (Or.inl (by simp)) _).setCell' (Or.inl (by simp)) _).setCell' (Or.inl (by simp)) _) (by rw[Bm (Bm (Bm (Bm (Bm (Bm e3 _) _) _) _) _) _];rfl) (by decide);simp only[Oper.wp,execOp];go_simp;exact hK undef _ hst trivial trivial
 apply I9 (fun _=>True) rfl rfl rfl
 ·intro b a w hC hA K hK;have h6:=hA.dep 5 6 _ (by kernel_rfl) rfl;have h10:=hA.eq 3 10 rfl;obtain⟨B,e1,e2,e3⟩:=hC.aj (hA.pre 5 (by kernel_rfl));have h6:a.tmps[6]?.getD undef=.pointer (some ⟨B,0,none⟩):=(hA.val 5 6 (by kernel_rfl)).trans e1;rw[hA.self,if_neg (by decide)] at e3;have q0:w.cell? ⟨B,0,none⟩=some (.string ⟨#[]⟩):=Aa e3 0;have q1:w.cell? ⟨B,1,none⟩=some (.string ⟨#[]⟩):=Aa e3 1;have q2:w.cell? ⟨B,2,none⟩=some (.int .u64 0):=Aa e3 2;have q3:w.cell? ⟨B,3,none⟩=some (.int .u64 0):=Aa e3 3;have q4:w.cell? ⟨B,4,none⟩=some (.bool false):=Aa e3 4;have q5:w.cell? ⟨B,5,none⟩=some (.string ⟨#[]⟩):=Aa e3 5;have g0:=Ar e3 0;have g1:=Ar e3 1;have g2:=Ar e3 2;have g3:=Ar e3 3;have g4:=Ar e3 4;have g5:=Ar e3 5;have hst:=hC.fillQ (w2:=((((((w.setCell ⟨B,0,none⟩ (.string yr)).setCell ⟨B,1,none⟩ (.string yc)).setCell ⟨B,2,none⟩ (.int .u64 yt)).setCell ⟨B,3,none⟩ (.int .u64 ys)).setCell ⟨B,4,none⟩ (.bool yd)).setCell ⟨B,5,none⟩ (.string yv))) (hA.pre 5 (by kernel_rfl)) e1 ((((((Fp.setCell w ⟨B,0,none⟩ _).setCell' (Or.inl (by simp)) _).setCell' (Or.inl (by simp)) _).setCell' (Or.inl (by simp)) _).setCell' (Or.inl (by simp)) _).setCell' (Or.inl (by simp)) _) (by rw[Bm (Bm (Bm (Bm (Bm (Bm e3 _) _) _) _) _) _];rfl) (by decide);simp only[Oper.wp,execOp];go_simp;exact hK undef _ hst trivial trivial
 refine⟨?_,?_⟩
 ·refine⟨fun _ _ _ _ _=>trivial,?_⟩;refine⟨fun _ _ _ _ _=>trivial,?_⟩;refine⟨fun _ _ _ _ _=>trivial,?_⟩;refine⟨fun _ _ _ _ _=>trivial,?_⟩
  iterate 4 refine E6 _ ?_
  exact trivial
 ·intro w' bb hbb;simp only[a0u,a1z,a1w,a1x]
  iterate 4 (refine Au ?_)
  refine Az ?_;intro v4 u4;refine Az ?_;intro v5 u5;refine Az ?_;intro v6 u6;refine Az ?_;intro v7 u7;refine A6 ?_;intro hC;simp only[Am,Act.put,a0x,a0w,a0v];obtain⟨B1,e1,hB1,hb1⟩:=hC.ai (hbb 4 (by simp));obtain⟨B2,e2,hB2,hb2⟩:=hC.aj (hbb 5 (by simp));have hne:=hC.ne (hbb 4 (by simp)) (hbb 5 (by simp));rw[hbb 6 (by simp),if_pos rfl] at hb1;rw[hbb 7 (by simp),if_pos rfl] at hb2;have e1':v4=.pointer (some ⟨B1,0,none⟩):=e1;have e2':v5=.pointer (some ⟨B2,0,none⟩):=e2
  have hne':B1≠B2:=fun h=>hne (by rw[e1,e2,h])
  have HF0:=a0z hC.fp;subst e1' e2';have q1:w'.cell? ⟨B1,3,none⟩=some (.int .u64 xs):=Aa hb1 3;have g1:=Ar hb1 3;have hb2':(w'.setCell ⟨B1,3,none⟩ (.int .u64 0)).heap[B2]?=_ :=(Jf (Ne.symm hne') _).trans hb2;have q2:(w'.setCell ⟨B1,3,none⟩ (.int .u64 0)).cell? ⟨B2,3,none⟩=some (.int .u64 ys):=Aa hb2' 3;have g2:=Ar hb2' 3;have hx2:((w'.setCell ⟨B1,3,none⟩ (.int .u64 0)).setCell ⟨B2,3,none⟩ (.int .u64 0)).heap[B1]?=some (.cells #[.string xr,.string xc,.int .u64 xt,.int .u64 0,.bool xd,.string xv] 80 (0,0)):=((Jf hne' _).trans (Bm hb1 _)).trans rfl;have hy2:((w'.setCell ⟨B1,3,none⟩ (.int .u64 0)).setCell ⟨B2,3,none⟩ (.int .u64 0)).heap[B2]?=some (.cells #[.string yr,.string yc,.int .u64 yt,.int .u64 0,.bool yd,.string yv] 80 (0,0)):=(Bm hb2' _).trans rfl;have HF1:=a0z ((HF0.out.setCell' (p:=⟨B1,3,none⟩) (Or.inr hB1) (.int .u64 0)).setCell' (p:=⟨B2,3,none⟩) (Or.inr hB2) (.int .u64 0));have HX2:=a0z hx2;have HY2:=a0z hy2
  obtain⟨W2,hW2⟩:∃x,x=(w'.setCell ⟨B1,3,none⟩ (.int .u64 0)).setCell ⟨B2,3,none⟩ (.int .u64 0):=⟨_,rfl⟩
  clear hC hbb hne e1 e2 hb1 hb2 hb2' hx2 hy2 u4 u5 u6 u7;go_wp2_with (fail);rw[←hW2];rw[←hW2] at HF1 HX2 HY2;clear hW2 q1 g1 q2 g2
  have HL:Hid (∀w',Fp [] W2 w'→(w'.cell? ⟨B1,0,none⟩=some (.string xr)∧w'.cell? ⟨B1,1,none⟩=some (.string xc)∧w'.cell? ⟨B1,2,none⟩=some (.int .u64 xt)∧w'.cell? ⟨B1,3,none⟩=some (.int .u64 0)∧w'.cell? ⟨B1,4,none⟩=some (.bool xd)∧w'.cell? ⟨B1,5,none⟩=some (.string xv))∧
    (w'.cell? ⟨B2,0,none⟩=some (.string yr)∧w'.cell? ⟨B2,1,none⟩=some (.string yc)∧w'.cell? ⟨B2,2,none⟩=some (.int .u64 yt)∧w'.cell? ⟨B2,3,none⟩=some (.int .u64 0)∧w'.cell? ⟨B2,4,none⟩=some (.bool yd)∧w'.cell? ⟨B2,5,none⟩=some (.string yv))):=fun w' hf=>by
   have h1:=(hf.block _ (Ab HX2.out) (by simp)).trans HX2.out;have h2:=(hf.block _ (Ab HY2.out) (by simp)).trans HY2.out;exact⟨⟨Aa h1 0,Aa h1 1,Aa h1 2,Aa h1 3,Aa h1 4,Aa h1 5⟩,Aa h2 0,Aa h2 1,Aa h2 2,Aa h2 3,Aa h2 4,Aa h2 5⟩
  refine Df (by kernel_rfl) (by kernel_rfl) ?_
  iterate 8
   apply A9 rfl rfl rfl
   ·intro a w hC hA K hK
    try have h5:=hA.fr 5 rfl
    try have h6:=hA.fr 6 rfl
    try have h13:=hA.eq 0 13 rfl
    try have h14:=hA.eq 1 14 rfl
    try have h3:=hA.fr 3 rfl
    try have h16:=hA.eq 3 16 rfl
    try have h2:=hA.fr 2 rfl
    try have h18:=hA.eq 5 18 rfl
    try have h17:=hA.eq 4 17 rfl
    try have h19:=hA.eq 6 19 rfl
    obtain⟨⟨a0,a1,a2,a3,a4,a5⟩,b0,b1,b2,b3,b4,b5⟩:=HL.out _ hC;obtain⟨-,-,-,-,-,-,x6⟩:=HX.out _ (HF1.out.trans hC (by simp));obtain⟨-,-,-,-,-,-,y6⟩:=HY.out _ (HF1.out.trans hC (by simp));simp only[Oper.wp,execOp];go_simp
    first
    |exact hK _ hC (Fp.refl _ _)
    |first
      |((with_reducible refine(C1'.out _).mono ?_);rintro e w2 ⟨rfl,hf⟩;exact hK _ (hC.trans hf (by simp)) hf)
      |((with_reducible refine(C2.out _).mono ?_);rintro e w2 ⟨rfl,rfl⟩;exact hK _ hC (Fp.refl _ _))
  apply gW (fun w' v=>∃g,v=.slice (some ⟨g,0,none⟩) 2 2∧w'.heap[g]?=some (.cells #[.int .i64 ck,.int .i64 cn] 3 (0,0))) rfl rfl rfl
  ·intro a w hC hA K hK;have h15:=hA.eq 2 15 rfl;have h20:=hA.eq 7 20 rfl;simp only[Oper.wp,execOp];go_simp;exact hK _ _ (hC.alloc' _) (Fp.alloc _ _) ⟨_,rfl,Ai rfl _⟩
  apply A9 rfl rfl rfl
  ·intro a w hC hA K hK;have h21:=hA.dep 8 21 _ (by kernel_rfl) rfl;obtain⟨g,h21,hg⟩:=h21;simp only[Oper.wp,execOp];go_simp;refine(HO.out _ g hg).mono ?_;rintro e w2 ⟨rfl,rfl⟩;exact hK _ hC (Fp.refl _ _)
  apply A9 rfl rfl rfl
  ·intro a w hC hA K hK;have h22:=hA.eq 9 22 rfl;simp only[Oper.wp,execOp];go_simp;exact hK _ hC (Fp.refl _ _)
  refine⟨?_,?_⟩
  ·repeat(first|exact trivial|refine C3 _ ?_ |refine⟨fun w1 w2 v _ hf ⟨g,h1,h2⟩=>⟨g,h1,(hf.block g (Ab h2) (by simp)).trans h2⟩,?_⟩)
  ·intro w' hC;simp only[a0u,a1z,a1w,a1x]
   iterate 8 (refine Au ?_)
   refine Az ?_;intro v8 u8
   iterate 2 (refine Au ?_)
   refine A6 ?_;simp only[Am,Act.put,a0x,a0w,a0v];have HF3:=a0z hC;clear hC;go_wp2_with (fail);go_ret;exact⟨rfl,(HFW.out.trans HF1.out (by simp)).trans HF3.out (by simp)⟩
theorem iD(x y:Ad)(w:World):Calls Tryz.prog 219 #[Jk x,Jk y] w fun e w'=>e=.returned (.bool (Bl x y))∧Fp [] w w':=by
 have C1:=a0z (fun w=>aW x.c y.c w);have HS:Hid (Bl x y=Nr x.c y.c):=rfl
 obtain⟨r,hr⟩:∃r,Nr x.c y.c=r:=⟨_,rfl⟩
 rw[hr] at C1 HS;rw[HS.out];clear hr;obtain⟨⟨xr,xc,xt,xs,xd,xv⟩,xp⟩:=x;obtain⟨⟨yr,yc,yt,ys,yd,yv⟩,yp⟩:=y;have C1':Hid (∀w,Calls Tryz.prog 265 #[.agg #[.string xr,.string xc,.int .u64 xt,.int .u64 xs,.bool xd,.string xv],.agg #[.string yr,.string yc,.int .u64 yt,.int .u64 ys,.bool yd,.string yv]] w fun e w'=>e=.returned (.bool r)∧Fp [] w w'):=C1;clear C1;unfold Jk K5;simp only;go_enter Tryz.func219,Tryz.ntmps219;go_wp2_with (fail);(with_reducible refine(C1'.out _).mono ?_);rintro e w1 ⟨rfl,hf⟩;have HF:=a0z (((Fp.alloc w _).alloc' _).trans hf (by simp));clear hf;go_wp2_with (fail);go_ret;exact⟨rfl,HF.out⟩
end
section
open Go.RowKit Go.Lib
structure Jl(w:World)(b o:Nat)(x:Ad):Prop where
 c0:w.cell? ⟨b,o,none⟩=some (.string x.c.row)
 c1:w.cell? ⟨b,o+1,none⟩=some (.string x.c.col)
 c2:w.cell? ⟨b,o+2,none⟩=some (.int .u64 x.c.ts)
 c3:w.cell? ⟨b,o+3,none⟩=some (.int .u64 x.c.seq)
 c4:w.cell? ⟨b,o+4,none⟩=some (.bool x.c.del)
 c5:w.cell? ⟨b,o+5,none⟩=some (.string x.c.val)
 c6:w.cell? ⟨b,o+6,none⟩=some (.int .i64 x.pos)
theorem S7{w:World}{b o:Nat}{x:Ad}(h:Nn Bz w b o x):Jl w b o x:=⟨h 0 _ rfl,h 1 _ rfl,h 2 _ rfl,h 3 _ rfl,h 4 _ rfl,h 5 _ rfl,h 6 _ rfl⟩
theorem K6{w:World}{base g n cap i:Nat}{l:List Ad}(h:Ae Bz w base (.slice (some ⟨g,0,none⟩) n cap) l)(hi:i<l.length):Jl w g (i*7) (Ag l i):=by
 rw[K4 hi];exact S7 (h.elem hi).1
theorem iE{w:World}{base g n cap i:Nat}{l:List Ad}{x:Ad}(h:Ae Bz w base (.slice (some ⟨g,0,none⟩) n cap) l)(hi:i<l.length)(hx:Ag l i=x):Jl w g (i*7) x:=by
 rw[←hx];exact K6 h hi
theorem Yw{w:World}{base g n cap i:Nat}{l:List Ad}(x:Ad)(h:Ae Bz w base (.slice (some ⟨g,0,none⟩) n cap) l)(hi:i<l.length):
  Ae Bz (w.setCells g (i*7) (K5 x)) base (.slice (some ⟨g,0,none⟩) n cap) (l.set i x)∧Fp [g] w (w.setCells g (i*7) (K5 x)):=h.setQ x hi
def Ia(l:List Ad)(i j p q:Nat)(b:Nat→Bool):List Ad:=
 let l1:=if b p=true then l.set i (Ag l j) else l
 if b q=true then l1.set j (Ag l i) else l1
structure Kq(w0:World)(base g n cap:Nat)(l:List Ad)(i j p q:Nat)(b:Nat→Bool)(w:World):Prop where
 own:Ae Bz w base (.slice (some ⟨g,0,none⟩) n cap) (Ia l i j p q b)
 fp:Fp [g] w0 w
variable {w0 w : World} {base g n cap i j p q : Nat} {l : List Ad} {b : Nat → Bool}
theorem Kq.first(h:Kq w0 base g n cap l i j p q b w)(hp:b p=false)(hq:b q=false):Ae Bz w base (.slice (some ⟨g,0,none⟩) n cap) l:=by
 have:=h.own;unfold Ia at this;rw[hp,hq] at this;exact this
theorem Qv:(Ia l i j p q b).length=l.length:=by
 unfold Ia;simp only
 split<;>split<;>simp
theorem wL(hb:b p=true)(hb2:b q=true):Ia l i j p q b=I1 l i j:=by
 unfold Ia I1;simp only;rw[if_pos hb,if_pos hb2]
theorem Kq.storeP(h:Kq w0 base g n cap l i j p q b w)(hp:b p=false)(hi:i<l.length)(hij:i≠j)(hpq:p≠q):
  Kq w0 base g n cap l i j p q (Ap b p) (w.setCells g (i*7) (K5 (Ag l j))):=by
 obtain⟨h1,h2⟩:=Yw (Ag l j) h.own (i:=i) (by rw[Qv];exact hi);refine⟨?_,h.fp.trans h2 (by intro k hk;exact Or.inl hk)⟩
 have e:(Ia l i j p q b).set i (Ag l j)=Ia l i j p q (Ap b p):=by
  cases hq:b q with
  |true=>simp only[Ia,Ap,hp,hq,if_neg (Ne.symm hpq),if_true,a1v,if_false];exact List.set_comm _ _ hij.symm
  |false=>simp only[Ia,Ap,hp,hq,if_neg (Ne.symm hpq),if_true,a1v,if_false]
 rw[←e];exact h1
theorem Kq.storeQ(h:Kq w0 base g n cap l i j p q b w)(hq:b q=false)(hj:j<l.length)(hpq:p≠q):
  Kq w0 base g n cap l i j p q (Ap b q) (w.setCells g (j*7) (K5 (Ag l i))):=by
 obtain⟨h1,h2⟩:=Yw (Ag l i) h.own (i:=j) (by rw[Qv];exact hj);refine⟨?_,h.fp.trans h2 (by intro k hk;exact Or.inl hk)⟩
 have e:(Ia l i j p q b).set j (Ag l i)=Ia l i j p q (Ap b q):=by
  simp only[Ia,Ap,hq,if_neg hpq,if_true,a1v,if_false]
 rw[←e];exact h1
theorem Kq.plain{k:Nat}(h:Kq w0 base g n cap l i j p q b w)(hk:k≠p∧k≠q):Kq w0 base g n cap l i j p q (Ap b k) w:=by
 refine⟨?_,h.fp⟩
 have e:Ia l i j p q (Ap b k)=Ia l i j p q b:=by
  unfold Ia Ap;simp only;rw[if_neg hk.1.symm,if_neg hk.2.symm]
 rw[e];exact h.own
theorem wM(w:World)(base g n cap a b:Nat)(l:List Ad)(ho:Ae Bz w base (.slice (some ⟨g,0,none⟩) n cap) l)(hok:Ci l)(hab:a≤b)(hb:b≤l.length)(hn:l.length≤1000000):
  Calls Tryz.prog 288 #[.slice (some ⟨g,0,none⟩) n cap,.int .i64 a,.int .i64 b,.func (.func 217) #[] #[]] w fun e w'=>e=.returned (.tuple #[])∧(∃l',F7 a b l l'∧Hq l' a b∧Ae Bz w' base (.slice (some ⟨g,0,none⟩) n cap) l')∧Fp [g] w w':=by
 have HO:=a0z ho;have HOK:=a0z hok;have HCMP:=a0z Yv
 have hm:l.length=n:=by
  obtain⟨a',c',e,-⟩:=ho.len;cases e;rfl
 have HM:=a0z hm;rw[hm] at hb hn;clear ho hok hm;go_enter Tryz.func288,Tryz.ntmps288
 have n1:IntKind.i64.wrap ((a:Int)+1)=((a+1:Nat):Int):=by rw[a1u];omega
 go_wp2_with (fail)
 go_loopg [8] (b-a) (fun gg vi wr=>∃(i:Nat) (l':List Ad),vi=.int .i64 i∧a<i∧gg+i=b+1∧F7 a b l l'∧Hq l' a i∧Ae Bz wr base (.slice (some ⟨g,0,none⟩) n cap) l'∧Fp [g] w wr)
 case atStart=>exact⟨a+1,l,by simp,by omega,by omega,F7.refl _ _ _,Hq.one _ _,HO.out,Fp.refl _ _⟩
 case round=>
  clear n1;obtain⟨i,l1,rfl,hai,hgi,ht,hs,ho,hf⟩:=hrel;have HT:=a0z ht;have HS:=a0z hs;have HO1:=a0z ho;have HF:=a0z hf;clear ht hs ho hf
  by_cases hib:i<b
  ·have zi:(i:Int)<(b:Int):=by omega
   have HL1:Hid (l1.length=n):=HT.out.len.trans HM.out;go_wp2_with (fail)
   go_loopg [9] i (fun gg vj wt=>∃(j:Nat) (l2:List Ad),vj=.int .i64 j∧gg=j∧a≤j∧j≤i∧F7 a b l l2∧O6 l2 a (i+1) j∧Ae Bz wt base (.slice (some ⟨g,0,none⟩) n cap) l2∧Fp [g] w wt)
   case atStart=>exact⟨i,l1,rfl,rfl,by omega,Nat.le_refl _,HT.out,HS.out.but,HO1.out,HF.out⟩
   case round=>
    obtain⟨j,l2,rfl,hgj,haj,hji,ht2,hs2,ho2,hf2⟩:=hrel;have HT2:=a0z ht2;have HS2:=a0z hs2;have HO2:=a0z ho2;have HF2:=a0z hf2;have HL2:Hid (l2.length=n):=HT2.out.len.trans HM.out;have HOK2:=a0z (HT2.out.ok HOK.out);clear ht2 hs2 ho2 hf2
    have n3:IntKind.i64.wrap ((i:Int)+1)=((i+1:Nat):Int):=by rw[a1u];omega
    by_cases hja:j=a
    ·subst hja
     have zj:¬(j:Int)>(j:Int):=by omega
     go_wp2_with (fail);refine Df (by kernel_rfl) (by kernel_rfl) ?_
     iterate 4
      apply A9 rfl rfl rfl
      ·intro a w hC hA K hK
       try have h9:=hA.fr 9 rfl
       try have h1:=hA.fr 1 rfl
       try have h18:=hA.eq 0 18 rfl
       try have h19:=hA.eq 1 19 rfl
       try have h20:=hA.eq 2 20 rfl
       simp only[Oper.wp,execOp];go_simp;exact hK _ hC (Fp.refl _ _)
     apply A1 3 21 rfl rfl rfl rfl (by kernel_rfl) rfl rfl;apply A1 3 21 rfl rfl rfl rfl (by kernel_rfl) rfl rfl;apply A1 3 21 rfl rfl rfl rfl (by kernel_rfl) rfl rfl;apply A1 3 21 rfl rfl rfl rfl (by kernel_rfl) rfl rfl;apply A1 3 21 rfl rfl rfl rfl (by kernel_rfl) rfl rfl;apply A1 3 21 rfl rfl rfl rfl (by kernel_rfl) rfl rfl;apply A1 3 21 rfl rfl rfl rfl (by kernel_rfl) rfl rfl;apply A1 3 21 rfl rfl rfl rfl (by kernel_rfl) rfl rfl;apply A1 3 21 rfl rfl rfl rfl (by kernel_rfl) rfl rfl;apply A1 3 21 rfl rfl rfl rfl (by kernel_rfl) rfl rfl;apply A1 3 21 rfl rfl rfl rfl (by kernel_rfl) rfl rfl;apply A1 3 21 rfl rfl rfl rfl (by kernel_rfl) rfl rfl;apply A9 rfl rfl rfl
     ·intro a w hC hA K hK;have h21:=hA.eq 3 21 rfl;have h33:=hA.eq 15 33 rfl;simp only[Oper.wp,execOp];go_simp;exact hK _ hC (Fp.refl _ _)
     refine⟨?_,?_⟩
     ·repeat(first|exact trivial|refine C3 _ ?_ |refine⟨fun w1 w2 v _ hf ⟨g,h1,h2⟩=>⟨g,h1,(hf.block g (Ab h2) (by simp)).trans h2⟩,?_⟩)
     ·intro w' hC;simp only[a0u,a1z,a1w,a1x]
      iterate 17 (refine Au ?_)
      refine A6 ?_;simp only[Am,Act.put,a0x,a0w,a0v];have HF3:=a0z (HF2.out.trans hC (by simp));have HO3:=a0z (Ae.kept HO2.out (fun k hk=>hC.block k (HO2.out.lt k hk).2 (by simp)));clear hC;go_wp2_with (fail)
      go_roundg (b-i)
      case measure=>omega
      case rel=>exact⟨i+1,l2,by simp,by omega,by omega,HT2.out,HS2.out.done HOK2.out (Or.inl rfl) (Nat.le_refl _),HO3.out,HF3.out⟩
    ·have zj:(j:Int)>(a:Int):=by omega
     have n2:IntKind.i64.wrap ((j:Int)-1)=((j-1:Nat):Int):=by rw[a1u];omega
     obtain⟨k,hk⟩:∃k,j-1=k:=⟨_,rfl⟩
     rw[hk] at n2
     have hjl:j<l2.length:=by rw[HL2.out];omega
     have hkl:k<l2.length:=by rw[HL2.out];omega
     obtain⟨-,-,-,hgw,-,-⟩:=HO2.out.elem hjl
     have zjn:(j:Int)<(n:Int):=by omega
     have zkn:(k:Int)<(n:Int):=by omega
     have HCJ:Hid (∀w',Fp [] wr w'→Jl w' g (j*7) (Ag l2 j)):=fun w' hf=>K6 (HO2.out.kept (fun k hk=>hf.block k (HO2.out.lt k hk).2 (by simp))) hjl
     have HCK:Hid (∀w',Fp [] wr w'→Jl w' g (k*7) (Ag l2 k)):=fun w' hf=>K6 (HO2.out.kept (fun k hk=>hf.block k (HO2.out.lt k hk).2 (by simp))) hkl
     have HDONE:=a0z (fun h=>HS2.out.done HOK2.out (Or.inr h) haj);have HSTEP:=a0z (fun h=>HS2.out.step (by rw[HL2.out];omega) (by omega) (by omega) h);rw[hk] at HDONE HSTEP;have HNOT:=a0z (fun h=>A7.not (HOK2.out.at j) (HOK2.out.at k) h);have HLT:=a0z (fun h=>A7.lt (x:=Ag l2 j) (y:=Ag l2 k) h);have HTS:=a0z (F7.swap (a:=a) (b:=b) hjl hkl haj (by omega) (by omega) (by omega));have HC1:=a0z (fun w=>HCMP.out (Ag l2 j) (Ag l2 k) w)
     obtain⟨x,hx⟩:∃x,Ag l2 j=x:=⟨_,rfl⟩
     obtain⟨y,hy⟩:∃y,Ag l2 k=y:=⟨_,rfl⟩
     rw[hx] at HCJ HNOT HLT HC1 HDONE HSTEP;rw[hy] at HCK HNOT HLT HC1 HDONE HSTEP;have HX:=a0z hx;have HY:=a0z hy
     obtain⟨r,hr⟩:∃r,D6 x y=r:=⟨_,rfl⟩
     rw[hr] at HNOT HLT HC1;have HK:=a0z hk
     have hjk:j≠k:=by omega
     have n4:IntKind.i64.wrap ((j:Int)-1)=(k:Int):=n2;obtain⟨⟨xr,xc,xt,xs,xd,xv⟩,xp⟩:=x;obtain⟨⟨yr,yc,yt,ys,yd,yv⟩,yp⟩:=y;have HC1':Hid (∀w,Calls Tryz.prog 217 #[.agg #[.string xr,.string xc,.int .u64 xt,.int .u64 xs,.bool xd,.string xv,.int .i64 xp],.agg #[.string yr,.string yc,.int .u64 yt,.int .u64 ys,.bool yd,.string yv,.int .i64 yp]] w fun e w'=>e=.returned (.int .i64 r)∧Fp [] w w'):=HC1;clear hk hx hy hr HC1
     by_cases hr0:r<0
     ·go_wp2_with (fail);refine Df (by kernel_rfl) (by kernel_rfl) ?_
      iterate 17
       first|apply A9 rfl rfl rfl|apply Jj 3 21 rfl rfl rfl rfl (by kernel_rfl) rfl rfl
       ·intro a w hC hA K hK
        try have h9:=hA.fr 9 rfl
        try have h1:=hA.fr 1 rfl
        try have h18:=hA.eq 0 18 rfl
        try have h19:=hA.eq 1 19 rfl
        try have h20:=hA.eq 2 20 rfl
        try have h3:=hA.fr 3 rfl
        try have h0:=hA.fr 0 rfl
        try have h23:=hA.eq 5 23 rfl
        try have h24:=hA.eq 6 24 rfl
        try have h25:=hA.eq 7 25 rfl
        try have h28:=hA.eq 10 28 rfl
        try have h27:=hA.eq 9 27 rfl
        try have h29:=hA.eq 11 29 rfl
        try have h30:=hA.eq 12 30 rfl
        try have h22:=hA.eq 4 22 rfl
        try have h26:=hA.eq 8 26 rfl
        try have h31:=hA.eq 13 31 rfl
        try have h32:=hA.eq 14 32 rfl
        try have h21:=hA.eq 3 21 rfl
        try have h33:=hA.eq 15 33 rfl
        obtain⟨a0,a1,a2,a3,a4,a5,a6⟩:=HCJ.out _ hC;obtain⟨b0,b1,b2,b3,b4,b5,b6⟩:=HCK.out _ hC;simp only at a0 a1 a2 a3 a4 a5 a6 b0 b1 b2 b3 b4 b5 b6;simp only[Oper.wp,execOp];go_simp
        first
        |exact hK _ hC (Fp.refl _ _)
        |(with_reducible refine(HC1'.out _).mono ?_);rintro e w2 ⟨rfl,hf⟩;exact hK _ (hC.trans hf (by simp)) hf
      refine⟨?_,?_⟩
      ·repeat(first|exact trivial|refine C3 _ ?_ |refine⟨fun w1 w2 v _ hf ⟨g,h1,h2⟩=>⟨g,h1,(hf.block g (Ab h2) (by simp)).trans h2⟩,?_⟩)
      ·intro w' hC;simp only[a0u,a1z,a1w,a1x]
       iterate 17 (refine Au ?_)
       refine A6 ?_;simp only[Am,Act.put,a0x,a0w,a0v];have HF3:=a0z (HF2.out.trans hC (by simp));have HO3:=a0z (Ae.kept HO2.out (fun k hk=>hC.block k (HO2.out.lt k hk).2 (by simp)));have HFR:=a0z hC;clear hC
       obtain⟨w'0,hw0⟩:∃x,x=w':=⟨_,rfl⟩
       rw[←hw0] at HF3 HO3 HFR ⊢;clear hw0;go_wp2_with (fail);refine F9 (fun bb w'=>Kq w'0 base g n cap l2 j k 15 17 bb w') (fun _ _=>True) (by kernel_rfl) (by kernel_rfl) ⟨HO3.out.kept (fun k hk=>rfl),(Fp.drew _).mono (by simp)⟩ ?_
       iterate 9
        apply Bi (fun _ _ h=>h.plain (by decide)) rfl rfl rfl
        ·intro b a w hC hA K hK
         try have h0:=hA.fr 0 rfl
         try have h9:=hA.fr 9 rfl
         try have h40:=hA.eq 3 40 rfl
         try have h43:=hA.eq 6 43 rfl
         try have h42:=hA.eq 5 42 rfl
         try have h44:=hA.eq 7 44 rfl
         simp only[Oper.wp,execOp];go_simp;exact hK _ hC trivial
       apply Bi (fun _ _ h=>h.plain (by decide)) rfl rfl rfl
       ·intro b a w hC hA K hK;have h45:=hA.eq 8 45 rfl;obtain⟨b0,b1,b2,b3,b4,b5,b6⟩:=iE (hC.first (hA.post 15 (by kernel_rfl)) (hA.post 17 (by kernel_rfl))) hkl HY.out;simp only at b0 b1 b2 b3 b4 b5 b6;simp only[Oper.wp,execOp];go_simp;exact hK _ hC trivial
       iterate 3
        apply Bi (fun _ _ h=>h.plain (by decide)) rfl rfl rfl
        ·intro b a w hC hA K hK
         try have h0:=hA.fr 0 rfl
         try have h9:=hA.fr 9 rfl
         try have h47:=hA.eq 10 47 rfl
         try have h48:=hA.eq 11 48 rfl
         simp only[Oper.wp,execOp];go_simp;exact hK _ hC trivial
       apply Bi (fun _ _ h=>h.plain (by decide)) rfl rfl rfl
       ·intro b a w hC hA K hK;have h49:=hA.eq 12 49 rfl;obtain⟨a0,a1,a2,a3,a4,a5,a6⟩:=iE (hC.first (hA.post 15 (by kernel_rfl)) (hA.post 17 (by kernel_rfl))) hjl HX.out;simp only at a0 a1 a2 a3 a4 a5 a6;simp only[Oper.wp,execOp];go_simp;exact hK _ hC trivial
       apply Bi (fun _ _ h=>h.plain (by decide)) rfl rfl rfl
       ·intro b a w hC hA K hK;have h37:=hA.eq 0 37 rfl;have h38:=hA.eq 1 38 rfl;simp only[Oper.wp,execOp];go_simp;exact hK _ hC trivial
       apply Gw (fun _=>True) rfl rfl
       ·intro b a w hC hA K hK;have h51:=hA.eq 14 51 rfl;have h46:=hA.eq 9 46 rfl;obtain⟨a0,a1,a2,a3,a4,a5,a6⟩:=K6 hC.own (i:=j) (by rw[Qv];exact hjl);obtain⟨-,hz,-,-,-,-⟩:=hC.own.elem (i:=j) (by rw[Qv];exact hjl);have z0:=hz (j*7);have z1:=hz (j*7+1);have z2:=hz (j*7+2);have z3:=hz (j*7+3);have z4:=hz (j*7+4);have z5:=hz (j*7+5);have z6:=hz (j*7+6);have hst:=hC.storeP hA.self hjl hjk (by decide);rw[HY.out] at hst;clear hz;simp only[Oper.wp,execOp];go_simp;exact hK undef _ hst trivial trivial
       apply Bi (fun _ _ h=>h.plain (by decide)) rfl rfl rfl
       ·intro b a w hC hA K hK;have h39:=hA.eq 2 39 rfl;have h41:=hA.eq 4 41 rfl;simp only[Oper.wp,execOp];go_simp;exact hK _ hC trivial
       apply Gw (fun _=>True) rfl rfl
       ·intro b a w hC hA K hK;have h52:=hA.eq 16 52 rfl;have h50:=hA.eq 13 50 rfl;obtain⟨a0,a1,a2,a3,a4,a5,a6⟩:=K6 hC.own (i:=k) (by rw[Qv];exact hkl);obtain⟨-,hz,-,-,-,-⟩:=hC.own.elem (i:=k) (by rw[Qv];exact hkl);have z0:=hz (k*7);have z1:=hz (k*7+1);have z2:=hz (k*7+2);have z3:=hz (k*7+3);have z4:=hz (k*7+4);have z5:=hz (k*7+5);have z6:=hz (k*7+6);have hst:=hC.storeQ hA.self hkl (by decide);rw[HX.out] at hst;clear hz;simp only[Oper.wp,execOp];go_simp;exact hK undef _ hst trivial trivial
       refine⟨?_,?_⟩
       ·refine⟨fun _ _ _ _ _=>trivial,?_⟩;refine Cc _ ?_;refine⟨fun _ _ _ _ _=>trivial,?_⟩
        iterate 15 refine Cc _ ?_
        exact trivial
       ·intro w' bb hC hbb;simp only[a0u,a1z,a1w,a1x]
        iterate 15 (refine Au ?_)
        refine Az ?_;intro v15 u15
        iterate 1 (refine Au ?_)
        refine Az ?_;intro v17 u17;refine A6 ?_;simp only[Am,Act.put,a0x,a0w,a0v];have ho4:=hC.own;rw[wL (hbb 15 (by simp)) (hbb 17 (by simp))] at ho4;have HO4:=a0z ho4;have HF4:=a0z (HF3.out.trans hC.fp (by intro i hi;exact Or.inl hi));have hts:=HTS.out;have HT4:=a0z (HT2.out.trans hts);have HS4:=a0z (HSTEP.out (HLT.out hr0));clear hC hbb ho4 hts u15 u17;go_wp2_with (fail)
        go_roundg k
        case measure=>have:=HK.out;omega
        case rel=>exact⟨k,_,rfl,rfl,by have:=HK.out;omega,by have:=HK.out;omega,HT4.out,HS4.out,HO4.out,HF4.out⟩
     ·have zr:¬(r<0):=hr0;go_wp2_with (fail);refine Df (by kernel_rfl) (by kernel_rfl) ?_
      iterate 17
       first|apply A9 rfl rfl rfl|apply Jj 3 21 rfl rfl rfl rfl (by kernel_rfl) rfl rfl
       ·intro a w hC hA K hK
        try have h9:=hA.fr 9 rfl
        try have h1:=hA.fr 1 rfl
        try have h18:=hA.eq 0 18 rfl
        try have h19:=hA.eq 1 19 rfl
        try have h20:=hA.eq 2 20 rfl
        try have h3:=hA.fr 3 rfl
        try have h0:=hA.fr 0 rfl
        try have h23:=hA.eq 5 23 rfl
        try have h24:=hA.eq 6 24 rfl
        try have h25:=hA.eq 7 25 rfl
        try have h28:=hA.eq 10 28 rfl
        try have h27:=hA.eq 9 27 rfl
        try have h29:=hA.eq 11 29 rfl
        try have h30:=hA.eq 12 30 rfl
        try have h22:=hA.eq 4 22 rfl
        try have h26:=hA.eq 8 26 rfl
        try have h31:=hA.eq 13 31 rfl
        try have h32:=hA.eq 14 32 rfl
        try have h21:=hA.eq 3 21 rfl
        try have h33:=hA.eq 15 33 rfl
        obtain⟨a0,a1,a2,a3,a4,a5,a6⟩:=HCJ.out _ hC;obtain⟨b0,b1,b2,b3,b4,b5,b6⟩:=HCK.out _ hC;simp only at a0 a1 a2 a3 a4 a5 a6 b0 b1 b2 b3 b4 b5 b6;simp only[Oper.wp,execOp];go_simp
        first
        |exact hK _ hC (Fp.refl _ _)
        |(with_reducible refine(HC1'.out _).mono ?_);rintro e w2 ⟨rfl,hf⟩;exact hK _ (hC.trans hf (by simp)) hf
      refine⟨?_,?_⟩
      ·repeat(first|exact trivial|refine C3 _ ?_ |refine⟨fun w1 w2 v _ hf ⟨g,h1,h2⟩=>⟨g,h1,(hf.block g (Ab h2) (by simp)).trans h2⟩,?_⟩)
      ·intro w' hC;simp only[a0u,a1z,a1w,a1x]
       iterate 17 (refine Au ?_)
       refine A6 ?_;simp only[Am,Act.put,a0x,a0w,a0v];have HF3:=a0z (HF2.out.trans hC (by simp));have HO3:=a0z (Ae.kept HO2.out (fun k hk=>hC.block k (HO2.out.lt k hk).2 (by simp)));clear hC;go_wp2_with (fail)
       go_roundg (b-i)
       case measure=>omega
       case rel=>exact⟨i+1,l2,by simp,by omega,by omega,HT2.out,HDONE.out (HNOT.out hr0),HO3.out,HF3.out⟩
  ·have zi:¬(i:Int)<(b:Int):=by omega
   have HS5:Hid (Hq l1 a b):=fun p q h1 h2 h3=>HS.out p q h1 h2 (by omega)
   go_wp2_with (fail);go_end0;exact⟨rfl,⟨l1,HT.out,HS5.out,HO1.out⟩,HF.out⟩
end
section
open Go.RowKit Go.Lib
theorem wN(w:World)(base g n cap:Nat)(l:List Ad)(ho:Ae Bz w base (.slice (some ⟨g,0,none⟩) n cap) l)(hok:Ci l)(hn:l.length<20):
  Calls Tryz.prog 263 #[.slice (some ⟨g,0,none⟩) n cap,.int .i64 n,.func (.func 217) #[] #[]] w fun e w'=>e=.returned (.tuple #[])∧(∃l',F7 0 n l l'∧Hq l' 0 n∧Ae Bz w' base (.slice (some ⟨g,0,none⟩) n cap) l')∧Fp [g] w w':=by
 have hm:l.length=n:=by
  obtain⟨a',c',e,-⟩:=ho.len;cases e;rfl
 have HI:=a0z (wM w base g n cap 0 n l ho hok (Nat.zero_le _) (by omega) (by omega));rw[hm] at hn
 have z1:¬(20:Int)≤(n:Int):=by omega
 have z2:¬(20:Int)<(n:Int):=by omega
 clear hm;go_enter Tryz.func263,Tryz.ntmps263;go_wp2_with (fail)
 go_loopg [7,8] 0 (fun gg va vb wr=>va=.int .i64 0∧vb=.int .i64 20∧wr=w)
 case atStart=>exact⟨rfl,rfl,rfl⟩
 case round=>
  obtain⟨rfl,rfl,rfl⟩:=hrel;go_wp2_with (fail);rw[show(0:Int)=((0:Nat):Int) from rfl];(with_reducible refine HI.out.mono ?_);rintro e w1 ⟨rfl,⟨l1,ht,hs,ho1⟩,hf⟩;have HT:=a0z ht;have HS:=a0z hs;have HO:=a0z ho1;have HF:=a0z hf;clear ht hs ho1 hf;go_wp2_with (fail)
  go_loopg [6] 0 (fun gg vb wr=>vb=.int .i64 20∧wr=w1)
  case atStart=>exact⟨rfl,rfl⟩
  case round=>
   obtain⟨rfl,rfl⟩:=hrel;go_wp2_with (fail);go_end0;exact⟨rfl,⟨l1,HT.out,HS.out,HO.out⟩,HF.out⟩
theorem wO(w:World)(base g n cap:Nat)(l:List Ad)(ho:Ae Bz w base (.slice (some ⟨g,0,none⟩) n cap) l)(hok:Ci l)(hn:l.length<20):
  Calls Tryz.prog 216 #[.slice (some ⟨g,0,none⟩) n cap,.func (.func 217) #[] #[]] w fun e w'=>e=.returned (.tuple #[])∧(∃l',F7 0 n l l'∧Hq l' 0 n∧Ae Bz w' base (.slice (some ⟨g,0,none⟩) n cap) l')∧Fp [g] w w':=by
 have HI:=a0z (wN w base g n cap l ho hok hn);clear ho hok hn;go_enter Tryz.func216,Tryz.ntmps216;go_wp2_with (fail);(with_reducible refine HI.out.mono ?_);rintro e w1 ⟨rfl,h,hf⟩;have H:=a0z h;have HF:=a0z hf;clear h hf;go_wp2_with (fail);go_end0;exact⟨rfl,H.out,HF.out⟩
end
end Go.Proofs.YtkagolpnaicdoaaGreatDoor
