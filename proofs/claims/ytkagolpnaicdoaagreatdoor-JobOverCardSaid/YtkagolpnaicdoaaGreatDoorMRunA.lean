/-
 runs: an item's compare, same, Cmp.
-/
import Derived.Test.YtkagolpnaicdoaaGreatDoorMItem
import Derived.Test.YtkagolpnaicdoaaGreatDoorMRegionV
import Derived.Test.YtkagolpnaicdoaaGreatDoorMQOwn
import Derived.Test.YtkagolpnaicdoaaGreatDoorMCellA
set_option maxRecDepth 100000
set_option maxHeartbeats 8000000
open Go.Lib renaming hid→a0z
open List renaming setIfInBounds_toArray→a0x
namespace Go.Proofs.YtkagolpnaicdoaaGreatDoor
open Go.RowKit Go.Lib
def Kr(x:Ad):List Value:=[.string x.c.row,.string x.c.col,.int .u64 x.c.ts,.int .u64 x.c.seq,.bool x.c.del,.string x.c.val,.int .i64 x.pos]
def I9(x:Ad):Value:=.agg (Kr x).toArray
def Bq:G3 Ad where
 e:=221
 k:=7
 enc:=Kr
 len:=fun _=>rfl
 pos:=by decide
 one:=fun x v hv=>by
  unfold Kr at hv;simp only[List.mem_cons,List.not_mem_nil,or_false] at hv
  rcases hv with rfl|rfl|rfl|rfl|rfl|rfl|rfl<;>rfl
theorem tT(x y:Ad):E5 [Dn x y,Dq y.pos x.pos]=D2 x y:=by
 rcases Pi x y with⟨h1,h2⟩|⟨h1,h2⟩
 ·rw[h2];unfold E5;rw[if_pos h1]
 ·rw[h2,h1];unfold E5;rw[if_neg (by decide)];unfold E5;split
  ·rfl
  ·rename_i h;unfold E5;omega
theorem Xy(a:Int)(w:World):Calls Tryz.prog 290 #[.int .i64 a] w fun e w'=>e=.returned (.bool false)∧w=w':=by
 go_enter Tryz.func290,Tryz.ntmps290;go_wp2;go_ret;exact⟨by simp,rfl⟩
theorem tU(a b:Nat)(w:World):Calls Tryz.prog 264 #[.int .i64 a,.int .i64 b] w fun e w'=>e=.returned (.int .i64 (Dq a b))∧w=w':=by
 by_cases h1:a<b
 ·have H:=a0z (Qk h1);go_enter Tryz.func264,Tryz.ntmps264;go_wp2_with (go_at_call 290;refine(Xy _ _).mono ?_;rintro e w' ⟨rfl,rfl⟩);go_ret;exact⟨by rw[H.out];rfl,rfl⟩
 ·by_cases h2:b<a
  ·have H:=a0z (Ql h2);go_enter Tryz.func264,Tryz.ntmps264;go_wp2_with (go_at_call 290;refine(Xy _ _).mono ?_;rintro e w' ⟨rfl,rfl⟩);go_ret;exact⟨by rw[H.out];rfl,rfl⟩
  ·have H:=a0z (V1 h1 h2);go_enter Tryz.func264,Tryz.ntmps264;go_wp2_with (go_at_call 290;refine(Xy _ _).mono ?_;rintro e w' ⟨rfl,rfl⟩);go_ret;exact⟨by rw[H.out];rfl,rfl⟩
def tV:Array Value:=#[.string ⟨#[]⟩,.string ⟨#[]⟩,.int .u64 0,.int .u64 0,.bool false,.string ⟨#[]⟩]
def eR(c:Ac):Array Value:=#[.string c.row,.string c.col,.int .u64 c.ts,.int .u64 c.seq,.bool c.del,.string c.val]
theorem Xz(x y:Ad)(w:World):Calls Tryz.prog 217 #[I9 x,I9 y] w fun e w'=>e=.returned (.int .i64 (D2 x y))∧Fp [] w w':=by
 have HFI:=a0z (tT x y);have C1:=a0z (fun w=>Zl (J8 x) (J8 y) w);have C2:=a0z (fun w=>tU y.pos x.pos w);rw[show Ep (J8 x) (J8 y)=Dn x y from rfl] at C1
 obtain⟨ck,hck⟩:∃z,Dn x y=z:=⟨_,rfl⟩
 obtain⟨cn,hcn⟩:∃z,Dq y.pos x.pos=z:=⟨_,rfl⟩
 rw[hck] at C1 HFI;rw[hcn] at C2 HFI;have HO:=a0z (fun w sb (hs:w.heap[sb]?=some (.cells #[.int .i64 ck,.int .i64 cn] 3 (0,0)))=>Zk w sb [ck,cn] hs (by show 2≤1000;decide))
 obtain⟨r,hr⟩:∃r,D2 x y=r:=⟨_,rfl⟩
 rw[hr] at HFI;rw[HFI.out] at HO;rw[hr];clear hck hcn hr;obtain⟨⟨xr,xc,xt,xs,xd,xv⟩,xp⟩:=x;obtain⟨⟨yr,yc,yt,ys,yd,yv⟩,yp⟩:=y;have C1':Hid (∀w,Calls Tryz.prog 156 #[.agg #[.string xr,.string xc,.int .u64 xt,.int .u64 0,.bool xd,.string xv],.agg #[.string yr,.string yc,.int .u64 yt,.int .u64 0,.bool yd,.string yv]] w fun e w'=>e=.returned (.int .i64 ck)∧Fp [] w w'):=C1;clear C1;unfold I9 Kr;simp only;go_enter Tryz.func217,Tryz.ntmps217
 obtain⟨W,hW⟩:∃W,W=(w.alloc (.cells #[.string xr,.string xc,.int .u64 xt,.int .u64 xs,.bool xd,.string xv,.int .i64 xp] 221)).alloc (.cells #[.string yr,.string yc,.int .u64 yt,.int .u64 ys,.bool yd,.string yv,.int .i64 yp] 221):=⟨_,rfl⟩
 have hfw:Fp [] w W:=by rw[hW];exact(Fp.alloc _ _).alloc' _
 have hba:W.heap[w.heap.size]?=some (.cells #[.string xr,.string xc,.int .u64 xt,.int .u64 xs,.bool xd,.string xv,.int .i64 xp] 221 (0,0)):=by
  rw[hW,Below.heap_alloc _ _ _ (by simp)];exact Aj rfl _
 have hbb:W.heap[w.heap.size+1]?=some (.cells #[.string yr,.string yc,.int .u64 yt,.int .u64 ys,.bool yd,.string yv,.int .i64 yp] 221 (0,0)):=by
  rw[hW];exact Aj (by simp) _
 have HBA:=a0z hba;have HBB:=a0z hbb;have HFW:=a0z hfw
 have HX:Hid (∀w',Fp [] W w'→w'.cell? ⟨w.heap.size,0,none⟩=some (.string xr)∧w'.cell? ⟨w.heap.size,1,none⟩=some (.string xc)∧w'.cell? ⟨w.heap.size,2,none⟩=some (.int .u64 xt)∧w'.cell? ⟨w.heap.size,3,none⟩=some (.int .u64 xs)∧w'.cell? ⟨w.heap.size,4,none⟩=some (.bool xd)∧w'.cell? ⟨w.heap.size,5,none⟩=some (.string xv)∧w'.cell? ⟨w.heap.size,6,none⟩=some (.int .i64 xp)):=fun w' hf=>by
  have h1:=(hf.block _ (Ab HBA.out) (by simp)).trans HBA.out;exact⟨Aa h1 0,Aa h1 1,Aa h1 2,Aa h1 3,Aa h1 4,Aa h1 5,Aa h1 6⟩
 have HY:Hid (∀w',Fp [] W w'→w'.cell? ⟨w.heap.size+1,0,none⟩=some (.string yr)∧w'.cell? ⟨w.heap.size+1,1,none⟩=some (.string yc)∧w'.cell? ⟨w.heap.size+1,2,none⟩=some (.int .u64 yt)∧w'.cell? ⟨w.heap.size+1,3,none⟩=some (.int .u64 ys)∧w'.cell? ⟨w.heap.size+1,4,none⟩=some (.bool yd)∧w'.cell? ⟨w.heap.size+1,5,none⟩=some (.string yv)∧w'.cell? ⟨w.heap.size+1,6,none⟩=some (.int .i64 yp)):=fun w' hf=>by
  have h1:=(hf.block _ (Ab HBB.out) (by simp)).trans HBB.out;exact⟨Aa h1 0,Aa h1 1,Aa h1 2,Aa h1 3,Aa h1 4,Aa h1 5,Aa h1 6⟩
 have hWs:W.heap.size=w.heap.size+2:=by rw[hW];simp
 clear hba hbb hfw;go_wp2_with (fail);rw[←hW];clear hW;refine P7 (F2 80 tV (eR ⟨xr,xc,xt,xs,xd,xv⟩) (eR ⟨yr,yc,yt,ys,yd,yv⟩) 4 5 6 7 W) (fun _ _=>True) (by kernel_rfl) (by kernel_rfl) (fun _=>F2.start (Fp.drew _)) ?_
 iterate 4
  apply Cc (fun _ _ _ h _=>h.plain (by decide)) rfl rfl rfl
  ·intro b a w hC hA K hK
   try have h2:=hA.fr 2 rfl
   try have h7:=hA.eq 0 7 rfl
   try have h3:=hA.fr 3 rfl
   try have h9:=hA.eq 2 9 rfl
   obtain⟨x0,x1,x2,x3,x4,x5,x6⟩:=HX.out _ hC.fp;obtain⟨y0,y1,y2,y3,y4,y5,y6⟩:=HY.out _ hC.fp;simp only[Oper.wp,execOp];go_simp;exact hK _ hC trivial
 apply Dv (fun _ _=>True) rfl rfl rfl
 ·intro b a w hC hA K hK;simp only[Oper.wp,execOp];go_simp;exact hK _ _ (hC.makeI (hA.post 6 (by kernel_rfl)) (by decide)) trivial trivial
 apply Dv (fun _ _=>True) rfl rfl rfl
 ·intro b a w hC hA K hK;simp only[Oper.wp,execOp];go_simp;exact hK _ _ (hC.makeJ (hA.post 7 (by kernel_rfl)) (by decide)) trivial trivial
 apply I8 (fun _=>True) rfl rfl rfl
 ·intro b a w hC hA K hK;have h5:=hA.dep 4 5 _ (by kernel_rfl) rfl;have h8:=hA.eq 1 8 rfl;obtain⟨B,e1,e2,e3⟩:=hC.ai (hA.pre 4 (by kernel_rfl));have h5:a.tmps[5]?.getD undef=.pointer (some ⟨B,0,none⟩):=(hA.val 4 5 (by kernel_rfl)).trans e1;rw[hA.self,if_neg (by decide)] at e3;have q0:w.cell? ⟨B,0,none⟩=some (.string ⟨#[]⟩):=Aa e3 0;have q1:w.cell? ⟨B,1,none⟩=some (.string ⟨#[]⟩):=Aa e3 1;have q2:w.cell? ⟨B,2,none⟩=some (.int .u64 0):=Aa e3 2;have q3:w.cell? ⟨B,3,none⟩=some (.int .u64 0):=Aa e3 3;have q4:w.cell? ⟨B,4,none⟩=some (.bool false):=Aa e3 4;have q5:w.cell? ⟨B,5,none⟩=some (.string ⟨#[]⟩):=Aa e3 5;have g0:=Aw e3 0;have g1:=Aw e3 1;have g2:=Aw e3 2;have g3:=Aw e3 3;have g4:=Aw e3 4;have g5:=Aw e3 5;have hst:=hC.fillP (w2:=((((((w.setCell ⟨B,0,none⟩ (.string xr)).setCell ⟨B,1,none⟩ (.string xc)).setCell ⟨B,2,none⟩ (.int .u64 xt)).setCell ⟨B,3,none⟩ (.int .u64 xs)).setCell ⟨B,4,none⟩ (.bool xd)).setCell ⟨B,5,none⟩ (.string xv))) (hA.pre 4 (by kernel_rfl)) e1 ((((((Fp.setCell w ⟨B,0,none⟩ _).setCell' (Or.inl (by simp)) _).setCell' (Or.inl (by simp)) _).setCell' (Or.inl (by simp)) _).setCell' (Or.inl (by simp)) _).setCell' (Or.inl (by simp)) _) (by rw[Bt (Bt (Bt (Bt (Bt (Bt e3 _) _) _) _) _) _];rfl) (by decide);simp only[Oper.wp,execOp];go_simp;exact hK undef _ hst trivial trivial
 apply I8 (fun _=>True) rfl rfl rfl
 ·intro b a w hC hA K hK;have h6:=hA.dep 5 6 _ (by kernel_rfl) rfl;have h10:=hA.eq 3 10 rfl;obtain⟨B,e1,e2,e3⟩:=hC.aj (hA.pre 5 (by kernel_rfl));have h6:a.tmps[6]?.getD undef=.pointer (some ⟨B,0,none⟩):=(hA.val 5 6 (by kernel_rfl)).trans e1;rw[hA.self,if_neg (by decide)] at e3;have q0:w.cell? ⟨B,0,none⟩=some (.string ⟨#[]⟩):=Aa e3 0;have q1:w.cell? ⟨B,1,none⟩=some (.string ⟨#[]⟩):=Aa e3 1;have q2:w.cell? ⟨B,2,none⟩=some (.int .u64 0):=Aa e3 2;have q3:w.cell? ⟨B,3,none⟩=some (.int .u64 0):=Aa e3 3;have q4:w.cell? ⟨B,4,none⟩=some (.bool false):=Aa e3 4;have q5:w.cell? ⟨B,5,none⟩=some (.string ⟨#[]⟩):=Aa e3 5;have g0:=Aw e3 0;have g1:=Aw e3 1;have g2:=Aw e3 2;have g3:=Aw e3 3;have g4:=Aw e3 4;have g5:=Aw e3 5;have hst:=hC.fillQ (w2:=((((((w.setCell ⟨B,0,none⟩ (.string yr)).setCell ⟨B,1,none⟩ (.string yc)).setCell ⟨B,2,none⟩ (.int .u64 yt)).setCell ⟨B,3,none⟩ (.int .u64 ys)).setCell ⟨B,4,none⟩ (.bool yd)).setCell ⟨B,5,none⟩ (.string yv))) (hA.pre 5 (by kernel_rfl)) e1 ((((((Fp.setCell w ⟨B,0,none⟩ _).setCell' (Or.inl (by simp)) _).setCell' (Or.inl (by simp)) _).setCell' (Or.inl (by simp)) _).setCell' (Or.inl (by simp)) _).setCell' (Or.inl (by simp)) _) (by rw[Bt (Bt (Bt (Bt (Bt (Bt e3 _) _) _) _) _) _];rfl) (by decide);simp only[Oper.wp,execOp];go_simp;exact hK undef _ hst trivial trivial
 refine⟨?_,?_⟩
 ·refine⟨fun _ _ _ _ _=>trivial,?_⟩;refine⟨fun _ _ _ _ _=>trivial,?_⟩;refine⟨fun _ _ _ _ _=>trivial,?_⟩;refine⟨fun _ _ _ _ _=>trivial,?_⟩
  iterate 4 refine E2 _ ?_
  exact trivial
 ·intro w' bb hbb;simp only[List.reverse_cons,List.reverse_nil,List.nil_append,List.cons_append]
  iterate 4 (refine Aq ?_)
  refine Av ?_;intro v4 u4;refine Av ?_;intro v5 u5;refine Av ?_;intro v6 u6;refine Av ?_;intro v7 u7;refine A8 ?_;intro hC;simp only[Am,Act.put,a0x,List.set_cons_succ,List.set_cons_zero];obtain⟨B1,e1,hB1,hb1⟩:=hC.ai (hbb 4 (by simp));obtain⟨B2,e2,hB2,hb2⟩:=hC.aj (hbb 5 (by simp));have hne:=hC.ne (hbb 4 (by simp)) (hbb 5 (by simp));rw[hbb 6 (by simp),if_pos rfl] at hb1;rw[hbb 7 (by simp),if_pos rfl] at hb2;have e1':v4=.pointer (some ⟨B1,0,none⟩):=e1;have e2':v5=.pointer (some ⟨B2,0,none⟩):=e2
  have hne':B1≠B2:=fun h=>hne (by rw[e1,e2,h])
  have HF0:=a0z hC.fp;subst e1' e2';have q1:w'.cell? ⟨B1,3,none⟩=some (.int .u64 xs):=Aa hb1 3;have g1:=Aw hb1 3;have hb2':(w'.setCell ⟨B1,3,none⟩ (.int .u64 0)).heap[B2]?=_ :=(Lu (Ne.symm hne') _).trans hb2;have q2:(w'.setCell ⟨B1,3,none⟩ (.int .u64 0)).cell? ⟨B2,3,none⟩=some (.int .u64 ys):=Aa hb2' 3;have g2:=Aw hb2' 3;have hx2:((w'.setCell ⟨B1,3,none⟩ (.int .u64 0)).setCell ⟨B2,3,none⟩ (.int .u64 0)).heap[B1]?=some (.cells #[.string xr,.string xc,.int .u64 xt,.int .u64 0,.bool xd,.string xv] 80 (0,0)):=((Lu hne' _).trans (Bt hb1 _)).trans rfl;have hy2:((w'.setCell ⟨B1,3,none⟩ (.int .u64 0)).setCell ⟨B2,3,none⟩ (.int .u64 0)).heap[B2]?=some (.cells #[.string yr,.string yc,.int .u64 yt,.int .u64 0,.bool yd,.string yv] 80 (0,0)):=(Bt hb2' _).trans rfl;have HF1:=a0z ((HF0.out.setCell' (p:=⟨B1,3,none⟩) (Or.inr hB1) (.int .u64 0)).setCell' (p:=⟨B2,3,none⟩) (Or.inr hB2) (.int .u64 0));have HX2:=a0z hx2;have HY2:=a0z hy2
  obtain⟨W2,hW2⟩:∃x,x=(w'.setCell ⟨B1,3,none⟩ (.int .u64 0)).setCell ⟨B2,3,none⟩ (.int .u64 0):=⟨_,rfl⟩
  clear hC hbb hne e1 e2 hb1 hb2 hb2' hx2 hy2 u4 u5 u6 u7;go_wp2_with (fail);rw[←hW2];rw[←hW2] at HF1 HX2 HY2;clear hW2 q1 g1 q2 g2
  have HL:Hid (∀w',Fp [] W2 w'→(w'.cell? ⟨B1,0,none⟩=some (.string xr)∧w'.cell? ⟨B1,1,none⟩=some (.string xc)∧w'.cell? ⟨B1,2,none⟩=some (.int .u64 xt)∧w'.cell? ⟨B1,3,none⟩=some (.int .u64 0)∧w'.cell? ⟨B1,4,none⟩=some (.bool xd)∧w'.cell? ⟨B1,5,none⟩=some (.string xv))∧
    (w'.cell? ⟨B2,0,none⟩=some (.string yr)∧w'.cell? ⟨B2,1,none⟩=some (.string yc)∧w'.cell? ⟨B2,2,none⟩=some (.int .u64 yt)∧w'.cell? ⟨B2,3,none⟩=some (.int .u64 0)∧w'.cell? ⟨B2,4,none⟩=some (.bool yd)∧w'.cell? ⟨B2,5,none⟩=some (.string yv))):=fun w' hf=>by
   have h1:=(hf.block _ (Ab HX2.out) (by simp)).trans HX2.out;have h2:=(hf.block _ (Ab HY2.out) (by simp)).trans HY2.out;exact⟨⟨Aa h1 0,Aa h1 1,Aa h1 2,Aa h1 3,Aa h1 4,Aa h1 5⟩,Aa h2 0,Aa h2 1,Aa h2 2,Aa h2 3,Aa h2 4,Aa h2 5⟩
  refine Dy (by kernel_rfl) (by kernel_rfl) ?_
  iterate 8
   apply A9 rfl rfl rfl
   ·intro a w hC hA K hK
    try have h5:=hA.fr 5 rfl
    try have h6:=hA.fr 6 rfl
    try have h13:=hA.eq 0 13 rfl
    try have h14:=hA.eq 1 14 rfl
    try have h3:=hA.fr 3 rfl
    try have h16:=hA.eq 3 16 rfl
    try have h2:=hA.fr 2 rfl
    try have h18:=hA.eq 5 18 rfl
    try have h17:=hA.eq 4 17 rfl
    try have h19:=hA.eq 6 19 rfl
    obtain⟨⟨a0,a1,a2,a3,a4,a5⟩,b0,b1,b2,b3,b4,b5⟩:=HL.out _ hC;obtain⟨-,-,-,-,-,-,x6⟩:=HX.out _ (HF1.out.trans hC (by simp));obtain⟨-,-,-,-,-,-,y6⟩:=HY.out _ (HF1.out.trans hC (by simp));simp only[Oper.wp,execOp];go_simp
    first
    |exact hK _ hC (Fp.refl _ _)
    |first
      |((with_reducible refine(C1'.out _).mono ?_);rintro e w2 ⟨rfl,hf⟩;exact hK _ (hC.trans hf (by simp)) hf)
      |((with_reducible refine(C2.out _).mono ?_);rintro e w2 ⟨rfl,rfl⟩;exact hK _ hC (Fp.refl _ _))
  apply eB (fun w' v=>∃g,v=.slice (some ⟨g,0,none⟩) 2 2∧w'.heap[g]?=some (.cells #[.int .i64 ck,.int .i64 cn] 3 (0,0))) rfl rfl rfl
  ·intro a w hC hA K hK;have h15:=hA.eq 2 15 rfl;have h20:=hA.eq 7 20 rfl;simp only[Oper.wp,execOp];go_simp;exact hK _ _ (hC.alloc' _) (Fp.alloc _ _) ⟨_,rfl,Aj rfl _⟩
  iterate 2
   apply A9 rfl rfl rfl
   ·intro a w hC hA K hK
    try have h21:=hA.dep 8 21 _ (by decide+kernel) rfl
    try have h22:=hA.eq 9 22 rfl
    obtain⟨g,h21,hg⟩:=h21;simp only[Oper.wp,execOp];go_simp
    first
    |exact hK _ hC (Fp.refl _ _)
    |refine(HO.out _ g hg).mono ?_
     rintro e w2 ⟨rfl,rfl⟩;exact hK _ hC (Fp.refl _ _)
  refine⟨?_,?_⟩
  ·repeat(first|exact trivial|refine Dj _ ?_ |refine⟨fun w1 w2 v _ hf ⟨g,h1,h2⟩=>⟨g,h1,(hf.block g (Ab h2) (by simp)).trans h2⟩,?_⟩)
  ·intro w' hC;simp only[List.reverse_cons,List.reverse_nil,List.nil_append,List.cons_append]
   iterate 8 (refine Aq ?_)
   refine Av ?_;intro v8 u8
   iterate 2 (refine Aq ?_)
   refine A8 ?_;simp only[Am,Act.put,a0x,List.set_cons_succ,List.set_cons_zero];have HF3:=a0z hC;clear hC;go_wp2_with (fail);go_ret;exact⟨rfl,(HFW.out.trans HF1.out (by simp)).trans HF3.out (by simp)⟩
theorem eS(x y:Ad)(w:World):Calls Tryz.prog 219 #[I9 x,I9 y] w fun e w'=>e=.returned (.bool (Bj x y))∧Fp [] w w':=by
 have C1:=a0z (fun w=>Zm x.c y.c w);have HS:Hid (Bj x y=Md x.c y.c):=rfl
 obtain⟨r,hr⟩:∃r,Md x.c y.c=r:=⟨_,rfl⟩
 rw[hr] at C1 HS;rw[HS.out];clear hr;obtain⟨⟨xr,xc,xt,xs,xd,xv⟩,xp⟩:=x;obtain⟨⟨yr,yc,yt,ys,yd,yv⟩,yp⟩:=y;have C1':Hid (∀w,Calls Tryz.prog 265 #[.agg #[.string xr,.string xc,.int .u64 xt,.int .u64 xs,.bool xd,.string xv],.agg #[.string yr,.string yc,.int .u64 yt,.int .u64 ys,.bool yd,.string yv]] w fun e w'=>e=.returned (.bool r)∧Fp [] w w'):=C1;clear C1;unfold I9 Kr;simp only;go_enter Tryz.func219,Tryz.ntmps219;go_wp2_with (fail);(with_reducible refine(C1'.out _).mono ?_);rintro e w1 ⟨rfl,hf⟩;have HF:=a0z (((Fp.alloc w _).alloc' _).trans hf (by simp));clear hf;go_wp2_with (fail);go_ret;exact⟨rfl,HF.out⟩
end Go.Proofs.YtkagolpnaicdoaaGreatDoor
