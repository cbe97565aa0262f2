/-
 JobBytes: the bytes of any job, and which job any bytes are, is the document's, or its error; jobs come back.
-/
import Derived.Test.YtkagolpnaicdoaaGreatDoorPRef20D
import Derived.Test.YtkagolpnaicdoaaGreatDoorPJobH
set_option maxRecDepth 100000
set_option maxHeartbeats 8000000
open Go.Lib renaming hid→a0z
namespace Go.Proofs.YtkagolpnaicdoaaGreatDoor
open Go.RowKit Go.Lib
theorem pU(j:Aj)(hj:Gy j):((Ba j).2≠0∧(Ba j).1=⟨#[]⟩)∨((Ba j).2=0∧D3 (Ba j).1=(j,0)∧(Ba j).1.size≤60011):=by
 unfold Ba
 by_cases hb:Ea j=true
 ·rw[if_pos hb];exact Or.inl ⟨by decide,rfl⟩
 ·rw[if_neg hb]
  by_cases hs:60000<j.input.size
  ·rw[if_pos hs];exact Or.inl ⟨by decide,rfl⟩
  ·rw[if_neg hs];exact Or.inr ⟨rfl,Q5 hj (by simpa using hb) hs,by have:=Ov j;show(Aw j).size≤_;omega⟩
theorem Ab5(s:ByteArray):(D3 s).1.input.size≤s.size:=by
 unfold D3;split
 ·exact Nat.zero_le _
 ·show(s.extract 11 s.size).size≤s.size;rw[ByteArray.size_extract];omega
theorem pV(w:World)(j:Aj)(s:ByteArray)(hj:Xw j)(hs:s.size≤9223372036854775807)(hp:Iq w)(ht:Ce w)(hz:G4 w):
  Calls Tryz.prog 4 #[Bq j,.string s] w fun e w'=>e=.returned (.bool true)∧Fp [] w w':=by
 have hsh:=fun W (hf:Fp [] w W)=>Xr W ⟨hp.mx.fp hf (by simp),hp.er.fp hf (by simp) (by simp)⟩ (ht.fp hf (by simp)) (hz.fp hf (by simp))
 have HSH:=a0z hsh;have hbx:(w.alloc (.cells (Bo j).toArray 42)).heap[w.heap.size]?=some (.cells (Bo j).toArray 42 (0,0)):=Ai rfl _;have hfa:=Fp.alloc w (.cells (Bo j).toArray 42);have HBX:=a0z hbx;have HFA:=a0z hfa;have hj0:=hj;have hjs:=hj.size;clear hp ht hz hsh hbx hfa
 by_cases c1:2000<j.input.size
 ·obtain⟨ji,jp,jx,jn⟩:=j;unfold Bq;unfold Bo at HBX HFA ⊢;simp only at HBX HFA c1 hjs ⊢
  have z1:(2000:Int)<(jn.size:Int):=by omega
  clear c1 hj hj0;go_enter Tryz.func4,Tryz.ntmps4;go_wp2_with (fail);(with_reducible refine(HSH.out _ HFA.out).mono ?_);rintro e w1 ⟨rfl,hf1⟩;have HF1:=a0z (HFA.out.trans hf1 (by simp));clear hf1;go_wp2_with (fail);go_ret;exact⟨rfl,HF1.out⟩
 by_cases c2:600<s.size
 ·obtain⟨ji,jp,jx,jn⟩:=j;unfold Bq;unfold Bo at HBX HFA ⊢;simp only at HBX HFA c1 hjs ⊢
  have z1:¬(2000:Int)<(jn.size:Int):=by omega
  have z2:(600:Int)<(s.size:Int):=by omega
  clear c1 c2 hj hj0;go_enter Tryz.func4,Tryz.ntmps4;go_wp2_with (fail);(with_reducible refine(HSH.out _ HFA.out).mono ?_);rintro e w1 ⟨rfl,hf1⟩;have HF1:=a0z (HFA.out.trans hf1 (by simp));clear hf1;go_wp2_with (fail);go_ret;exact⟨rfl,HF1.out⟩
 have hok:Gy j:=hj.ok (by omega);have HE1:=a0z (fun W=>dY W j hok);have HE2:=a0z (fun W=>Z9 W j hok);have HD1:=a0z (fun W=>Xy W s (by omega));have HD2:=a0z (fun W=>vE W s (by omega));have hcs:=pU j hok;have HDN:=a0z (fun W (h:(Ba j).1.size≤60011)=>Xy W (Ba j).1 (by omega))
 obtain⟨⟨b,x⟩,hb⟩:∃r,Ba j=r:=⟨_,rfl⟩
 obtain⟨⟨⟨yi,yp,yx,yn⟩,g⟩,hy⟩:∃r,D3 s=r:=⟨_,rfl⟩
 rw[hb] at HE1 HE2 hcs HDN;rw[hy] at HD1 HD2;obtain⟨ji,jp,jx,jn⟩:=j;unfold Bq Bo at HE1 HE2 HD1 HD2 HDN;unfold Bq;unfold Bo at HBX HFA ⊢;simp only at HBX HFA HE1 HE2 HD1 HD2 HDN hcs c1 hjs ⊢
 have z1:¬(2000:Int)<(jn.size:Int):=by omega
 have z2:¬(600:Int)<(s.size:Int):=by omega
 have HCS:=a0z hcs;clear c1 c2 hj hj0 hok hb hy hcs;go_enter Tryz.func4,Tryz.ntmps4;go_wp2_with (fail);(with_reducible refine(HSH.out _ HFA.out).mono ?_);rintro e w1 ⟨rfl,hf1⟩;have HB1:=a0z ((hf1.block _ (Ab HBX.out) (by simp)).trans HBX.out);have HF1:=a0z (HFA.out.trans hf1 (by simp));have q0:w1.cell? ⟨w.heap.size,0,none⟩=some (.int .u64 ji):=Aa HB1.out 0;have q1:w1.cell? ⟨w.heap.size,1,none⟩=some (.int .i64 jp):=Aa HB1.out 1;have q2:w1.cell? ⟨w.heap.size,2,none⟩=some (.int .i64 jx):=Aa HB1.out 2;have q3:w1.cell? ⟨w.heap.size,3,none⟩=some (.string jn):=Aa HB1.out 3;clear hf1;go_wp2_with (fail);(with_reducible refine(HE1.out _).mono ?_);rintro e w2 ⟨rfl,hf2⟩;have HB2:=a0z ((hf2.block _ (Ab HB1.out) (by simp)).trans HB1.out);have HF2:=a0z (HF1.out.trans hf2 (by simp));have p0:w2.cell? ⟨w.heap.size,0,none⟩=some (.int .u64 ji):=Aa HB2.out 0;have p1:w2.cell? ⟨w.heap.size,1,none⟩=some (.int .i64 jp):=Aa HB2.out 1;have p2:w2.cell? ⟨w.heap.size,2,none⟩=some (.int .i64 jx):=Aa HB2.out 2;have p3:w2.cell? ⟨w.heap.size,3,none⟩=some (.string jn):=Aa HB2.out 3;clear hf2 q0 q1 q2 q3;go_wp2_with (fail);(with_reducible refine(HE2.out _).mono ?_);rintro e w3 ⟨rfl,hf3⟩;have HB3:=a0z ((hf3.block _ (Ab HB2.out) (by simp)).trans HB2.out);have HF3:=a0z (HF2.out.trans hf3 (by simp));clear hf3 p0 p1 p2 p3;go_wp2_with (fail);(with_reducible refine(HD1.out _).mono ?_);rintro e w4 ⟨rfl,hf4⟩;have HB4:=a0z (Cb (o':=.cells #[.int .u64 yi,.int .i64 yp,.int .i64 yx,.string yn] 42) ((hf4.block _ (Ab HB3.out) (by simp)).trans HB3.out));have HF4:=a0z ((HF3.out.trans hf4 (by simp)).alloc' (.cells #[.int .u64 yi,.int .i64 yp,.int .i64 yx,.string yn] 42));have HY4:Hid ((w4.alloc (.cells #[.int .u64 yi,.int .i64 yp,.int .i64 yx,.string yn] 42)).heap[w4.heap.size]?=some (.cells #[.int .u64 yi,.int .i64 yp,.int .i64 yx,.string yn] 42 (0,0))):=a0z (Ai rfl _);clear hf4;go_wp2_with (fail);(with_reducible refine(HD2.out _).mono ?_);rintro e w5 ⟨rfl,hf5⟩;have HB5:=a0z (Cb (o':=.cells #[.int .u64 yi,.int .i64 yp,.int .i64 yx,.string yn] 46) ((hf5.block _ (Ab HB4.out) (by simp)).trans HB4.out));have hy5:=Cb (o':=.cells #[.int .u64 yi,.int .i64 yp,.int .i64 yx,.string yn] 46) ((hf5.block _ (Ab HY4.out) (by simp)).trans HY4.out);have HF5:=a0z ((HF4.out.trans hf5 (by simp)).alloc' (.cells #[.int .u64 yi,.int .i64 yp,.int .i64 yx,.string yn] 46));have hlt5:=Ab hy5;have y0:(w5.alloc (.cells #[.int .u64 yi,.int .i64 yp,.int .i64 yx,.string yn] 46)).cell? ⟨w4.heap.size,0,none⟩=some (.int .u64 yi):=Aa hy5 0;have y1:(w5.alloc (.cells #[.int .u64 yi,.int .i64 yp,.int .i64 yx,.string yn] 46)).cell? ⟨w4.heap.size,1,none⟩=some (.int .i64 yp):=Aa hy5 1;have y2:(w5.alloc (.cells #[.int .u64 yi,.int .i64 yp,.int .i64 yx,.string yn] 46)).cell? ⟨w4.heap.size,2,none⟩=some (.int .i64 yx):=Aa hy5 2;have y3:(w5.alloc (.cells #[.int .u64 yi,.int .i64 yp,.int .i64 yx,.string yn] 46)).cell? ⟨w4.heap.size,3,none⟩=some (.string yn):=Aa hy5 3;clear hf5 hy5
 rcases HCS.out with⟨k1,k2⟩|⟨k1,k2,k3⟩
 ·subst k2
  have zx:(x==0)=false:=by simpa using k1
  clear k1 HDN;go_wp2_with (fail);go_ret;exact⟨rfl,HF5.out⟩
 ·subst k1;have HDN2:=a0z (fun W=>HDN.out W k3);rw[k2] at HDN2;clear k2 k3 HDN HCS;go_wp2_with (fail);(with_reducible refine(HDN2.out _).mono ?_);rintro e w6 ⟨rfl,hf6⟩;have hb6:=(hf6.block _ (Ab HB5.out) (by simp)).trans HB5.out;have HF6:=a0z ((HF5.out.trans hf6 (by simp)).alloc' (.cells #[.int .u64 ji,.int .i64 jp,.int .i64 jx,.string jn] 42));have hb7:=Cb (o':=.cells #[.int .u64 ji,.int .i64 jp,.int .i64 jx,.string jn] 42) hb6;have t0:(w6.alloc (.cells #[.int .u64 ji,.int .i64 jp,.int .i64 jx,.string jn] 42)).cell? ⟨w.heap.size,0,none⟩=some (.int .u64 ji):=Aa hb7 0;have t1:(w6.alloc (.cells #[.int .u64 ji,.int .i64 jp,.int .i64 jx,.string jn] 42)).cell? ⟨w.heap.size,1,none⟩=some (.int .i64 jp):=Aa hb7 1;have t2:(w6.alloc (.cells #[.int .u64 ji,.int .i64 jp,.int .i64 jx,.string jn] 42)).cell? ⟨w.heap.size,2,none⟩=some (.int .i64 jx):=Aa hb7 2;have t3:(w6.alloc (.cells #[.int .u64 ji,.int .i64 jp,.int .i64 jx,.string jn] 42)).cell? ⟨w.heap.size,3,none⟩=some (.string jn):=Aa hb7 3;clear hf6 hb6 hb7 y0 y1 y2 y3;go_wp2_with (fail);go_ret;exact⟨rfl,HF6.out⟩
end Go.Proofs.YtkagolpnaicdoaaGreatDoor
