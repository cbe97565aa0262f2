/-
 Cells: name, May, Cmp and what they call. Cells: Cmp and Same. Same: one coordinate. The bytes of cells' keys: plain laws. Byte slices that a call owns. Bytes turned round. slices.Grow and slices.Concat of bytes.
-/
import Derived.Test.YtkagolpnaicdoaaGreatDoorRows
import Derived.Test.YtkagolpnaicdoaaGreatDoorPShelf
import Derived.Test.YtkagolpnaicdoaaGreatDoorPCellPure
import Derived.Deep.RegionHeld3
import Derived.Deep.DrawnRows
import Derived.Test.YtkagolpnaicdoaaGreatDoorPRegion
import Derived.Lib.ReplaceLaws
import Derived.Maps.AppendAt
import Derived.Lib.AppendStr
import Derived.Lib.AppendZeros
import Derived.Laws.AppendOwnNone
import Derived.Outline
set_option maxRecDepth 100000
set_option maxHeartbeats 8000000
open Go.Lib renaming hid→a0z
open List renaming getElem?_eq_getElem→a0x,take_of_length_le→a0v,take_succ_eq_append_getElem→a0u,eq_nil_of_length_eq_zero→a1x,length_append→a1w,getD_eq_getElem?_getD→a1v,getElem?_map→a1u,range→a2z
open Nat renaming lt_trichotomy→a0w
open UInt8 renaming lt_irrefl→a1z
namespace Go.Proofs.YtkagolpnaicdoaaGreatDoor
section
section
open Go.RowKit
theorem aQ{s:ByteArray}(h:s.size=0):s=⟨#[]⟩:=by
 obtain⟨⟨l⟩⟩:=s
 cases l with
 |nil=>rfl
 |cons a r=>cases h
theorem aR(s:ByteArray)(w:World)(hs:s.size≤9223372036854775807):Calls Tryz.prog 224 #[.string s] w fun e w'=>e=.returned (.bool (Il s))∧w=w':=by
 by_cases h0:s.size=0
 ·have H:=a0z (nR h0);obtain rfl:=aQ h0;clear h0;go_enter Tryz.func224,Tryz.ntmps224;go_wp2;go_ret;exact⟨by rw[H.out];rfl,rfl⟩
 ·have he:=O2 (Nat.pos_of_ne_zero h0)
  by_cases h4:s.size≤40
  ·have H:=a0z (nS h0 h4);clear h0;go_enter Tryz.func224,Tryz.ntmps224;go_wp2;go_ret;exact⟨Ls (by rw[H.out];simp;omega),rfl⟩
  ·have H:=a0z (nT h4);clear h0;go_enter Tryz.func224,Tryz.ntmps224;go_wp2;go_ret;exact⟨Ls (by rw[H.out];simp;omega),rfl⟩
theorem aS(c:Ac)(w:World)(hc:Dn c):Calls Tryz.prog 149 #[D4 c] w fun e w'=>e=.returned (.bool (Di c))∧Fp [] w w':=by
 obtain⟨h1,h2,h3,h4,h5⟩:=hc;unfold D4;have hf:=a0z (Fp.alloc w (.cells #[.string c.row,.string c.col,.int .u64 c.ts,.int .u64 c.seq,.bool c.del,.string c.val] 80));have HM:Hid (Di c=(Il c.row&&Il c.col&&decide (c.val.size≤100)&&(!c.del||decide (c.val.size=0)))):=rfl
 obtain⟨r,hr⟩:∃r,r=Il c.row:=⟨_,rfl⟩
 obtain⟨k,hk⟩:∃k,k=Il c.col:=⟨_,rfl⟩
 have n1:=fun w=>aR c.row w h3
 have n2:=fun w=>aR c.col w h4
 rw[←hr] at HM n1;rw[←hk] at HM n2;have N1:=a0z n1;have N2:=a0z n2;clear n1 n2 hr hk
 obtain⟨dl,hdl⟩:∃dl,dl=c.del:=⟨_,rfl⟩
 rw[←hdl] at HM hf ⊢;clear hdl;cases r
 ·have HT:Hid (Di c=false):=HM.out;go_enter Tryz.func149,Tryz.ntmps149;go_wp2_with (go_at_call 224;refine(N1.out _).mono ?_;rintro e w' ⟨rfl,rfl⟩);go_ret;exact⟨by rw[HT.out];rfl,hf.out⟩
 cases k
 ·have HT:Hid (Di c=false):=HM.out;go_enter Tryz.func149,Tryz.ntmps149;go_wp2_with (fail);refine(N1.out _).mono ?_;rintro e w' ⟨rfl,rfl⟩;go_wp2_with (fail);refine(N2.out _).mono ?_;rintro e w' ⟨rfl,rfl⟩;go_wp2_with (fail);go_ret;exact⟨by rw[HT.out];rfl,hf.out⟩
 by_cases hv:c.val.size≤100
 case neg=>
  have HT:Hid (Di c=false):=by unfold Hid;rw[HM.out,decide_eq_false hv];rfl
  go_enter Tryz.func149,Tryz.ntmps149;go_wp2_with (fail);refine(N1.out _).mono ?_;rintro e w' ⟨rfl,rfl⟩;go_wp2_with (fail);refine(N2.out _).mono ?_;rintro e w' ⟨rfl,rfl⟩;go_wp2_with (fail);go_ret;exact⟨by rw[HT.out];rfl,hf.out⟩
 cases dl
 ·have HT:Hid (Di c=true):=by unfold Hid;rw[HM.out,decide_eq_true hv];rfl
  go_enter Tryz.func149,Tryz.ntmps149;go_wp2_with (fail);refine(N1.out _).mono ?_;rintro e w' ⟨rfl,rfl⟩;go_wp2_with (fail);refine(N2.out _).mono ?_;rintro e w' ⟨rfl,rfl⟩;go_wp2_with (fail);go_ret;exact⟨by rw[HT.out];rfl,hf.out⟩
 by_cases h0:c.val.size=0
 ·have HT:Hid (Di c=true):=by unfold Hid;rw[HM.out,decide_eq_true hv,decide_eq_true h0];rfl
  have he:=aQ h0;rw[he] at hf ⊢;clear h0 he hv h5;go_enter Tryz.func149,Tryz.ntmps149;go_wp2_with (fail);refine(N1.out _).mono ?_;rintro e w' ⟨rfl,rfl⟩;go_wp2_with (fail);refine(N2.out _).mono ?_;rintro e w' ⟨rfl,rfl⟩;go_wp2_with (fail);go_ret;exact⟨by rw[HT.out];rfl,hf.out⟩
 ·have HT:Hid (Di c=false):=by unfold Hid;rw[HM.out,decide_eq_true hv,decide_eq_false h0];rfl
  have he:=O2 (Nat.pos_of_ne_zero h0);clear h0;go_enter Tryz.func149,Tryz.ntmps149;go_wp2_with (fail);refine(N1.out _).mono ?_;rintro e w' ⟨rfl,rfl⟩;go_wp2_with (fail);refine(N2.out _).mono ?_;rintro e w' ⟨rfl,rfl⟩;go_wp2_with (fail);go_ret;exact⟨by rw[HT.out];rfl,hf.out⟩
theorem W6(a:Int)(w:World):Calls Tryz.prog 276 #[.int .u64 a] w fun e w'=>e=.returned (.bool false)∧w=w':=by
 go_enter Tryz.func276,Tryz.ntmps276;go_wp2;go_ret;exact⟨by simp,rfl⟩
theorem Rh{a b:Nat}(h:a<b):Du a b= -1:=if_pos h
theorem Ri{a b:Nat}(h:b<a):Du a b=1:=by unfold Du;rw[if_neg (by omega),if_pos h]
theorem W7{a b:Nat}(h:¬a<b)(h2:¬b<a):Du a b=0:=by unfold Du;rw[if_neg h,if_neg h2]
theorem aT(a b:Nat)(w:World):Calls Tryz.prog 229 #[.int .u64 a,.int .u64 b] w fun e w'=>e=.returned (.int .i64 (Du a b))∧w=w':=by
 by_cases h1:a<b
 ·have H:=a0z (Rh h1);go_enter Tryz.func229,Tryz.ntmps229;go_wp2_with (go_at_call 276;refine(W6 _ _).mono ?_;rintro e w' ⟨rfl,rfl⟩);go_ret;exact⟨by rw[H.out];rfl,rfl⟩
 ·by_cases h2:b<a
  ·have H:=a0z (Ri h2);go_enter Tryz.func229,Tryz.ntmps229;go_wp2_with (go_at_call 276;refine(W6 _ _).mono ?_;rintro e w' ⟨rfl,rfl⟩);go_ret;exact⟨by rw[H.out];rfl,rfl⟩
  ·have H:=a0z (W7 h1 h2);go_enter Tryz.func229,Tryz.ntmps229;go_wp2_with (go_at_call 276;refine(W6 _ _).mono ?_;rintro e w' ⟨rfl,rfl⟩);go_ret;exact⟨by rw[H.out];rfl,rfl⟩
end
section
open Go.RowKit
theorem mK{l:List Int}{k:Nat}(h:∀x∈l.take k,x=0)(hk:k<l.length)(hx:l[k]≠0):Ff l=l[k]:=by
 induction l generalizing k with
 |nil=>simp at hk
 |cons y r ih=>
  unfold Ff
  cases k with
  |zero=>exact if_pos hx
  |succ k=>
   have:y=0:=h y (by simp);rw[if_neg (by simp[this])];exact ih (fun x hx=>h x (by simp[hx])) (by simpa using hk) hx
theorem mL{l:List Int}(h:∀x∈l,x=0):Ff l=0:=by
 induction l with
 |nil=>rfl
 |cons y r ih=>
  unfold Ff;rw[if_neg (by simp[h y (by simp)])];exact ih (fun x hx=>h x (by simp[hx]))
theorem aU(w:World)(sb:Nat)(l:List Int)(hs:w.heap[sb]?=some (.cells (l.map (Value.int .i64)).toArray 3 (0,0)))(hn:l.length≤1000):
  Calls Tryz.prog 227 #[.slice (some ⟨sb,0,none⟩) l.length l.length] w fun e w'=>e=.returned (.int .i64 (Ff l))∧w=w':=by
 have HS:=a0z hs;have hlt:=Ab hs;clear hs;go_enter Tryz.func227,Tryz.ntmps227;go_wp2
 go_loop [8] (fun i=>∃k:Nat,k≤l.length∧i=.int .i64 k∧∀x∈l.take k,x=0) (fun i=>l.length-(intOf i).toNat)
 case atStart=>exact⟨0,by omega,rfl,by simp⟩
 case round=>
  obtain⟨k,hk,rfl,hall⟩:=hrel;have HA:=a0z hall;clear hall
  by_cases hlt':k<l.length
  ·have hcell:w.cell? ⟨sb,k,none⟩=some (.int .i64 l[k]):=by rw[Aa HS.out];simp[hlt']
   obtain⟨x,hx⟩:∃x,x=l[k]:=⟨_,rfl⟩
   rw[←hx] at hcell;have HX:=a0z hx;clear hx
   by_cases h0:x=0
   ·subst h0;go_wp2
    go_round
    case rel=>
     refine⟨k+1,by omega,by go_num,?_⟩;rw[a0u hlt'];intro y hy
     rcases List.mem_append.1 hy with hy|hy
     ·exact HA.out y hy
     ·rw[List.mem_singleton] at hy;rw[hy,←HX.out]
    case measure=>simp[intOf];omega
   ·have hb:(x !=0)=true:=by simpa using h0
    have H:=a0z (mK HA.out hlt' (by rw[←HX.out];exact h0));clear h0;go_wp2;go_ret;exact⟨by rw[H.out,←HX.out];rfl,rfl⟩
  ·have H:=a0z (mL (l:=l) (by have:=HA.out;rwa [a0v (by omega)] at this));go_wp2;go_ret;exact⟨by rw[H.out];rfl,rfl⟩
theorem aV(a b:Ac)(w:World):Calls Tryz.prog 156 #[D4 a,D4 b] w fun e w'=>e=.returned (.int .i64 (Ez a b))∧Fp [] w w':=by
 unfold D4;have HC:Hid (Ez a b=Ff [Gu a.row b.row,Gu a.col b.col,Du b.ts a.ts,Du b.seq a.seq]):=rfl
 obtain⟨x1,hx1⟩:∃x,x=Gu a.row b.row:=⟨_,rfl⟩
 obtain⟨x2,hx2⟩:∃x,x=Gu a.col b.col:=⟨_,rfl⟩
 obtain⟨x3,hx3⟩:∃x,x=Du b.ts a.ts:=⟨_,rfl⟩
 obtain⟨x4,hx4⟩:∃x,x=Du b.seq a.seq:=⟨_,rfl⟩
 have n1:∀w,Calls Tryz.prog 228 #[.string a.row,.string b.row] w fun e w'=>e=.returned (.int .i64 x1)∧w'=w:=fun w=>by rw[hx1];exact Tryz.strings_Compare _ _ w
 have n2:∀w,Calls Tryz.prog 228 #[.string a.col,.string b.col] w fun e w'=>e=.returned (.int .i64 x2)∧w'=w:=fun w=>by rw[hx2];exact Tryz.strings_Compare _ _ w
 have n3:=fun w=>aT b.ts a.ts w
 have n4:=fun w=>aT b.seq a.seq w
 rw[←hx1,←hx2,←hx3,←hx4] at HC;rw[←hx3] at n3;rw[←hx4] at n4;have N1:=a0z n1;have N2:=a0z n2;have N3:=a0z n3;have N4:=a0z n4;clear n1 n2 n3 n4 hx1 hx2 hx3 hx4
 obtain⟨W,hW⟩:∃W,W=(w.alloc (.cells #[.string a.row,.string a.col,.int .u64 a.ts,.int .u64 a.seq,.bool a.del,.string a.val] 80)).alloc (.cells #[.string b.row,.string b.col,.int .u64 b.ts,.int .u64 b.seq,.bool b.del,.string b.val] 80):=⟨_,rfl⟩
 have hfw:Fp [] w W:=by rw[hW];exact(Fp.alloc _ _).alloc' _
 have hba:W.heap[w.heap.size]?=some (.cells #[.string a.row,.string a.col,.int .u64 a.ts,.int .u64 a.seq,.bool a.del,.string a.val] 80 (0,0)):=by
  rw[hW,Below.heap_alloc _ _ _ (by simp)];exact Ai rfl _
 have hbb:W.heap[w.heap.size+1]?=some (.cells #[.string b.row,.string b.col,.int .u64 b.ts,.int .u64 b.seq,.bool b.del,.string b.val] 80 (0,0)):=by
  rw[hW];exact Ai (by simp) _
 have hcell:∀w',Fp [] W w'→w'.cell? ⟨w.heap.size,0,none⟩=some (.string a.row)∧w'.cell? ⟨w.heap.size,1,none⟩=some (.string a.col)∧w'.cell? ⟨w.heap.size,2,none⟩=some (.int .u64 a.ts)∧w'.cell? ⟨w.heap.size,3,none⟩=some (.int .u64 a.seq)∧w'.cell? ⟨w.heap.size+1,0,none⟩=some (.string b.row)∧w'.cell? ⟨w.heap.size+1,1,none⟩=some (.string b.col)∧w'.cell? ⟨w.heap.size+1,2,none⟩=some (.int .u64 b.ts)∧w'.cell? ⟨w.heap.size+1,3,none⟩=some (.int .u64 b.seq):=by
  intro w' hf;have h1:=(hf.block _ (Ab hba) (by simp)).trans hba;have h2:=(hf.block _ (Ab hbb) (by simp)).trans hbb;exact⟨Aa h1 0,Aa h1 1,Aa h1 2,Aa h1 3,Aa h2 0,Aa h2 1,Aa h2 2,Aa h2 3⟩
 have HCELL:=a0z hcell;have HFW:=a0z hfw;have HW:=a0z hW;clear hcell hfw hba hbb hW;go_enter Tryz.func156,Tryz.ntmps156;go_wp2_with (fail);rw[←HW.out];refine Df (by kernel_rfl) (by kernel_rfl) ?_;apply A9 rfl rfl rfl
 ·intro a w hC hA K hK;have h2:=hA.free 2 _ (by kernel_rfl) rfl;simp only[Oper.wp,execOp];go_simp;exact hK _ hC (Fp.refl _ _)
 apply A9 rfl rfl rfl
 ·intro a w hC hA K hK;have h5:a.tmps[5]?.getD undef=_ :=hA.dep 0 5 _ (by kernel_rfl) rfl;obtain⟨c1,c2,c3,c4,c5,c6,c7,c8⟩:=HCELL.out _ hC;simp only[Oper.wp,execOp];go_simp;exact hK _ hC (Fp.refl _ _)
 apply A9 rfl rfl rfl
 ·intro a w hC hA K hK;have h3:=hA.free 3 _ (by kernel_rfl) rfl;simp only[Oper.wp,execOp];go_simp;exact hK _ hC (Fp.refl _ _)
 apply A9 rfl rfl rfl
 ·intro a w hC hA K hK;have h7:a.tmps[7]?.getD undef=_ :=hA.dep 2 7 _ (by kernel_rfl) rfl;obtain⟨c1,c2,c3,c4,c5,c6,c7,c8⟩:=HCELL.out _ hC;simp only[Oper.wp,execOp];go_simp;exact hK _ hC (Fp.refl _ _)
 apply A9 rfl rfl rfl
 ·intro a w hC hA K hK;have h6:a.tmps[6]?.getD undef=_ :=hA.dep 1 6 _ (by kernel_rfl) rfl;have h8:a.tmps[8]?.getD undef=_ :=hA.dep 3 8 _ (by kernel_rfl) rfl;simp only[Oper.wp,execOp];go_simp;refine(N1.out _).mono ?_;rintro e w2 ⟨rfl,rfl⟩;exact hK _ hC (Fp.refl _ _)
 apply A9 rfl rfl rfl
 ·intro a w hC hA K hK;have h2:=hA.free 2 _ (by kernel_rfl) rfl;simp only[Oper.wp,execOp];go_simp;exact hK _ hC (Fp.refl _ _)
 apply A9 rfl rfl rfl
 ·intro a w hC hA K hK;have h10:a.tmps[10]?.getD undef=_ :=hA.dep 5 10 _ (by kernel_rfl) rfl;obtain⟨c1,c2,c3,c4,c5,c6,c7,c8⟩:=HCELL.out _ hC;simp only[Oper.wp,execOp];go_simp;exact hK _ hC (Fp.refl _ _)
 apply A9 rfl rfl rfl
 ·intro a w hC hA K hK;have h3:=hA.free 3 _ (by kernel_rfl) rfl;simp only[Oper.wp,execOp];go_simp;exact hK _ hC (Fp.refl _ _)
 apply A9 rfl rfl rfl
 ·intro a w hC hA K hK;have h12:a.tmps[12]?.getD undef=_ :=hA.dep 7 12 _ (by kernel_rfl) rfl;obtain⟨c1,c2,c3,c4,c5,c6,c7,c8⟩:=HCELL.out _ hC;simp only[Oper.wp,execOp];go_simp;exact hK _ hC (Fp.refl _ _)
 apply A9 rfl rfl rfl
 ·intro a w hC hA K hK;have h11:a.tmps[11]?.getD undef=_ :=hA.dep 6 11 _ (by kernel_rfl) rfl;have h13:a.tmps[13]?.getD undef=_ :=hA.dep 8 13 _ (by kernel_rfl) rfl;simp only[Oper.wp,execOp];go_simp;refine(N2.out _).mono ?_;rintro e w2 ⟨rfl,rfl⟩;exact hK _ hC (Fp.refl _ _)
 apply A9 rfl rfl rfl
 ·intro a w hC hA K hK;have h3:=hA.free 3 _ (by kernel_rfl) rfl;simp only[Oper.wp,execOp];go_simp;exact hK _ hC (Fp.refl _ _)
 apply A9 rfl rfl rfl
 ·intro a w hC hA K hK;have h15:a.tmps[15]?.getD undef=_ :=hA.dep 10 15 _ (by kernel_rfl) rfl;obtain⟨c1,c2,c3,c4,c5,c6,c7,c8⟩:=HCELL.out _ hC;simp only[Oper.wp,execOp];go_simp;exact hK _ hC (Fp.refl _ _)
 apply A9 rfl rfl rfl
 ·intro a w hC hA K hK;have h2:=hA.free 2 _ (by kernel_rfl) rfl;simp only[Oper.wp,execOp];go_simp;exact hK _ hC (Fp.refl _ _)
 apply A9 rfl rfl rfl
 ·intro a w hC hA K hK;have h17:a.tmps[17]?.getD undef=_ :=hA.dep 12 17 _ (by kernel_rfl) rfl;obtain⟨c1,c2,c3,c4,c5,c6,c7,c8⟩:=HCELL.out _ hC;simp only[Oper.wp,execOp];go_simp;exact hK _ hC (Fp.refl _ _)
 apply A9 rfl rfl rfl
 ·intro a w hC hA K hK;have h16:a.tmps[16]?.getD undef=_ :=hA.dep 11 16 _ (by kernel_rfl) rfl;have h18:a.tmps[18]?.getD undef=_ :=hA.dep 13 18 _ (by kernel_rfl) rfl;simp only[Oper.wp,execOp];go_simp;refine(N3.out _).mono ?_;rintro e w2 ⟨rfl,rfl⟩;exact hK _ hC (Fp.refl _ _)
 apply A9 rfl rfl rfl
 ·intro a w hC hA K hK;have h3:=hA.free 3 _ (by kernel_rfl) rfl;simp only[Oper.wp,execOp];go_simp;exact hK _ hC (Fp.refl _ _)
 apply A9 rfl rfl rfl
 ·intro a w hC hA K hK;have h20:a.tmps[20]?.getD undef=_ :=hA.dep 15 20 _ (by kernel_rfl) rfl;obtain⟨c1,c2,c3,c4,c5,c6,c7,c8⟩:=HCELL.out _ hC;simp only[Oper.wp,execOp];go_simp;exact hK _ hC (Fp.refl _ _)
 apply A9 rfl rfl rfl
 ·intro a w hC hA K hK;have h2:=hA.free 2 _ (by kernel_rfl) rfl;simp only[Oper.wp,execOp];go_simp;exact hK _ hC (Fp.refl _ _)
 apply A9 rfl rfl rfl
 ·intro a w hC hA K hK;have h22:a.tmps[22]?.getD undef=_ :=hA.dep 17 22 _ (by kernel_rfl) rfl;obtain⟨c1,c2,c3,c4,c5,c6,c7,c8⟩:=HCELL.out _ hC;simp only[Oper.wp,execOp];go_simp;exact hK _ hC (Fp.refl _ _)
 apply A9 rfl rfl rfl
 ·intro a w hC hA K hK;have h21:a.tmps[21]?.getD undef=_ :=hA.dep 16 21 _ (by kernel_rfl) rfl;have h23:a.tmps[23]?.getD undef=_ :=hA.dep 18 23 _ (by kernel_rfl) rfl;simp only[Oper.wp,execOp];go_simp;refine(N4.out _).mono ?_;rintro e w2 ⟨rfl,rfl⟩;exact hK _ hC (Fp.refl _ _)
 apply gW (fun w' v=>∃g,v=.slice (some ⟨g,0,none⟩) 4 4∧w'.heap[g]?=some (.cells #[.int .i64 x1,.int .i64 x2,.int .i64 x3,.int .i64 x4] 3 (0,0))) rfl rfl rfl
 ·intro a w hC hA K hK;have h9:a.tmps[9]?.getD undef=_ :=hA.dep 4 9 _ (by kernel_rfl) rfl;have h14:a.tmps[14]?.getD undef=_ :=hA.dep 9 14 _ (by kernel_rfl) rfl;have h19:a.tmps[19]?.getD undef=_ :=hA.dep 14 19 _ (by kernel_rfl) rfl;have h24:a.tmps[24]?.getD undef=_ :=hA.dep 19 24 _ (by kernel_rfl) rfl;simp only[Oper.wp,execOp];go_simp;exact hK _ _ (hC.alloc' _) (Fp.alloc _ _) ⟨_,rfl,Ai rfl _⟩
 apply A9 rfl rfl rfl
 ·intro a w hC hA K hK;obtain⟨g,h25,hg⟩:=hA.dep 20 25 _ (by kernel_rfl) rfl;simp only[Oper.wp,execOp];go_simp;refine(aU w g [x1,x2,x3,x4] hg (by simp)).mono ?_;rintro e w2 ⟨rfl,rfl⟩;exact hK _ hC (Fp.refl _ _)
 apply A9 rfl rfl rfl
 ·intro a w hC hA K hK;have h26:a.tmps[26]?.getD undef=_ :=hA.dep 21 26 _ (by kernel_rfl) rfl;simp only[Oper.wp,execOp];go_simp;exact hK _ hC (Fp.refl _ _)
 refine⟨?_,?_⟩
 ·repeat(first|exact trivial|refine C3 _ ?_ |refine⟨fun w1 w2 v _ hf ⟨g,h1,h2⟩=>⟨g,h1,(hf.block g (Ab h2) (by simp)).trans h2⟩,?_⟩)
 ·intro w' hC;simp only[List.reverse_cons,List.reverse_nil,List.nil_append,List.cons_append]
  repeat(refine Au ?_)
  refine Az ?_;intro v25 _
  repeat(refine Au ?_)
  refine A6 ?_;simp only[Am,Act.put,List.setIfInBounds_toArray,List.set_cons_succ,List.set_cons_zero];have HF:=a0z (HFW.out.trans hC (by simp));clear hC;go_wp2;go_ret;exact⟨sP HC.out.symm,HF.out⟩
end
section
open Go.RowKit
def Nr(a b:Ac):Bool:=(a.row.toList==b.row.toList)&&((a.col.toList==b.col.toList)&&(a.ts==b.ts))
theorem aW(a b:Ac)(w:World):Calls Tryz.prog 265 #[D4 a,D4 b] w fun e w'=>e=.returned (.bool (Nr a b))∧Fp [] w w':=by
 unfold D4;go_enter Tryz.func265,Tryz.ntmps265;go_wp2_with (fail)
 go_region
 go_wp2_with (fail)
 all_goals
  go_ret;refine⟨Ls (by simp[Nr, *]<;>omega),?_⟩;exact((Fp.alloc _ _).alloc' _).drew'
end
end
section
open Go.Lib
theorem Rj(s old new:List UInt8)(h:old≠new):replaceAll s old new=replaceK old new (count s old) s:=by
 unfold replaceAll replace replaceNum;rw[if_neg (by simpa using h),if_pos (Or.inl (by decide))]
theorem mM(old new:List UInt8)(hne:old≠[])(h:old≠new):replaceAll [] old new=[]:=by
 rw[Rj _ _ _ h]
 have:index [] old= -1:=by
  unfold index
  cases old with
  |nil=>exact absurd rfl hne
  |cons a l=>rfl
 rw[count_miss this];rfl
theorem mN(s old new:List UInt8)(hne:old≠[])(h:old≠new)(hp:index s old=((0:Nat):Int)):replaceAll s old new=new++replaceAll (s.drop old.length) old new:=by
 rw[Rj _ _ _ h,Rj _ _ _ h,count_hit hne hp,Nat.add_comm 1,replaceK_hit _ _ _ _ 0 hp];simp
theorem mO(b:UInt8)(l old new:List UInt8)(hne:old≠[])(h:old≠new)(hp:old.isPrefixOf (b::l)=false):replaceAll (b::l) old new=b::replaceAll l old new:=by
 have hix:index (b::l) old=if index l old==-1 then -1 else index l old+1:=by
  conv=>lhs;unfold index
  rw[hp];simp
 rw[Rj _ _ _ h,Rj _ _ _ h];have hge:=index_ge l old
 by_cases hm:index l old= -1
 ·rw[hm] at hix;rw[count_miss hm,count_miss (by rw[hix];rfl)];rfl
 ·obtain⟨i,hi⟩:∃i:Nat,index l old=i:=⟨(index l old).toNat,by omega⟩
  have hix2:index (b::l) old=((i+1:Nat):Int):=by
   rw[hix,hi,if_neg (by simp)];omega
  have e:(b::l).drop (i+1+old.length)=l.drop (i+old.length):=by
   rw[show i+1+old.length=(i+old.length)+1 by omega];rfl
  rw[count_hit hne hix2,count_hit hne hi,e,Nat.add_comm 1,replaceK_hit _ _ _ _ _ hix2,replaceK_hit _ _ _ _ _ hi,e];rfl
theorem mP{s sub:List UInt8}(h:sub.isPrefixOf s=true):index s sub=((0:Nat):Int):=by
 cases s with
 |nil=>
  cases sub with
  |nil=>rfl
  |cons a l=>cases h
 |cons b l=>unfold index;rw[if_pos h];rfl
def C0:List UInt8→List UInt8
 |[]=>[]
 |b::l=>if b=0 then 0::255::C0 l else b::C0 l
theorem Md(l:List UInt8):C0 (0::l)=0::255::C0 l:=rfl
theorem Me{b:UInt8}(h:b≠0)(l:List UInt8):C0 (b::l)=b::C0 l:=if_neg h
theorem Rk(l:List UInt8):(C0 l).length≤2*l.length:=by
 induction l with
 |nil=>exact Nat.le_refl _
 |cons b l ih=>
  by_cases h:b=0
  ·subst h;rw[Md];simp only[List.length_cons];omega
  ·rw[Me h];simp only[List.length_cons];omega
theorem mQ(l:List UInt8):replaceAll l [0] [0,255]=C0 l:=by
 induction l with
 |nil=>exact mM _ _ (by simp) (by simp)
 |cons b l ih=>
  by_cases h:b=0
  ·subst h;rw[mN _ _ _ (by simp) (by simp) (mP (by simp[List.isPrefixOf])),Md];simp[ih]
  ·rw[mO _ _ _ _ (by simp) (by simp) (by simpa [List.isPrefixOf] using Ne.symm h),Me h,ih]
theorem Ug(l:List UInt8):compareBytes l l=0:=by
 induction l with
 |nil=>rfl
 |cons b l ih=>unfold compareBytes;rw[if_neg (a1z _),if_neg (a1z _),ih]
theorem W8{a b:List UInt8}(h:compareBytes a b=0):a=b:=by
 induction a generalizing b with
 |nil=>cases b with
  |nil=>rfl
  |cons y b=>simp[compareBytes] at h
 |cons x a ih=>cases b with
  |nil=>simp[compareBytes] at h
  |cons y b=>
   unfold compareBytes at h
   by_cases h1:x<y
   ·rw[if_pos h1] at h;simp at h
   ·by_cases h2:y<x
    ·rw[if_neg h1,if_pos h2] at h;simp at h
    ·rw[if_neg h1,if_neg h2] at h;have:x=y:=UInt8.le_antisymm (UInt8.not_lt.1 h2) (UInt8.not_lt.1 h1);rw[this,ih h]
theorem mR(a b:List UInt8):compareBytes b a= -compareBytes a b:=by
 induction a generalizing b with
 |nil=>cases b<;>simp[compareBytes]
 |cons x a ih=>cases b with
  |nil=>simp[compareBytes]
  |cons y b=>
   unfold compareBytes
   by_cases h1:x<y
   ·rw[if_pos h1,if_neg (UInt8.lt_asymm h1),if_pos h1];rfl
   ·by_cases h2:y<x
    ·rw[if_pos h2,if_neg h1,if_pos h2]
    ·rw[if_neg h1,if_neg h2,if_neg h2,if_neg h1];exact ih b
theorem mS(a b:List UInt8):compareBytes a b= -1∨compareBytes a b=0∨compareBytes a b=1:=by
 induction a generalizing b with
 |nil=>cases b<;>simp[compareBytes]
 |cons x a ih=>cases b with
  |nil=>simp[compareBytes]
  |cons y b=>
   unfold compareBytes
   by_cases h1:x<y
   ·rw[if_pos h1];simp
   ·by_cases h2:y<x
    ·rw[if_neg h1,if_pos h2];simp
    ·rw[if_neg h1,if_neg h2];exact ih b
theorem Js(x:UInt8)(a b:List UInt8):compareBytes (x::a) (x::b)=compareBytes a b:=by
 conv=>lhs;unfold compareBytes
 rw[if_neg (a1z _),if_neg (a1z _)]
theorem Le{x y:UInt8}(h:x<y)(a b:List UInt8):compareBytes (x::a) (y::b)= -1:=by
 unfold compareBytes;rw[if_pos h]
theorem Lh{x y:UInt8}(h:y<x)(a b:List UInt8):compareBytes (x::a) (y::b)=1:=by
 unfold compareBytes;rw[if_neg (UInt8.lt_asymm h),if_pos h]
theorem mT{a b c:List UInt8}(h1:compareBytes a b≤0)(h2:compareBytes b c≤0):compareBytes a c≤0:=by
 induction a generalizing b c with
 |nil=>cases c<;>simp[compareBytes]
 |cons x a ih=>
  cases b with
  |nil=>simp[compareBytes] at h1
  |cons y b=>
   cases c with
   |nil=>simp[compareBytes] at h2
   |cons z c=>
    rcases a0w x.toNat y.toNat with h|h|h
    ·have hxy:x<y:=UInt8.lt_iff_toNat_lt.2 h
     rcases a0w y.toNat z.toNat with k|k|k
     ·rw[Le (UInt8.lt_iff_toNat_lt.2 (by omega))];decide
     ·rw[Le (UInt8.lt_iff_toNat_lt.2 (by omega))];decide
     ·rw[Lh (UInt8.lt_iff_toNat_lt.2 k)] at h2;exact absurd h2 (by decide)
    ·obtain rfl:x=y:=UInt8.toNat_inj.1 h;rw[Js] at h1
     rcases a0w x.toNat z.toNat with k|k|k
     ·rw[Le (UInt8.lt_iff_toNat_lt.2 k)];decide
     ·obtain rfl:x=z:=UInt8.toNat_inj.1 k;rw[Js] at h2 ⊢;exact ih h1 h2
     ·rw[Lh (UInt8.lt_iff_toNat_lt.2 k)] at h2;exact absurd h2 (by decide)
    ·rw[Lh (UInt8.lt_iff_toNat_lt.2 h)] at h1;exact absurd h1 (by decide)
theorem P2{b:UInt8}(h:b≠0):(0:UInt8)<b:=by
 rw[UInt8.lt_iff_toNat_lt]
 have:b.toNat≠0:=fun e=>h (UInt8.toNat_inj.1 e)
 show 0<b.toNat;omega
theorem aX(a b X Y:List UInt8):compareBytes (C0 a++0::1::X) (C0 b++0::1::Y)=if a=b then compareBytes X Y else compareBytes a b:=by
 induction a generalizing b with
 |nil=>
  cases b with
  |nil=>rw[if_pos rfl];show compareBytes (0::1::X) (0::1::Y)=_;rw[Js,Js]
  |cons y b=>
   rw[if_neg (by simp)]
   by_cases h:y=0
   ·subst h;rw[Md];show compareBytes (0::1::X) (0::255::_)=_;rw[Js,Le (by decide)];rfl
   ·rw[Me h];show compareBytes (0::1::X) (y::_)=_;rw[Le (P2 h)];rfl
 |cons x a ih=>
  cases b with
  |nil=>
   rw[if_neg (by simp)]
   by_cases h:x=0
   ·subst h;rw[Md];show compareBytes (0::255::_) (0::1::Y)=_;rw[Js,Lh (by decide)];rfl
   ·rw[Me h];show compareBytes (x::_) (0::1::Y)=_;rw[Lh (P2 h)];rfl
  |cons y b=>
   by_cases hx:x=0
   ·subst hx;rw[Md]
    by_cases hy:y=0
    ·subst hy;rw[Md];show compareBytes (0::255::(C0 a++_)) (0::255::(C0 b++_))=_;rw[Js,Js,ih,Js]
     by_cases e:a=b
     ·rw[if_pos e,if_pos (by rw[e])]
     ·rw[if_neg e,if_neg (by simpa using e)]
    ·rw[Me hy,if_neg (by simp[Ne.symm hy])];show compareBytes (0::_) (y::_)=_;rw[Le (P2 hy),Le (P2 hy)]
   ·rw[Me hx]
    by_cases hy:y=0
    ·subst hy;rw[Md,if_neg (by simp[hx])];show compareBytes (x::_) (0::_)=_;rw[Lh (P2 hx),Lh (P2 hx)]
    ·rw[Me hy];show compareBytes (x::(C0 a++_)) (y::(C0 b++_))=_
     by_cases e:x=y
     ·subst e;rw[Js,Js,ih]
      by_cases e2:a=b
      ·rw[if_pos e2,if_pos (by rw[e2])]
      ·rw[if_neg e2,if_neg (by simpa using e2)]
     ·rw[if_neg (by simp[e])]
      rcases a0w x.toNat y.toNat with k|k|k
      ·rw[Le (UInt8.lt_iff_toNat_lt.2 k),Le (UInt8.lt_iff_toNat_lt.2 k)]
      ·exact absurd (UInt8.toNat_inj.1 k) e
      ·rw[Lh (UInt8.lt_iff_toNat_lt.2 k),Lh (UInt8.lt_iff_toNat_lt.2 k)]
end
section
section
open Go.RowKit
def A4(b:UInt8):Value:=.int .u8 b.toNat
def Bn(w:World)(base:Nat)(v:Value)(l:List UInt8):Prop:=w.ownsRow base 5 1 v l.length (l.map A4)
theorem Tryz.info5:(Tryz.prog.info? 5).map (fun i=>(i.zero,i.size,i.bytes))=some (some (.int .u8 0),1,1):=by kernel_rfl
theorem Bn.nil(w:World)(base:Nat):Bn w base (.slice none 0 0) []:=World.ownsRow_nil w base _ _
theorem Bn.mono{w:World}{base base':Nat}{v:Value}{l:List UInt8}(h:Bn w base v l)(hb:base'≤base):Bn w base' v l:=by
 obtain⟨h1,h2⟩:=h;refine⟨h1,?_⟩
 rcases h2 with h2|⟨g,cap,cur,hv,hg,r⟩
 ·exact Or.inl h2
 ·exact Or.inr ⟨g,cap,cur,hv,Nat.le_trans hb hg,r⟩
theorem Bn.alloc{w:World}{base:Nat}{v:Value}{l:List UInt8}(h:Bn w base v l)(o:Obj):Bn (w.alloc o) base v l:=World.ownsRow.alloc h o
theorem Bn.lt{w:World}{base:Nat}{v:Value}{l:List UInt8}(h:Bn w base v l):∀k,v.ownBlock=some k→base≤k∧k<w.heap.size:=World.ownsRow.lt h
theorem Bn.kept{w w':World}{base:Nat}{v:Value}{l:List UInt8}(h:Bn w base v l)(hf:∀k,v.ownBlock=some k→w'.heap[k]?=w.heap[k]?):Bn w' base v l:=by
 obtain⟨h1,h2⟩:=h;refine⟨h1,?_⟩
 rcases h2 with h2|⟨g,cap,cur,hv,hg,hh,r⟩
 ·exact Or.inl h2
 ·exact Or.inr ⟨g,cap,cur,hv,hg,(hf g (by rw[hv];rfl)).trans hh,r⟩
theorem Bn.fp{w w':World}{base:Nat}{v:Value}{l:List UInt8}(h:Bn w base v l)(hf:Fp [] w w'):Bn w' base v l:=
 h.kept fun k hk=>hf.block k (h.lt k hk).2 (by simp)
theorem Bn.made(w:World)(base:Nat)(l:List UInt8)(hb:base≤w.heap.size)(hl:l.length≤maxLen):
  Bn (w.alloc (.cells (l.map A4).toArray 5)) base (.slice (some ⟨w.heap.size,0,none⟩) l.length l.length) l:=
 ⟨by simp,Or.inr ⟨w.heap.size,l.length,(l.map A4).toArray,rfl,hb,(MapKept.heap_alloc w _).1,Nat.le_refl _,hl,by simp,by
  rw[a0v (by simp)]⟩⟩
theorem aY{w w':World}{base:Nat}{v:Value}{l:List UInt8}(h:Bn w base v l)(hg:w.grownBy w' v.ownBlock)(hb:base≤w.heap.size):Below base w w':=
 (Below.refl base w).grown hg hb (fun k hk=>(h.lt k hk).1)
theorem mU(l:List UInt8):∀u∈l.map A4,u.oneCell'=true:=by
 intro u hu;obtain⟨b,_,rfl⟩:=List.mem_map.1 hu;rfl
theorem Uh{w:World}{ops:Array Oper}{rest:List Oper}{o:Oper}{a:Act}{Q:Exit→Act→World→Prop}(hgd:o.guard=none)(s x:Operand)
  (ho:o.op=.call {callee:=.builtin .append,args:=#[s,x],argTypes:=#[113,113]})(base:Nat)(v:Value)(l:List UInt8)(hs:a.eval s=v)(hown:Bn w base v l)
  (b off m c:Nat)(bs:List UInt8)(hx:a.eval x=.slice (some ⟨b,off,none⟩) m c)(hm:m=bs.length)(hnews:∀j (h:j<bs.length),w.cell? ⟨b,off+j,none⟩=some (A4 bs[j]))(hlen:l.length+bs.length≤1000000000)(hbase:base≤w.heap.size)
  (h:∀v' w',Bn w' base v' (l++bs)→Below base w w'→wpList Tryz.prog ops Q rest (a.put o.dst v') w'):wpList Tryz.prog ops Q (o::rest) a w:=by
 obtain⟨i0,hi,hz0,hz1,hz2⟩:=info_parts Tryz.info5;subst hm;refine wpList_append_own w hgd s x 113 ho base 5 i0 (.int .u8 0) 1 1 Tryz.underlying113 hi hz0 hz1 hz2 rfl (by decide) v l.length (l.map A4) hs hown ⟨b,off,none⟩ bs.length c (bs.map A4) hx (by simp) ?_ (mU bs) (by unfold maxLen;omega) (by omega) hbase ?_
 ·intro j u hu;rw[a1u] at hu
  cases hj:bs[j]? with
  |none=>rw[hj] at hu;cases hu
  |some y=>
   rw[hj] at hu;simp only[Option.map_some,Option.some.injEq] at hu;subst hu;have hlt:=(List.getElem?_eq_some_iff.1 hj).1
   have e1:(⟨b,off,none⟩:Addr).add j=⟨b,off+j,none⟩:=by unfold Addr.add;split<;>simp_all
   rw[e1,hnews j hlt];obtain⟨_,e2⟩:=List.getElem?_eq_some_iff.1 hj;rw[e2]
 ·intro v' w' h1 h2 _;refine h v' w' ?_ (aY hown h2 hbase);unfold Bn;rw[a1w,List.map_append];exact h1
theorem W9{w:World}{b:Nat}{x:UInt8}(h:w.cell? ⟨b,0,none⟩=some (A4 x)):∀j (h:j<[x].length),w.cell? ⟨b,0+j,none⟩=some (A4 [x][j]):=by
 intro j hj
 have:j=0:=by simpa using hj
 subst this;exact h
theorem Xa{w:World}{ops:Array Oper}{rest:List Oper}{o:Oper}{a:Act}{Q:Exit→Act→World→Prop}(hgd:o.guard=none)(sl x:Operand)
  (ho:o.op=.call {callee:=.builtin .append,args:=#[sl,x],argTypes:=#[113,9]})(base:Nat)(v:Value)(l:List UInt8)(hs:a.eval sl=v)(hown:Bn w base v l)(s:ByteArray)(hx:a.eval x=.string s)
  (hlen:l.length+s.size≤1000000000)(hbase:base≤w.heap.size)
  (h:∀v' w',Bn w' base v' (l++s.data.toList)→Below base w w'→wpList Tryz.prog ops Q rest (a.put o.dst v') w'):wpList Tryz.prog ops Q (o::rest) a w:=by
 obtain⟨i0,hi,hz0,hz1,hz2⟩:=info_parts Tryz.info5;refine Lib.wpList_append_own_string w hgd sl x 113 9 ho base 5 i0 Tryz.underlying113 Tryz.underlying9 hi hz0 hz1 hz2 v l.length (l.map A4) hs hown s hx (by unfold maxLen;omega) (by omega) hbase ?_;intro v' w' h1 h2 _;refine h v' w' ?_ (aY hown h2 hbase);unfold Bn;rw[a1w,List.map_append];exact h1
theorem Xb{w:World}{base:Nat}{v:Value}{l:List UInt8}(hown:Bn w base v l):(convert 113 9 v).run Tryz.prog w=.ok (.string ⟨l.toArray⟩) w:=by
 obtain⟨h1,h2⟩:=hown
 rcases h2 with⟨rfl,h0⟩|⟨g,cap,cur,rfl,hg,hh,hn,hm,hs,ht⟩
 ·have:l=[]:=a1x h0;subst this;rw[run_convert_bytes_string w _ _ 5 none 0 0 Tryz.underlying113 Tryz.underlying5 Tryz.underlying9];rfl
 ·refine run_convert_bytes_back w _ _ 5 ⟨g,0,none⟩ cap l Tryz.underlying113 Tryz.underlying5 Tryz.underlying9 ?_;intro j hj
  have e1:(⟨g,0,none⟩:Addr).add j=⟨g,j,none⟩:=by unfold Addr.add;split<;>simp_all
  rw[e1,Aa hh]
  have h3:(cur.toList.take (l.length*1))[j]?=(l.map A4)[j]?:=by rw[ht]
  rw[List.getElem?_take,if_pos (by omega),a1u,a0x hj] at h3
  simpa [A4] using h3
def B3(n i:Nat):UInt8:=UInt8.ofNat (n/256^i)
def Gk(n:Nat):List UInt8:=(a2z 8).map (B3 n)
def Jt(n:Nat):List UInt8:=(Gk n).reverse
theorem Xc(n k:Nat):A4 (B3 n k)=.int .u8 ((n:Int)/2^(8*k)%256):=by
 unfold A4 B3
 have h1:(2:Nat)^(8*k)=256^k:=by rw[Nat.pow_mul]
 have h2:((UInt8.ofNat (n/256^k)).toNat:Int)=(n:Int)/2^(8*k)%256:=by
  rw[UInt8.toNat_ofNat',←h1];rw[Int.natCast_emod,Int.natCast_ediv,Int.natCast_pow];rfl
 rw[h2]
theorem mV{n k:Nat}(h:k<8):(Gk n).take (k+1)=(Gk n).take k++[B3 n k]:=by
 unfold Gk;rw[a0u (by simpa using h)];simp
theorem Ns(n:Nat):(Gk n).length=8:=by simp[Gk]
theorem mW(w:World)(base:Nat)(v:Value)(l:List UInt8)(n:Nat)(hown:Bn w base v l)(hb:base≤w.heap.size)(hl:l.length≤1000000)(hn:n<18446744073709551616):
  Calls Tryz.prog 274 #[v,.int .u64 n] w fun e w'=>∃v',e=.returned v'∧Bn w' base v' (l++Gk n)∧Below base w w':=by
 have HN:=a0z hn;clear hn;go_enter Tryz.func274,Tryz.ntmps274;go_wp2
 go_loopg [0,6] 8 (fun g v' i wr=>∃k:Nat,g+k=8∧i=.int .i64 k∧Bn wr base v' (l++(Gk n).take k)∧Below base w wr)
 case atStart=>exact⟨0,rfl,rfl,by simpa using hown,Below.refl _ _⟩
 case round=>
  obtain⟨k,hg,rfl,ho,hbel⟩:=hrel;have HO:=a0z ho;have HB:=a0z hbel;clear ho hbel
  by_cases hk:k<8
  ·have hcl:(wr.alloc (.cells #[.int .u8 ((n:Int)/2^(8*k)%256)] 5)).cell? ⟨wr.heap.size,0,none⟩=some (A4 (B3 n k)):=by
    rw[Xc];exact Aa (Ai rfl _) 0
   have HCL:=a0z hcl
   have hbw:base≤wr.heap.size:=by have:=HB.out.size;omega
   have hlk:(l++(Gk n).take k).length+1≤1000000000:=by
    have:((Gk n).take k).length≤8:=by rw[List.length_take,Ns];omega
    simp only[a1w];omega
   have HLK:=a0z hlk;clear hcl hlk;go_wp2_with (at_builtin;refine Uh rfl _ _ rfl base _ _ rfl (HO.out.alloc _) wr.heap.size 0 1 1 [B3 n k] rfl rfl (W9 HCL.out) HLK.out (by simp;omega) ?_;intro v2 w2 hown2 hbel2);have HO2:=a0z hown2;have HB2:=a0z hbel2;clear hown2 hbel2;go_wp2
   go_roundg (gk-1)
   case measure=>omega
   case rel=>exact⟨k+1,by omega,by go_num,by rw[mV hk,←List.append_assoc];exact HO2.out,(HB.out.alloc hbw _).trans HB2.out⟩
  ·have hk8:(Gk n).take k=Gk n:=a0v (by rw[Ns];omega);have h2:=HO.out;rw[hk8] at h2;have HO2:=a0z h2;clear hk8 h2;go_wp2;go_ret;exact⟨_,rfl,HO2.out,HB.out⟩
end
section
open Go.RowKit
structure Hv(w:World)(b:Nat)(n:Nat)(f:Nat→UInt8):Prop where
 lt:b<w.heap.size
 cell:∀j,j<n→w.cell? ⟨b,j,none⟩=some (A4 (f j))
 free:∀j,j<n→w.frozen? ⟨b,j,none⟩=false
def Lj(n k:Nat)(f:Nat→UInt8)(t:Nat):UInt8:=if t<k∨n-k≤t then f (n-1-t) else f t
theorem mX{n k:Nat}{f:Nat→UInt8}(h:2*k<n):Lj n k f k=f k:=by unfold Lj;rw[if_neg (by omega)]
theorem mY{n k:Nat}{f:Nat→UInt8}(h:2*k<n):Lj n k f (n-1-k)=f (n-1-k):=by unfold Lj;rw[if_neg (by omega)]
theorem mZ(w:World)(b n cap:Nat)(f:Nat→UInt8)(hr:Hv w b n f)(hn:n≤1000000000):
  Calls Tryz.prog 258 #[.slice (some ⟨b,0,none⟩) n cap] w fun e w'=>e=.returned (.tuple #[])∧Hv w' b n (fun t=>f (n-1-t))∧Fp [b] w w':=by
 have HR:=a0z hr;clear hr;go_enter Tryz.func258,Tryz.ntmps258;go_wp2_with (fail)
 go_loopg [2,3] n (fun g vi vj wr=>∃k:Nat,g+k=n∧vi=.int .i64 k∧vj=.int .i64 ((n:Int)-1-k)∧2*k≤n∧Hv wr b n (Lj n k f)∧Fp [b] w wr)
 case atStart=>
  refine⟨0,rfl,rfl,by simp,by omega,⟨HR.out.lt,fun j hj=>?_,HR.out.free⟩,Fp.refl _ _⟩;rw[HR.out.cell j hj];unfold Lj;rw[if_neg (by omega)]
 case round=>
  obtain⟨k,hg,rfl,rfl,hk2,hrow,hfp⟩:=hrel;have HROW:=a0z hrow;have HFP:=a0z hfp;clear hfp
  by_cases hlt:k+1+k<n
  ·obtain⟨m,hm⟩:∃m,m=n-1-k:=⟨_,rfl⟩
   have hmi:(n:Int)-1-k=(m:Int):=by omega
   have c1:wr.cell? ⟨b,k,none⟩=some (A4 (f k)):=by rw[hrow.cell k (by omega),mX (by omega)]
   have c2:wr.cell? ⟨b,m,none⟩=some (A4 (f m)):=by rw[hrow.cell m (by omega),hm,mY (by omega)]
   have f1:wr.frozen? ⟨b,k,none⟩=false:=hrow.free k (by omega);have f2:wr.frozen? ⟨b,m,none⟩=false:=hrow.free m (by omega)
   have hne:k≠m:=by omega
   have hmn:m<n:=by omega
   have hkm:k<m:=by omega
   have hkn:k<n:=by omega
   unfold A4 at c1 c2;have HM:=a0z hm;rw[hmi];have HMI:=a0z hmi;clear hrow hm hmi
   have hkm1:(k:Int)<(m:Int):=by omega
   go_wp2_with (fail)
   go_region
   go_wp2_with (fail)
   go_roundg (gk-1)
   case measure=>omega
   case rel=>
    refine⟨k+1,by omega,by go_num,?_,by omega,⟨?_,?_,?_⟩,?_⟩
    ·have:=HMI.out;congr 1;omega
    ·simpa [World.setCell] using HROW.out.lt
    ·intro j hj;have hc:=HROW.out.cell j hj;show((wr.setCell ⟨b,k,none⟩ _).setCell ⟨b,m,none⟩ _).cell? ⟨b,j,none⟩=_
     by_cases e1:j=m
     ·subst e1
      have c3:(wr.setCell ⟨b,k,none⟩ (.int .u8 (f j).toNat)).cell? ⟨b,j,none⟩=some (.int .u8 (f j).toNat):=by
       rw[World.cell?_setCell_other _ _ _ _ (fun e=>hne (congrArg Addr.off e))];exact c2
      rw[World.cell?_setCell_same _ _ _ c3];unfold Lj A4;rw[if_pos (by have:=HM.out;omega),show n-1-j=k by have:=HM.out;omega]
     ·rw[World.cell?_setCell_other _ _ _ _ (fun e=>e1 (congrArg Addr.off e).symm)]
      by_cases e2:j=k
      ·subst e2;rw[World.cell?_setCell_same _ _ _ c1];unfold Lj A4;rw[if_pos (by omega),show n-1-j=m by have:=HM.out;omega]
      ·rw[World.cell?_setCell_other _ _ _ _ (fun e=>e2 (congrArg Addr.off e).symm),hc];have hmm:=HM.out;unfold Lj
       by_cases e3:j<k∨n-k≤j
       ·rw[if_pos e3,if_pos (by omega)]
       ·rw[if_neg e3,if_neg (by omega)]
    ·intro j hj;show((wr.setCell ⟨b,k,none⟩ _).setCell ⟨b,m,none⟩ _).frozen? ⟨b,j,none⟩=_;rw[World.frozen?_setCell,World.frozen?_setCell];exact HROW.out.free j hj
    ·exact(((HFP.out.setCell' (by simp) _).setCell' (by simp) _).drew')
  ·have H:Hid (Hv wr b n (fun t=>f (n-1-t))):=by
    refine⟨HROW.out.lt,fun j hj=>?_,HROW.out.free⟩;rw[HROW.out.cell j hj];unfold Lj
    by_cases e:j<k∨n-k≤j
    ·rw[if_pos e]
    ·rw[if_neg e,show n-1-j=j by omega]
   have hge:¬(k:Int)<(n:Int)-1-k:=by omega
   clear hrow hlt;go_wp2_with (fail);go_end0;exact⟨rfl,H.out,HFP.out⟩
def Aq(s:ByteArray)(j:Nat):UInt8:=s.data.toList.getD j 0
theorem nA(w:World)(s:ByteArray):∃cap W,(convert 9 113 (.string s)).run Tryz.prog w=.ok (.slice (some ⟨w.heap.size,0,none⟩) s.size cap) W∧Hv W w.heap.size s.size (Aq s)∧Fp [] w W:=by
 have h:=run_bytes_of_string (P:=Tryz.prog) w 9 113 5 s Tryz.underlying9 Tryz.underlying113 Tryz.underlying5;refine⟨_,_,h,?_,(Fp.drew w).alloc' _⟩;have hb:=Ai (w:=w.drew) (n:=w.heap.size) rfl (.cells (bytesRow s (grownCap w s.size 0 5)) 5 ((bytesRow s (grownCap w s.size 0 5)).size,(bytesRow s (grownCap w s.size 0 5)).size+1));refine⟨Ab hb,fun j hj=>?_,fun j hj=>?_⟩
 ·rw[Aa hb,bytesRow_at s _ j hj];unfold A4 Aq
  have:s.data.toList.getD j 0=s.data[j]:=by
   rw[a1v,a0x (by simpa using hj)];simp
  rw[this]
 ·have hsz:s.size≤(bytesRow s (grownCap w s.size 0 5)).size:=by
   unfold bytesRow;simp only[Array.size_append,Array.size_map,Array.size_replicate];exact Nat.le_add_right _ _
  simp only[World.frozen?,hb]
  have:¬(bytesRow s (grownCap w s.size 0 5)).size≤j:=by omega
  simp[this]
theorem Nu{w:World}{b n cap:Nat}{f:Nat→UInt8}(h:Hv w b n f):(convert 113 9 (.slice (some ⟨b,0,none⟩) n cap)).run Tryz.prog w=.ok (.string ⟨((a2z n).map f).toArray⟩) w:=by
 have:=run_convert_bytes_back (P:=Tryz.prog) w 113 9 5 ⟨b,0,none⟩ cap ((a2z n).map f) Tryz.underlying113 Tryz.underlying5 Tryz.underlying9 (by
  intro j hj
  have hj':j<n:=by simpa using hj
  have e1:(⟨b,0,none⟩:Addr).add j=⟨b,j,none⟩:=by unfold Addr.add;split<;>simp_all
  rw[e1,h.cell j hj']
  simp[A4])
 simpa using this
theorem nB(s:ByteArray):((a2z s.size).map (fun t=>Aq s (s.size-1-t)))=s.data.toList.reverse:=by
 apply List.ext_getElem
 ·simp
 ·intro i h1 h2
  have hi:i<s.data.toList.length:=by simpa using h1
  have hi':i<s.size:=by simpa using h1
  simp only[List.getElem_map,List.getElem_range,List.getElem_reverse];unfold Aq;have hlen:s.data.toList.length=s.size:=rfl;rw[a1v,a0x (by omega)];simp only[Option.getD_some];congr 1
theorem nC(w:World)(s:ByteArray)(hs:s.size≤1000000000):
  Calls Tryz.prog 210 #[.string s] w fun e w'=>e=.returned (.string ⟨s.data.toList.reverse.toArray⟩)∧Fp [] w w':=by
 obtain⟨cap,W,hconv,hrow,hfp⟩:=nA w s;have hrev:=mZ W w.heap.size s.size cap (Aq s) hrow hs;have HREV:=a0z hrev;have HFP:=a0z hfp;clear hrow hfp hrev;go_enter Tryz.func210,Tryz.ntmps210;go_wp2_with (fail);refine HREV.out.mono ?_;rintro e w2 ⟨rfl,hrow2,hf2⟩;have hstr:=Nu (cap:=cap) hrow2;rw[nB] at hstr;have HF2:=a0z (HFP.out.trans hf2 (by simp));clear hrow2 hf2;go_wp2_with (fail);go_ret;exact⟨rfl,HF2.out⟩
theorem aZ(w:World)(base:Nat)(v:Value)(l:List UInt8)(n:Nat)(hown:Bn w base v l)(hb:base≤w.heap.size)(hl:l.length≤1000000)(hn:n<18446744073709551616):
  Calls Tryz.prog 226 #[v,.int .u64 n] w fun e w'=>∃v',e=.returned v'∧Bn w' base v' (l++Jt n)∧Below base w w':=by
 have hli:=mW w w.heap.size (.slice none 0 0) [] n (Bn.nil _ _) (Nat.le_refl _) (by simp) hn;have HLI:=a0z hli;have HO:=a0z hown;clear hli hown hn;go_enter Tryz.func226,Tryz.ntmps226;go_wp2_with (fail);refine HLI.out.mono ?_;rintro e w2 ⟨v2,rfl,ho2,hb2⟩;have hstr:=Xb ho2;rw[List.nil_append] at hstr
 have hf2:Fp [] w w2:=⟨hb2.os,hb2.tape,hb2.output,hb2.size,fun k hk _=>hb2.block k hk⟩
 have HO2:=a0z (HO.out.fp hf2);have HF2:=a0z hf2;clear ho2 hb2 hf2;go_wp2_with (fail);refine(nC w2 _ (by show(Gk n).toArray.size≤_;simp[Ns])).mono ?_;rintro e w3 ⟨rfl,hf3⟩;have HO3:=a0z (HO2.out.fp hf3);have HF3:=a0z (HF2.out.trans hf3 (by simp))
 have hbw:base≤w3.heap.size:=by have:=HF3.out.size;omega
 have hbs:l.length+(⟨(Gk n).reverse.toArray⟩:ByteArray).size≤1000000000:=by
  show l.length+(Gk n).reverse.toArray.size≤_;simp[Ns];omega
 have HBS:=a0z hbs;clear hf3 hstr hbs;go_wp2_with (at_builtin;refine Xa rfl _ _ rfl base _ _ rfl HO3.out _ rfl HBS.out hbw ?_;intro v4 w4 hown4 hbel4);have HO4:=a0z hown4;have HB4:=a0z hbel4;clear hown4 hbel4;go_wp2_with (fail);go_ret;exact⟨_,rfl,HO4.out,(HF3.out.below hb (by simp)).trans HB4.out⟩
end
section
open Go.RowKit
def Ju(w:World)(v:Value)(l:List UInt8):Prop:=
 (v=.slice none 0 0∧l=[])∨∃b off cap,v=.slice (some ⟨b,off,none⟩) l.length cap∧b<w.heap.size∧∀j (h:j<l.length),w.cell? ⟨b,off+j,none⟩=some (A4 l[j])
theorem Ju.fp{w w':World}{v:Value}{l:List UInt8}(h:Ju w v l)(hf:Fp [] w w'):Ju w' v l:=by
 rcases h with h|⟨b,off,cap,h1,h2,h3⟩
 ·exact Or.inl h
 ·exact Or.inr ⟨b,off,cap,h1,Nat.lt_of_lt_of_le h2 hf.size,fun j hj=>by rw[hf.cell h2 (by simp)];exact h3 j hj⟩
theorem Bn.reads{w:World}{base:Nat}{v:Value}{l:List UInt8}(h:Bn w base v l):Ju w v l:=by
 obtain⟨h1,h2⟩:=h
 rcases h2 with⟨rfl,h0⟩|⟨g,cap,cur,rfl,hg,hh,hn,hm,hs,ht⟩
 ·exact Or.inl ⟨rfl,a1x h0⟩
 ·refine Or.inr ⟨g,0,cap,rfl,Ab hh,fun j hj=>?_⟩;rw[Nat.zero_add,Aa hh]
  have h3:(cur.toList.take (l.length*1))[j]?=(l.map A4)[j]?:=by rw[ht]
  rw[List.getElem?_take,if_pos (by omega),a1u,a0x hj] at h3
  simpa using h3
theorem Ju.form{w:World}{v:Value}{l:List UInt8}(h:Ju w v l):∃a cap,v=.slice a l.length cap:=by
 rcases h with⟨rfl,rfl⟩|⟨b,off,cap,rfl,_⟩
 ·exact⟨_,_,rfl⟩
 ·exact⟨_,_,rfl⟩
end
end
end Go.Proofs.YtkagolpnaicdoaaGreatDoor
