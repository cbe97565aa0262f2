/-
 Cells: name, May, Cmp and what they call. Cells: Cmp and Same. Same: one coordinate. The bytes of cells' keys: plain laws.
-/
import Derived.Test.YtkagolpnaicdoaaGreatDoorRows
import Derived.Test.YtkagolpnaicdoaaGreatDoorMShelf
import Derived.Test.YtkagolpnaicdoaaGreatDoorMCellPure
import Derived.Deep.RegionHeld3
import Derived.Deep.DrawnRows
import Derived.Test.YtkagolpnaicdoaaGreatDoorMRegion
import Derived.Lib.ReplaceLaws
set_option maxRecDepth 100000
set_option maxHeartbeats 8000000
open Go.Lib renaming hid→a0z
open Nat renaming lt_trichotomy→a0x
open UInt8 renaming lt_irrefl→a0w
namespace Go.Proofs.YtkagolpnaicdoaaGreatDoor
section
section
open Go.RowKit
theorem Zg{s:ByteArray}(h:s.size=0):s=⟨#[]⟩:=by
 obtain⟨⟨l⟩⟩:=s
 cases l with
 |nil=>rfl
 |cons a r=>cases h
theorem Zh(s:ByteArray)(w:World)(hs:s.size≤9223372036854775807):Calls Tryz.prog 224 #[.string s] w fun e w'=>e=.returned (.bool (H9 s))∧w=w':=by
 by_cases h0:s.size=0
 ·have H:=a0z (kY h0);obtain rfl:=Zg h0;clear h0;go_enter Tryz.func224,Tryz.ntmps224;go_wp2;go_ret;exact⟨by rw[H.out];rfl,rfl⟩
 ·have he:=N6 (Nat.pos_of_ne_zero h0)
  by_cases h4:s.size≤40
  ·have H:=a0z (kZ h0 h4);clear h0;go_enter Tryz.func224,Tryz.ntmps224;go_wp2;go_ret;exact⟨K8 (by rw[H.out];simp;omega),rfl⟩
  ·have H:=a0z (lA h4);clear h0;go_enter Tryz.func224,Tryz.ntmps224;go_wp2;go_ret;exact⟨K8 (by rw[H.out];simp;omega),rfl⟩
theorem Zi(c:Ac)(w:World)(hc:Dm c):Calls Tryz.prog 149 #[Dz c] w fun e w'=>e=.returned (.bool (Db c))∧Fp [] w w':=by
 obtain⟨h1,h2,h3,h4,h5⟩:=hc;unfold Dz;have hf:=a0z (Fp.alloc w (.cells #[.string c.row,.string c.col,.int .u64 c.ts,.int .u64 c.seq,.bool c.del,.string c.val] 80));have HM:Hid (Db c=(H9 c.row&&H9 c.col&&decide (c.val.size≤100)&&(!c.del||decide (c.val.size=0)))):=rfl
 obtain⟨r,hr⟩:∃r,r=H9 c.row:=⟨_,rfl⟩
 obtain⟨k,hk⟩:∃k,k=H9 c.col:=⟨_,rfl⟩
 have n1:=fun w=>Zh c.row w h3
 have n2:=fun w=>Zh c.col w h4
 rw[←hr] at HM n1;rw[←hk] at HM n2;have N1:=a0z n1;have N2:=a0z n2;clear n1 n2 hr hk
 obtain⟨dl,hdl⟩:∃dl,dl=c.del:=⟨_,rfl⟩
 rw[←hdl] at HM hf ⊢;clear hdl;cases r
 ·have HT:Hid (Db c=false):=HM.out;go_enter Tryz.func149,Tryz.ntmps149;go_wp2_with (go_at_call 224;refine(N1.out _).mono ?_;rintro e w' ⟨rfl,rfl⟩);go_ret;exact⟨by rw[HT.out];rfl,hf.out⟩
 cases k
 ·have HT:Hid (Db c=false):=HM.out;go_enter Tryz.func149,Tryz.ntmps149;go_wp2_with (fail);refine(N1.out _).mono ?_;rintro e w' ⟨rfl,rfl⟩;go_wp2_with (fail);refine(N2.out _).mono ?_;rintro e w' ⟨rfl,rfl⟩;go_wp2_with (fail);go_ret;exact⟨by rw[HT.out];rfl,hf.out⟩
 by_cases hv:c.val.size≤100
 case neg=>
  have HT:Hid (Db c=false):=by unfold Hid;rw[HM.out,decide_eq_false hv];rfl
  go_enter Tryz.func149,Tryz.ntmps149;go_wp2_with (fail);refine(N1.out _).mono ?_;rintro e w' ⟨rfl,rfl⟩;go_wp2_with (fail);refine(N2.out _).mono ?_;rintro e w' ⟨rfl,rfl⟩;go_wp2_with (fail);go_ret;exact⟨by rw[HT.out];rfl,hf.out⟩
 cases dl
 ·have HT:Hid (Db c=true):=by unfold Hid;rw[HM.out,decide_eq_true hv];rfl
  go_enter Tryz.func149,Tryz.ntmps149;go_wp2_with (fail);refine(N1.out _).mono ?_;rintro e w' ⟨rfl,rfl⟩;go_wp2_with (fail);refine(N2.out _).mono ?_;rintro e w' ⟨rfl,rfl⟩;go_wp2_with (fail);go_ret;exact⟨by rw[HT.out];rfl,hf.out⟩
 by_cases h0:c.val.size=0
 ·have HT:Hid (Db c=true):=by unfold Hid;rw[HM.out,decide_eq_true hv,decide_eq_true h0];rfl
  have he:=Zg h0;rw[he] at hf ⊢;clear h0 he hv h5;go_enter Tryz.func149,Tryz.ntmps149;go_wp2_with (fail);refine(N1.out _).mono ?_;rintro e w' ⟨rfl,rfl⟩;go_wp2_with (fail);refine(N2.out _).mono ?_;rintro e w' ⟨rfl,rfl⟩;go_wp2_with (fail);go_ret;exact⟨by rw[HT.out];rfl,hf.out⟩
 ·have HT:Hid (Db c=false):=by unfold Hid;rw[HM.out,decide_eq_true hv,decide_eq_false h0];rfl
  have he:=N6 (Nat.pos_of_ne_zero h0);clear h0;go_enter Tryz.func149,Tryz.ntmps149;go_wp2_with (fail);refine(N1.out _).mono ?_;rintro e w' ⟨rfl,rfl⟩;go_wp2_with (fail);refine(N2.out _).mono ?_;rintro e w' ⟨rfl,rfl⟩;go_wp2_with (fail);go_ret;exact⟨by rw[HT.out];rfl,hf.out⟩
theorem V0(a:Int)(w:World):Calls Tryz.prog 276 #[.int .u64 a] w fun e w'=>e=.returned (.bool false)∧w=w':=by
 go_enter Tryz.func276,Tryz.ntmps276;go_wp2;go_ret;exact⟨by simp,rfl⟩
theorem Qk{a b:Nat}(h:a<b):Dq a b= -1:=if_pos h
theorem Ql{a b:Nat}(h:b<a):Dq a b=1:=by unfold Dq;rw[if_neg (by omega),if_pos h]
theorem V1{a b:Nat}(h:¬a<b)(h2:¬b<a):Dq a b=0:=by unfold Dq;rw[if_neg h,if_neg h2]
theorem Zj(a b:Nat)(w:World):Calls Tryz.prog 229 #[.int .u64 a,.int .u64 b] w fun e w'=>e=.returned (.int .i64 (Dq a b))∧w=w':=by
 by_cases h1:a<b
 ·have H:=a0z (Qk h1);go_enter Tryz.func229,Tryz.ntmps229;go_wp2_with (go_at_call 276;refine(V0 _ _).mono ?_;rintro e w' ⟨rfl,rfl⟩);go_ret;exact⟨by rw[H.out];rfl,rfl⟩
 ·by_cases h2:b<a
  ·have H:=a0z (Ql h2);go_enter Tryz.func229,Tryz.ntmps229;go_wp2_with (go_at_call 276;refine(V0 _ _).mono ?_;rintro e w' ⟨rfl,rfl⟩);go_ret;exact⟨by rw[H.out];rfl,rfl⟩
  ·have H:=a0z (V1 h1 h2);go_enter Tryz.func229,Tryz.ntmps229;go_wp2_with (go_at_call 276;refine(V0 _ _).mono ?_;rintro e w' ⟨rfl,rfl⟩);go_ret;exact⟨by rw[H.out];rfl,rfl⟩
end
section
open Go.RowKit
theorem kP{l:List Int}{k:Nat}(h:∀x∈l.take k,x=0)(hk:k<l.length)(hx:l[k]≠0):E5 l=l[k]:=by
 induction l generalizing k with
 |nil=>simp at hk
 |cons y r ih=>
  unfold E5
  cases k with
  |zero=>exact if_pos hx
  |succ k=>
   have:y=0:=h y (by simp);rw[if_neg (by simp[this])];exact ih (fun x hx=>h x (by simp[hx])) (by simpa using hk) hx
theorem kQ{l:List Int}(h:∀x∈l,x=0):E5 l=0:=by
 induction l with
 |nil=>rfl
 |cons y r ih=>
  unfold E5;rw[if_neg (by simp[h y (by simp)])];exact ih (fun x hx=>h x (by simp[hx]))
theorem Zk(w:World)(sb:Nat)(l:List Int)(hs:w.heap[sb]?=some (.cells (l.map (Value.int .i64)).toArray 3 (0,0)))(hn:l.length≤1000):
  Calls Tryz.prog 227 #[.slice (some ⟨sb,0,none⟩) l.length l.length] w fun e w'=>e=.returned (.int .i64 (E5 l))∧w=w':=by
 have HS:=a0z hs;have hlt:=Ab hs;clear hs;go_enter Tryz.func227,Tryz.ntmps227;go_wp2
 go_loop [8] (fun i=>∃k:Nat,k≤l.length∧i=.int .i64 k∧∀x∈l.take k,x=0) (fun i=>l.length-(intOf i).toNat)
 case atStart=>exact⟨0,by omega,rfl,by simp⟩
 case round=>
  obtain⟨k,hk,rfl,hall⟩:=hrel;have HA:=a0z hall;clear hall
  by_cases hlt':k<l.length
  ·have hcell:w.cell? ⟨sb,k,none⟩=some (.int .i64 l[k]):=by rw[Aa HS.out];simp[hlt']
   obtain⟨x,hx⟩:∃x,x=l[k]:=⟨_,rfl⟩
   rw[←hx] at hcell;have HX:=a0z hx;clear hx
   by_cases h0:x=0
   ·subst h0;go_wp2
    go_round
    case rel=>
     refine⟨k+1,by omega,by go_num,?_⟩;rw[List.take_succ_eq_append_getElem hlt'];intro y hy
     rcases List.mem_append.1 hy with hy|hy
     ·exact HA.out y hy
     ·rw[List.mem_singleton] at hy;rw[hy,←HX.out]
    case measure=>simp[intOf];omega
   ·have hb:(x !=0)=true:=by simpa using h0
    have H:=a0z (kP HA.out hlt' (by rw[←HX.out];exact h0));clear h0;go_wp2;go_ret;exact⟨by rw[H.out,←HX.out];rfl,rfl⟩
  ·have H:=a0z (kQ (l:=l) (by have:=HA.out;rwa [List.take_of_length_le (by omega)] at this));go_wp2;go_ret;exact⟨by rw[H.out];rfl,rfl⟩
theorem Zl(a b:Ac)(w:World):Calls Tryz.prog 156 #[Dz a,Dz b] w fun e w'=>e=.returned (.int .i64 (Ep a b))∧Fp [] w w':=by
 unfold Dz;have HC:Hid (Ep a b=E5 [Ee a.row b.row,Ee a.col b.col,Dq b.ts a.ts,Dq b.seq a.seq]):=rfl
 obtain⟨x1,hx1⟩:∃x,x=Ee a.row b.row:=⟨_,rfl⟩
 obtain⟨x2,hx2⟩:∃x,x=Ee a.col b.col:=⟨_,rfl⟩
 obtain⟨x3,hx3⟩:∃x,x=Dq b.ts a.ts:=⟨_,rfl⟩
 obtain⟨x4,hx4⟩:∃x,x=Dq b.seq a.seq:=⟨_,rfl⟩
 have n1:∀w,Calls Tryz.prog 228 #[.string a.row,.string b.row] w fun e w'=>e=.returned (.int .i64 x1)∧w'=w:=fun w=>by rw[hx1];exact Tryz.strings_Compare _ _ w
 have n2:∀w,Calls Tryz.prog 228 #[.string a.col,.string b.col] w fun e w'=>e=.returned (.int .i64 x2)∧w'=w:=fun w=>by rw[hx2];exact Tryz.strings_Compare _ _ w
 have n3:=fun w=>Zj b.ts a.ts w
 have n4:=fun w=>Zj b.seq a.seq w
 rw[←hx1,←hx2,←hx3,←hx4] at HC;rw[←hx3] at n3;rw[←hx4] at n4;have N1:=a0z n1;have N2:=a0z n2;have N3:=a0z n3;have N4:=a0z n4;clear n1 n2 n3 n4 hx1 hx2 hx3 hx4
 obtain⟨W,hW⟩:∃W,W=(w.alloc (.cells #[.string a.row,.string a.col,.int .u64 a.ts,.int .u64 a.seq,.bool a.del,.string a.val] 80)).alloc (.cells #[.string b.row,.string b.col,.int .u64 b.ts,.int .u64 b.seq,.bool b.del,.string b.val] 80):=⟨_,rfl⟩
 have hfw:Fp [] w W:=by rw[hW];exact(Fp.alloc _ _).alloc' _
 have hba:W.heap[w.heap.size]?=some (.cells #[.string a.row,.string a.col,.int .u64 a.ts,.int .u64 a.seq,.bool a.del,.string a.val] 80 (0,0)):=by
  rw[hW,Below.heap_alloc _ _ _ (by simp)];exact Aj rfl _
 have hbb:W.heap[w.heap.size+1]?=some (.cells #[.string b.row,.string b.col,.int .u64 b.ts,.int .u64 b.seq,.bool b.del,.string b.val] 80 (0,0)):=by
  rw[hW];exact Aj (by simp) _
 have hcell:∀w',Fp [] W w'→w'.cell? ⟨w.heap.size,0,none⟩=some (.string a.row)∧w'.cell? ⟨w.heap.size,1,none⟩=some (.string a.col)∧w'.cell? ⟨w.heap.size,2,none⟩=some (.int .u64 a.ts)∧w'.cell? ⟨w.heap.size,3,none⟩=some (.int .u64 a.seq)∧w'.cell? ⟨w.heap.size+1,0,none⟩=some (.string b.row)∧w'.cell? ⟨w.heap.size+1,1,none⟩=some (.string b.col)∧w'.cell? ⟨w.heap.size+1,2,none⟩=some (.int .u64 b.ts)∧w'.cell? ⟨w.heap.size+1,3,none⟩=some (.int .u64 b.seq):=by
  intro w' hf;have h1:=(hf.block _ (Ab hba) (by simp)).trans hba;have h2:=(hf.block _ (Ab hbb) (by simp)).trans hbb;exact⟨Aa h1 0,Aa h1 1,Aa h1 2,Aa h1 3,Aa h2 0,Aa h2 1,Aa h2 2,Aa h2 3⟩
 have HCELL:=a0z hcell;have HFW:=a0z hfw;have HW:=a0z hW;clear hcell hfw hba hbb hW;go_enter Tryz.func156,Tryz.ntmps156;go_wp2_with (fail);rw[←HW.out];refine Dy (by kernel_rfl) (by kernel_rfl) ?_;apply A9 rfl rfl rfl
 ·intro a w hC hA K hK;have h2:=hA.free 2 _ (by kernel_rfl) rfl;simp only[Oper.wp,execOp];go_simp;exact hK _ hC (Fp.refl _ _)
 apply A9 rfl rfl rfl
 ·intro a w hC hA K hK;have h5:a.tmps[5]?.getD undef=_ :=hA.dep 0 5 _ (by kernel_rfl) rfl;obtain⟨c1,c2,c3,c4,c5,c6,c7,c8⟩:=HCELL.out _ hC;simp only[Oper.wp,execOp];go_simp;exact hK _ hC (Fp.refl _ _)
 apply A9 rfl rfl rfl
 ·intro a w hC hA K hK;have h3:=hA.free 3 _ (by kernel_rfl) rfl;simp only[Oper.wp,execOp];go_simp;exact hK _ hC (Fp.refl _ _)
 apply A9 rfl rfl rfl
 ·intro a w hC hA K hK;have h7:a.tmps[7]?.getD undef=_ :=hA.dep 2 7 _ (by kernel_rfl) rfl;obtain⟨c1,c2,c3,c4,c5,c6,c7,c8⟩:=HCELL.out _ hC;simp only[Oper.wp,execOp];go_simp;exact hK _ hC (Fp.refl _ _)
 apply A9 rfl rfl rfl
 ·intro a w hC hA K hK;have h6:a.tmps[6]?.getD undef=_ :=hA.dep 1 6 _ (by kernel_rfl) rfl;have h8:a.tmps[8]?.getD undef=_ :=hA.dep 3 8 _ (by kernel_rfl) rfl;simp only[Oper.wp,execOp];go_simp;refine(N1.out _).mono ?_;rintro e w2 ⟨rfl,rfl⟩;exact hK _ hC (Fp.refl _ _)
 apply A9 rfl rfl rfl
 ·intro a w hC hA K hK;have h2:=hA.free 2 _ (by kernel_rfl) rfl;simp only[Oper.wp,execOp];go_simp;exact hK _ hC (Fp.refl _ _)
 apply A9 rfl rfl rfl
 ·intro a w hC hA K hK;have h10:a.tmps[10]?.getD undef=_ :=hA.dep 5 10 _ (by kernel_rfl) rfl;obtain⟨c1,c2,c3,c4,c5,c6,c7,c8⟩:=HCELL.out _ hC;simp only[Oper.wp,execOp];go_simp;exact hK _ hC (Fp.refl _ _)
 apply A9 rfl rfl rfl
 ·intro a w hC hA K hK;have h3:=hA.free 3 _ (by kernel_rfl) rfl;simp only[Oper.wp,execOp];go_simp;exact hK _ hC (Fp.refl _ _)
 apply A9 rfl rfl rfl
 ·intro a w hC hA K hK;have h12:a.tmps[12]?.getD undef=_ :=hA.dep 7 12 _ (by kernel_rfl) rfl;obtain⟨c1,c2,c3,c4,c5,c6,c7,c8⟩:=HCELL.out _ hC;simp only[Oper.wp,execOp];go_simp;exact hK _ hC (Fp.refl _ _)
 apply A9 rfl rfl rfl
 ·intro a w hC hA K hK;have h11:a.tmps[11]?.getD undef=_ :=hA.dep 6 11 _ (by kernel_rfl) rfl;have h13:a.tmps[13]?.getD undef=_ :=hA.dep 8 13 _ (by kernel_rfl) rfl;simp only[Oper.wp,execOp];go_simp;refine(N2.out _).mono ?_;rintro e w2 ⟨rfl,rfl⟩;exact hK _ hC (Fp.refl _ _)
 apply A9 rfl rfl rfl
 ·intro a w hC hA K hK;have h3:=hA.free 3 _ (by kernel_rfl) rfl;simp only[Oper.wp,execOp];go_simp;exact hK _ hC (Fp.refl _ _)
 apply A9 rfl rfl rfl
 ·intro a w hC hA K hK;have h15:a.tmps[15]?.getD undef=_ :=hA.dep 10 15 _ (by kernel_rfl) rfl;obtain⟨c1,c2,c3,c4,c5,c6,c7,c8⟩:=HCELL.out _ hC;simp only[Oper.wp,execOp];go_simp;exact hK _ hC (Fp.refl _ _)
 apply A9 rfl rfl rfl
 ·intro a w hC hA K hK;have h2:=hA.free 2 _ (by kernel_rfl) rfl;simp only[Oper.wp,execOp];go_simp;exact hK _ hC (Fp.refl _ _)
 apply A9 rfl rfl rfl
 ·intro a w hC hA K hK;have h17:a.tmps[17]?.getD undef=_ :=hA.dep 12 17 _ (by kernel_rfl) rfl;obtain⟨c1,c2,c3,c4,c5,c6,c7,c8⟩:=HCELL.out _ hC;simp only[Oper.wp,execOp];go_simp;exact hK _ hC (Fp.refl _ _)
 apply A9 rfl rfl rfl
 ·intro a w hC hA K hK;have h16:a.tmps[16]?.getD undef=_ :=hA.dep 11 16 _ (by kernel_rfl) rfl;have h18:a.tmps[18]?.getD undef=_ :=hA.dep 13 18 _ (by kernel_rfl) rfl;simp only[Oper.wp,execOp];go_simp;refine(N3.out _).mono ?_;rintro e w2 ⟨rfl,rfl⟩;exact hK _ hC (Fp.refl _ _)
 apply A9 rfl rfl rfl
 ·intro a w hC hA K hK;have h3:=hA.free 3 _ (by kernel_rfl) rfl;simp only[Oper.wp,execOp];go_simp;exact hK _ hC (Fp.refl _ _)
 apply A9 rfl rfl rfl
 ·intro a w hC hA K hK;have h20:a.tmps[20]?.getD undef=_ :=hA.dep 15 20 _ (by kernel_rfl) rfl;obtain⟨c1,c2,c3,c4,c5,c6,c7,c8⟩:=HCELL.out _ hC;simp only[Oper.wp,execOp];go_simp;exact hK _ hC (Fp.refl _ _)
 apply A9 rfl rfl rfl
 ·intro a w hC hA K hK;have h2:=hA.free 2 _ (by kernel_rfl) rfl;simp only[Oper.wp,execOp];go_simp;exact hK _ hC (Fp.refl _ _)
 apply A9 rfl rfl rfl
 ·intro a w hC hA K hK;have h22:a.tmps[22]?.getD undef=_ :=hA.dep 17 22 _ (by kernel_rfl) rfl;obtain⟨c1,c2,c3,c4,c5,c6,c7,c8⟩:=HCELL.out _ hC;simp only[Oper.wp,execOp];go_simp;exact hK _ hC (Fp.refl _ _)
 apply A9 rfl rfl rfl
 ·intro a w hC hA K hK;have h21:a.tmps[21]?.getD undef=_ :=hA.dep 16 21 _ (by kernel_rfl) rfl;have h23:a.tmps[23]?.getD undef=_ :=hA.dep 18 23 _ (by kernel_rfl) rfl;simp only[Oper.wp,execOp];go_simp;refine(N4.out _).mono ?_;rintro e w2 ⟨rfl,rfl⟩;exact hK _ hC (Fp.refl _ _)
 apply eB (fun w' v=>∃g,v=.slice (some ⟨g,0,none⟩) 4 4∧w'.heap[g]?=some (.cells #[.int .i64 x1,.int .i64 x2,.int .i64 x3,.int .i64 x4] 3 (0,0))) rfl rfl rfl
 ·intro a w hC hA K hK;have h9:a.tmps[9]?.getD undef=_ :=hA.dep 4 9 _ (by kernel_rfl) rfl;have h14:a.tmps[14]?.getD undef=_ :=hA.dep 9 14 _ (by kernel_rfl) rfl;have h19:a.tmps[19]?.getD undef=_ :=hA.dep 14 19 _ (by kernel_rfl) rfl;have h24:a.tmps[24]?.getD undef=_ :=hA.dep 19 24 _ (by kernel_rfl) rfl;simp only[Oper.wp,execOp];go_simp;exact hK _ _ (hC.alloc' _) (Fp.alloc _ _) ⟨_,rfl,Aj rfl _⟩
 apply A9 rfl rfl rfl
 ·intro a w hC hA K hK;obtain⟨g,h25,hg⟩:=hA.dep 20 25 _ (by kernel_rfl) rfl;simp only[Oper.wp,execOp];go_simp;refine(Zk w g [x1,x2,x3,x4] hg (by simp)).mono ?_;rintro e w2 ⟨rfl,rfl⟩;exact hK _ hC (Fp.refl _ _)
 apply A9 rfl rfl rfl
 ·intro a w hC hA K hK;have h26:a.tmps[26]?.getD undef=_ :=hA.dep 21 26 _ (by kernel_rfl) rfl;simp only[Oper.wp,execOp];go_simp;exact hK _ hC (Fp.refl _ _)
 refine⟨?_,?_⟩
 ·repeat(first|exact trivial|refine Dj _ ?_ |refine⟨fun w1 w2 v _ hf ⟨g,h1,h2⟩=>⟨g,h1,(hf.block g (Ab h2) (by simp)).trans h2⟩,?_⟩)
 ·intro w' hC;simp only[List.reverse_cons,List.reverse_nil,List.nil_append,List.cons_append]
  repeat(refine Aq ?_)
  refine Av ?_;intro v25 _
  repeat(refine Aq ?_)
  refine A8 ?_;simp only[Am,Act.put,List.setIfInBounds_toArray,List.set_cons_succ,List.set_cons_zero];have HF:=a0z (HFW.out.trans hC (by simp));clear hC;go_wp2;go_ret;exact⟨pO HC.out.symm,HF.out⟩
end
section
open Go.RowKit
def Md(a b:Ac):Bool:=(a.row.toList==b.row.toList)&&((a.col.toList==b.col.toList)&&(a.ts==b.ts))
theorem Zm(a b:Ac)(w:World):Calls Tryz.prog 265 #[Dz a,Dz b] w fun e w'=>e=.returned (.bool (Md a b))∧Fp [] w w':=by
 unfold Dz;go_enter Tryz.func265,Tryz.ntmps265;go_wp2_with (fail)
 go_region
 go_wp2_with (fail)
 all_goals
  go_ret;refine⟨K8 (by simp[Md, *]<;>omega),?_⟩;exact((Fp.alloc _ _).alloc' _).drew'
end
end
section
open Go.Lib
theorem Qm(s old new:List UInt8)(h:old≠new):replaceAll s old new=replaceK old new (count s old) s:=by
 unfold replaceAll replace replaceNum;rw[if_neg (by simpa using h),if_pos (Or.inl (by decide))]
theorem kR(old new:List UInt8)(hne:old≠[])(h:old≠new):replaceAll [] old new=[]:=by
 rw[Qm _ _ _ h]
 have:index [] old= -1:=by
  unfold index
  cases old with
  |nil=>exact absurd rfl hne
  |cons a l=>rfl
 rw[count_miss this];rfl
theorem kS(s old new:List UInt8)(hne:old≠[])(h:old≠new)(hp:index s old=((0:Nat):Int)):replaceAll s old new=new++replaceAll (s.drop old.length) old new:=by
 rw[Qm _ _ _ h,Qm _ _ _ h,count_hit hne hp,Nat.add_comm 1,replaceK_hit _ _ _ _ 0 hp];simp
theorem kT(b:UInt8)(l old new:List UInt8)(hne:old≠[])(h:old≠new)(hp:old.isPrefixOf (b::l)=false):replaceAll (b::l) old new=b::replaceAll l old new:=by
 have hix:index (b::l) old=if index l old==-1 then -1 else index l old+1:=by
  conv=>lhs;unfold index
  rw[hp];simp
 rw[Qm _ _ _ h,Qm _ _ _ h];have hge:=index_ge l old
 by_cases hm:index l old= -1
 ·rw[hm] at hix;rw[count_miss hm,count_miss (by rw[hix];rfl)];rfl
 ·obtain⟨i,hi⟩:∃i:Nat,index l old=i:=⟨(index l old).toNat,by omega⟩
  have hix2:index (b::l) old=((i+1:Nat):Int):=by
   rw[hix,hi,if_neg (by simp)];omega
  have e:(b::l).drop (i+1+old.length)=l.drop (i+old.length):=by
   rw[show i+1+old.length=(i+old.length)+1 by omega];rfl
  rw[count_hit hne hix2,count_hit hne hi,e,Nat.add_comm 1,replaceK_hit _ _ _ _ _ hix2,replaceK_hit _ _ _ _ _ hi,e];rfl
theorem kU{s sub:List UInt8}(h:sub.isPrefixOf s=true):index s sub=((0:Nat):Int):=by
 cases s with
 |nil=>
  cases sub with
  |nil=>rfl
  |cons a l=>cases h
 |cons b l=>unfold index;rw[if_pos h];rfl
def Ce:List UInt8→List UInt8
 |[]=>[]
 |b::l=>if b=0 then 0::255::Ce l else b::Ce l
theorem Ln(l:List UInt8):Ce (0::l)=0::255::Ce l:=rfl
theorem Lo{b:UInt8}(h:b≠0)(l:List UInt8):Ce (b::l)=b::Ce l:=if_neg h
theorem Qo(l:List UInt8):(Ce l).length≤2*l.length:=by
 induction l with
 |nil=>exact Nat.le_refl _
 |cons b l ih=>
  by_cases h:b=0
  ·subst h;rw[Ln];simp only[List.length_cons];omega
  ·rw[Lo h];simp only[List.length_cons];omega
theorem kV(l:List UInt8):replaceAll l [0] [0,255]=Ce l:=by
 induction l with
 |nil=>exact kR _ _ (by simp) (by simp)
 |cons b l ih=>
  by_cases h:b=0
  ·subst h;rw[kS _ _ _ (by simp) (by simp) (kU (by simp[List.isPrefixOf])),Ln];simp[ih]
  ·rw[kT _ _ _ _ (by simp) (by simp) (by simpa [List.isPrefixOf] using Ne.symm h),Lo h,ih]
theorem Qp(l:List UInt8):compareBytes l l=0:=by
 induction l with
 |nil=>rfl
 |cons b l ih=>unfold compareBytes;rw[if_neg (a0w _),if_neg (a0w _),ih]
theorem Sv{a b:List UInt8}(h:compareBytes a b=0):a=b:=by
 induction a generalizing b with
 |nil=>cases b with
  |nil=>rfl
  |cons y b=>simp[compareBytes] at h
 |cons x a ih=>cases b with
  |nil=>simp[compareBytes] at h
  |cons y b=>
   unfold compareBytes at h
   by_cases h1:x<y
   ·rw[if_pos h1] at h;simp at h
   ·by_cases h2:y<x
    ·rw[if_neg h1,if_pos h2] at h;simp at h
    ·rw[if_neg h1,if_neg h2] at h;have:x=y:=UInt8.le_antisymm (UInt8.not_lt.1 h2) (UInt8.not_lt.1 h1);rw[this,ih h]
theorem kW(a b:List UInt8):compareBytes b a= -compareBytes a b:=by
 induction a generalizing b with
 |nil=>cases b<;>simp[compareBytes]
 |cons x a ih=>cases b with
  |nil=>simp[compareBytes]
  |cons y b=>
   unfold compareBytes
   by_cases h1:x<y
   ·rw[if_pos h1,if_neg (UInt8.lt_asymm h1),if_pos h1];rfl
   ·by_cases h2:y<x
    ·rw[if_pos h2,if_neg h1,if_pos h2]
    ·rw[if_neg h1,if_neg h2,if_neg h2,if_neg h1];exact ih b
theorem Zn(a b:List UInt8):compareBytes a b= -1∨compareBytes a b=0∨compareBytes a b=1:=by
 induction a generalizing b with
 |nil=>cases b<;>simp[compareBytes]
 |cons x a ih=>cases b with
  |nil=>simp[compareBytes]
  |cons y b=>
   unfold compareBytes
   by_cases h1:x<y
   ·rw[if_pos h1];simp
   ·by_cases h2:y<x
    ·rw[if_neg h1,if_pos h2];simp
    ·rw[if_neg h1,if_neg h2];exact ih b
theorem Iy(x:UInt8)(a b:List UInt8):compareBytes (x::a) (x::b)=compareBytes a b:=by
 conv=>lhs;unfold compareBytes
 rw[if_neg (a0w _),if_neg (a0w _)]
theorem J4{x y:UInt8}(h:x<y)(a b:List UInt8):compareBytes (x::a) (y::b)= -1:=by
 unfold compareBytes;rw[if_pos h]
theorem J5{x y:UInt8}(h:y<x)(a b:List UInt8):compareBytes (x::a) (y::b)=1:=by
 unfold compareBytes;rw[if_neg (UInt8.lt_asymm h),if_pos h]
theorem kX{a b c:List UInt8}(h1:compareBytes a b≤0)(h2:compareBytes b c≤0):compareBytes a c≤0:=by
 induction a generalizing b c with
 |nil=>cases c<;>simp[compareBytes]
 |cons x a ih=>
  cases b with
  |nil=>simp[compareBytes] at h1
  |cons y b=>
   cases c with
   |nil=>simp[compareBytes] at h2
   |cons z c=>
    rcases a0x x.toNat y.toNat with h|h|h
    ·have hxy:x<y:=UInt8.lt_iff_toNat_lt.2 h
     rcases a0x y.toNat z.toNat with k|k|k
     ·rw[J4 (UInt8.lt_iff_toNat_lt.2 (by omega))];decide
     ·rw[J4 (UInt8.lt_iff_toNat_lt.2 (by omega))];decide
     ·rw[J5 (UInt8.lt_iff_toNat_lt.2 k)] at h2;exact absurd h2 (by decide)
    ·obtain rfl:x=y:=UInt8.toNat_inj.1 h;rw[Iy] at h1
     rcases a0x x.toNat z.toNat with k|k|k
     ·rw[J4 (UInt8.lt_iff_toNat_lt.2 k)];decide
     ·obtain rfl:x=z:=UInt8.toNat_inj.1 k;rw[Iy] at h2 ⊢;exact ih h1 h2
     ·rw[J5 (UInt8.lt_iff_toNat_lt.2 k)] at h2;exact absurd h2 (by decide)
    ·rw[J5 (UInt8.lt_iff_toNat_lt.2 h)] at h1;exact absurd h1 (by decide)
theorem O5{b:UInt8}(h:b≠0):(0:UInt8)<b:=by
 rw[UInt8.lt_iff_toNat_lt]
 have:b.toNat≠0:=fun e=>h (UInt8.toNat_inj.1 e)
 show 0<b.toNat;omega
theorem Zo(a b X Y:List UInt8):compareBytes (Ce a++0::1::X) (Ce b++0::1::Y)=if a=b then compareBytes X Y else compareBytes a b:=by
 induction a generalizing b with
 |nil=>
  cases b with
  |nil=>rw[if_pos rfl];show compareBytes (0::1::X) (0::1::Y)=_;rw[Iy,Iy]
  |cons y b=>
   rw[if_neg (by simp)]
   by_cases h:y=0
   ·subst h;rw[Ln];show compareBytes (0::1::X) (0::255::_)=_;rw[Iy,J4 (by decide)];rfl
   ·rw[Lo h];show compareBytes (0::1::X) (y::_)=_;rw[J4 (O5 h)];rfl
 |cons x a ih=>
  cases b with
  |nil=>
   rw[if_neg (by simp)]
   by_cases h:x=0
   ·subst h;rw[Ln];show compareBytes (0::255::_) (0::1::Y)=_;rw[Iy,J5 (by decide)];rfl
   ·rw[Lo h];show compareBytes (x::_) (0::1::Y)=_;rw[J5 (O5 h)];rfl
  |cons y b=>
   by_cases hx:x=0
   ·subst hx;rw[Ln]
    by_cases hy:y=0
    ·subst hy;rw[Ln];show compareBytes (0::255::(Ce a++_)) (0::255::(Ce b++_))=_;rw[Iy,Iy,ih,Iy]
     by_cases e:a=b
     ·rw[if_pos e,if_pos (by rw[e])]
     ·rw[if_neg e,if_neg (by simpa using e)]
    ·rw[Lo hy,if_neg (by simp[Ne.symm hy])];show compareBytes (0::_) (y::_)=_;rw[J4 (O5 hy),J4 (O5 hy)]
   ·rw[Lo hx]
    by_cases hy:y=0
    ·subst hy;rw[Ln,if_neg (by simp[hx])];show compareBytes (x::_) (0::_)=_;rw[J5 (O5 hx),J5 (O5 hx)]
    ·rw[Lo hy];show compareBytes (x::(Ce a++_)) (y::(Ce b++_))=_
     by_cases e:x=y
     ·subst e;rw[Iy,Iy,ih]
      by_cases e2:a=b
      ·rw[if_pos e2,if_pos (by rw[e2])]
      ·rw[if_neg e2,if_neg (by simpa using e2)]
     ·rw[if_neg (by simp[e])]
      rcases a0x x.toNat y.toNat with k|k|k
      ·rw[J4 (UInt8.lt_iff_toNat_lt.2 k),J4 (UInt8.lt_iff_toNat_lt.2 k)]
      ·exact absurd (UInt8.toNat_inj.1 k) e
      ·rw[J5 (UInt8.lt_iff_toNat_lt.2 k),J5 (UInt8.lt_iff_toNat_lt.2 k)]
end
end Go.Proofs.YtkagolpnaicdoaaGreatDoor
