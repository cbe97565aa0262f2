/-
 the document's layer 20: Decode. Items: a cell, and where it stands; how they stand; the last one of each coordinate, in order: there is just one such list. Lists of items, sorted on a stretch; an exchange of two; insertion: plain. Heaps of lists of items, by their first ones; merging: plain.
-/
import Derived.Test.YtkagolpnaicdoaaGreatDoorPWalQ
import Derived.Test.YtkagolpnaicdoaaGreatDoorPCellKey
import Derived.Test.YtkagolpnaicdoaaGreatDoorPBuild
set_option maxRecDepth 100000
set_option maxHeartbeats 8000000
open List renaming getD_eq_getElem?_getD→a0z,mem_cons_self→a0x,mem_append_left→a0w,mem_append_right→a1z,not_mem_nil→a1x,mem_cons_of_mem→a1w,getElem?_eq_getElem→a1u,getElem_mem→a2z
open Go.Lib renaming hid→a0v
open Go.IntKind renaming wrap_i64→a0u,wrap_u64→a1v
open Nat renaming le_refl→a2x
namespace Go.Proofs.YtkagolpnaicdoaaGreatDoor
section
open Go.RowKit Go.Lib
theorem fY(s:ByteArray)(h:11≤s.size):(Gz s).input.size=s.size-11:=by
 show(s.extract 11 s.size).size=_;rw[ByteArray.size_extract];omega
theorem vD(s:ByteArray)(h:11≤s.size):D3 s=if(Ba (Gz s)).2=0 then(Gz s,0) else(Fg,50):=by
 have hz:=fY s h;have h8:=(Aq s 8).toNat_lt;have h9:=(Aq s 9).toNat_lt;have h10:=(Aq s 10).toNat_lt
 have hb:Ea (Gz s)=(decide ((Aq s 8).toNat<1)||decide (5<(Aq s 8).toNat)):=by
  unfold Ea Gz;simp only;rw[decide_eq_false (show ¬(((Aq s 9).toNat+(Aq s 10).toNat*256:Nat):Int)<0 by omega),decide_eq_false (show ¬(65535:Int)<(((Aq s 9).toNat+(Aq s 10).toNat*256:Nat):Int) by omega),Bool.or_false,Bool.or_false]
  congr 1<;>(apply decide_eq_decide.2;omega)
 have hS:Ou s=(Ea (Gz s)||decide (60011<s.size)):=by
  rw[hb];unfold Ou;rw[decide_eq_false (show ¬s.size<11 by omega),Bool.false_or]
 clear hb;unfold D3;rw[hS]
 by_cases hc:Ea (Gz s)=true
 ·have e1:Ba (Gz s)=(⟨#[]⟩,1):=by unfold Ba;rw[if_pos hc]
  rw[e1,hc,Bool.true_or,if_pos (rfl:true=true),if_neg (show ¬((⟨#[]⟩,1):ByteArray × Int).2=0 by decide)]
 ·have hc0:Ea (Gz s)=false:=by simpa using hc
  rw[hc0,Bool.false_or]
  by_cases hd:60011<s.size
  ·have e1:Ba (Gz s)=(⟨#[]⟩,71):=by unfold Ba;rw[hc0,if_neg (by decide),if_pos (by rw[hz];omega)]
   rw[e1,decide_eq_true hd,if_pos (rfl:true=true),if_neg (show ¬((⟨#[]⟩,71):ByteArray × Int).2=0 by decide)]
  ·have e1:Ba (Gz s)=(Aw (Gz s),0):=by unfold Ba;rw[hc0,if_neg (by decide),if_neg (by rw[hz];omega)]
   rw[e1,decide_eq_false hd,if_neg (by decide),if_pos (show(Aw (Gz s),(0:Int)).2=0 from Eq.refl (0:Int))]
theorem vE(w:World)(s:ByteArray)(hs:s.size≤1000000000):
  Calls Tryz.prog 20 #[.string s] w fun e w'=>e=.returned (.tuple #[Bq (D3 s).1,.int .i64 (D3 s).2])∧Fp [] w w':=by
 have hF1:Fp [] w (w.alloc (.cells #[.int .u64 0,.int .i64 0,.int .i64 0,.string ⟨#[]⟩] 46)):=Fp.alloc _ _;have hB1:(w.alloc (.cells #[.int .u64 0,.int .i64 0,.int .i64 0,.string ⟨#[]⟩] 46)).heap[w.heap.size]?=some (.cells #[.int .u64 0,.int .i64 0,.int .i64 0,.string ⟨#[]⟩] 46 (0,0)):=Ai rfl _;have HF1:=a0v hF1;have HB1:=a0v hB1
 have hset:∀W:World,Fp [] w W→∀o u,Fp [] w (W.setCell ⟨w.heap.size,o,none⟩ u):=fun W h o u=>h.trans (Fp.setCell W ⟨w.heap.size,o,none⟩ u) (by intro i hi;right;simp at hi;omega)
 have HSET:=a0v hset;clear hF1 hB1 hset
 by_cases h11:s.size<11
 ·have HE:Hid (D3 s=(Fg,50)):=by unfold Hid D3 Ou;rw[decide_eq_true h11];rfl
  have z11:(s.size:Int)<11:=by omega
  have r0:(w.alloc (.cells #[.int .u64 0,.int .i64 0,.int .i64 0,.string ⟨#[]⟩] 46)).frozen? ⟨w.heap.size,0,none⟩=false:=Ar HB1.out 0;clear h11;go_enter Tryz.func20,Tryz.ntmps20;go_wp2_with (fail);refine bodyPost_ret (v:=.tuple #[Bq Fg,.int .i64 50]) (by simp[results,Tryz.results20,Bq,Bo,Fg,go_sem, *]) rfl ⟨?_,?_⟩
  ·rw[HE.out]
  ·first|exact HF1.out|(repeat(with_reducible refine HSET.out _ ?_ _ _);exact HF1.out)
 ·have h11':11≤s.size:=by omega
  have z11:¬(s.size:Int)<11:=by omega
  have hdr:=vD s h11';have hdz:=fY s h11';have e8:=Uj (s:=s) (k:=8) (by omega);have e9:=Uj (s:=s) (k:=9) (by omega);have e10:=Uj (s:=s) (k:=10) (by omega)
  have p8:(8:Int)<(s.size:Int):=by omega
  have p9:(9:Int)<(s.size:Int):=by omega
  have p10:(10:Int)<(s.size:Int):=by omega
  have hb8:=(Aq s 8).toNat_lt;have hb9:=(Aq s 9).toNat_lt;have hb10:=(Aq s 10).toNat_lt
  have hsl:Hid (∀k (h:k<8),s[7-k]'(by omega)=Aq s (7-k)):=fun k h=>Uj (by omega)
  have hlo:=fun k=>bM s k
  have hl8:=nN s;have hdj:Gz s=⟨D7 s 8,((Aq s 8).toNat:Int),(((Aq s 9).toNat+(Aq s 10).toNat*256:Nat):Int),s.extract 11 s.size⟩:=rfl
  obtain⟨x8,hx8⟩:∃x,(Aq s 8).toNat=x:=⟨_,rfl⟩
  obtain⟨x9,hx9⟩:∃x,(Aq s 9).toNat=x:=⟨_,rfl⟩
  obtain⟨x10,hx10⟩:∃x,(Aq s 10).toNat=x:=⟨_,rfl⟩
  obtain⟨rest,hrest⟩:∃r,s.extract 11 s.size=r:=⟨_,rfl⟩
  rw[hx8,hx9,hx10,hrest] at hdj;rw[hx8] at hb8;rw[hx9] at hb9;rw[hx10] at hb10
  have g8:(s[8]'(by omega)).toNat=x8:=by rw[e8,hx8]
  have g9:(s[9]'(by omega)).toNat=x9:=by rw[e9,hx9]
  have g10:(s[10]'(by omega)).toNat=x10:=by rw[e10,hx10]
  obtain⟨z,hz⟩:∃z,x9+x10*256=z:=⟨_,rfl⟩
  have hn8:D7 s 8<18446744073709551616:=Rl s 8
  have hok:Gy (Gz s):=by
   rw[hdj]
   refine⟨hn8,?_,?_,?_,?_,?_⟩<;>simp only<;>(try omega)
   rw[hdj] at hdz;simp only at hdz;omega
  have HEN:=a0v (fun W=>Z9 W (Gz s) hok);rw[hdj,hz] at HEN;rw[hdj,hz] at hdr;rw[hl8.symm] at HEN hdr
  have k8:IntKind.i64.wrap (x8:Int)=(x8:Int):=by rw[a0u];omega
  have k9:IntKind.i64.wrap (x9:Int)=(x9:Int):=by rw[a0u];omega
  have k10:IntKind.i64.wrap (x10:Int)=(x10:Int):=by rw[a0u];omega
  have k11:IntKind.i64.wrap (256*(x10:Int))=256*(x10:Int):=by rw[a0u];omega
  have k12:IntKind.i64.wrap ((x9:Int)+256*(x10:Int))=(z:Int):=by rw[a0u];omega
  have HDR:=a0v hdr;have HLO:=a0v hlo
  have HST:Hid (∀k,k<8→Ll s (k+1)=Ll s k*256+(Aq s (7-k)).toNat):=fun k _=>rfl
  have HX:=a0v hrest;clear hdr hdz e8 e9 e10 hb8 hb9 hb10 hlo hl8 hdj hx8 hx9 hx10 hn8 hok hrest;go_enter Tryz.func20,Tryz.ntmps20;go_wp2_with (fail)
  go_loopg [4,5] 9 (fun g vn vi W=>∃k:Nat,k≤8∧g+k=9∧vi=.int .i64 (7-(k:Int))∧vn=.int .u64 (Ll s k)∧W.heap[w.heap.size]?=some (.cells #[.int .u64 0,.int .i64 0,.int .i64 0,.string ⟨#[]⟩] 46 (0,0))∧Fp [] w W)
  case atStart=>exact⟨0,by omega,rfl,rfl,rfl,HB1.out,HF1.out⟩
  case round=>
   obtain⟨k,hk8,hg,rfl,rfl,hb,hf⟩:=hrel;have HB:=a0v hb;have HF:=a0v hf;clear hb hf
   by_cases hk:k<8
   ·have hv:=HLO.out k;have hv1:=HLO.out (k+1);have hs1:=HST.out k hk;have hab:=(Aq s (7-k)).toNat_lt;have hpow:256^k≤256^7:=Nat.pow_le_pow_right (by decide) (by omega);have hga:=hsl.out k hk
    obtain⟨m,hm⟩:∃m,7-k=m:=⟨_,rfl⟩
    have hmk:(7:Int)-(k:Int)=(m:Int):=by omega
    have hms:m<s.size:=by omega
    obtain⟨y,hy⟩:∃y,(Aq s (7-k)).toNat=y:=⟨_,rfl⟩
    have hgm:(s[m]'hms).toNat=y:=by subst hm;rw[hga,hy]
    rw[hy] at hs1 hab
    obtain⟨u,hu⟩:∃u,Ll s k=u:=⟨_,rfl⟩
    rw[hu] at hv hs1
    have w1:IntKind.u64.wrap ((u:Int)*256)=(u:Int)*256:=by rw[a1v];omega
    have w2:IntKind.u64.wrap (y:Int)=(y:Int):=by rw[a1v];omega
    have w3:IntKind.u64.wrap ((u:Int)*256+(y:Int))=(u:Int)*256+(y:Int):=by rw[a1v];omega
    have w4:IntKind.i64.wrap ((m:Int)-1)=(m:Int)-1:=by rw[a0u];omega
    have zm:(m:Int)<(s.size:Int):=by omega
    have zm0:(0:Int)≤(m:Int):=by omega
    have HS1:=a0v hs1;have HMK:=a0v (show k+m=7 by omega);rw[hmk,hu];clear hv hv1 hs1 hpow hga hm hmk hy hu hab hk8;go_wp2_with (fail)
    go_roundg (gk-1)
    case measure=>omega
    case rel=>exact⟨k+1,by omega,by omega,by have:=HMK.out;first|(congr 1;done)|(congr 1;omega),by rw[HS1.out];first|(congr 1;done)|(congr 1;omega),HB.out,HF.out⟩
   ·obtain rfl:k=8:=by omega
    have hneg:¬(0:Int)≤-1:=by decide
    rw[show(7:Int)-((8:Nat):Int)= -1 by decide];clear hk hk8
    obtain⟨u,hu⟩:∃u,Ll s 8=u:=⟨_,rfl⟩
    rw[hu] at HEN HDR;rw[hu];have hx:=HX.out;go_wp2_with (fail);refine Px (Ii 46 #[.int .u64 0,.int .i64 0,.int .i64 0,.string ⟨#[]⟩] #[.int .u64 u,.int .i64 x8,.int .i64 z,.string rest] 15 16 wr) (fun _ _=>True) (by kernel_rfl) (by kernel_rfl) (fun _=>Ii.start (Fp.drew _)) ?_
    iterate 15
     apply Cj (fun _ _ _ h _=>h.plain (by decide)) rfl rfl rfl
     ·intro b a w hC hA K hK
      try have h4:=hA.fr 4 rfl
      try have h0:=hA.fr 0 rfl
      try have h25:=hA.eq 1 25 rfl
      try have h26:=hA.eq 2 26 rfl
      try have h28:=hA.eq 4 28 rfl
      try have h29:=hA.eq 5 29 rfl
      try have h31:=hA.eq 7 31 rfl
      try have h32:=hA.eq 8 32 rfl
      try have h33:=hA.eq 9 33 rfl
      try have h30:=hA.eq 6 30 rfl
      try have h34:=hA.eq 10 34 rfl
      try have h36:=hA.eq 12 36 rfl
      try have h24:=hA.eq 0 24 rfl
      try have h27:=hA.eq 3 27 rfl
      try have h35:=hA.eq 11 35 rfl
      try have h37:=hA.eq 13 37 rfl
      simp only[Oper.wp,execOp];go_simp;exact hK _ hC trivial
    apply Dt (fun _ _=>True) rfl rfl rfl
    ·intro b a w hC hA K hK;simp only[Oper.wp,execOp];go_simp;exact hK _ _ (hC.make (hA.post 16 (by kernel_rfl)) (by decide)) trivial trivial
    apply I9 (fun _=>True) rfl rfl rfl
    ·intro b a w hC hA K hK;have h6:=hA.dep 15 6 _ (by kernel_rfl) rfl;have h38:=hA.eq 14 38 rfl;obtain⟨B,e1,e2,e3⟩:=hC.ai (hA.pre 15 (by kernel_rfl));have h6:a.tmps[6]?.getD undef=.pointer (some ⟨B,0,none⟩):=(hA.val 15 6 (by kernel_rfl)).trans e1;rw[hA.self,if_neg (by decide)] at e3;have q0:w.cell? ⟨B,0,none⟩=some (.int .u64 0):=Aa e3 0;have q1:w.cell? ⟨B,1,none⟩=some (.int .i64 0):=Aa e3 1;have q2:w.cell? ⟨B,2,none⟩=some (.int .i64 0):=Aa e3 2;have q3:w.cell? ⟨B,3,none⟩=some (.string ⟨#[]⟩):=Aa e3 3;have g0:=Ar e3 0;have g1:=Ar e3 1;have g2:=Ar e3 2;have g3:=Ar e3 3;have hst:=hC.fill (w2:=((((w.setCell ⟨B,0,none⟩ (.int .u64 u)).setCell ⟨B,1,none⟩ (.int .i64 x8)).setCell ⟨B,2,none⟩ (.int .i64 z)).setCell ⟨B,3,none⟩ (.string rest))) (hA.pre 15 (by kernel_rfl)) e1 ((((Fp.setCell w ⟨B,0,none⟩ _).setCell' (Or.inl (by simp)) _).setCell' (Or.inl (by simp)) _).setCell' (Or.inl (by simp)) _) (by rw[Bm (Bm (Bm (Bm e3 _) _) _) _];rfl) (by decide);simp only[Oper.wp,execOp];go_simp;exact hK undef _ hst trivial trivial
    refine⟨?_,?_⟩
    ·refine⟨fun _ _ _ _ _=>trivial,?_⟩;refine⟨fun _ _ _ _ _=>trivial,?_⟩
     iterate 15 refine E6 _ ?_
     exact trivial
    ·intro w' bb hbb;simp only[List.reverse_cons,List.reverse_nil,List.nil_append,List.cons_append]
     iterate 15 (refine Au ?_)
     refine Az ?_;intro v15 u15;refine Az ?_;intro v16 u16;refine A6 ?_;intro hC;simp only[Am,Act.put,List.setIfInBounds_toArray,List.set_cons_succ,List.set_cons_zero];obtain⟨B1,e1,hB1,hb1⟩:=hC.ai (hbb 15 (by simp));rw[hbb 16 (by simp),if_pos rfl] at hb1;have e1':v15=.pointer (some ⟨B1,0,none⟩):=e1;subst e1';have hfc:=hC.fp;have hb0:=(hfc.block _ (Ab HB.out) (by simp)).trans HB.out;have t0:w'.cell? ⟨B1,0,none⟩=some (.int .u64 u):=Aa hb1 0;have t1:w'.cell? ⟨B1,1,none⟩=some (.int .i64 x8):=Aa hb1 1;have t2:w'.cell? ⟨B1,2,none⟩=some (.int .i64 z):=Aa hb1 2;have t3:w'.cell? ⟨B1,3,none⟩=some (.string rest):=Aa hb1 3;have hltB:=Ab hb1;have HB0:=a0v hb0;have HB1':=a0v hb1;have HFC:=a0v (HF.out.trans hfc (by simp));unfold Bq Bo at HEN;simp only at HEN;clear hC hbb e1 hb1 hfc hb0 u16 hu;go_wp2_with (fail);(with_reducible refine(HEN.out _).mono ?_);rintro e w2 ⟨rfl,hf2⟩;have hb2:=(hf2.block _ (Ab HB0.out) (by simp)).trans HB0.out;have hc2:=(hf2.block _ (Ab HB1'.out) (by simp)).trans HB1'.out;have HF2:=a0v (HFC.out.trans hf2 (by simp));have r0:w2.cell? ⟨w.heap.size,0,none⟩=some (.int .u64 0):=Aa hb2 0;have r1:w2.cell? ⟨w.heap.size,1,none⟩=some (.int .i64 0):=Aa hb2 1;have r2:w2.cell? ⟨w.heap.size,2,none⟩=some (.int .i64 0):=Aa hb2 2;have r3:w2.cell? ⟨w.heap.size,3,none⟩=some (.string ⟨#[]⟩):=Aa hb2 3;have f0:=Ar hb2 0;have f1:=Ar hb2 1;have f2:=Ar hb2 2;have f3:=Ar hb2 3;have s0:w2.cell? ⟨B1,0,none⟩=some (.int .u64 u):=Aa hc2 0;have s1:w2.cell? ⟨B1,1,none⟩=some (.int .i64 x8):=Aa hc2 1;have s2:w2.cell? ⟨B1,2,none⟩=some (.int .i64 z):=Aa hc2 2;have s3:w2.cell? ⟨B1,3,none⟩=some (.string rest):=Aa hc2 3;have hlt0:=Ab hb2;have hlt1:=Ab hc2;clear hf2 hb2 hc2 t0 t1 t2 t3
     obtain⟨y,hy⟩:∃y,(Ba ⟨u,x8,z,rest⟩).2=y:=⟨_,rfl⟩
     rw[hy] at HDR ⊢
     by_cases hy0:y=0
     ·subst hy0;have HD:=a0v (HDR.out.trans (if_pos rfl));clear hy HDR;go_wp2_with (fail);refine bodyPost_ret (v:=.tuple #[Bq ⟨u,x8,z,rest⟩,.int .i64 0]) (by simp[results,Tryz.results20,Bq,Bo,go_sem, *]) rfl ⟨?_,?_⟩
      ·rw[HD.out]
      ·exact HSET.out _ (HSET.out _ (HSET.out _ (HSET.out _ HF2.out _ _) _ _) _ _) _ _
     ·have HD:=a0v (HDR.out.trans (if_neg hy0))
      have zy:(y==0)=false:=by simpa using hy0
      clear hy HDR hy0;go_wp2_with (fail);refine bodyPost_ret (v:=.tuple #[Bq Fg,.int .i64 50]) (by simp[results,Tryz.results20,Bq,Bo,Fg,go_sem, *]) rfl ⟨?_,?_⟩
      ·rw[HD.out]
      ·first|exact HF2.out|exact HSET.out _ (HSET.out _ (HSET.out _ (HSET.out _ HF2.out _ _) _ _) _ _) _ _
end
section
open Go.Lib
structure Ad where
 c:Ac
 pos:Nat
structure B6(x:Ad):Prop where
 c:Dn x.c
 pos:x.pos<9223372036854775808
def Vg(x:Ad):Ac:={x.c with seq:=x.pos}
def K3(x:Ad):Ac:={x.c with seq:=0}
def D6(x y:Ad):Int:=Ez (Vg x) (Vg y)
def Dq(x y:Ad):Int:=Ez (K3 x) (K3 y)
def Bl(x y:Ad):Bool:=Nr x.c y.c
theorem N6{x:Ad}(h:B6 x):Dn (Vg x):=⟨h.c.ts,by have:=h.pos;show x.pos<_;omega,h.c.row,h.c.col,h.c.val⟩
theorem Qj{x:Ad}(h:B6 x):Dn (K3 x):=⟨h.c.ts,by show 0<_;decide,h.c.row,h.c.col,h.c.val⟩
theorem Vh{x:Ad}(h:B6 x):D6 x x=0:=bJ _ (N6 h)
theorem Yl{x y:Ad}(hx:B6 x)(hy:B6 y):D6 y x= -D6 x y:=bK _ _ (N6 hx) (N6 hy)
theorem vG{x y z:Ad}(hx:B6 x)(hy:B6 y)(hz:B6 z)(h1:D6 x y≤0)(h2:D6 y z≤0):D6 x z≤0:=bL _ _ _ (N6 hx) (N6 hy) (N6 hz) h1 h2
theorem vH{x y:Ad}(hx:B6 x)(hy:B6 y):D6 x y= -1∨D6 x y=0∨D6 x y=1:=nM _ _ (N6 hx) (N6 hy)
theorem fZ{x:Ad}(h:B6 x):Dq x x=0:=bJ _ (Qj h)
theorem Vi{x y:Ad}(hx:B6 x)(hy:B6 y):Dq y x= -Dq x y:=bK _ _ (Qj hx) (Qj hy)
theorem vI{x y z:Ad}(hx:B6 x)(hy:B6 y)(hz:B6 z)(h1:Dq x y≤0)(h2:Dq y z≤0):Dq x z≤0:=bL _ _ _ (Qj hx) (Qj hy) (Qj hz) h1 h2
theorem R9(a b c d:Int):Ff [a,b,c,d]=if a≠0 then a else if b≠0 then b else if c≠0 then c else d:=by
 unfold Ff;split
 ·rfl
 ·unfold Ff;split
  ·rfl
  ·unfold Ff;split
   ·rfl
   ·unfold Ff;split
    ·rfl
    ·unfold Ff;omega
theorem Qk(x y:Ad):(Dq x y≠0∧D6 x y=Dq x y)∨(Dq x y=0∧D6 x y=Du y.pos x.pos):=by
 unfold D6 Dq Ez Vg K3;simp only;rw[R9,R9,P4 0]
 by_cases h1:Gu x.c.row y.c.row=0
 ·by_cases h2:Gu x.c.col y.c.col=0
  ·by_cases h3:Du y.c.ts x.c.ts=0
   ·right;simp[h1,h2,h3]
   ·left;simp[h1,h2,h3]
  ·left;simp[h1,h2]
 ·left;simp[h1]
theorem gA{a b:ByteArray}(h:Gu a b=0):a=b:=by
 have:=W8 h;obtain⟨⟨a⟩⟩:=a;obtain⟨⟨b⟩⟩:=b
 simpa using this
theorem gB(a:ByteArray):Gu a a=0:=Ug _
theorem gC{a b:ByteArray}(h:a.toList=b.toList):a=b:=by
 rw[ByteArray.toList_eq,ByteArray.toList_eq] at h;obtain⟨⟨a⟩⟩:=a;obtain⟨⟨b⟩⟩:=b
 simpa using h
theorem Ql(a b:Ac):Nr a b=true↔a.row=b.row∧a.col=b.col∧a.ts=b.ts:=by
 unfold Nr;simp only[Bool.and_eq_true,beq_iff_eq];exact⟨fun⟨h1,h2,h3⟩=>⟨gC h1,gC h2,by exact_mod_cast h3⟩,fun⟨h1,h2,h3⟩=>⟨by rw[h1],by rw[h2],by rw[h3]⟩⟩
theorem Lt(x y:Ad):Bl x y=true↔Dq x y=0:=by
 unfold Bl;rw[Ql];unfold Dq Ez K3;simp only;rw[R9,P4 0];constructor
 ·rintro⟨h1,h2,h3⟩;rw[h1,h2,h3,gB,gB,P4]
  decide
 ·intro h
  by_cases h1:Gu x.c.row y.c.row=0
  ·by_cases h2:Gu x.c.col y.c.col=0
   ·by_cases h3:Du y.c.ts x.c.ts=0
    ·exact⟨gA h1,gA h2,(Ui h3).symm⟩
    ·rw[if_neg (by simp[h1]),if_neg (by simp[h2]),if_pos h3] at h;exact absurd h h3
   ·rw[if_neg (by simp[h1]),if_pos h2] at h;exact absurd h h2
  ·rw[if_pos h1] at h;exact absurd h h1
theorem Ym(x y:Ad):Bl x y=false↔Dq x y≠0:=by
 rw[←Bool.not_eq_true,Lt]
theorem Qm(x y:Ad):Bl x y=Bl y x:=by
 rw[Bool.eq_iff_iff];unfold Bl;rw[Ql,Ql];exact⟨fun⟨h1,h2,h3⟩=>⟨h1.symm,h2.symm,h3.symm⟩,fun⟨h1,h2,h3⟩=>⟨h1.symm,h2.symm,h3.symm⟩⟩
theorem gG(x:Ad):Bl x x=true:=by unfold Bl;rw[Ql];exact⟨rfl,rfl,rfl⟩
theorem Qo{x y z:Ad}(h1:Bl x y=true)(h2:Bl y z=true):Bl x z=true:=by
 unfold Bl at*;rw[Ql] at*;exact⟨h1.1.trans h2.1,h1.2.1.trans h2.2.1,h1.2.2.trans h2.2.2⟩
theorem gI{x y:Ad}(z:Ad)(h:Bl x y=true):Dq x z=Dq y z:=by
 unfold Bl at h;rw[Ql] at h;unfold Dq Ez K3;simp only;rw[h.1,h.2.1,h.2.2]
theorem gJ{x y:Ad}(h:D6 x y=0):Bl x y=true∧x.pos=y.pos:=by
 rcases Qk x y with⟨h1,h2⟩|⟨h1,h2⟩
 ·exact absurd (h2.symm.trans h) h1
 ·exact⟨(Lt x y).2 h1,(Ui (h2.symm.trans h)).symm⟩
theorem Vj{x y:Ad}(h:D6 x y≤0):Dq x y≤0:=by
 rcases Qk x y with⟨_,h2⟩|⟨h1,_⟩<;>omega
theorem gK{x y:Ad}(h:D6 x y<0)(hs:Bl x y=true):y.pos<x.pos:=by
 rcases Qk x y with⟨h1,_⟩|⟨_,h2⟩
 ·exact absurd ((Lt x y).1 hs) h1
 ·rw[h2] at h;unfold Du at h;split at h
  ·assumption
  ·split at h<;>omega
theorem vJ{x y z:Ad}(hx:B6 x)(hy:B6 y)(hz:B6 z)(h1:Dq x y<0)(h2:Dq y z≤0):Dq x z<0:=by
 have h3:=vI hx hy hz (by omega) h2
 by_cases h:Dq x z=0
 ·have hs:=(Lt x z).2 h;have:=gI y hs;have:=Vi hy hz;omega
 ·omega
def Dx(l:List Ad):Prop:=l.Pairwise fun x y=>Dq x y<0
def Qp(l:List Ad):Prop:=l.Pairwise fun x y=>D6 x y<0
def Yn(l:List Ad):Prop:=∀x∈l,∀y∈l,Bl x y=true→x.pos=y.pos→x=y
structure B7(all r:List Ad):Prop where
 ris:Dx r
 sub:∀x∈r,x∈all
 last:∀x∈r,∀y∈all,Bl x y=true→y.pos≤x.pos
 cov:∀y∈all,∃x∈r,Bl x y=true
theorem B7.mem{all r r':List Ad}(h:B7 all r)(h':B7 all r')(ho:Yn all){x:Ad}(hx:x∈r):x∈r':=by
 obtain⟨z,hz,hs⟩:=h'.cov x (h.sub x hx);have h1:=h'.last z hz x (h.sub x hx) hs;have h2:=h.last x hx z (h'.sub z hz) (by rw[Qm];exact hs);have:=ho z (h'.sub z hz) x (h.sub x hx) hs (by omega);rw[←this];exact hz
theorem Dx.irr{l:List Ad}{x:Ad}(h:Dx (x::l))(hx:B6 x):x∉l:=fun hm=>by
 have:=(List.pairwise_cons.1 h).1 x hm;rw[fZ hx] at this;omega
theorem Dx.unique:∀{l m:List Ad},(∀x∈l,B6 x)→(∀x∈m,B6 x)→Dx l→Dx m→(∀x,x∈l↔x∈m)→l=m
 |[],[],_,_,_,_,_=>rfl
 |[],y::m,_,_,_,_,h=>absurd ((h y).2 a0x) a1x
 |x::l,[],_,_,_,_,h=>absurd ((h x).1 a0x) a1x
 |x::l,y::m,ol,om,hl,hm,h=>by
  have ox:=ol x a0x;have oy:=om y a0x
  have hxy:x=y:=by
   rcases List.mem_cons.1 ((h x).1 a0x) with e|e
   ·exact e
   ·rcases List.mem_cons.1 ((h y).2 a0x) with e2|e2
    ·exact e2.symm
    ·have h1:=(List.pairwise_cons.1 hm).1 x e;have h2:=(List.pairwise_cons.1 hl).1 y e2;rw[Vi oy ox] at h2;omega
  subst hxy;congr 1
  refine Dx.unique (fun z hz=>ol z (a1w _ hz)) (fun z hz=>om z (a1w _ hz)) (List.pairwise_cons.1 hl).2 (List.pairwise_cons.1 hm).2 fun z=>?_
  constructor
  ·intro hz
   rcases List.mem_cons.1 ((h z).1 (a1w _ hz)) with e|e
   ·rw[e] at hz;exact absurd hz (Dx.irr hl ox)
   ·exact e
  ·intro hz
   rcases List.mem_cons.1 ((h z).2 (a1w _ hz)) with e|e
   ·rw[e] at hz;exact absurd hz (Dx.irr hm ox)
   ·exact e
theorem B7.unique{all r r':List Ad}(hok:∀x∈all,B6 x)(ho:Yn all)(h:B7 all r)(h':B7 all r'):r=r':=
 Dx.unique (fun x hx=>hok x (h.sub x hx)) (fun x hx=>hok x (h'.sub x hx)) h.ris h'.ris fun _=>⟨fun hx=>h.mem h' ho hx,fun hx=>h'.mem h ho hx⟩
theorem B7.nil:B7 [] []:=⟨List.Pairwise.nil,fun _ h=>absurd h a1x,fun _ h=>absurd h a1x,fun _ h=>absurd h a1x⟩
theorem B7.comp{all mid r:List Ad}(hsub:∀x∈mid,x∈all)(hcov:∀y∈all,∃x∈mid,Bl x y=true∧y.pos≤x.pos)(h:B7 mid r):B7 all r:=by
 refine⟨h.ris,fun x hx=>hsub x (h.sub x hx),fun x hx y hy hs=>?_,fun y hy=>?_⟩
 ·obtain⟨z,hz,hzs,hzp⟩:=hcov y hy;have:=h.last x hx z hz (Qo hs (by rw[Qm];exact hzs));omega
 ·obtain⟨z,hz,hzs,_⟩:=hcov y hy;obtain⟨x,hx,hxs⟩:=h.cov z hz;exact⟨x,hx,Qo hxs hzs⟩
theorem B7.cover{all r:List Ad}(h:B7 all r):∀y∈all,∃x∈r,Bl x y=true∧y.pos≤x.pos:=fun y hy=>by
 obtain⟨x,hx,hs⟩:=h.cov y hy;exact⟨x,hx,hs,h.last x hx y hy hs⟩
def H8:Ad:=⟨Bv,0⟩
def N7(l:List Ad)(j:Nat):Bool:=decide (j=0∨Bl (l.getD j H8) (l.getD (j-1) H8)=false)
def Ko(l:List Ad)(m:Nat):List Ad:=((List.range m).filter (N7 l)).map fun j=>l.getD j H8
theorem Si(l:List Ad)(m:Nat):Ko l (m+1)=Ko l m++(if N7 l m=true then[l.getD m H8] else[]):=by
 unfold Ko;rw[List.range_succ,List.filter_append,List.map_append];congr 1
 by_cases h:N7 l m=true<;>simp[h]
theorem O5(l:List Ad){k:Nat}(h:k<l.length):l.getD k H8=l[k]:=by
 rw[a0z,a1u h];rfl
theorem Qp.before{l:List Ad}(h:Qp l){i j:Nat}(hij:i<j)(hj:j<l.length):D6 (l[i]'(by omega)) l[j]<0:=by
 have:=List.pairwise_iff_getElem.1 h i j (by omega) hj hij;exact this
theorem gP{l:List Ad}{m:Nat}{x:Ad}(h:x∈l.take m)(hm:m≤l.length):∃i,∃(hi:i<l.length),i<m∧l[i]=x:=by
 obtain⟨i,hi,e⟩:=List.mem_iff_getElem.1 h;rw[List.length_take] at hi;exact⟨i,by omega,by omega,by rw[←e,List.getElem_take]⟩
theorem gQ{l:List Ad}(hok:∀x∈l,B6 x)(h:Qp l):∀m,m≤l.length→B7 (l.take m) (Ko l m)
 |0,_=>by
  rw[List.take_zero];exact B7.nil
 |m+1,hm=>by
  have ih:=gQ hok h m (by omega)
  have hml:m<l.length:=by omega
  rw[Si,O5 l hml];have ox:=hok l[m] (a2z hml)
  have before:∀y∈l.take m,D6 y l[m]<0:=fun y hy=>by
   obtain⟨i,hi,him,e⟩:=gP hy (by omega);rw[←e];exact h.before him hml
  have oky:∀y∈l.take m,B6 y:=fun y hy=>hok y (List.mem_of_mem_take hy)
  have htk:l.take (m+1)=l.take m++[l[m]]:=by rw[List.take_add_one,a1u hml];rfl
  by_cases hk:N7 l m=true
  ·rw[if_pos hk]
   have hno:∀y∈l.take m,Dq y l[m]<0:=fun y hy=>by
    obtain⟨i,hi,him,e⟩:=gP hy (by omega)
    have hpl:m-1<l.length:=by omega
    have op:=hok l[m-1] (a2z hpl);have h1:=Vj (Int.le_of_lt (before y hy))
    rcases Int.lt_or_eq_of_le h1 with h2|h2
    ·exact h2
    ·exfalso;have hk2:=of_decide_eq_true hk
     rcases hk2 with hk2|hk2
     ·omega
     ·rw[O5 l hml,O5 l hpl,Ym] at hk2
      have hyp:Dq y l[m-1]≤0:=by
       by_cases e2:i=m-1
       ·subst e2;rw[←e,fZ op];omega
       ·have:=h.before (i:=i) (j:=m-1) (by omega) hpl;rw[e] at this;exact Vj (Int.le_of_lt this)
      have hpx:Dq l[m-1] l[m]≤0:=Vj (Int.le_of_lt (h.before (by omega) hml));have hs:=(Lt y l[m]).2 h2;have h3:=gI l[m-1] hs;have h4:=Vi ox op;omega
   rw[htk];refine⟨?_,fun x hx=>?_,fun x hx y hy hs=>?_,fun y hy=>?_⟩
   ·refine List.pairwise_append.2 ⟨ih.ris,List.pairwise_singleton _ _,fun x hx y hy=>?_⟩;rw[List.mem_singleton.1 hy];exact hno x (ih.sub x hx)
   ·rcases List.mem_append.1 hx with hx|hx
    ·exact a0w _ (ih.sub x hx)
    ·exact a1z _ hx
   ·rcases List.mem_append.1 hx with hx|hx
    ·rcases List.mem_append.1 hy with hy|hy
     ·exact ih.last x hx y hy hs
     ·rw[List.mem_singleton.1 hy] at hs;have:=hno x (ih.sub x hx);have:=(Lt _ _).1 hs;omega
    ·rw[List.mem_singleton.1 hx] at hs ⊢
     rcases List.mem_append.1 hy with hy|hy
     ·have:=hno y hy;have:=(Lt _ _).1 ((Qm _ _).trans hs);omega
     ·rw[List.mem_singleton.1 hy];exact a2x _
   ·rcases List.mem_append.1 hy with hy|hy
    ·obtain⟨x,hx,hs⟩:=ih.cov y hy;exact⟨x,a0w _ hx,hs⟩
    ·rw[List.mem_singleton.1 hy];exact⟨l[m],a1z _ (List.mem_singleton.2 rfl),gG _⟩
  ·rw[if_neg hk,List.append_nil,htk]
   have hk1:¬(m=0∨Bl (l.getD m H8) (l.getD (m-1) H8)=false):=fun e=>hk (decide_eq_true e)
   have hm0:m≠0:=fun e=>hk1 (Or.inl e)
   have hpl:m-1<l.length:=by omega
   have hs:Bl l[m] l[m-1]=true:=by
    have:¬Bl (l.getD m H8) (l.getD (m-1) H8)=false:=fun e=>hk1 (Or.inr e)
    rw[O5 l hml,O5 l hpl] at this
    simpa using this
   have hpm:l[m-1]∈l.take m:=by
    refine List.mem_iff_getElem.2 ⟨m-1,by rw[List.length_take];omega,by rw[List.getElem_take]⟩
   refine⟨ih.ris,fun x hx=>a0w _ (ih.sub x hx),fun x hx y hy hs2=>?_,fun y hy=>?_⟩
   ·rcases List.mem_append.1 hy with hy|hy
    ·exact ih.last x hx y hy hs2
    ·rw[List.mem_singleton.1 hy] at hs2 ⊢;exact Nat.le_of_lt (gK (before x (ih.sub x hx)) hs2)
   ·rcases List.mem_append.1 hy with hy|hy
    ·exact ih.cov y hy
    ·obtain⟨x,hx,hs3⟩:=ih.cov l[m-1] hpm;rw[List.mem_singleton.1 hy];exact⟨x,hx,Qo hs3 (by rw[Qm];exact hs)⟩
theorem vK{l:List Ad}(hok:∀x∈l,B6 x)(h:Qp l):B7 l (Ko l l.length):=by
 have:=gQ hok h l.length (a2x _);rw[List.take_length] at this;exact this
end
section
def Ag(l:List Ad)(k:Nat):Ad:=l.getD k H8
theorem K4{l:List Ad}{k:Nat}(h:k<l.length):Ag l k=l[k]:=O5 l h
def A7(x y:Ad):Prop:=D6 x y≤0
def Hq(l:List Ad)(a b:Nat):Prop:=∀p q,a≤p→p<q→q<b→A7 (Ag l p) (Ag l q)
def Ci(l:List Ad):Prop:=∀x∈l,B6 x
theorem Yo:B6 H8:=⟨⟨by decide,by decide,by decide,by decide,by decide⟩,by decide⟩
theorem Ci.at{l:List Ad}(h:Ci l)(k:Nat):B6 (Ag l k):=by
 unfold Ag;rw[a0z]
 cases e:l[k]? with
 |none=>exact Yo
 |some x=>exact h x (List.mem_of_getElem? e)
theorem A7.trans{x y z:Ad}(hx:B6 x)(hy:B6 y)(hz:B6 z)(h1:A7 x y)(h2:A7 y z):A7 x z:=vG hx hy hz h1 h2
theorem A7.total{x y:Ad}(hx:B6 x)(hy:B6 y):A7 x y∨A7 y x:=by
 unfold A7;have:=Yl hx hy;omega
theorem A7.not{x y:Ad}(hx:B6 x)(hy:B6 y)(h:¬D6 x y<0):A7 y x:=by
 unfold A7;have:=Yl hx hy;omega
theorem A7.lt{x y:Ad}(h:D6 x y<0):A7 x y:=by unfold A7;omega
def I1(l:List Ad)(i j:Nat):List Ad:=(l.set i (Ag l j)).set j (Ag l i)
theorem Yp(l:List Ad)(i k:Nat)(x:Ad)(h:i<l.length):Ag (l.set i x) k=if k=i then x else Ag l k:=by
 unfold Ag;rw[a0z,List.getElem?_set,a0z]
 by_cases e:i=k
 ·subst e;rw[if_pos rfl,if_pos h,if_pos rfl];rfl
 ·rw[if_neg e,if_neg (Ne.symm e)]
theorem I2{l:List Ad}{i j:Nat}(k:Nat)(hi:i<l.length)(hj:j<l.length):Ag (I1 l i j) k=if k=j then Ag l i else if k=i then Ag l j else Ag l k:=by
 unfold I1;rw[Yp _ _ _ _ (by rw[List.length_set];exact hj),Yp _ _ _ _ hi]
theorem vL{l:List Ad}{i j:Nat}(hi:i<l.length)(hj:j<l.length):(I1 l i j).Perm l:=by
 have h:=Array.swap_perm (xs:=l.toArray) (i:=i) (j:=j) (by simpa using hi) (by simpa using hj);have h2:=Array.perm_iff_toList_perm.1 h
 have e:(l.toArray.swap i j (by simpa using hi) (by simpa using hj)).toList=I1 l i j:=by
  unfold I1;rw[K4 hi,K4 hj];simp[Array.swap]
 rw[e] at h2;exact h2
structure F7(a b:Nat)(l l':List Ad):Prop where
 perm:l'.Perm l
 out:∀p,p<a∨b≤p→Ag l' p=Ag l p
 inn:∀p,a≤p→p<b→∃q,a≤q∧q<b∧Ag l' p=Ag l q
theorem F7.refl(a b:Nat)(l:List Ad):F7 a b l l:=⟨List.Perm.refl _,fun _ _=>rfl,fun p h1 h2=>⟨p,h1,h2,rfl⟩⟩
theorem F7.len{a b:Nat}{l l':List Ad}(h:F7 a b l l'):l'.length=l.length:=h.perm.length_eq
theorem F7.ok{a b:Nat}{l l':List Ad}(h:F7 a b l l')(ho:Ci l):Ci l':=fun x hx=>ho x (h.perm.mem_iff.1 hx)
theorem F7.trans{a b:Nat}{l m r:List Ad}(h1:F7 a b l m)(h2:F7 a b m r):F7 a b l r:=by
 refine⟨h2.perm.trans h1.perm,fun p hp=>(h2.out p hp).trans (h1.out p hp),fun p ha hb=>?_⟩;obtain⟨q,q1,q2,e⟩:=h2.inn p ha hb;obtain⟨r,r1,r2,e2⟩:=h1.inn q q1 q2;exact⟨r,r1,r2,e.trans e2⟩
theorem F7.wide{a b a' b':Nat}{l m:List Ad}(h:F7 a b l m)(ha:a'≤a)(hb:b≤b'):F7 a' b' l m:=by
 refine⟨h.perm,fun p hp=>h.out p (by omega),fun p hp1 hp2=>?_⟩
 by_cases hp:a≤p∧p<b
 ·obtain⟨q,q1,q2,e⟩:=h.inn p hp.1 hp.2;exact⟨q,by omega,by omega,e⟩
 ·exact⟨p,hp1,hp2,h.out p (by omega)⟩
theorem F7.swap{a b i j:Nat}{l:List Ad}(hi:i<l.length)(hj:j<l.length)(h1:a≤i)(h2:i<b)(h3:a≤j)(h4:j<b):F7 a b l (I1 l i j):=by
 refine⟨vL hi hj,fun p hp=>?_,fun p ha hb=>?_⟩
 ·rw[I2 p hi hj,if_neg (by omega),if_neg (by omega)]
 ·rw[I2 p hi hj]
  by_cases e:p=j
  ·rw[if_pos e];exact⟨i,h1,h2,rfl⟩
  ·rw[if_neg e]
   by_cases e2:p=i
   ·rw[if_pos e2];exact⟨j,h3,h4,rfl⟩
   ·rw[if_neg e2];exact⟨p,ha,hb,rfl⟩
def O6(l:List Ad)(a b j:Nat):Prop:=∀p q,a≤p→p<q→q<b→q≠j→A7 (Ag l p) (Ag l q)
theorem Hq.but{l:List Ad}{a i:Nat}(h:Hq l a i):O6 l a (i+1) i:=fun p q h1 h2 h3 h4=>h p q h1 h2 (by omega)
theorem O6.done{l:List Ad}{a b j:Nat}(ho:Ci l)(h:O6 l a b j)(hj:j=a∨A7 (Ag l (j-1)) (Ag l j))(ha:a≤j):Hq l a b:=by
 intro p q h1 h2 h3
 by_cases e:q=j
 ·subst e
  rcases hj with rfl|hj
  ·omega
  ·by_cases e2:p=q-1
   ·subst e2;exact hj
   ·exact A7.trans (ho.at _) (ho.at _) (ho.at _) (h p (q-1) h1 (by omega) (by omega) (by omega)) hj
 ·exact h p q h1 h2 h3 e
theorem O6.step{l:List Ad}{a b j:Nat}(h:O6 l a b j)(hb:b≤l.length)(hj:a<j)(hjb:j<b)(hlt:A7 (Ag l j) (Ag l (j-1))):O6 (I1 l j (j-1)) a b (j-1):=by
 intro p q h1 h2 h3 h4
 have hjl:j<l.length:=by omega
 have hjl1:j-1<l.length:=by omega
 rw[I2 p hjl hjl1,I2 q hjl hjl1];rw[if_neg h4]
 by_cases e:q=j
 ·rw[if_pos e]
  by_cases e2:p=j-1
  ·rw[if_pos e2];exact hlt
  ·rw[if_neg e2,if_neg (by omega)];exact h p (j-1) h1 (by omega) (by omega) (by omega)
 ·rw[if_neg e]
  by_cases e2:p=j-1
  ·rw[if_pos e2];exact h j q (by omega) (by omega) h3 e
  ·rw[if_neg e2]
   by_cases e3:p=j
   ·rw[if_pos e3];exact h (j-1) q (by omega) (by omega) h3 e
   ·rw[if_neg e3];exact h p q h1 h2 h3 e
theorem Hq.one(l:List Ad)(a:Nat):Hq l a (a+1):=fun p q h1 h2 h3=>by omega
theorem Hq.frame{l l':List Ad}{a b:Nat}(h:Hq l a b)(he:∀p,a≤p→p<b→Ag l' p=Ag l p):Hq l' a b:=fun p q h1 h2 h3=>by
 rw[he p h1 (by omega),he q (by omega) h3];exact h p q h1 h2 h3
theorem Hq.rising{l:List Ad}(h:Hq l 0 l.length)(hn:(l.map (·.pos)).Nodup):Qp l:=by
 refine List.pairwise_iff_getElem.2 fun i j hi hj hij=>?_
 have h1:=h i j (Nat.zero_le _) hij hj;rw[K4 hi,K4 hj] at h1;unfold A7 at h1
 rcases Int.lt_or_eq_of_le h1 with h2|h2
 ·exact h2
 ·exfalso;have hp:=(gJ h2).2;have:=(List.pairwise_iff_getElem.1 hn) i j (by simpa using hi) (by simpa using hj) hij;rw[List.getElem_map,List.getElem_map] at this;exact this hp
end
section
structure M8(k:List Ad)(n j:Nat):Prop where
 par:∀i,0<i→i<n→i≠j→A7 (Ag k ((i-1)/2)) (Ag k i)
 grand:∀i,0<i→i<n→0<j→(i-1)/2=j→A7 (Ag k ((j-1)/2)) (Ag k i)
def Gm(k:List Ad)(n:Nat):Prop:=∀i,0<i→i<n→A7 (Ag k ((i-1)/2)) (Ag k i)
theorem M8.done{k:List Ad}{n j:Nat}(h:M8 k n j)(hj:j=0∨A7 (Ag k ((j-1)/2)) (Ag k j)):Gm k n:=by
 intro i h1 h2
 by_cases e:i=j
 ·subst e
  rcases hj with h3|h3
  ·omega
  ·exact h3
 ·exact h.par i h1 h2 e
theorem M8.step{k:List Ad}{n j:Nat}(ho:Ci k)(h:M8 k n j)(hn:n≤k.length)(h0:0<j)(hj:j<n)(hlt:A7 (Ag k j) (Ag k ((j-1)/2))):M8 (I1 k ((j-1)/2) j) n ((j-1)/2):=by
 obtain⟨p,hp⟩:∃p,(j-1)/2=p:=⟨_,rfl⟩
 rw[hp] at hlt ⊢
 have hpj:p<j:=by omega
 have hpl:p<k.length:=by omega
 have hjl:j<k.length:=by omega
 refine⟨fun i h1 h2 h3=>?_,fun i h1 h2 h3 h4=>?_⟩
 ·rw[I2 _ hpl hjl,I2 i hpl hjl]
  by_cases e1:i=j
  ·subst e1;rw[hp,if_neg (by omega),if_pos rfl,if_pos rfl];exact hlt
  ·rw[if_neg e1,if_neg h3]
   by_cases e2:(i-1)/2=j
   ·rw[if_pos e2];have:=h.grand i h1 h2 h0 e2;rw[hp] at this;exact this
   ·rw[if_neg e2]
    by_cases e3:(i-1)/2=p
    ·rw[if_pos e3];have h5:=h.par i h1 h2 e1;rw[e3] at h5;exact A7.trans (ho.at _) (ho.at _) (ho.at _) hlt h5
    ·rw[if_neg e3];exact h.par i h1 h2 e1
 ·have h6:A7 (Ag k ((p-1)/2)) (Ag k p):=h.par p h3 (by omega) (by omega);rw[I2 _ hpl hjl,I2 i hpl hjl,if_neg (by omega),if_neg (by omega)]
  by_cases e1:i=j
  ·rw[if_pos e1];exact h6
  ·rw[if_neg e1,if_neg (by omega)];have h5:=h.par i h1 h2 e1;rw[h4] at h5;exact A7.trans (ho.at _) (ho.at _) (ho.at _) h6 h5
structure Lu(k:List Ad)(n i:Nat):Prop where
 par:∀c,0<c→c<n→(c-1)/2≠i→A7 (Ag k ((c-1)/2)) (Ag k c)
 grand:∀c,0<c→c<n→(c-1)/2=i→0<i→A7 (Ag k ((i-1)/2)) (Ag k c)
theorem Lu.done{k:List Ad}{n i:Nat}(h:Lu k n i)(hc:∀c,0<c→c<n→(c-1)/2=i→A7 (Ag k i) (Ag k c)):Gm k n:=by
 intro c h1 h2
 by_cases e:(c-1)/2=i
 ·rw[e];exact hc c h1 h2 e
 ·exact h.par c h1 h2 e
theorem Lu.step{k:List Ad}{n i j:Nat}(h:Lu k n i)(hn:n≤k.length)(hj0:0<j)(hj:j<n)(hp:(j-1)/2=i)(hmin:∀c,0<c→c<n→(c-1)/2=i→A7 (Ag k j) (Ag k c))(hlt:A7 (Ag k j) (Ag k i)):Lu (I1 k i j) n j:=by
 have hij:i<j:=by omega
 have hil:i<k.length:=by omega
 have hjl:j<k.length:=by omega
 refine⟨fun c h1 h2 h3=>?_,fun c h1 h2 h3 h4=>?_⟩
 ·rw[I2 _ hil hjl,I2 c hil hjl,if_neg h3]
  by_cases e1:(c-1)/2=i
  ·rw[if_pos e1]
   by_cases e2:c=j
   ·rw[if_pos e2];exact hlt
   ·rw[if_neg e2,if_neg (by omega)];exact hmin c h1 h2 e1
  ·rw[if_neg e1]
   by_cases e2:c=j
   ·subst e2;exact absurd hp e1
   ·rw[if_neg e2]
    by_cases e3:c=i
    ·rw[if_pos e3];have:=h.grand j hj0 hj hp (by omega);rw[e3];exact this
    ·rw[if_neg e3];exact h.par c h1 h2 e1
 ·rw[hp,I2 _ hil hjl,I2 c hil hjl,if_neg (by omega),if_pos rfl,if_neg (by omega),if_neg (by omega)];have h5:=h.par c h1 h2 (by omega);rw[h3] at h5;exact h5
theorem Gm.root{k:List Ad}{n:Nat}(ho:Ci k)(h:Gm k n):∀i,i<n→A7 (Ag k 0) (Ag k i):=by
 intro i
 induction i using Nat.strongRecOn with
 |_ i ih=>
  intro hi
  by_cases e:i=0
  ·subst e;exact Int.le_of_eq (Vh (ho.at _))
  ·exact A7.trans (ho.at _) (ho.at _) (ho.at _) (ih ((i-1)/2) (by omega) (by omega)) (h i (by omega) hi)
theorem Gm.pop{k:List Ad}{n:Nat}(h:Gm k (n+1))(hn:k.length=n+1):Lu (I1 k 0 n) n 0:=by
 refine⟨fun c h1 h2 h3=>?_,fun c h1 h2 h3 h4=>absurd h4 (Nat.lt_irrefl _)⟩;rw[I2 _ (by omega) (by omega),I2 c (by omega) (by omega),if_neg (by omega),if_neg h3,if_neg (by omega),if_neg (by omega)];exact h c h1 (by omega)
theorem Gm.push{k:List Ad}(x:Ad)(h:Gm k k.length):M8 (k++[x]) (k.length+1) k.length:=by
 have A:∀i,i<k.length→Ag (k++[x]) i=Ag k i:=fun i hi=>by unfold Ag;rw[a0z,List.getElem?_append_left hi,a0z]
 refine⟨fun i h1 h2 h3=>?_,fun i h1 h2 h3 h4=>by omega⟩;rw[A _ (by omega),A _ (by omega)];exact h i h1 (by omega)
theorem Gm.frame{k k':List Ad}{n:Nat}(h:Gm k n)(he:∀i,i<n→Ag k' i=Ag k i):Gm k' n:=fun i h1 h2=>by
 rw[he _ (by omega),he _ h2];exact h i h1 h2
theorem vM{x y:Ad}(h:A7 x y)(hs:Bl x y=true):y.pos≤x.pos:=by
 unfold A7 at h
 rcases Int.lt_or_eq_of_le h with h1|h1
 ·exact Nat.le_of_lt (gK h1 hs)
 ·rw[(gJ h1).2];exact a2x _
structure Kp(done out:List Ad):Prop where
 res:B7 done out
theorem Kp.nil:Kp [] []:=⟨B7.nil⟩
theorem gR{l:List Ad}(h:0<l.length):Ag l (l.length-1)∈l:=by
 rw[K4 (by omega)];exact a2z _
theorem Dx.last{l:List Ad}(h:Dx l){x:Ad}(hx:x∈l):x=Ag l (l.length-1)∨Dq x (Ag l (l.length-1))<0:=by
 obtain⟨i,hi,e⟩:=List.mem_iff_getElem.1 hx;rw[K4 (by omega)]
 by_cases h1:i=l.length-1
 ·left;subst h1;exact e.symm
 ·right;rw[←e];exact List.pairwise_iff_getElem.1 h i (l.length-1) hi (by omega) (by omega)
theorem Kp.skip{done out:List Ad}{x:Ad}(h:Kp done out)(hle:∀y∈done,A7 y x)(h0:0<out.length)(hs:Bl (Ag out (out.length-1)) x=true):Kp (done++[x]) out:=by
 have hl:=gR h0;refine⟨⟨h.res.ris,fun y hy=>a0w _ (h.res.sub y hy),fun y hy z hz hyz=>?_,fun y hy=>?_⟩⟩
 ·rcases List.mem_append.1 hz with hz|hz
  ·exact h.res.last y hy z hz hyz
  ·rw[List.mem_singleton.1 hz] at hyz ⊢;exact vM (hle y (h.res.sub y hy)) hyz
 ·rcases List.mem_append.1 hy with hy|hy
  ·exact h.res.cov y hy
  ·rw[List.mem_singleton.1 hy];exact⟨_,hl,hs⟩
theorem Kp.take{done out:List Ad}{x:Ad}(hok:Ci done)(hx:B6 x)(h:Kp done out)(hle:∀y∈done,A7 y x)(hs:out.length=0∨Bl (Ag out (out.length-1)) x=false):Kp (done++[x]) (out++[x]):=by
 have hlt:∀y∈out,Dq y x<0:=fun y hy=>by
  have h0:0<out.length:=List.length_pos_of_mem hy;have hl:=gR h0;have hs2:Bl (Ag out (out.length-1)) x=false:=hs.resolve_left (by omega);rw[Ym] at hs2
  have h1:Dq (Ag out (out.length-1)) x<0:=by
   have:=Vj (hle _ (h.res.sub _ hl));omega
  rcases h.res.ris.last hy with e|e
  ·rw[e];exact h1
  ·exact vJ (hok y (h.res.sub y hy)) (hok _ (h.res.sub _ hl)) hx e (by omega)
 refine⟨⟨?_,fun y hy=>?_,fun y hy z hz hyz=>?_,fun y hy=>?_⟩⟩
 ·refine List.pairwise_append.2 ⟨h.res.ris,List.pairwise_singleton _ _,fun y hy z hz=>?_⟩;rw[List.mem_singleton.1 hz];exact hlt y hy
 ·rcases List.mem_append.1 hy with hy|hy
  ·exact a0w _ (h.res.sub y hy)
  ·exact a1z _ hy
 ·rcases List.mem_append.1 hy with hy|hy
  ·rcases List.mem_append.1 hz with hz|hz
   ·exact h.res.last y hy z hz hyz
   ·rw[List.mem_singleton.1 hz] at hyz;have:=hlt y hy;have:=(Lt _ _).1 hyz;omega
  ·rw[List.mem_singleton.1 hy] at hyz ⊢
   rcases List.mem_append.1 hz with hz|hz
   ·obtain⟨y2,hy2,hs2⟩:=h.res.cov z hz;have:=hlt y2 hy2;have h2:Bl y2 x=true:=Qo hs2 (by rw[Qm];exact hyz);have:=(Lt _ _).1 h2;omega
   ·rw[List.mem_singleton.1 hz];exact a2x _
 ·rcases List.mem_append.1 hy with hy|hy
  ·obtain⟨z,hz,hs2⟩:=h.res.cov y hy;exact⟨z,a0w _ hz,hs2⟩
  ·rw[List.mem_singleton.1 hy];exact⟨x,a1z _ (List.mem_singleton.2 rfl),gG _⟩
theorem B7.perm{a b r:List Ad}(h:B7 a r)(hp:∀x,x∈b↔x∈a):B7 b r:=
 ⟨h.ris,fun x hx=>(hp x).2 (h.sub x hx),fun x hx y hy=>h.last x hx y ((hp y).1 hy),fun y hy=>h.cov y ((hp y).1 hy)⟩
theorem Dx.first{x:Ad}{r:List Ad}(hx:B6 x)(h:Dx (x::r)):∀y∈x::r,A7 x y:=by
 intro y hy
 rcases List.mem_cons.1 hy with e|e
 ·subst e;exact Int.le_of_eq (Vh hx)
 ·have h1:=(List.pairwise_cons.1 h).1 y e;unfold A7
  rcases Qk x y with⟨_,h2⟩|⟨h2,_⟩<;>omega
structure I3(all:List Ad)(rs:List (List Ad)):Prop where
 ris:∀r∈rs,Dx r
 sub:∀r∈rs,∀x∈r,x∈all
 cov:∀y∈all,∃r∈rs,∃x∈r,Bl x y=true∧y.pos≤x.pos
theorem Dx.same{r:List Ad}(hok:Ci r)(h:Dx r){x y:Ad}(hx:x∈r)(hy:y∈r)(hs:Bl x y=true):x=y:=by
 obtain⟨i,hi,ei⟩:=List.mem_iff_getElem.1 hx;obtain⟨j,hj,ej⟩:=List.mem_iff_getElem.1 hy;have h0:=(Lt x y).1 hs;have h00:=Vi (hok x hx) (hok y hy)
 rcases Nat.lt_trichotomy i j with h1|h1|h1
 ·have:=List.pairwise_iff_getElem.1 h i j hi hj h1;rw[ei,ej] at this;omega
 ·subst h1;rw[←ei,←ej]
 ·have:=List.pairwise_iff_getElem.1 h j i hj hi h1;rw[ei,ej] at this;omega
theorem I3.one{all r:List Ad}(hok:Ci all)(h:I3 all [r]):B7 all r:=by
 have hor:Ci r:=fun x hx=>hok x (h.sub r (List.mem_singleton.2 rfl) x hx)
 have hr:=h.ris r (List.mem_singleton.2 rfl);refine⟨hr,h.sub r (List.mem_singleton.2 rfl),fun x hx y hy hs=>?_,fun y hy=>?_⟩
 ·obtain⟨r',hr',z,hz,hzs,hzp⟩:=h.cov y hy;rw[List.mem_singleton.1 hr'] at hz;have:z=x:=hr.same hor hz hx (Qo hzs (by rw[Qm];exact hs));rw[←this];exact hzp
 ·obtain⟨r',hr',z,hz,hzs,hzp⟩:=h.cov y hy;rw[List.mem_singleton.1 hr'] at hz;exact⟨z,hz,hzs⟩
theorem I3.none{all:List Ad}(h:I3 all []):all=[]:=by
 cases all with
 |nil=>rfl
 |cons x l=>
  obtain⟨r,hr,_⟩:=h.cov x a0x;cases hr
end
end Go.Proofs.YtkagolpnaicdoaaGreatDoor
