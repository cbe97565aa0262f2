/-
 job.Driver: tell. job.Driver: tell, Submit, Move. job.Open, where the journal opens well.
-/
import Derived.Test.YtkagolpnaicdoaaGreatDoorPAppG
set_option maxRecDepth 100000
set_option maxHeartbeats 8000000
open Go.Lib renaming hid→a0z
open List renaming not_mem_nil→a0x,mem_cons→a0w
open Nat renaming le_trans→a0v
namespace Go.Proofs.YtkagolpnaicdoaaGreatDoor
section
open Go.RowKit Go.Lib Go.Maps Go.MapKept Go.ChangeMaps
structure C7(w:World)(base b bm L V:Nat)(v:Value)(d:Dk)(lg:Lg)(l:List Aj):Prop where
 disk:Ah w b bm d
 log:B5 w L b lg
 drv:Ht w V L v
 own:Ae D2 w base v l
 base:base≤w.heap.size
variable {w w' : World} {base b bm L V : Nat} {v : Value} {d : Dk} {lg : Lg} {l : List Aj}
theorem C7.L_off(h:C7 w base b bm L V v d lg l):L∉[b,bm]:=h.log.ne h.disk
theorem C7.V_off(h:C7 w base b bm L V v d lg l):V∉[b,bm,L]:=by
 have h1:=Fh h.drv (by decide) h.disk;intro hm;simp only[a0w,a0x,or_false] at hm h1
 rcases hm with h2|h2|h2
 ·exact h1 (Or.inl h2)
 ·exact h1 (Or.inr h2)
 ·have h3:=h.drv;unfold Ht at h3;rw[h2,h.log] at h3
  injection Option.some.inj h3 with _ h4
  exact absurd h4 (by decide)
theorem C7.own_off(h:C7 w base b bm L V v d lg l):∀k∈[b,bm,L,V],k∉Kv v:=by
 intro k hk;simp only[a0w,a0x,or_false] at hk
 rcases hk with rfl|rfl|rfl|rfl
 ·exact Go.Proofs.YtkagolpnaicdoaaGreatDoor.own_off h.own h.disk.cells (by decide)
 ·intro hm
  have hv:v.ownBlock=some k:=by simpa [Kv] using hm
  obtain⟨c2,h2⟩:=Ww h.own k hv;obtain⟨es,clock,h1,_⟩:=h.disk.files;rw[h2] at h1;cases h1
 ·exact Go.Proofs.YtkagolpnaicdoaaGreatDoor.own_off h.own h.log (by decide)
 ·exact Go.Proofs.YtkagolpnaicdoaaGreatDoor.own_off h.own h.drv (by decide)
theorem C7.of_fp{S:List Nat}(h:C7 w base b bm L V v d lg l)(hf:Fp S w w')(hS:∀k∈[b,bm,L,V]++Kv v,k∉S):C7 w' base b bm L V v d lg l:=
 ⟨h.disk.of_fp hf (hS b (by simp)) (hS bm (by simp)),h.log.fp hf (hS L (by simp)),h.drv.fp hf (hS V (by simp)),h.own.kept fun k hk=>hf.block k (h.own.lt k hk).2 (hS k (by simp[Kv,hk])),a0v h.base hf.size⟩
theorem C7.calm(h:C7 w base b bm L V v d lg l)(hf:Fp [] w w'):C7 w' base b bm L V v d lg l:=h.of_fp hf (by simp)
theorem C7.turned{d2:Dk}{lg2:Lg}(h:C7 w base b bm L V v d lg l)(hf:Fp [b,bm,L] w w')(hd:Ah w' b bm d2)(hl:B5 w' L b lg2):C7 w' base b bm L V v d2 lg2 l:=
 ⟨hd,hl,h.drv.fp hf h.V_off,h.own.kept fun k hk=>hf.block k (h.own.lt k hk).2 (fun hm=>by
  have hk2:k∈Kv v:=by simp[Kv,hk]
  exact h.own_off k (by simp only[a0w,a0x,or_false] at hm ⊢;omega) hk2),a0v h.base hf.size⟩
theorem C7.putted{v':Value}{l':List Aj}(h:C7 w base b bm L V v d lg l)(ht:Tf base [42] [V] w w')(hv:Ht w' V L v')(ho:Ae D2 w' base v' l'):C7 w' base b bm L V v' d lg l':=by
 have hV:=h.V_off;simp only[a0w,a0x,or_false,not_or] at hV;obtain⟨hV1,hV2,hV3⟩:=hV;have hb:=ht.cells h.disk.cells (by simp;omega) (by decide);refine⟨⟨hb,h.disk.files.of_block ?_⟩,ht.cells h.log (by simp;omega) (by decide),hv,ho,a0v h.base ht.size⟩
 exact ht.block bm h.disk.files.lt (by simp;omega) (fun _ c T fz hc=>by
  obtain⟨es,clock,h1,_⟩:=h.disk.files
  rw[hc] at h1;cases h1)
structure Jz where
 d:Dk
 lg:Lg
 l:List Aj
 e:Int
def Dp(d:Dk)(lg:Lg)(l:List Aj)(j:Aj):Jz:=
 if(Ba j).2≠0 then⟨d,lg,l,(Ba j).2⟩
 else if(Gg lg d [(Ba j).1]).2.2≠0 then⟨(Gg lg d [(Ba j).1]).2.1,(Gg lg d [(Ba j).1]).1,l,(Gg lg d [(Ba j).1]).2.2⟩
 else⟨(Gg lg d [(Ba j).1]).2.1,(Gg lg d [(Ba j).1]).1,Eb l j,0⟩
theorem cH{j:Aj}{s:ByteArray}{x:Int}(h:Ba j=(s,x))(hx:x≠0):Dp d lg l j=⟨d,lg,l,x⟩:=by
 unfold Dp;rw[h,if_pos hx]
theorem cI{j:Aj}{s:ByteArray}{x:Int}{d2:Dk}{lg2:Lg}(h:Ba j=(s,0))(ha:Gg lg d [s]=(lg2,d2,x))(hx:x≠0):Dp d lg l j=⟨d2,lg2,l,x⟩:=by
 unfold Dp;rw[h,if_neg (by simp)];simp only[ha];rw[if_pos hx]
theorem Xi{j:Aj}{s:ByteArray}{d2:Dk}{lg2:Lg}(h:Ba j=(s,0))(ha:Gg lg d [s]=(lg2,d2,0)):Dp d lg l j=⟨d2,lg2,Eb l j,0⟩:=by
 unfold Dp;rw[h,if_neg (by simp)];simp only[ha];rw[if_neg (by simp)]
theorem oT{j:Aj}{s:ByteArray}(h:Ba j=(s,0)):s.size≤60011:=by
 unfold Ba at h;split at h
 ·cases h
 ·split at h
  ·cases h
  ·rename_i h2;obtain rfl:Aw j=s:=(Prod.mk.inj h).1;rw[Ov];omega
def Kz(base b bm L V:Nat)(r:Jz)(w w':World):Prop:=(∃v',C7 w' base b bm L V v' r.d r.lg r.l)∧Tf base [42] [b,bm,L,V] w w'
theorem oU(w:World)(base b bm L V qj qv:Nat)(v:Value)(d:Dk)(lg:Lg)(l:List Aj)(j:Aj)(hD:C7 w base b bm L V v d lg l)(hok:Ak d)(hj:Gy j)(ht:Ce w)
  (hto:lg.name.size≤1000)(hm:lg.many≤100000)(hn:l.length≤100000)
  (h1:w.heap[qj]?=some (.cells (Bo j).toArray 42 (0,0)))(h2:w.heap[qv]?=some (.cells #[.pointer (some ⟨V,0,none⟩)] 54 (0,0))):
  Calls Tryz.prog 116 #[.pointer (some ⟨qj,0,none⟩),.pointer (some ⟨qv,0,none⟩)] w fun e w'=>Kz base b bm L V (Dp d lg l j) w w'∧(((Dp d lg l j).e=0∧∃u,e=.returned u)∨((Dp d lg l j).e≠0∧e=.panicked (P0 (Dp d lg l j).e))):=by
 have n1:=Fh h1 (by decide) hD.disk;have n2:=Fh h2 (by decide) hD.disk;have hVo:=hD.V_off
 have m1:qj∉[b,bm,L]:=by
  intro hm;simp only[a0w,a0x,or_false] at hm n1
  rcases hm with h3|h3|h3
  ·exact n1 (Or.inl h3)
  ·exact n1 (Or.inr h3)
  ·rw[h3,hD.log] at h1
   injection Option.some.inj h1 with _ h4
   exact absurd h4 (by decide)
 have m2:qv∉[b,bm,L]:=by
  intro hm;simp only[a0w,a0x,or_false] at hm n2
  rcases hm with h3|h3|h3
  ·exact n2 (Or.inl h3)
  ·exact n2 (Or.inr h3)
  ·rw[h3,hD.log] at h2
   injection Option.some.inj h2 with _ h4
   exact absurd h4 (by decide)
 have hlt1:=Ab h1;have hlt2:=Ab h2;have HENC:=a0z (fun w=>dY w j hj);obtain⟨jid,jp,jx,jn⟩:=j;unfold Bo at h1;simp only at h1;unfold Bq Bo at HENC;simp only at HENC;have p0:w.cell? ⟨qj,0,none⟩=some (.int .u64 jid):=Aa h1 0;have p1:w.cell? ⟨qj,1,none⟩=some (.int .i64 jp):=Aa h1 1;have p2:w.cell? ⟨qj,2,none⟩=some (.int .i64 jx):=Aa h1 2;have p3:w.cell? ⟨qj,3,none⟩=some (.string jn):=Aa h1 3;have HD:=a0z hD;have HT:=a0z ht;have H1:=a0z h1;have H2:=a0z h2;have HSO:=a0z aG;have HSB:=a0z aH;have HM1:=a0z m1;have HM2:=a0z m2;clear hD ht h1 h2 n1 n2 m1 m2
 obtain⟨⟨s,x⟩,hs⟩:∃r,Ba ⟨jid,jp,jx,jn⟩=r:=⟨_,rfl⟩
 rw[hs] at HENC
 by_cases hx:x=0
 ·subst hx;have hsz:=oT hs
  obtain⟨⟨lg2,d2,y⟩,hy⟩:∃r,Gg lg d [s]=r:=⟨_,rfl⟩
  have HAP:Hid (∀W g,Fp [] w W→W.heap[g]?=some (.cells #[.string s] 9 (0,0))→Calls Tryz.prog 117 #[.pointer (some ⟨L,0,none⟩),.slice (some ⟨g,0,none⟩) 1 1] W fun e w'=>e=.returned (.int .i64 y)∧Ah w' b bm d2∧B5 w' L b lg2∧Fp [b,bm,L] W w'):=a0z (fun W g hf hg=>by
   have h:=Abd W b bm L lg d (some ⟨g,0,none⟩) 1 1 [s] (HD.out.disk.of_fp hf (by simp) (by simp)) hok hto (HD.out.log.fp hf (by simp))
    ⟨rfl,Or.inr ⟨g,0,rfl,fun i hi=>by have:i=0:=by simpa using hi
                                      subst this;rw[Aa hg];rfl⟩,fun t ht=>by rw[List.mem_singleton.1 ht];unfold maxLen;omega⟩
    (HT.out.fp hf (by simp)) (by show 6+s.size+0≤_;omega) (by omega)
   rw[hy] at h
   exact h)
  by_cases hy0:y=0
  ·subst hy0;have HE:=a0z (Xi (l:=l) hs hy);clear hs hy hsz;go_enter Tryz.func116,Tryz.ntmps116;go_wp2_with (fail);(with_reducible refine(HENC.out _).mono ?_);rintro e w1 ⟨rfl,hf1⟩;have HF1:=a0z hf1;clear hf1;go_wp2_with (fail);(with_reducible refine(HSO.out _).mono ?_);rintro e w2 ⟨⟨u2,rfl⟩,rfl⟩;have q0:w2.cell? ⟨qv,0,none⟩=some (.pointer (some ⟨V,0,none⟩)):=Aa ((HF1.out.block _ (Ab H2.out) (by simp)).trans H2.out) 0;have q1:w2.cell? ⟨V,0,none⟩=some (.pointer (some ⟨L,0,none⟩)):=Aa (HD.out.drv.fp HF1.out (by simp)) 0;have hltV:=Ab (HD.out.drv.fp HF1.out (by simp));have HFA:=a0z (HF1.out.alloc' (.cells #[.string s] 9));go_wp2_with (fail);(with_reducible refine(HAP.out _ w2.heap.size HFA.out (Ai rfl _)).mono ?_);rintro e w3 ⟨rfl,hd3,hl3,hf3⟩;have HD3:=a0z ((HD.out.calm HFA.out).turned hf3 hd3 hl3);have HF3:Hid (Fp [b,bm,L] w w3):=a0z ((HFA.out.mono (by simp)).trans hf3 (by intro i hi;exact Or.inl hi));clear hd3 hl3 hf3;go_wp2_with (fail);(with_reducible refine(HSO.out _).mono ?_);rintro e w4 ⟨⟨u4,rfl⟩,rfl⟩;have hj4:=(HF3.out.block _ (Ab H1.out) HM1.out).trans H1.out;have r0:w4.cell? ⟨qv,0,none⟩=some (.pointer (some ⟨V,0,none⟩)):=Aa ((HF3.out.block _ (Ab H2.out) HM2.out).trans H2.out) 0;have s0:w4.cell? ⟨qj,0,none⟩=some (.int .u64 jid):=Aa hj4 0;have s1:w4.cell? ⟨qj,1,none⟩=some (.int .i64 jp):=Aa hj4 1;have s2:w4.cell? ⟨qj,2,none⟩=some (.int .i64 jx):=Aa hj4 2;have s3:w4.cell? ⟨qj,3,none⟩=some (.string jn):=Aa hj4 3;have HPUT:=a0z (aF w4 base V L v l ⟨jid,jp,jx,jn⟩ HD3.out.drv HD3.out.own HD3.out.base hn);unfold Bq Bo at HPUT;simp only at HPUT;clear hj4;go_wp2_with (fail);(with_reducible refine HPUT.out.mono ?_);rintro e w5 ⟨rfl,⟨v5,hv5,ho5⟩,ht5⟩;have HD5:=a0z (HD3.out.putted ht5 hv5 ho5);have HT5:Hid (Tf base [42] [b,bm,L,V] w w5):=a0z (((Tf.of HF3.out).mono (by intro i hi;simp only[a0w,a0x,or_false] at hi ⊢;omega)).trans ht5 (by intro i hi;left;simp only[a0w,a0x,or_false] at hi ⊢;omega));clear hv5 ho5 ht5;go_wp2_with (fail);go_end0;rw[HE.out];exact⟨⟨⟨v5,HD5.out⟩,HT5.out⟩,Or.inl ⟨rfl,_,rfl⟩⟩
  ·have HE:=a0z (cI (l:=l) hs hy hy0);have HY:=a0z hy0;clear hs hy hsz hy0;go_enter Tryz.func116,Tryz.ntmps116;go_wp2_with (fail);(with_reducible refine(HENC.out _).mono ?_);rintro e w1 ⟨rfl,hf1⟩;have HF1:=a0z hf1;clear hf1;go_wp2_with (fail);(with_reducible refine(HSO.out _).mono ?_);rintro e w2 ⟨⟨u2,rfl⟩,rfl⟩;have q0:w2.cell? ⟨qv,0,none⟩=some (.pointer (some ⟨V,0,none⟩)):=Aa ((HF1.out.block _ (Ab H2.out) (by simp)).trans H2.out) 0;have q1:w2.cell? ⟨V,0,none⟩=some (.pointer (some ⟨L,0,none⟩)):=Aa (HD.out.drv.fp HF1.out (by simp)) 0;have hltV:=Ab (HD.out.drv.fp HF1.out (by simp));have HFA:=a0z (HF1.out.alloc' (.cells #[.string s] 9));go_wp2_with (fail);(with_reducible refine(HAP.out _ w2.heap.size HFA.out (Ai rfl _)).mono ?_);rintro e w3 ⟨rfl,hd3,hl3,hf3⟩;have HD3:=a0z ((HD.out.calm HFA.out).turned hf3 hd3 hl3);have HF3:Hid (Fp [b,bm,L] w w3):=a0z ((HFA.out.mono (by simp)).trans hf3 (by intro i hi;exact Or.inl hi));clear hd3 hl3 hf3;go_wp2_with (fail);(with_reducible refine(HSB.out _ y HY.out).mono ?_);rintro e w4 ⟨rfl,rfl⟩;go_wp2_with (fail);refine⟨rfl,?_⟩;rw[HE.out];exact⟨⟨⟨v,HD3.out⟩,(Tf.of HF3.out).mono (by intro i hi;simp only[a0w,a0x,or_false] at hi ⊢;omega)⟩,Or.inr ⟨HY.out,rfl⟩⟩
 ·have HE:=a0z (cH (d:=d) (lg:=lg) (l:=l) hs hx);have HX:=a0z hx;clear hs hx;go_enter Tryz.func116,Tryz.ntmps116;go_wp2_with (fail);(with_reducible refine(HENC.out _).mono ?_);rintro e w1 ⟨rfl,hf1⟩;have HF1:=a0z hf1;clear hf1;go_wp2_with (fail);(with_reducible refine(HSB.out _ x HX.out).mono ?_);rintro e w4 ⟨rfl,rfl⟩;go_wp2_with (fail);refine⟨rfl,?_⟩;rw[HE.out];exact⟨⟨⟨v,HD.out.calm HF1.out⟩,(Tf.of HF1.out).mono (by simp)⟩,Or.inr ⟨HX.out,rfl⟩⟩
end
section
open Go.RowKit Go.Lib Go.Maps Go.MapKept Go.ChangeMaps
variable {w w' : World} {base b bm L V : Nat} {v : Value} {d : Dk} {lg : Lg} {l : List Aj}
theorem Kz.ahead{r:Jz}{A B:World}(h:Kz base b bm L V r A B)(hf:Fp [] w A):Kz base b bm L V r w B:=⟨h.1,((Tf.of hf:Tf base [42] [] w A).mono (by simp)).trans h.2 (by intro i hi;exact Or.inl hi)⟩
theorem cJ(w:World)(base b bm L V:Nat)(v:Value)(d:Dk)(lg:Lg)(l:List Aj)(j:Aj)(hD:C7 w base b bm L V v d lg l)(hok:Ak d)(hj:Gy j)(ht:Ce w)
  (hto:lg.name.size≤1000)(hm:lg.many≤100000)(hn:l.length≤100000):
  Calls Tryz.prog 63 #[.pointer (some ⟨V,0,none⟩),Bq j] w fun e w'=>e=.returned (.int .i64 (Dp d lg l j).e)∧Kz base b bm L V (Dp d lg l j) w w':=by
 obtain⟨W,hW⟩:∃W,W=(w.alloc (.cells #[.pointer (some ⟨V,0,none⟩)] 54)).alloc (.cells (Bo j).toArray 42):=⟨_,rfl⟩
 have hfW:Fp [] w W:=by rw[hW];exact(Fp.alloc _ _).alloc' _
 have hb1:W.heap[w.heap.size]?=some (.cells #[.pointer (some ⟨V,0,none⟩)] 54 (0,0)):=by rw[hW];exact Cb (Ai rfl _)
 have hb2:W.heap[w.heap.size+1]?=some (.cells (Bo j).toArray 42 (0,0)):=by rw[hW];exact Ai (by simp) _
 have hDW:=hD.calm hfW
 have HTR:Hid (Calls Tryz.prog 45 #[.func (.func 116) #[] #[.pointer (some ⟨w.heap.size+1,0,none⟩),.pointer (some ⟨w.heap.size,0,none⟩)]] W fun e w'=>e=.returned (.int .i64 (Dp d lg l j).e)∧Kz base b bm L V (Dp d lg l j) W w'):=a0z (by
  refine(aI W 116 _ (enters_of Tryz.func116 (by kernel_rfl) rfl)
   (fun A=>(Dp d lg l j).e=0∧(∃v',C7 A base b bm L V v' (Dp d lg l j).d (Dp d lg l j).lg (Dp d lg l j).l∧W.heap.size∉Kv v')∧Tf base [42] [b,bm,L,V] W A)
   (fun x A=>(Dp d lg l j).e=x∧(∃v',C7 A base b bm L V v' (Dp d lg l j).d (Dp d lg l j).lg (Dp d lg l j).l∧W.heap.size∉Kv v')∧Tf base [42] [b,bm,L,V] W A) ?_ ?_ ?_).mono ?_
  ·intro W2 hf hsz hcell;have hfw:=hfW.trans hf (by simp);have hD2:=hDW.calm hf;refine(oU W2 base b bm L V (w.heap.size+1) w.heap.size v d lg l j hD2 hok hj (ht.fp hfw (by simp)) hto hm hn ((hf.block _ (Ab hb2) (by simp)).trans hb2) ((hf.block _ (Ab hb1) (by simp)).trans hb1)).mono ?_;rintro e W3 ⟨⟨⟨v',hD3⟩,htf⟩,he⟩
   have hnb:W.heap.size∉[b,bm,L,V]:=by
    have l1:=Ab hDW.disk.cells;have l2:=hDW.disk.files.lt;have l3:=Ab hDW.log;have l4:=Ab hDW.drv;simp only[a0w,a0x,or_false];omega
   have hc3:=htf.cells hcell hnb (by decide);have htW:Tf base [42] [b,bm,L,V] W W3:=((Tf.of hf:Tf base [42] [] W W2).mono (by simp)).trans htf (by intro i hi;exact Or.inl hi);have hoff:=own_off hD3.own hc3 (by decide);refine⟨hc3,?_⟩
   rcases he with⟨h0,u,rfl⟩|⟨h0,rfl⟩
   ·exact Or.inl ⟨⟨u,rfl⟩,h0,⟨v',hD3,hoff⟩,htW⟩
   ·exact Or.inr ⟨_,h0,rfl,rfl,⟨v',hD3,hoff⟩,htW⟩
  ·rintro A B ⟨h0,⟨v',h1,h2⟩,h3⟩ hf;refine⟨h0,⟨v',h1.of_fp hf ?_,h2⟩,h3.trans (Tf.of hf) (by intro i hi;right;rw[List.mem_singleton.1 hi];exact Nat.le_refl _)⟩;intro k hk hm;obtain rfl:=List.mem_singleton.1 hm
   rcases List.mem_append.1 hk with h|h
   ·have l1:=Ab hDW.disk.cells;have l2:=hDW.disk.files.lt;have l3:=Ab hDW.log;have l4:=Ab hDW.drv;simp only[a0w,a0x,or_false] at h;omega
   ·exact h2 h
  ·rintro x A B ⟨h0,⟨v',h1,h2⟩,h3⟩ hf;refine⟨h0,⟨v',h1.of_fp hf ?_,h2⟩,h3.trans (Tf.of hf) (by intro i hi;right;rw[List.mem_singleton.1 hi];exact Nat.le_refl _)⟩;intro k hk hm;obtain rfl:=List.mem_singleton.1 hm
   rcases List.mem_append.1 hk with h|h
   ·have l1:=Ab hDW.disk.cells;have l2:=hDW.disk.files.lt;have l3:=Ab hDW.log;have l4:=Ab hDW.drv;simp only[a0w,a0x,or_false] at h;omega
   ·exact h2 h
  ·rintro e A (⟨rfl,h0,⟨v',h1,_⟩,h3⟩|⟨x,_,rfl,h0,⟨v',h1,_⟩,h3⟩)
   ·exact⟨by rw[h0],⟨v',h1⟩,h3⟩
   ·exact⟨by rw[h0],⟨v',h1⟩,h3⟩)
 have HF:=a0z hfW;rw[hW] at HTR HF
 obtain⟨r,hr⟩:∃r,Dp d lg l j=r:=⟨_,rfl⟩
 rw[hr] at HTR ⊢;obtain⟨ji,jp,jx,jn⟩:=j;unfold Bo at HTR HF;unfold Bq Bo;simp only at HTR HF ⊢
 have hmf:∀(fn:Fn) (first cap:Array Value) (w:World),(Instr.makeFunc fn first cap).run Tryz.prog w=.ok (.func fn first cap) w:=fun _ _ _ _=>rfl
 clear hr hW hDW hb1 hb2 hfW hD ht hj hok;go_enter Tryz.func63,Tryz.ntmps63;go_wp2_with (fail);(with_reducible refine HTR.out.mono ?_);rintro e w2 ⟨rfl,ht2⟩;have HT2:=a0z (ht2.ahead HF.out);clear ht2;go_wp2_with (fail);go_ret;exact⟨rfl,HT2.out⟩
def J0(d:Dk)(lg:Lg)(l:List Aj)(id:Nat)(input:ByteArray):Jz:=match R1 l id input with
 |.inl j=>Dp d lg l j
 |.inr e=>⟨d,lg,l,e⟩
def J1(d:Dk)(lg:Lg)(l:List Aj)(id:Nat)(phase e:Int):Jz:=match R2 l id phase e with
 |.inl j=>Dp d lg l j
 |.inr e=>⟨d,lg,l,e⟩
theorem cK{id:Nat}{j:Aj}(h:F6 l id=some j):Gs l id=j∧Gt l id=true∧j∈l∧j.id=id:=by
 unfold Gs Gt;rw[h];unfold F6 at h;exact⟨rfl,rfl,List.mem_of_find?_eq_some h,by simpa using List.find?_some h⟩
theorem cL{id:Nat}(h:F6 l id=none):Gs l id=Fg∧Gt l id=false:=by
 unfold Gs Gt;rw[h];exact⟨rfl,rfl⟩
theorem cM{s t:ByteArray}(h:s≠t):(s.toList==t.toList)=false:=by
 rw[beq_eq_false_iff_ne]
 exact fun e=>h (mH e)
theorem cN(w:World)(base b bm L V:Nat)(v:Value)(d:Dk)(lg:Lg)(l:List Aj)(id:Nat)(input:ByteArray)(hD:C7 w base b bm L V v d lg l)(hok:Ak d)(hid:id<18446744073709551616)(hin:input.size≤1000000000)(ht:Ce w)
  (hto:lg.name.size≤1000)(hm:lg.many≤100000)(hn:l.length≤100000):
  Calls Tryz.prog 23 #[.pointer (some ⟨V,0,none⟩),.int .u64 id,.string input] w fun e w'=>e=.returned (.int .i64 (J0 d lg l id input).e)∧Kz base b bm L V (J0 d lg l id input) w w':=by
 have HFI:=a0z (T8 w base V L id v l hD.drv hD.own (by omega));have HD:=a0z hD;have HTL:=a0z (fun W (hf:Fp [] w W)=>cJ W base b bm L V v d lg l ⟨id,1,0,input⟩ (hD.calm hf) hok ⟨hid,(show(-9223372036854775808:Int)≤1 by decide),(show(1:Int)≤9223372036854775807 by decide),(show(-9223372036854775808:Int)≤0 by decide),(show(0:Int)≤9223372036854775807 by decide),hin⟩ (ht.fp hf (by simp)) hto hm hn);clear hD ht
 cases hf:F6 l id with
 |none=>
  obtain⟨h1,h2⟩:=cL hf;rw[h1,h2] at HFI;unfold Fg Bq Bo at HFI;simp only at HFI
  have HE:Hid (J0 d lg l id input=Dp d lg l ⟨id,1,0,input⟩):=by unfold Hid J0 R1;rw[hf]
  rw[HE.out]
  obtain⟨r,hr⟩:∃r,Dp d lg l ⟨id,1,0,input⟩=r:=⟨_,rfl⟩
  rw[hr] at HTL ⊢;unfold Bq Bo at HTL;simp only at HTL;clear hf h1 h2 hr HE;go_enter Tryz.func23,Tryz.ntmps23;go_wp2_with (fail);(with_reducible refine HFI.out.mono ?_);rintro e w1 ⟨rfl,hf1⟩;have HF1:=a0z (hf1.alloc' (.cells #[.int .u64 0,.int .i64 0,.int .i64 0,.string ⟨#[]⟩] 42));clear hf1;go_wp2_with (fail);(with_reducible refine(HTL.out _ HF1.out).mono ?_);rintro e w2 ⟨rfl,ht2⟩;have HT2:=a0z (ht2.ahead HF1.out);clear ht2;go_wp2_with (fail);go_ret;exact⟨rfl,HT2.out⟩
 |some j=>
  obtain⟨h1,h2,-,-⟩:=cK hf;rw[h1,h2] at HFI;obtain⟨ji,jp,jx,jn⟩:=j;unfold Bq Bo at HFI;simp only at HFI
  by_cases hi:jn=input
  ·subst hi
   have HE:Hid (J0 d lg l id jn=⟨d,lg,l,0⟩):=by unfold Hid J0 R1;rw[hf];simp
   rw[HE.out];clear hf h1 h2 HE HTL;go_enter Tryz.func23,Tryz.ntmps23;go_wp2_with (fail);(with_reducible refine HFI.out.mono ?_);rintro e w1 ⟨rfl,hf1⟩;have HF1:=a0z (hf1.alloc' (.cells #[.int .u64 ji,.int .i64 jp,.int .i64 jx,.string jn] 42));clear hf1;go_wp2_with (fail);go_ret;exact⟨rfl,⟨v,HD.out.calm HF1.out⟩,(Tf.of HF1.out).mono (by simp)⟩
  ·have hne:=cM hi
   have HE:Hid (J0 d lg l id input=⟨d,lg,l,191⟩):=by unfold Hid J0 R1;rw[hf];simp[hi]
   rw[HE.out];clear hf h1 h2 HE HTL hi;go_enter Tryz.func23,Tryz.ntmps23;go_wp2_with (fail);(with_reducible refine HFI.out.mono ?_);rintro e w1 ⟨rfl,hf1⟩;have HF1:=a0z (hf1.alloc' (.cells #[.int .u64 ji,.int .i64 jp,.int .i64 jx,.string jn] 42));clear hf1;go_wp2_with (fail);go_ret;exact⟨rfl,⟨v,HD.out.calm HF1.out⟩,(Tf.of HF1.out).mono (by simp)⟩
theorem cO(w:World)(base b bm L V:Nat)(v:Value)(d:Dk)(lg:Lg)(l:List Aj)(id:Nat)(phase x:Int)(hD:C7 w base b bm L V v d lg l)(hok:Ak d)(hjs:∀j∈l,Gy j)
  (p0: -9223372036854775808≤phase)(p1:phase≤9223372036854775807)(e0: -9223372036854775808≤x)(e1:x≤9223372036854775807)(ht:Ce w)
  (hto:lg.name.size≤1000)(hm:lg.many≤100000)(hn:l.length≤100000):
  Calls Tryz.prog 24 #[.pointer (some ⟨V,0,none⟩),.int .u64 id,.int .i64 phase,.int .i64 x] w fun e w'=>e=.returned (.int .i64 (J1 d lg l id phase x).e)∧Kz base b bm L V (J1 d lg l id phase x) w w':=by
 have HFI:=a0z (T8 w base V L id v l hD.drv hD.own (by omega));have HD:=a0z hD;have HTL:=a0z (fun j (hj:Gy j) W (hf:Fp [] w W)=>cJ W base b bm L V v d lg l j (hD.calm hf) hok hj (ht.fp hf (by simp)) hto hm hn);clear hD ht
 cases hf:F6 l id with
 |none=>
  obtain⟨h1,h2⟩:=cL hf;rw[h1,h2] at HFI;unfold Fg Bq Bo at HFI;simp only at HFI
  have HE:Hid (J1 d lg l id phase x=⟨d,lg,l,3⟩):=by unfold Hid J1 R2;rw[hf]
  rw[HE.out];clear hf h1 h2 HE HTL;go_enter Tryz.func24,Tryz.ntmps24;go_wp2_with (fail);(with_reducible refine HFI.out.mono ?_);rintro e w1 ⟨rfl,hf1⟩;have HF1:=a0z (hf1.alloc' (.cells #[.int .u64 0,.int .i64 0,.int .i64 0,.string ⟨#[]⟩] 42));clear hf1;go_wp2_with (fail);go_ret;exact⟨rfl,⟨v,HD.out.calm HF1.out⟩,(Tf.of HF1.out).mono (by simp)⟩
 |some j=>
  obtain⟨h1,h2,hmem,-⟩:=cK hf;have hjo:=hjs j hmem;rw[h1,h2] at HFI;obtain⟨ji,jp,jx,jn⟩:=j;obtain⟨o1,o2,o3,o4,o5,o6⟩:=hjo;simp only at o1 o2 o3 o6;unfold Bq Bo at HFI;simp only at HFI
  by_cases hbad:4≤jp∨phase<1∨5<phase
  ·have HE:Hid (J1 d lg l id phase x=⟨d,lg,l,5⟩):=by unfold Hid J1 R2;rw[hf];simp only[hbad,if_true]
   rw[HE.out]
   have hb3:4≤jp∨(¬4≤jp∧phase<1)∨(¬4≤jp∧¬phase<1∧5<phase):=by omega
   clear hf h1 h2 HE HTL hbad
   rcases hb3 with c1|⟨c1,c2⟩|⟨c1,c2,c3⟩
   all_goals
    go_enter Tryz.func24,Tryz.ntmps24;go_wp2_with (fail);(with_reducible refine HFI.out.mono ?_);rintro e w1 ⟨rfl,hf1⟩;have HF1:=a0z (hf1.alloc' (.cells #[.int .u64 ji,.int .i64 jp,.int .i64 jx,.string jn] 42));clear hf1;go_wp2_with (fail);go_ret;exact⟨rfl,⟨v,HD.out.calm HF1.out⟩,(Tf.of HF1.out).mono (by simp)⟩
  ·have HE:Hid (J1 d lg l id phase x=Dp d lg l ⟨ji,phase,x,jn⟩):=by unfold Hid J1 R2;rw[hf];simp only[hbad,if_false]
   rw[HE.out];have HTL2:=a0z (HTL.out ⟨ji,phase,x,jn⟩ ⟨o1,p0,p1,e0,e1,o6⟩)
   obtain⟨r,hr⟩:∃r,Dp d lg l ⟨ji,phase,x,jn⟩=r:=⟨_,rfl⟩
   rw[hr] at HTL2 ⊢;unfold Bq Bo at HTL2;simp only at HTL2
   have c1:¬4≤jp:=by omega
   have c2:¬phase<1:=by omega
   have c3:¬5<phase:=by omega
   clear hf h1 h2 HE HTL hbad hr o1 o2 o3 o6 p0 p1 e0 e1;go_enter Tryz.func24,Tryz.ntmps24;go_wp2_with (fail);(with_reducible refine HFI.out.mono ?_);rintro e w1 ⟨rfl,hf1⟩;have HF1:=a0z (hf1.alloc' (.cells #[.int .u64 ji,.int .i64 phase,.int .i64 x,.string jn] 42));clear hf1;go_wp2_with (fail);(with_reducible refine(HTL2.out _ HF1.out).mono ?_);rintro e w2 ⟨rfl,ht2⟩;have HT2:=a0z (ht2.ahead HF1.out);clear ht2;go_wp2_with (fail);go_ret;exact⟨rfl,HT2.out⟩
end
section
open Go.RowKit Go.Lib Go.Maps Go.MapKept Go.ChangeMaps
def Dv:ByteArray:=⟨#[74,79,66,83]⟩
def oV(w:World)(b bm:Nat)(d2:Dk)(n:Nat)(l:List Aj)(e:Ending)(w':World):Prop:=
 ∃L V v,e=.returned (.tuple #[.pointer (some ⟨V,0,none⟩),.int .i64 0])∧C7 w' w.heap.size b bm L V v d2 ⟨⟨#[74,79,66,83]⟩,n,false⟩ l∧w.heap.size≤L∧w.heap.size≤V∧Fp [b,bm] w w'
theorem Ru(w:World)(b bm:Nat)(d d2:Dk)(texts:List ByteArray)(hd:Ah w b bm d)(hok:Ak d)(ht:Ce w)(hrs:(d.read Dv).1.size≤100000000)
  (ho:d.wOpen Dv=(d2,0,texts))(hdec:∀t∈texts,(D3 t).2=0∧t.size≤1000000000)(hn:texts.length≤90000):
  Calls Tryz.prog 22 #[.pointer (some ⟨b,0,none⟩)] w fun e w'=>oV w b bm d2 texts.length (An texts) e w':=by
 have HC:=a0z (Abi w b bm d Dv hd hok (by decide) ht hrs);rw[ho] at HC;have hlb:=Ab hd.cells;have hlm:=hd.files.lt;have HDEC:=a0z hdec;clear hd hok ht ho hdec;rw[show Dv=⟨#[74,79,66,83]⟩ from rfl] at HC;go_enter Tryz.func22,Tryz.ntmps22;go_wp2_with (fail);(with_reducible refine HC.out.mono ?_);rintro e w1 ⟨hd1,hf1,h2⟩
 have h2:∃L v,e=.returned (.tuple #[.pointer (some ⟨L,0,none⟩),v,.int .i64 0])∧w.heap.size≤L∧B5 w1 L b ⟨⟨#[74,79,66,83]⟩,texts.length,false⟩∧B9 w1 w.heap.size v texts:=by
  rcases h2 with⟨h3,_⟩|⟨_,h3⟩
  ·exact absurd rfl h3
  ·exact h3
 obtain⟨L,v,rfl,hL,hl1,ho1⟩:=h2;simp only at hd1
 have hsl:∃a cap,v=.slice a texts.length cap∧(texts=[]∨∃g cur,a=some ⟨g,0,none⟩∧w1.heap[g]?=some (.cells cur 9 (0,0))∧∀i (hi:i<texts.length),cur[i]?=some (.string texts[i])):=by
  rcases ho1.2 with⟨rfl,h0⟩|⟨g,cap,cur,rfl,_,hh,_,_,_,htk⟩
  ·exact⟨none,0,by rw[h0],Or.inl (List.eq_nil_of_length_eq_zero h0)⟩
  ·refine⟨_,_,rfl,Or.inr ⟨g,cur,rfl,hh,fun i hi=>?_⟩⟩;have h3:=congrArg (fun l=>l[i]?) htk;simp only[Nat.mul_one,List.getElem?_take,hi,if_true,Array.getElem?_toList,List.getElem?_map,List.getElem?_eq_getElem hi,Option.map_some] at h3;exact h3
 obtain⟨a,cap,rfl,htx⟩:=hsl;have hw1:w.heap.size≤w1.heap.size:=hf1.size
 have hD0:C7 (w1.alloc (.cells #[.pointer (some ⟨L,0,none⟩),.slice none 0 0] 123)) w.heap.size b bm L w1.heap.size (.slice none 0 0) d2 ⟨⟨#[74,79,66,83]⟩,texts.length,false⟩ []:=
  ⟨hd1.of_fp (Fp.alloc _ _) (by simp) (by simp),hl1.fp (Fp.alloc _ _) (by simp),Ai rfl _,Ae.nil _ _,by simp;omega⟩
 have htx0:texts=[]∨∃g cur,a=some ⟨g,0,none⟩∧g≠w1.heap.size∧(w1.alloc (.cells #[.pointer (some ⟨L,0,none⟩),.slice none 0 0] 123)).heap[g]?=some (.cells cur 9 (0,0))∧∀i (hi:i<texts.length),cur[i]?=some (.string texts[i]):=by
  rcases htx with h|⟨g,cur,e,hh,hc⟩
  ·exact Or.inl h
  ·exact Or.inr ⟨g,cur,e,by have:=Ab hh;omega,Cb hh,hc⟩
 have hfD:Fp [b,bm] w (w1.alloc (.cells #[.pointer (some ⟨L,0,none⟩),.slice none 0 0] 123)):=hf1.alloc' _
 obtain⟨V,hV⟩:∃V,w1.heap.size=V:=⟨_,rfl⟩
 have hwV:w.heap.size≤V:=by omega
 have HD0:=a0z hD0;have HTX0:=a0z htx0;have HFD:=a0z hfD;have HL:=a0z hL;clear hd1 hf1 hl1 ho1 htx hD0 htx0 hfD hL;go_wp2_with (fail);rw[hV] at HD0 HTX0
 try rw[hV]
 obtain⟨w2,hw2⟩:∃x,w1.alloc (.cells #[.pointer (some ⟨L,0,none⟩),.slice none 0 0] 123)=x:=⟨_,rfl⟩
 rw[hw2] at HD0 HTX0 HFD
 try rw[hw2]
 clear hw2 hV hw1
 go_loopg [26] texts.length (fun g vi W=>∃(k:Nat) (v:Value),g+k=texts.length∧vi=.int .i64 k∧C7 W w.heap.size b bm L V v d2 ⟨⟨#[74,79,66,83]⟩,texts.length,false⟩ (An (texts.take k))∧Fp [b,bm] w W∧
  (texts=[]∨∃g cur,a=some ⟨g,0,none⟩∧g≠V∧W.heap[g]?=some (.cells cur 9 (0,0))∧∀i (hi:i<texts.length),cur[i]?=some (.string texts[i])))
 case atStart=>exact⟨0,_,by omega,rfl,HD0.out,HFD.out,HTX0.out⟩
 case round=>
  obtain⟨k,v,hg,rfl,hD,hf,htx⟩:=hrel;have HD:=a0z hD;have HF:=a0z hf;clear hD hf
  by_cases hk:k<texts.length
  ·have zk:(k:Int)<(texts.length:Int):=by omega
   obtain⟨g,cur,rfl,hgV,hh,hc⟩:∃g cur,a=some ⟨g,0,none⟩∧g≠V∧wr.heap[g]?=some (.cells cur 9 (0,0))∧∀i (hi:i<texts.length),cur[i]?=some (.string texts[i]):=by
    rcases htx with h|h
    ·rw[h] at hk;exact absurd hk (Nat.not_lt_zero _)
    ·exact h
   have hcell:wr.cell? ⟨g,k,none⟩=some (.string texts[k]):=(Aa hh k).trans (hc k hk);obtain⟨hd0,hts⟩:=HDEC.out texts[k] (List.getElem_mem hk)
   have hsn:An (texts.take (k+1))=Eb (An (texts.take k)) (D3 texts[k]).1:=by rw[List.take_succ_eq_append_getElem hk,Qb]
   have hjl:(An (texts.take k)).length≤100000:=by
    have h1:=dX (texts.take k);rw[List.length_take] at h1;omega
   obtain⟨t,htt⟩:∃t,texts[k]=t:=⟨_,rfl⟩
   rw[htt] at hcell hd0 hts hsn;have HDE:=a0z (fun w=>Xy w t hts)
   obtain⟨⟨j,x⟩,hj⟩:∃r,D3 t=r:=⟨_,rfl⟩
   rw[hj] at HDE hd0 hsn;obtain rfl:x=0:=hd0;have HH:=a0z hh;have HCU:=a0z hc;have HSN:=a0z hsn;have HPUT:=a0z (fun W v l (h1:C7 W w.heap.size b bm L V v d2 ⟨⟨#[74,79,66,83]⟩,texts.length,false⟩ l) (h2:l.length≤100000)=>aF W w.heap.size V L v l j h1.drv h1.own h1.base h2);obtain⟨ji,jp,jx,jn⟩:=j;unfold Bq Bo at HDE HPUT;simp only at HDE HPUT;clear hh hc hsn htt hj hts htx;go_wp2_with (fail);(with_reducible refine(HDE.out _).mono ?_);rintro e w3 ⟨rfl,hf3⟩;have HF3:=a0z (hf3.alloc' (.cells #[.int .u64 ji,.int .i64 jp,.int .i64 jx,.string jn] 42));clear hf3;have HD3:=a0z (HD.out.calm HF3.out);go_wp2_with (fail);(with_reducible refine(HPUT.out _ _ _ HD3.out hjl).mono ?_);rintro e w4 ⟨rfl,⟨v4,hv4,ho4⟩,ht4⟩;have HD4:=a0z (HD3.out.putted ht4 hv4 ho4);have HF4:Hid (Fp [b,bm] w w4):=a0z (ht4.onto (HF.out.trans HF3.out (by simp)) (Nat.le_refl _) (by intro i hi;right;rw[List.mem_singleton.1 hi];exact hwV));have HH4:=a0z (ht4.cells ((HF3.out.block _ (Ab HH.out) (by simp)).trans HH.out) (by simpa using hgV) (by decide));clear hv4 ho4 ht4;go_wp2_with (fail)
   go_roundg (gk-1)
   case measure=>omega
   case rel=>exact⟨k+1,v4,by omega,by go_num,by rw[HSN.out];exact HD4.out,HF4.out,Or.inr ⟨g,cur,rfl,hgV,HH4.out,HCU.out⟩⟩
  ·have zk:¬(k:Int)<(texts.length:Int):=by omega
   have htk:texts.take k=texts:=by rw[List.take_of_length_le (by omega)]
   have hD2:=HD.out;rw[htk] at hD2;have HD2:=a0z hD2;clear htk hD2;go_wp2_with (fail);go_ret2;exact⟨L,V,v,rfl,HD2.out,HL.out,hwV,HF.out⟩
end
end Go.Proofs.YtkagolpnaicdoaaGreatDoor
