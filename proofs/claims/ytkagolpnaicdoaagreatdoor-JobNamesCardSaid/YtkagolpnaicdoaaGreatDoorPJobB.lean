/-
 'p.Files, p.Sums = append(p.Files, s), append(p.Sums, crc.Sum(s))': the class of worlds on the way (for XRegionV). cut.All, walked. Lines of input: words, pieces between a byte. odd, Word, name. The steps of line: one for each word.
-/
import Derived.Test.YtkagolpnaicdoaaGreatDoorPCutF
import Derived.Test.YtkagolpnaicdoaaGreatDoorPBlkC
import Derived.Test.YtkagolpnaicdoaaGreatDoorPCellPure
import Derived.Shelf.GgClosure.StringsIndexFunc
import Derived.Laws.RangeAny
import Derived.Lib.Split
import Derived.Test.YtkagolpnaicdoaaGreatDoorPRegion
import Derived.Test.YtkagolpnaicdoaaGreatDoorPMaps
import Derived.Test.YtkagolpnaicdoaaGreatDoorPShelf
import Derived.Test.YtkagolpnaicdoaaGreatDoorPTabA
set_option maxRecDepth 100000
set_option maxHeartbeats 8000000
open Go.Lib renaming hid→a0z
open Nat renaming le_trans→a0x,le_refl→a0u
open List renaming length_append→a0w,getElem?_eq_getElem→a0v,length_map→a1z,drop_eq_nil_of_le→a1x
open ByteArray renaming size_extract→a1w
namespace Go.Proofs.YtkagolpnaicdoaaGreatDoor
section
open Go.RowKit Go.Lib
theorem Fp.belowQ{S:List Nat}{a b c:World}(h:Fp S a b)(k:Below a.heap.size b c):Fp S a c:=
 ⟨k.os.trans h.os,k.tape.trans h.tape,k.output.trans h.output,a0x h.size k.size,fun i hi hn=>(k.block i hi).trans (h.block i hi hn)⟩
theorem Bg.typed{e:TypeId}{w:World}{base:Nat}{v:Value}{l:List Value}(h:Bg e w base v l):∀q,v.ownBlock=some q→base≤q∧∃c fz,w.heap[q]?=some (.cells c e fz):=by
 intro q hq
 rcases h.2 with⟨rfl,_⟩|⟨g,cap,cur,rfl,hg,hh,_⟩
 ·cases hq
 ·obtain rfl:g=q:=by simpa [Value.ownBlock] using hq
  exact⟨hg,_,_,hh⟩
theorem Bg.keptT{e:TypeId}{w w':World}{base:Nat}{S:List Nat}{v:Value}{l:List Value}(h:Bg e w base v l)(hk:Av e base S w w'):Bg e w' base v l:=by
 refine⟨h.1,?_⟩
 rcases h.2 with h4|⟨g,cap,cur,hv,hg,hh,hr⟩
 ·exact Or.inl h4
 ·exact Or.inr ⟨g,cap,cur,hv,hg,(hk.high g _ _ hg hh).trans hh,hr⟩
theorem Bg.sl{e:TypeId}{w:World}{base:Nat}{v:Value}{l:List Value}(h:Bg e w base v l):∃a n c,v=.slice a n c:=by
 rcases h.2 with⟨rfl,_⟩|⟨g,cap,cur,rfl,_⟩
 ·exact⟨_,_,_,rfl⟩
 ·exact⟨_,_,_,rfl⟩
theorem cP(T e:TypeId){z:Value}{bytes:Nat}(hu:Tryz.prog.underlying T=some (.slice e))(hinfo:(Tryz.prog.info? e).map (fun i=>(i.zero,i.size,i.bytes))=some (some z,1,bytes))(hzs:z.cells.size=1)(hby:bytes≤100000)
  {w:World}{o:Oper}{a:Act}{K:Act→World→Prop}{Q:Exit→Act→World→Prop}(s x:Operand)
  (ho:o.op=.call {callee:=.builtin .append,args:=#[s,x],argTypes:=#[T,T]})(base:Nat)(v:Value)(l:List Value)(hs:a.eval s=v)(hown:Bg e w base v l)
  (g:Nat)(t:Value)(ht:t.oneCell'=true)(hx:a.eval x=.slice (some ⟨g,0,none⟩) 1 1)(hg:w.cell? ⟨g,0,none⟩=some t)(hlen:l.length+1≤1000000000)(hbase:base≤w.heap.size)
  (h:∀v' w',Bg e w' base v' (l++[t])→Below base w w'→(∀D,D≠e→Av D base [] w w')→K (a.put o.dst v') w'):o.wp Tryz.prog a w K Q:=by
 obtain⟨i0,hi,hz0,hz1,hz2⟩:=info_parts hinfo;refine wp_append_own (P:=Tryz.prog) w s x T ho base e i0 _ 1 bytes hu hi hz0 hz1 hz2 hzs (by decide) v l.length l hs hown ⟨g,0,none⟩ 1 1 [t] hx rfl (X5 hg) (by intro u hu;simp at hu;subst hu;exact ht) (by unfold maxLen;omega) (a0x (Nat.mul_le_mul (show l.length+1≤1000000000 by omega) hby) (by decide)) hbase ?_;intro v' w' h1 h2 _
 refine h v' w' ?_ ((Below.refl base w).grown h2 hbase (fun k hk=>(World.ownsRow.lt hown k hk).1)) fun D hD=>Xe (Bg.typed hown) h2 hD
 unfold Bg;rw[a0w];exact h1
theorem Tryz.infoU32:(Tryz.prog.info? 26).map (fun i=>(i.zero,i.size,i.bytes))=some (some (.int .u32 0),1,4):=by kernel_rfl
structure Eh(w W0:World)(base p:Nat)(sum ep vF vS:Value)(fl sl:List Value)(s c:Value)(b:Nat→Bool)(vs:Nat→Value)(W:World):Prop where
 f0:b 4=false→Bg 9 W base vF fl
 f1:b 4=true→Bg 9 W base (vs 4) (fl++[s])
 s0:b 10=false→Bg 26 W base vS sl
 s1:b 10=true→Bg 26 W base (vs 10) (sl++[c])
 fb:b 3=true→b 4=false→∃g,vs 3=.slice (some ⟨g,0,none⟩) 1 1∧base≤g∧W.heap[g]?=some (.cells #[s] 9 (0,0))
 sb:b 9=true→b 10=false→∃g,vs 9=.slice (some ⟨g,0,none⟩) 1 1∧base≤g∧W.heap[g]?=some (.cells #[c] 26 (0,0))
 cel:W.heap[p]?=some (.cells #[sum,ep,cond (b 12) (vs 4) vF,cond (b 14) (vs 10) vS] 29 (0,0))
 kept:∀D,D≠9→D≠26→Av D base [p] W0 W
 fp:Fp [p] w W
 o12:b 12=true→b 4=true
 o14:b 14=true→b 10=true
 o4:b 4=true→b 3=true
 o10:b 10=true→b 9=true
 sz:base≤W.heap.size
variable {w W0 W W2 : World} {base p : Nat} {sum ep vF vS : Value} {fl sl : List Value} {s c : Value} {b : Nat → Bool} {vs : Nat → Value}
theorem Eh.start{vs:Nat→Value}(hf:Bg 9 W0 base vF fl)(hs:Bg 26 W0 base vS sl)(hc:W0.heap[p]?=some (.cells #[sum,ep,vF,vS] 29 (0,0)))(hfp:Fp [p] w W0)(hb:base≤W0.heap.size)(hp:p<base):Eh w W0 base p sum ep vF vS fl sl s c (fun _=>false) vs {W0 with drawn:=W0.drawn+1}:=
 ⟨fun _=>hf.fp (Fp.drew W0) (by simp),(fun h=>by cases h),fun _=>hs.fp (Fp.drew W0) (by simp),(fun h=>by cases h),(fun h=>by cases h),(fun h=>by cases h),hc,fun _ _ _=>Av.of ((Fp.drew W0).mono (by simp)) (by simpa using hp),hfp.trans (Fp.drew W0) (by simp),(fun h=>by cases h),(fun h=>by cases h),(fun h=>by cases h),(fun h=>by cases h),hb⟩
theorem Eh.plain{j:Nat}{x:Value}(h:Eh w W0 base p sum ep vF vS fl sl s c b vs W)(hj:j≠3∧j≠4∧j≠9∧j≠10∧j≠12∧j≠14):Eh w W0 base p sum ep vF vS fl sl s c (Ap b j) (Bw vs j x) W:=by
 obtain⟨h3,h4,h9,h10,h12,h14⟩:=hj;refine⟨?_,?_,?_,?_,?_,?_,?_,h.kept,h.fp,?_,?_,?_,?_,h.sz⟩
 ·rw[Af h4.symm];exact h.f0
 ·rw[Af h4.symm,Bc h4.symm];exact h.f1
 ·rw[Af h10.symm];exact h.s0
 ·rw[Af h10.symm,Bc h10.symm];exact h.s1
 ·rw[Af h3.symm,Af h4.symm,Bc h3.symm];exact h.fb
 ·rw[Af h9.symm,Af h10.symm,Bc h9.symm];exact h.sb
 ·rw[Af h12.symm,Af h14.symm,Bc h4.symm,Bc h10.symm];exact h.cel
 ·rw[Af h12.symm,Af h4.symm];exact h.o12
 ·rw[Af h14.symm,Af h10.symm];exact h.o14
 ·rw[Af h4.symm,Af h3.symm];exact h.o4
 ·rw[Af h10.symm,Af h9.symm];exact h.o10
theorem Eh.on(h:Eh w W0 base p sum ep vF vS fl sl s c b vs W)(hf:Fp [] W W2):Eh w W0 base p sum ep vF vS fl sl s c b vs W2:=by
 refine⟨fun e=>(h.f0 e).fp hf (by simp),fun e=>(h.f1 e).fp hf (by simp),fun e=>(h.s0 e).fp hf (by simp),fun e=>(h.s1 e).fp hf (by simp),fun e1 e2=>?_,fun e1 e2=>?_,(hf.block _ (Ab h.cel) (by simp)).trans h.cel,fun D h1 h2=>(h.kept D h1 h2).trans (Av.of hf (by simp)) (by simp),h.fp.trans hf (by simp),h.o12,h.o14,h.o4,h.o10,a0x h.sz hf.size⟩
 ·obtain⟨g,g1,g2,g3⟩:=h.fb e1 e2;exact⟨g,g1,g2,(hf.block _ (Ab g3) (by simp)).trans g3⟩
 ·obtain⟨g,g1,g2,g3⟩:=h.sb e1 e2;exact⟨g,g1,g2,(hf.block _ (Ab g3) (by simp)).trans g3⟩
theorem Eh.bldF(h:Eh w W0 base p sum ep vF vS fl sl s c b vs W)(h3:b 3=false):Eh w W0 base p sum ep vF vS fl sl s c (Ap b 3) (Bw vs 3 (.slice (some ⟨W.heap.size,0,none⟩) 1 1)) (W.alloc (.cells #[s] 9)):=by
 have h4:=Et h.o4 h3;have k:=h.on (Fp.alloc W (.cells #[s] 9));refine⟨k.f0,k.f1,k.s0,k.s1,fun _ _=>⟨W.heap.size,Gq _ _ _,h.sz,Ai rfl _⟩,k.sb,k.cel,k.kept,k.fp,k.o12,k.o14,fun e=>?_,k.o10,k.sz⟩;rw[Af (by decide),h4] at e;cases e
theorem Eh.bldS(h:Eh w W0 base p sum ep vF vS fl sl s c b vs W)(h9:b 9=false):Eh w W0 base p sum ep vF vS fl sl s c (Ap b 9) (Bw vs 9 (.slice (some ⟨W.heap.size,0,none⟩) 1 1)) (W.alloc (.cells #[c] 26)):=by
 have h10:=Et h.o10 h9;have k:=h.on (Fp.alloc W (.cells #[c] 26));refine⟨k.f0,k.f1,k.s0,k.s1,k.fb,fun _ _=>⟨W.heap.size,Gq _ _ _,h.sz,Ai rfl _⟩,k.cel,k.kept,k.fp,k.o12,k.o14,k.o4,fun e=>?_,k.sz⟩;rw[Af (by decide),h10] at e;cases e
theorem Eh.appF{v':Value}(h:Eh w W0 base p sum ep vF vS fl sl s c b vs W)(h3:b 3=true)(h4:b 4=false)(ho:Bg 9 W2 base v' (fl++[s]))(hb:Below base W W2)(hk:∀D,D≠9→Av D base [] W W2)(hp:p<base)(hwb:w.heap.size≤base):Eh w W0 base p sum ep vF vS fl sl s c (Ap b 4) (Bw vs 4 v') W2:=by
 have h12:=Et h.o12 h4;have hku:=hk 26 (by decide);refine⟨fun e=>?_,fun _=>by rw[Gq];exact ho,fun e=>(h.s0 e).keptT hku,fun e=>(h.s1 e).keptT hku,fun _ e=>?_,fun e1 e2=>?_,?_,fun D h1 h2=>(h.kept D h1 h2).trans (hk D h1) (by simp),h.fp.belowQ (hb.mono hwb),fun _=>Ej _ _,h.o14,fun _=>h3,h.o10,a0x h.sz hb.size⟩
 ·rw[Ej] at e;cases e
 ·rw[Ej] at e;cases e
 ·obtain⟨g,g1,g2,g3⟩:=h.sb e1 e2;exact⟨g,g1,g2,(hku.high g _ _ g2 g3).trans g3⟩
 ·have h6:=h.cel;rw[h12] at h6;rw[Af (by decide),h12];exact(hb.block _ hp).trans h6
theorem Eh.appS{v':Value}(h:Eh w W0 base p sum ep vF vS fl sl s c b vs W)(h9:b 9=true)(h10:b 10=false)(ho:Bg 26 W2 base v' (sl++[c]))(hb:Below base W W2)(hk:∀D,D≠26→Av D base [] W W2)(hp:p<base)(hwb:w.heap.size≤base):Eh w W0 base p sum ep vF vS fl sl s c (Ap b 10) (Bw vs 10 v') W2:=by
 have h14:=Et h.o14 h10;have hku:=hk 9 (by decide);refine⟨fun e=>(h.f0 e).keptT hku,fun e=>(h.f1 e).keptT hku,fun e=>?_,fun _=>by rw[Gq];exact ho,fun e1 e2=>?_,fun _ e=>?_,?_,fun D h1 h2=>(h.kept D h1 h2).trans (hk D h2) (by simp),h.fp.belowQ (hb.mono hwb),h.o12,fun _=>Ej _ _,h.o4,fun _=>h9,a0x h.sz hb.size⟩
 ·rw[Ej] at e;cases e
 ·obtain⟨g,g1,g2,g3⟩:=h.fb e1 e2;exact⟨g,g1,g2,(hku.high g _ _ g2 g3).trans g3⟩
 ·rw[Ej] at e;cases e
 ·have h6:=h.cel;rw[h14] at h6;rw[Af (by decide),Af (by decide),h14];exact(hb.block _ hp).trans h6
theorem Eh.stoF{y:Value}(h:Eh w W0 base p sum ep vF vS fl sl s c b vs W)(h4:b 4=true)(hp:p<base)(hy:vs 4=y):Eh w W0 base p sum ep vF vS fl sl s c (Ap b 12) (Bw vs 12 undef) (W.setCell ⟨p,2,none⟩ y):=by
 have hf:Fp [p] W (W.setCell ⟨p,2,none⟩ y):=Fp.setCell W ⟨p,2,none⟩ y
 have hk:∀D,Av D base [p] W (W.setCell ⟨p,2,none⟩ y):=fun D=>Av.of hf (by simpa using hp)
 refine⟨fun e=>(h.f0 e).keptT (hk _),fun e=>(h.f1 e).keptT (hk _),fun e=>(h.s0 e).keptT (hk _),fun e=>(h.s1 e).keptT (hk _),fun e1 e2=>?_,fun e1 e2=>?_,?_,fun D h1 h2=>(h.kept D h1 h2).trans (hk D) (by simp),h.fp.trans hf (by simp),fun _=>h4,h.o14,h.o4,h.o10,a0x h.sz hf.size⟩
 ·obtain⟨g,g1,g2,g3⟩:=h.fb e1 e2;exact⟨g,g1,g2,((hk _).high g _ _ g2 g3).trans g3⟩
 ·obtain⟨g,g1,g2,g3⟩:=h.sb e1 e2;exact⟨g,g1,g2,((hk _).high g _ _ g2 g3).trans g3⟩
 ·rw[Bm h.cel];rw[Ej,Af (by decide),Bc (by decide),Bc (by decide),hy];rfl
theorem Eh.stoS{y:Value}(h:Eh w W0 base p sum ep vF vS fl sl s c b vs W)(h10:b 10=true)(hp:p<base)(hy:vs 10=y):Eh w W0 base p sum ep vF vS fl sl s c (Ap b 14) (Bw vs 14 undef) (W.setCell ⟨p,3,none⟩ y):=by
 have hf:Fp [p] W (W.setCell ⟨p,3,none⟩ y):=Fp.setCell W ⟨p,3,none⟩ y
 have hk:∀D,Av D base [p] W (W.setCell ⟨p,3,none⟩ y):=fun D=>Av.of hf (by simpa using hp)
 refine⟨fun e=>(h.f0 e).keptT (hk _),fun e=>(h.f1 e).keptT (hk _),fun e=>(h.s0 e).keptT (hk _),fun e=>(h.s1 e).keptT (hk _),fun e1 e2=>?_,fun e1 e2=>?_,?_,fun D h1 h2=>(h.kept D h1 h2).trans (hk D) (by simp),h.fp.trans hf (by simp),h.o12,fun _=>h10,h.o4,h.o10,a0x h.sz hf.size⟩
 ·obtain⟨g,g1,g2,g3⟩:=h.fb e1 e2;exact⟨g,g1,g2,((hk _).high g _ _ g2 g3).trans g3⟩
 ·obtain⟨g,g1,g2,g3⟩:=h.sb e1 e2;exact⟨g,g1,g2,((hk _).high g _ _ g2 g3).trans g3⟩
 ·rw[Bm h.cel];rw[Ej,Af (by decide),Bc (by decide),Bc (by decide),hy];rfl
end
section
open Go.RowKit Go.Lib
theorem Fo.mem{l:List Ac}{bs:List ByteArray}{out:List (List Ac)}(h:Fo l bs out){x:List Ac}(hx:x∈out){c:Ac}(hc:c∈x):c∈l:=by
 rw[←h.flat];exact List.mem_flatten.2 ⟨x,hx,hc⟩
theorem oZ(w:World)(a:Option Addr)(n cap:Nat)(a2:Option Addr)(n2 cap2:Nat)(l:List Ac)(borders:List ByteArray)(m:Nat)(hl:Bt w a n l)(hsh:a=none∧cap=0∨∃b o,a=some ⟨b,o,none⟩)(hc:n≤cap)(hb:F4 w a2 n2 borders)(hn:n≤900000)(hn2:n2≤900000)(hbo:G8 borders=true)(hri:risC l=true)(hm0:1≤m)(hm:m<2^63):
  Calls Tryz.prog 50 #[.slice a n cap,.slice a2 n2 cap2,.int .i64 m] w fun e w'=>∃v out,e=.returned (.tuple #[v,.int .i64 0])∧E7 w' w.heap.size v (Lq m out)∧Fo l borders out∧Fp [] w w':=by
 have HSP:=a0z (fun W (hl:Bt W a n l) (hb:F4 W a2 n2 borders)=>eJ W a n cap a2 n2 cap2 l borders hl hsh hc hb (by omega) (by omega) hbo hri);have HL:=a0z hl;have HB:=a0z hb;have HRI:=a0z hri
 have hll:l.length≤900000:=by have:=hl.len;omega
 have hbl:borders.length≤900000:=by have:=hb.len;omega
 clear hl hsh hc hb hbo hri;go_enter Tryz.func50,Tryz.ntmps50;go_wp2_with (fail);(with_reducible refine(HSP.out _ HL.out HB.out).mono ?_);rintro e w1 ⟨v1,out,rfl,ho1,hsr,hf1⟩;obtain⟨va,vc,rfl⟩:=ho1.slice
 have hoc:out.length≤900001:=by have:=hsr.count;omega
 have HO1:=a0z ho1;have HSR:=a0z hsr;have HF1:=a0z hf1;clear ho1 hsr hf1;go_wp2_with (fail)
 go_loopg [6,26] out.length (fun g vo vi wr=>∃i:Nat,g=out.length-i∧vi=.int .i64 i∧i≤out.length∧E7 wr w1.heap.size vo (Hw m out i)∧Fp [] w1 wr)
 case atStart=>exact⟨0,rfl,rfl,Nat.zero_le _,E7.nil _ _,Fp.refl _ _⟩
 case round=>
  obtain⟨i,hg,rfl,hi,hop,hf⟩:=hrel;have HOP:=a0z hop;have HFW:=a0z hf;have HG:=a0z hg;clear hop hf hg
  by_cases hlt:i<out.length
  ·have zi:(i:Int)<(out.length:Int):=by omega
   have n1:IntKind.i64.wrap ((i:Int)+1)=((i+1:Nat):Int):=by rw[IntKind.wrap_i64];omega
   obtain⟨i1,hi1⟩:∃i1,i+1=i1:=⟨_,rfl⟩
   rw[hi1] at n1;obtain⟨gb,gcap,hgv,-,hgl,-,hge⟩:=(HO1.out.fp HFW.out (by simp)).get hlt;cases hgv;obtain⟨u,hu1,hu2⟩:=hge i hlt
   obtain⟨x,hx⟩:∃x,out[i]=x:=⟨_,rfl⟩
   rw[hx] at hu2
   have hxm:x∈out:=by rw[←hx];exact List.getElem_mem _
   obtain⟨ax,cx,rfl,hxc,hxn,hxl⟩:=A2.at5 hu2 (fun c hc=>HL.out.ok c (HSR.out.mem hxm hc))
   have hxb:x.length≤900000:=by have:=Ut hxm;rw[HSR.out.flat] at this;omega
   have HRO:=a0z (fun W (h:Bt W ax x.length x)=>oO W ax x.length cx m x h (HSR.out.ris HRI.out x hxm) (by omega) hxc hm0 hm)
   have hgd:out.getD i []=x:=by rw[List.getD_eq_getElem?_getD,a0v hlt,←hx];rfl
   have HGD:=a0z hgd;have HXL:=a0z hxl;have HI1:=a0z hi1;have q0:wr.cell? ⟨gb,i,none⟩=some (.slice ax x.length cx):=hu1;clear hge hu1 hu2 hx hxm hxc hxn hxl hgd hi1;go_wp2_with (fail);(with_reducible refine(HRO.out _ (HXL.out)).mono ?_);rintro e w2 ⟨v2,rfl,ho2,hf2⟩
   obtain⟨rolls,hrolls⟩:∃rolls,Lp x m=rolls:=⟨_,rfl⟩
   rw[hrolls] at ho2;obtain⟨ra,rc,rfl⟩:=ho2.slice;have HO2:=a0z ho2;have HRL:=a0z hrolls;have HOP2:=a0z (HOP.out.fp hf2 (by simp));have HFW2:=a0z (HFW.out.trans hf2 (by simp));have hsz2:w1.heap.size≤wr.heap.size:=HFW.out.size
   have hrb:rolls.length≤900000:=by have:=cF x m;rw[hrolls] at this;omega
   clear ho2 hf2 hrolls q0
   have HBN:Hid ((Hw m out i).length+rolls.length≤900000):=by
    have h1:=Xh m out (i+1) hlt;rw[Rt,HGD.out,HRL.out,a0w,a1z] at h1
    have h2:((out.take (i+1)).flatten).length≤l.length:=by
     rw[←HSR.out.flat]
     conv=>rhs;rw[←List.take_append_drop (i+1) out,List.flatten_append,a0w]
     omega
    exact a0z (by omega)
   go_wp2_with (fail)
   go_loopg [6,42] rolls.length (fun g vo vj W=>∃j:Nat,g=rolls.length-j∧vj=.int .i64 j∧j≤rolls.length∧E7 W w1.heap.size vo (Hw m out i++(rolls.take j).map fun r=>(i,r))∧Fp [] w1 W∧∀D,D≠106→Av D w1.heap.size [] w2 W)
   case atStart=>exact⟨0,rfl,rfl,Nat.zero_le _,by rw[List.take_zero,List.map_nil,List.append_nil];exact HOP2.out,HFW2.out,fun _ _=>Av.of (Fp.refl [] _) (by simp)⟩
   case round=>
    obtain⟨j,hgj,rfl,hj,hop,hf,hk⟩:=hrel;have HOPJ:=a0z hop;have HFJ:=a0z hf;have HKJ:=a0z hk;have HGJ:=a0z hgj;clear hop hf hk hgj
    obtain⟨wj,hwj⟩:∃x,x=wr:=⟨_,rfl⟩
    subst hwj
    by_cases hjl:j<rolls.length
    ·have zj:(j:Int)<(rolls.length:Int):=by omega
     have nj:IntKind.i64.wrap ((j:Int)+1)=((j+1:Nat):Int):=by rw[IntKind.wrap_i64];omega
     obtain⟨j1,hj1⟩:∃j1,j+1=j1:=⟨_,rfl⟩
     rw[hj1] at nj;obtain⟨gr,grc,hgrv,-,-,-,hgre⟩:=(HO2.out.keptD hsz2 (HKJ.out _ (by decide)) (HKJ.out _ (by decide))).get hjl;cases hgrv;obtain⟨u,hu1,hu2⟩:=hgre j hjl
     obtain⟨r,hr⟩:∃r,rolls[j]=r:=⟨_,rfl⟩
     rw[hr] at hu2;obtain⟨ar,cr,rfl⟩:=A2.sliceL hu2;have HU2:=a0z (A2.mono hu2 hsz2);have q1:wj.cell? ⟨gr,j,none⟩=some (.slice ar r.length cr):=hu1
     have htk:rolls.take (j+1)=rolls.take j++[r]:=by rw[List.take_add_one,a0v hjl,hr];rfl
     have HTK:=a0z htk;have HJ1:=a0z hj1;have HSJ:Hid (w1.heap.size≤wj.heap.size):=a0z HFJ.out.size;clear hgre hu1 hu2 hr htk hj1;go_wp2_with (at_builtin;refine oQ rfl _ _ rfl w1.heap.size _ _ rfl (HOPJ.out.fp (Fp.alloc _ _) (by simp)) _ i r.length cr ar r (HU2.out.fp (Fp.alloc _ _) (by simp)) rfl (Ai rfl _) (by have:=HBN.out;rw[a0w,a1z,List.length_take];omega) (by have:=HSJ.out;simp;omega) ?_;intro v3 w3 ho3 hb3 hk3;have HO3:=a0z ho3;have HB3:=a0z hb3;have HK3:=a0z hk3;clear ho3 hb3 hk3)
     go_roundg (rolls.length-j1)
     case measure=>have:=HGJ.out;have:=HJ1.out;omega
     case rel=>
      refine⟨j1,rfl,rfl,by have:=HJ1.out;omega,?_,(HFJ.out.trans (Fp.alloc _ _) (by simp)).belowTrans HB3.out,fun D hD=>((HKJ.out D hD).trans (Av.of (Fp.alloc _ _) (by simp)) (by simp)).trans (HK3.out D hD) (by simp)⟩;rw[←HJ1.out,HTK.out,List.map_append,←List.append_assoc];exact HO3.out
    ·have z1:¬(j:Int)<(rolls.length:Int):=by omega
     obtain rfl:j=rolls.length:=by omega
     have HOQ:Hid (E7 wj w1.heap.size u6 (Hw m out i1)):=by
      have h1:=HOPJ.out;rw[List.take_length] at h1;rw[←HI1.out,Rt,HGD.out,HRL.out];exact a0z h1
     go_wp2_with (fail)
     go_roundg (out.length-i1)
     case measure=>have:=HG.out;have:=HI1.out;omega
     case rel=>exact⟨i1,rfl,rfl,by have:=HI1.out;omega,HOQ.out,HFJ.out⟩
  ·have z0:¬(i:Int)<(out.length:Int):=by omega
   obtain rfl:i=out.length:=by omega
   obtain⟨pa,pc,rfl⟩:=HOP.out.slice;have HS1:Hid (w.heap.size≤w1.heap.size):=a0z HF1.out.size
   obtain⟨pn,hpn⟩:∃pn,(Hw m out out.length).length=pn:=⟨_,rfl⟩
   rw[hpn] at HOP;rw[hpn];clear hpn;go_wp2_with (fail);refine bodyPost_ret (v:=.tuple #[.slice pa pn pc,.int .i64 0]) (by simp[results,Tryz.results50,go_sem]) rfl ?_;exact⟨_,rfl,out,HOP.out.mono HS1.out,HSR.out,HF1.out.trans HFW.out (by simp)⟩
theorem pA(w:World)(a:Option Addr)(n cap:Nat)(a2:Option Addr)(n2 cap2:Nat)(l:List Ac)(borders:List ByteArray)(m:Int)(hl:Bt w a n l)(hsh:a=none∧cap=0∨∃b o,a=some ⟨b,o,none⟩)(hc:n≤cap)(hb:F4 w a2 n2 borders)(hn:n≤900000)(hn2:n2≤900000)(hbo:G8 borders=true)(hri:risC l=true)(hm:m<1):
  Calls Tryz.prog 50 #[.slice a n cap,.slice a2 n2 cap2,.int .i64 m] w fun e w'=>e=.returned (.tuple #[.slice none 0 0,.int .i64 1])∧Fp [] w w':=by
 have HSP:=a0z (fun W (hl:Bt W a n l) (hb:F4 W a2 n2 borders)=>eJ W a n cap a2 n2 cap2 l borders hl hsh hc hb (by omega) (by omega) hbo hri);have HRM:=a0z (fun w a n cap=>oP w a n cap m hm);have HL:=a0z hl;have HB:=a0z hb;clear hl hsh hc hb hbo hri;go_enter Tryz.func50,Tryz.ntmps50;go_wp2_with (fail);(with_reducible refine(HSP.out _ HL.out HB.out).mono ?_);rintro e w1 ⟨v1,out,rfl,ho1,hsr,hf1⟩;obtain⟨va,vc,rfl⟩:=ho1.slice;have hoc:=hsr.count
 have h0:0<out.length:=by omega
 obtain⟨gb,gcap,hgv,-,hgl,-,hge⟩:=ho1.get h0;cases hgv;obtain⟨u,hu1,hu2⟩:=hge 0 h0;obtain⟨ax,cx,rfl⟩:=A2.sliceL hu2;have q0:w1.cell? ⟨gb,0,none⟩=some (.slice ax out[0].length cx):=hu1
 obtain⟨xl,hxl⟩:∃xl,out[0].length=xl:=⟨_,rfl⟩
 rw[hxl] at q0
 have z0:(0:Int)<(out.length:Int):=by omega
 have HF1:=a0z hf1;clear hge hu1 hu2 hoc ho1 hf1 hsr hxl;go_wp2_with (fail)
 go_loopg [6,26] 0 (fun g vo vi wr=>g=0∧vi=.int .i64 0∧w1=wr)
 case atStart=>exact⟨rfl,rfl,rfl⟩
 case round=>
  obtain⟨rfl,rfl,rfl⟩:=hrel;go_wp2_with (fail);(with_reducible refine(HRM.out _ _ _ _).mono ?_);rintro e w2 ⟨rfl,hf2⟩;have HF2:=a0z hf2;clear hf2 q0;go_wp2_with (fail);refine bodyPost_ret (v:=.tuple #[.slice none 0 0,.int .i64 1]) (by simp[results,Tryz.results50,go_sem]) rfl ?_;exact⟨rfl,HF1.out.trans HF2.out (by simp)⟩
theorem pB(w:World)(a:Option Addr)(n cap:Nat)(a2:Option Addr)(n2 cap2:Nat)(borders:List ByteArray)(hb:F4 w a2 n2 borders)(hn2:n2≤900000)(hbo:G8 borders=false):
  Calls Tryz.prog 88 #[.slice a n cap,.slice a2 n2 cap2] w fun e w'=>e=.returned (.tuple #[.slice none 0 0,.int .i64 1])∧Fp [] w w':=by
 have HBO:=a0z (fun W (h:F4 W a2 n2 borders)=>fP W a2 n2 cap2 borders h (by omega));rw[hbo] at HBO;have HB:=a0z hb;clear hb hbo;go_enter Tryz.func88,Tryz.ntmps88;go_wp2_with (fail);(with_reducible refine(HBO.out _ (HB.out.of_fp (Fp.alloc _ _))).mono ?_);rintro e w1 ⟨rfl,hf1⟩;have HF1:Hid (Fp [] w w1):=(Fp.alloc _ _).trans hf1 (by simp);clear hf1;go_wp2_with (fail);refine bodyPost_ret (v:=.tuple #[.slice none 0 0,.int .i64 1]) (by simp[results,Tryz.results88,go_sem]) rfl ?_;exact⟨rfl,HF1.out⟩
theorem pC(w:World)(a:Option Addr)(n cap:Nat)(a2:Option Addr)(n2 cap2:Nat)(borders:List ByteArray)(m:Int)(hb:F4 w a2 n2 borders)(hn2:n2≤900000)(hbo:G8 borders=false):
  Calls Tryz.prog 50 #[.slice a n cap,.slice a2 n2 cap2,.int .i64 m] w fun e w'=>e=.returned (.tuple #[.slice none 0 0,.int .i64 1])∧Fp [] w w':=by
 have HSP:=a0z (fun W (hb:F4 W a2 n2 borders)=>pB W a n cap a2 n2 cap2 borders hb (by omega) hbo);have HB:=a0z hb;clear hb hbo;go_enter Tryz.func50,Tryz.ntmps50;go_wp2_with (fail);(with_reducible refine(HSP.out _ HB.out).mono ?_);rintro e w1 ⟨rfl,hf1⟩;have HF1:=a0z hf1;clear hf1;go_wp2_with (fail);refine bodyPost_ret (v:=.tuple #[.slice none 0 0,.int .i64 1]) (by simp[results,Tryz.results50,go_sem]) rfl ?_;exact⟨rfl,HF1.out⟩
end
section
open Go.Lib
def Hk(r:Nat):Bool:=decide (r≤32∨126<r)
def P7(b:UInt8):Bool:=!Hk b.toNat
def Ol(s:ByteArray):Bool:=decide (s.size≠0)&&s.data.toList.all P7
theorem cQ{s:ByteArray}{i:Nat}(h:i<s.size):s.data.toList[i]?=some s[i]:=Lib.data_getElem? s i h
theorem cR(s:ByteArray):∀(f pos:Nat),s.size≤pos+f→(idxFuncFrom Hk true s f pos= -1↔∀j (h:j<s.size),pos≤j→P7 s[j]=true)
 |0,pos,hf=>by
  constructor
  ·intro _ j h hj;omega
  ·intro _;rfl
 |f+1,pos,hf=>by
  by_cases hp:pos<s.size
  ·unfold idxFuncFrom;rw[if_pos hp]
   by_cases hb:(s[pos]'hp).toNat<128
   ·rw[decode_ascii s pos hp hb]
    by_cases ho:Hk (s[pos]'hp).toNat=true
    ·rw[if_pos ho];constructor
     ·intro h;omega
     ·intro h;have:=h pos hp (a0u _);unfold P7 at this;rw[ho] at this;cases this
    ·rw[if_neg ho];have ih:=cR s f (pos+1) (by omega);rw[ih];constructor
     ·intro h j hj hpj
      by_cases e:j=pos
      ·subst e;unfold P7;simpa using ho
      ·exact h j hj (by omega)
     ·intro h j hj hpj;exact h j hj (by omega)
   ·have hh:=decode_high s pos hp (by omega)
    have ho:Hk (Utf8.decode s pos).1=true:=by unfold Hk;exact decide_eq_true (by omega)
    rw[if_pos ho];constructor
    ·intro h;omega
    ·intro h;have:=h pos hp (a0u _)
     have h2:Hk (s[pos]'hp).toNat=true:=by unfold Hk;exact decide_eq_true (by omega)
     unfold P7 at this;rw[h2] at this;cases this
  ·rw[idxFuncFrom_end _ _ _ _ _ hp];constructor
   ·intro _ j h hj;omega
   ·intro _;rfl
theorem pD(s:ByteArray):decide (idxFunc Hk true s<0)=s.data.toList.all P7:=by
 have h:=cR s s.size 0 (by omega);have hr:=idxFuncFrom_range Hk true s s.size 0;unfold idxFunc;rw[Bool.eq_iff_iff,decide_eq_true_eq,List.all_eq_true];constructor
 ·intro h0 b hb
  have h1:idxFuncFrom Hk true s s.size 0= -1:=by omega
  obtain⟨j,hj,rfl⟩:=List.getElem_of_mem hb
  have hj2:j<s.size:=by rw[size_eq];exact hj
  have:=h.1 h1 j hj2 (Nat.zero_le _);have e:=cQ hj2;rw[a0v hj] at e;rw[Option.some.inj e];exact this
 ·intro ha;have:idxFuncFrom Hk true s s.size 0= -1:=h.2 (fun j hj _=>ha _ (List.mem_of_getElem? (cQ hj)));omega
def Hy(c:UInt8):List UInt8→List (List UInt8)
 |[]=>[[]]
 |b::l=>if b=c then[]::Hy c l else match Hy c l with
  |[]=>[[b]]
  |h::t=>(b::h)::t
theorem pE(c:UInt8)(l:List UInt8):∃h t,Hy c l=h::t:=by
 induction l with
 |nil=>exact⟨[],[],rfl⟩
 |cons b l ih=>
  obtain⟨h,t,e⟩:=ih;unfold Hy
  by_cases hb:b=c
  ·rw[if_pos hb];exact⟨_,_,rfl⟩
  ·rw[if_neg hb,e];exact⟨_,_,rfl⟩
theorem pF(c:UInt8)(l:List UInt8)(h:∀b∈l,b≠c):Hy c l=[l]:=by
 induction l with
 |nil=>rfl
 |cons b l ih=>
  unfold Hy;rw[if_neg (h b (by simp)),ih (fun x hx=>h x (by simp[hx]))]
theorem pG(c:UInt8)(a l:List UInt8)(h:∀b∈a,b≠c):Hy c (a++c::l)=a::Hy c l:=by
 induction a with
 |nil=>show Hy c (c::l)=_;conv=>lhs;unfold Hy
       rw[if_pos rfl]
 |cons b a ih=>
  show Hy c (b::(a++c::l))=_
  conv=>lhs;unfold Hy
  rw[if_neg (h b (by simp)),ih (fun x hx=>h x (by simp[hx]))]
theorem Uw(c:UInt8):∀l:List UInt8,(index l [c]= -1∧(∀b∈l,b≠c))∨∃a r,l=a++c::r∧index l [c]=(a.length:Nat)∧∀b∈a,b≠c
 |[]=>Or.inl ⟨by simp[index],by simp⟩
 |b::l=>by
  by_cases h:b=c
  ·subst h;exact Or.inr ⟨[],l,rfl,by simp[index,List.isPrefixOf],by simp⟩
  ·have hp:([c]:List UInt8).isPrefixOf (b::l)=false:=by simp[List.isPrefixOf,Ne.symm h]
   have hix:index (b::l) [c]=if index l [c]==-1 then -1 else index l [c]+1:=by rw[index,hp];simp
   rcases Uw c l with⟨h1,h2⟩|⟨a,r,h1,h2,h3⟩
   ·left;refine⟨by rw[hix,h1];rfl,?_⟩;intro x hx
    rcases List.mem_cons.1 hx with hx|hx
    ·rw[hx];exact h
    ·exact h2 x hx
   ·right;refine⟨b::a,r,by rw[h1];rfl,?_,?_⟩
    ·rw[hix,h2]
     have:(((a.length:Nat):Int)==-1)=false:=by rw[beq_eq_false_iff_ne];omega
     rw[this];simp
    ·intro x hx
     rcases List.mem_cons.1 hx with hx|hx
     ·rw[hx];exact h
     ·exact h3 x hx
theorem cS(c:UInt8):∀(k:Nat) (s:ByteArray),countB s ⟨#[c]⟩=k→(splitB ⟨#[c]⟩ 0 k s).map (fun x=>x.data.toList)=Hy c s.data.toList
 |0,s,hk=>by
  rcases Uw c s.data.toList with⟨h1,h2⟩|⟨a,r,h1,h2,h3⟩
  ·rw[pF c _ h2];rfl
  ·have:=count_hit (s:=s.data.toList) (sub:=[c]) (by simp) h2;have hk':count s.data.toList [c]=0:=hk;omega
 |k+1,s,hk=>by
  have hk':count s.data.toList [c]=k+1:=hk
  rcases Uw c s.data.toList with⟨h1,h2⟩|⟨a,r,h1,h2,h3⟩
  ·rw[count_miss h1] at hk';omega
  ·have hc:=count_hit (s:=s.data.toList) (sub:=[c]) (by simp) h2;have hib:indexB s ⟨#[c]⟩=(a.length:Nat):=h2
   have hd:s.data.toList.drop (a.length+[c].length)=r:=by
    rw[h1,List.drop_append,a1x (by simp)];simp
   have hsz:(⟨#[c]⟩:ByteArray).size=1:=rfl;rw[hd] at hc
   have he:(s.extract (a.length+1) s.size).data.toList=r:=by
    rw[extract_to_end];exact hd
   have ih:=cS c k (s.extract (a.length+1) s.size) (by show count _ _ =k;rw[he];show count r [c]=k;omega);unfold splitB;rw[hib,if_neg (by simp)];simp only[List.map_cons,Nat.add_zero,Int.toNat_natCast,hsz];rw[ih,he,h1,pG c a r h3,extract_data,h1];simp
theorem cT(c:UInt8):∀(k:Nat) (s:ByteArray),countB s ⟨#[c]⟩=k→(splitB ⟨#[c]⟩ 0 k s).length=k+1
 |0,s,hk=>rfl
 |k+1,s,hk=>by
  have hk':count s.data.toList [c]=k+1:=hk
  rcases Uw c s.data.toList with⟨h1,h2⟩|⟨a,r,h1,h2,h3⟩
  ·rw[count_miss h1] at hk';omega
  ·have hc:=count_hit (s:=s.data.toList) (sub:=[c]) (by simp) h2;have hib:indexB s ⟨#[c]⟩=(a.length:Nat):=h2;have hsz:(⟨#[c]⟩:ByteArray).size=1:=rfl
   have hd:s.data.toList.drop (a.length+[c].length)=r:=by
    rw[h1,List.drop_append,a1x (by simp)];simp
   rw[hd] at hc
   have he:(s.extract (a.length+1) s.size).data.toList=r:=by
    rw[extract_to_end];exact hd
   have ih:=cT c k (s.extract (a.length+1) s.size) (by show count _ _ =k;rw[he];show count r [c]=k;omega);rw[splitB_hit _ _ _ _ a.length hib,List.length_cons,hsz,ih]
theorem cU(sep:ByteArray):∀(k:Nat) (s:ByteArray),∀x∈splitB sep 0 k s,x.size≤s.size
 |0,s=>by intro x hx;rw[splitB_zero] at hx;simp at hx;rw[hx];exact a0u _
 |k+1,s=>by
  by_cases h:indexB s sep= -1
  ·rw[splitB_miss _ _ _ _ h];intro x hx;simp at hx;rw[hx];exact a0u _
  ·unfold splitB;rw[if_neg (by simpa using h)];intro x hx
   rcases List.mem_cons.1 hx with hx|hx
   ·rw[hx,a1w];omega
   ·have:=cU sep k _ x hx;rw[a1w] at this;omega
def Hl(c:UInt8)(s:ByteArray):List ByteArray:=splitB ⟨#[c]⟩ 0 (countB s ⟨#[c]⟩) s
theorem pH(c:UInt8)(s:ByteArray):(Hl c s).length=countB s ⟨#[c]⟩+1:=cT c _ s rfl
theorem Om{c:UInt8}{s:ByteArray}{x:ByteArray}(h:x∈Hl c s):x.size≤s.size:=cU _ _ _ x h
theorem pI(c:UInt8)(l:List UInt8):(Hy c l).length≤l.length+1:=by
 induction l with
 |nil=>exact a0u _
 |cons b l ih=>
  unfold Hy;obtain⟨h,t,e⟩:=pE c l;rw[e] at ih ⊢
  split<;>simp at ih ⊢ <;>omega
theorem pJ(c:UInt8)(s:ByteArray):(Hl c s).map (fun x=>x.data.toList)=Hy c s.data.toList:=cS c _ s rfl
theorem Xj(c:UInt8)(s:ByteArray):(Hl c s).length≤s.size+1:=by
 have h:=pI c s.data.toList;rw[←pJ,a1z,←size_eq] at h;exact h
end
section
open Go.RowKit Go.Lib
theorem pK(w:World):PredAt Tryz.prog 202 #[] encR Hk w:=fun W r _=>by
 unfold FnGives
 by_cases h1:r≤32<;>by_cases h2:126<r
 all_goals
  have z1:(r:Int)≤32↔r≤32:=by omega
  have z2:(r:Int)>126↔126<r:=by omega
  go_enter Tryz.func202,Tryz.ntmps202;go_wp2
  all_goals first|(exfalso;omega)|(go_ret;exact⟨by unfold Hk;simp[h1,h2],0,rfl⟩)
theorem pL(s:ByteArray)(w:World):
  Calls Tryz.prog 201 #[.string s,.func (.func 202) #[] #[]] w fun e w'=>e=.returned (.int .i64 (idxFunc Hk true s))∧Fp [] w w':=
 (Tryz.strings_IndexFunc 202 #[] (enters_of Tryz.func202 (by kernel_rfl) rfl) Hk s w (pK w)).mono fun _ _ ⟨h,hb⟩=>⟨h,Below.toFp hb⟩
def Nw(s:ByteArray):Bool:=Ol s&&decide (s.size≤40)
theorem pM(s:ByteArray):Ol s=(decide (s.size≠0)&&decide (idxFunc Hk true s<0)):=by
 unfold Ol;rw[pD]
theorem cV(s:ByteArray)(w:World):
  Calls Tryz.prog 129 #[.string s] w fun e w'=>e=.returned (.bool (Ol s))∧Fp [] w w':=by
 have hI:=a0z (pL s);rw[pM]
 by_cases h0:s.size=0
 ·have hem:=eR h0;go_enter Tryz.func129,Tryz.ntmps129;go_wp2_with (fail);go_ret;exact⟨by rw[decide_eq_false (by omega)];rfl,Fp.refl _ _⟩
 ·have hem:=O2 (s:=s) (by omega);rw[decide_eq_true h0,Bool.true_and]
  obtain⟨I,hi⟩:∃I,idxFunc Hk true s=I:=⟨_,rfl⟩
  rw[hi] at hI ⊢;go_enter Tryz.func129,Tryz.ntmps129;go_wp2_with (fail);(with_reducible refine(hI.out _).mono ?_);rintro e w1 ⟨rfl,hf⟩;have HF:=a0z hf;clear hf;go_wp2_with (fail);go_ret;exact⟨rfl,HF.out⟩
theorem cW(s:ByteArray)(w:World):
  Calls Tryz.prog 123 #[.string s] w fun e w'=>e=.returned (.bool (Nw s))∧Fp [] w w':=by
 have hI:=a0z (cV s);unfold Nw
 obtain⟨b,hb⟩:∃b,Ol s=b:=⟨_,rfl⟩
 rw[hb] at hI ⊢;cases b
 ·go_enter Tryz.func123,Tryz.ntmps123;go_wp2_with (fail);(with_reducible refine(hI.out _).mono ?_);rintro e w1 ⟨rfl,hf⟩;have HF:=a0z hf;clear hf;go_wp2_with (fail);go_ret;exact⟨rfl,HF.out⟩
 ·go_enter Tryz.func123,Tryz.ntmps123;go_wp2_with (fail);(with_reducible refine(hI.out _).mono ?_);rintro e w1 ⟨rfl,hf⟩;have HF:=a0z hf;clear hf;go_wp2_with (fail);go_ret;refine⟨?_,HF.out⟩;refine Ls ?_;rw[Bool.true_and];exact decide_eq_decide.2 (by omega)
end
section
open Go.RowKit Go.Lib
theorem pN(s:ByteArray)(c:Ac)(b:Nat)(w:World)(hc:C4 w b c):
  Calls Tryz.prog 122 #[.string s,.pointer (some ⟨b,0,none⟩)] w fun e w'=>e=.returned (.bool (Nw s))∧C4 w' b {c with row:=s}∧Fp [b] w w':=by
 have hN:=a0z (cW s);have HC:=a0z hc;have q0:w.cell? ⟨b,0,none⟩=some (.string c.row):=hc.cell 0;have f0:=hc.free 0;clear hc;go_enter Tryz.func122,Tryz.ntmps122;go_wp2_with (fail);(with_reducible refine(hN.out _).mono ?_);rintro e w1 ⟨rfl,hf⟩;have HF:=a0z hf;clear hf;go_wp2_with (fail);go_ret;exact⟨rfl,(HC.out.set (c':={c with row:=s}) 0 (.string s) rfl).fp HF.out List.not_mem_nil,(Fp.setCell _ _ _).trans HF.out (by simp)⟩
theorem pO(s:ByteArray)(c:Ac)(b:Nat)(w:World)(hc:C4 w b c):
  Calls Tryz.prog 124 #[.string s,.pointer (some ⟨b,0,none⟩)] w fun e w'=>e=.returned (.bool (Nw s))∧C4 w' b {c with col:=s}∧Fp [b] w w':=by
 have hN:=a0z (cW s);have HC:=a0z hc;have q0:w.cell? ⟨b,1,none⟩=some (.string c.col):=hc.cell 1;have f0:=hc.free 1;clear hc;go_enter Tryz.func124,Tryz.ntmps124;go_wp2_with (fail);(with_reducible refine(hN.out _).mono ?_);rintro e w1 ⟨rfl,hf⟩;have HF:=a0z hf;clear hf;go_wp2_with (fail);go_ret;exact⟨rfl,(HC.out.set (c':={c with col:=s}) 1 (.string s) rfl).fp HF.out List.not_mem_nil,(Fp.setCell _ _ _).trans HF.out (by simp)⟩
def cX(s:ByteArray)(u:Nat)(ev:Value):Prop:=(ev=.nilIface∧parseUintB 64 s.data.toList=.ok u)∨((∃t p,ev=.iface t p)∧∀n,parseUintB 64 s.data.toList≠.ok n)
structure Oo(w:World):Prop where
 sy:∃tp p,w.cell? ⟨3,0,none⟩=some (.iface tp p)
 rg:∃tp p,w.cell? ⟨4,0,none⟩=some (.iface tp p)
theorem cY{w w':World}{S:List Nat}{g:Nat}{v:Value}(h:w.cell? ⟨g,0,none⟩=some v)(hf:Fp S w w')(hs:g∉S):w'.cell? ⟨g,0,none⟩=some v:=
 (hf.cell (p:=⟨g,0,none⟩) (World.block_lt_of_cell? _ _ h) hs).trans h
theorem Oo.fp{w w':World}{S:List Nat}(h:Oo w)(hf:Fp S w w')(h1:3∉S)(h2:4∉S):Oo w':=by
 obtain⟨⟨t1,p1,q1⟩,⟨t2,p2,q2⟩⟩:=h;exact⟨⟨t1,p1,cY q1 hf h1⟩,⟨t2,p2,cY q2 hf h2⟩⟩
theorem Fp.bytesWorld(w:World)(t:TypeId)(s:ByteArray):Fp [] w (Lib.bytesWorld w t s):=Below.toFp (Lib.bytesWorld_below _ _ _)
theorem pP(s:ByteArray)(w:World)(hs:s.size≤100000000)(he:Oo w):
  Calls Tryz.prog 126 #[.string s,.int .i64 10,.int .i64 64] w fun e w'=>∃u ev,e=.returned (.tuple #[.int .u64 (u:Nat),ev])∧cX s u ev∧u<18446744073709551616∧Fp [] w w':=by
 obtain⟨⟨t1,p1,q1⟩,⟨t2,p2,q2⟩⟩:=he
 cases h:parseUintB 64 s.data.toList with
 |ok u=>
  refine(Tryz.strconv_ParseUint_10_at64_ok s (by omega) u h w).mono ?_;rintro e w' ⟨rfl,hw⟩;refine⟨u,_,rfl,Or.inl ⟨rfl,h⟩,?_,?_⟩
  ·have:=parseUintB_le h;omega
  ·rcases hw with rfl|rfl
   ·exact Fp.refl _ _
   ·exact Fp.bytesWorld _ _ _
 |range=>
  refine(Tryz.strconv_ParseUint_10_at64_range s (by omega) h _ w q2 (Or.inr ⟨_,_,rfl⟩)).mono ?_;rintro e w' ⟨N,rfl,_,_,hb⟩;exact⟨18446744073709551615,_,rfl,Or.inr ⟨⟨_,_,rfl⟩,fun n hn=>by rw[h] at hn;cases hn⟩,by decide,Below.toFp hb⟩
 |_=>
  refine(Any.strconv_ParseUint_10_at64_syntax Tryz.laysPu14 s (by omega) h _ w q1 (Or.inr ⟨_,_,rfl⟩)).mono ?_;rintro e w' ⟨N,rfl,_,_,hb⟩;exact⟨0,_,rfl,Or.inr ⟨⟨_,_,rfl⟩,fun n hn=>by rw[h] at hn;cases hn⟩,by decide,Below.toFp hb⟩
def J2(s:ByteArray):Option Nat:=match parseUintB 64 s.data.toList with
 |.ok u=>if s.size≤18 then some u else none
 |_=>none
theorem pQ{s:ByteArray}{u:Nat}{ev:Value}(h:cX s u ev):(J2 s=some u∧ev=.nilIface∧s.size≤18)∨(J2 s=none∧(ev=.nilIface∧¬s.size≤18))∨(J2 s=none∧∃t p,ev=.iface t p):=by
 rcases h with⟨rfl,h⟩|⟨⟨t,p,rfl⟩,h⟩
 ·unfold J2;rw[h]
  by_cases hs:s.size≤18
  ·exact Or.inl ⟨if_pos hs,rfl,hs⟩
  ·exact Or.inr (Or.inl ⟨if_neg hs,rfl,hs⟩)
 ·right;right;refine⟨?_,t,p,rfl⟩;unfold J2;split
  ·rename_i u h2;exact absurd h2 (h u)
  ·rfl
theorem pR(s:ByteArray)(c:Ac)(b:Nat)(w:World)(hc:C4 w b c)(hs:s.size≤100000000)(he:Oo w):
  Calls Tryz.prog 125 #[.string s,.pointer (some ⟨b,0,none⟩)] w fun e w'=>e=.returned (.bool (J2 s).isSome)∧(∃u,(J2 s=none∨J2 s=some u)∧C4 w' b {c with ts:=u})∧Fp [b] w w':=by
 have hN:=a0z (fun w=>pP s w hs);have HC:=a0z hc;have HE:=a0z he;clear hc he;go_enter Tryz.func125,Tryz.ntmps125;go_wp2_with (fail);(with_reducible refine(hN.out _ HE.out).mono ?_);rintro e w1 ⟨u,ev,rfl,ho,hu,hf⟩;have HC1:=a0z (HC.out.fp hf (by simp));have HF:=a0z hf;have q0:w1.cell? ⟨b,2,none⟩=some (.int .u64 c.ts):=HC1.out.cell 2;have f0:=HC1.out.free 2;clear hf
 rcases pQ ho with⟨h1,rfl,h2⟩|⟨h1,rfl,h2⟩|⟨h1,t,p,rfl⟩
 all_goals
  clear ho;have H1:=a0z h1;clear h1;go_wp2_with (fail);go_ret;rw[H1.out];refine⟨?_,⟨u,?_,HC1.out.set 2 _ rfl⟩,(HF.out.mono (S':=[b]) (by simp)).trans (Fp.setCell _ _ _) (by simp)⟩
  ·first|exact Ls rfl|exact Ls (decide_eq_true (by omega))|exact Ls (decide_eq_false (by omega))
  ·first|exact Or.inl rfl|exact Or.inr rfl
theorem pS(s:ByteArray)(w:World):
  Calls Tryz.prog 128 #[.string s,.string ⟨#[61]⟩] w fun e w'=>e=.returned (.tuple #[.string ⟨(Lib.trimPrefix s.data.toList [61]).toArray⟩,.bool (Lib.hasPrefix s.data.toList [61])])∧w=w':=
 (Tryz.strings_CutPrefix s ⟨#[61]⟩ w).mono fun _ _ ⟨h1,h2⟩=>⟨h1,h2.symm⟩
def Hm(s:ByteArray):ByteArray:=⟨(Lib.trimPrefix s.data.toList [61]).toArray⟩
def Iy(s:ByteArray):Bool:=s.toList==[45]
def Rw(s:ByteArray):Bool:=Lib.hasPrefix s.data.toList [61]&&(Ol s&&decide ((Hm s).size≤100))
theorem pT(s:ByteArray)(c:Ac)(b:Nat)(w:World)(hc:C4 w b c):
  Calls Tryz.prog 127 #[.string s,.pointer (some ⟨b,0,none⟩)] w fun e w'=>e=.returned (.bool (Iy s||Rw s))∧C4 w' b {c with del:=Iy s,val:=if Iy s=true then c.val else Hm s}∧Fp [b] w w':=by
 have hN:=a0z (cV s);have hCut:=a0z (pS s);have HC:=a0z hc;have q4:w.cell? ⟨b,4,none⟩=some (.bool c.del):=hc.cell 4;have f4:=hc.free 4;clear hc
 obtain⟨g,hg⟩:∃g,Iy s=g:=⟨_,rfl⟩
 have hg2:(s.toList==[45])=g:=hg;rw[hg];have HC1:=a0z (HC.out.set (c':={c with del:=g}) 4 (.bool g) rfl);have HF1:=a0z (Fp.setCell w ⟨b,4,none⟩ (.bool g));have q41:(w.setCell ⟨b,4,none⟩ (.bool g)).cell? ⟨b,4,none⟩=some (.bool g):=HC1.out.cell 4;cases g
 ·go_enter Tryz.func127,Tryz.ntmps127;go_wp2_with (fail);(with_reducible refine(hCut.out _).mono ?_);rintro e w1 ⟨rfl,rfl⟩;have q5:(w.setCell ⟨b,4,none⟩ (.bool false)).cell? ⟨b,5,none⟩=some (.string c.val):=HC1.out.cell 5;have f5:=HC1.out.free 5;have HC2:=a0z (HC1.out.set (c':={c with del:=false,val:=Hm s}) 5 (.string (Hm s)) rfl);have HF2:=a0z (HF1.out.trans (Fp.setCell _ ⟨b,5,none⟩ (.string (Hm s))) (by simp));have q52:((w.setCell ⟨b,4,none⟩ (.bool false)).setCell ⟨b,5,none⟩ (.string (Hm s))).cell? ⟨b,5,none⟩=some (.string (Hm s)):=HC2.out.cell 5;rw[show(⟨(Lib.trimPrefix s.data.toList [61]).toArray⟩:ByteArray)=Hm s from rfl]
  obtain⟨h,hh⟩:∃h,Lib.hasPrefix s.data.toList [61]=h:=⟨_,rfl⟩
  obtain⟨wb,hw⟩:∃wb,Ol s=wb:=⟨_,rfl⟩
  have HV:Hid (Rw s=(h&&(wb&&decide ((Hm s).size≤100)))):=by unfold Hid Rw;rw[hh,hw]
  rw[hh];rw[hw] at hN;clear hCut hg hg2;cases h
  ·go_wp2_with (fail);go_ret;rw[HV.out];exact⟨rfl,HC2.out,HF2.out.mono (by simp)⟩
  ·cases wb
   all_goals
    go_wp2_with (fail);(with_reducible refine(hN.out _).mono ?_);rintro e w1 ⟨rfl,hf⟩;have HC3:=a0z (HC2.out.fp hf (by simp));have HF3:=a0z (HF2.out.trans hf (by simp));have q53:w1.cell? ⟨b,5,none⟩=some (.string (Hm s)):=HC3.out.cell 5;clear hf;go_wp2_with (fail);go_ret;rw[HV.out];refine⟨?_,HC3.out,HF3.out.mono (by simp)⟩
   ·exact Ls rfl
   ·exact Ls (decide_eq_decide.2 (by omega))
 ·go_enter Tryz.func127,Tryz.ntmps127;go_wp2_with (fail);go_ret;exact⟨rfl,HC1.out,HF1.out⟩
end
end Go.Proofs.YtkagolpnaicdoaaGreatDoor
