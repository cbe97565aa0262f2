/-
 cut.All. 'p.Files, p.Sums = append(p.Files, s), append(p.Sums, crc.Sum(s))': the class of worlds on the way (for XRegionV). cut.All, walked.
-/
import Derived.Test.YtkagolpnaicdoaaGreatDoorMCutF
import Derived.Test.YtkagolpnaicdoaaGreatDoorMQOwn
import Derived.Test.YtkagolpnaicdoaaGreatDoorMStrsOwn
set_option maxRecDepth 100000
set_option maxHeartbeats 8000000
open Go.Lib renaming hid→a0z
open List renaming getD_eq_getElem?_getD→a0x,length_append→a0w,getElem?_eq_getElem→a0v,length_map→a1z,take_append_drop→a1x
open Nat renaming le_trans→a0u
namespace Go.Proofs.YtkagolpnaicdoaaGreatDoor
section
open Go.RowKit Go.Lib
def Z5:G3 (Nat ×(Option Addr × Nat × Nat)) where
 e:=106
 k:=2
 enc:=fun x=>[.int .i64 x.1,.slice x.2.1 x.2.2.1 x.2.2.2]
 len:=fun _=>rfl
 pos:=by decide
 one:=by
  intro x v hv;simp only[List.mem_cons,List.not_mem_nil,or_false] at hv
  rcases hv with rfl|rfl<;>rfl
theorem Tryz.infoPc:(Tryz.prog.info? 106).map (fun i=>(i.zero,i.size,i.bytes))=some (some (.agg #[.int .i64 0,.slice none 0 0]),2,32):=by kernel_rfl
def Z6(h:Nat ×(Option Addr × Nat × Nat)):Value:=.slice h.2.1 h.2.2.1 h.2.2.2
def Ez(W:World)(base:Nat)(v:Value)(ps:List (Nat × List Ac)):Prop:=∃hs,Ag Z5 W base v hs∧C9 (fun h x=>h.1=x.1∧A4 W base (Z6 h) x.2) hs ps
theorem Ez.nil(W:World)(base:Nat):Ez W base (.slice none 0 0) []:=⟨[],Ag.nil _ _,.nil⟩
theorem Ez.mono{W:World}{base base':Nat}{v:Value}{ps:List (Nat × List Ac)}(h:Ez W base v ps)(hb:base'≤base):Ez W base' v ps:=by
 obtain⟨hs,h1,h2⟩:=h;exact⟨hs,h1.mono hb,Ks (fun _ _ h=>⟨h.1,h.2.mono hb⟩) h2⟩
theorem Ez.fp{W W':World}{base:Nat}{S:List Nat}{v:Value}{ps:List (Nat × List Ac)}(h:Ez W base v ps)(hf:Fp S W W')(hS:∀k∈S,k<base):Ez W' base v ps:=by
 obtain⟨hs,h1,h2⟩:=h;exact⟨hs,h1.fp hf hS,Ks (fun _ _ h=>⟨h.1,h.2.fp hf hS⟩) h2⟩
theorem Ez.slice{W:World}{base:Nat}{v:Value}{ps:List (Nat × List Ac)}(h:Ez W base v ps):∃a cap,v=.slice a ps.length cap:=by
 obtain⟨hs,h1,h2⟩:=h;obtain⟨a,cap,e,_⟩:=h1.len;exact⟨a,cap,by rw[e,h2.length_eq]⟩
theorem Ag.typed{α:Type}{R:G3 α}{w:World}{base:Nat}{v:Value}{l:List α}(h:Ag R w base v l):∀q,v.ownBlock=some q→base≤q∧∃c fz,w.heap[q]?=some (.cells c R.e fz):=by
 intro q hq
 rcases h.2 with⟨rfl,_⟩|⟨g,cap,cur,rfl,hg,hh,_⟩
 ·cases hq
 ·obtain rfl:g=q:=by simpa [Value.ownBlock] using hq
  exact⟨hg,_,_,hh⟩
theorem Di.keptD{W W':World}{base base':Nat}{v:Value}{xs:List (List Ac)}(h:Di E8 W base v xs)(hb:base'≤base)(hk:An 80 base' [] W W')(hk2:An 78 base' [] W W'):Di E8 W' base v xs:=by
 obtain⟨vals,h1,h2,h3⟩:=h;refine⟨vals,?_,Ks (fun _ _ h=>h.kept fun q hq=>?_) h2,h3⟩
 ·refine⟨h1.1,?_⟩
  rcases h1.2 with h4|⟨g,cap,cur,hv,hg,hh,hr⟩
  ·exact Or.inl h4
  ·exact Or.inr ⟨g,cap,cur,hv,hg,(hk2.high g _ _ (by omega) hh).trans hh,hr⟩
 ·obtain⟨h5,c,fz,h6⟩:=h.typed q hq;exact hk.high q _ _ (by omega) h6
theorem lO{w:World}{ops:Array Oper}{rest:List Oper}{o:Oper}{a:Act}{Q:Exit→Act→World→Prop}(hgd:o.guard=none)(s x:Operand)
  (ho:o.op=.call {callee:=.builtin .append,args:=#[s,x],argTypes:=#[102,102]})(base:Nat)(v:Value)(ps:List (Nat × List Ac))(hs:a.eval s=v)(hown:Ez w base v ps)
  (g i n c:Nat)(ad:Option Addr)(r:List Ac)(hr:A4 w base (.slice ad n c) r)(hx:a.eval x=.slice (some ⟨g,0,none⟩) 1 1)(hg:w.heap[g]?=some (.cells #[.int .i64 i,.slice ad n c] 106 (0,0)))(hlen:ps.length+1≤1000000000)(hbase:base≤w.heap.size)
  (h:∀v' w',Ez w' base v' (ps++[(i,r)])→Below base w w'→(∀D,D≠106→An D base [] w w')→wpList Tryz.prog ops Q rest (a.put o.dst v') w'):wpList Tryz.prog ops Q (o::rest) a w:=by
 obtain⟨hds,h1,h2⟩:=hown;have hl:=h2.length_eq;refine Xl (R:=Z5) 102 Tryz.underlying102 Tryz.infoPc rfl (by decide) hgd s x ho base v hds hs h1 _ 1 1 [(i,ad,n,c)] hx (Bz.one (x:=(i,ad,n,c)) hg) (by intro h;cases h) (by simp;omega) hbase ?_;intro v' w' g1 g2 g3
 have hk:∀D,D≠106→An D base [] w w':=fun D hD=>Ww h1.typed g3 hD
 have hkc:=hk 80 (by decide);exact h v' w' ⟨_,g1,Rw (Ks (fun _ _ h=>⟨h.1,h.2.keptT hkc⟩) h2) ⟨rfl,hr.keptT hkc⟩⟩ g2 hk
def Hm(most:Nat)(out:List (List Ac))(k:Nat):List (Nat × List Ac):=(List.range k).flatMap fun i=>(K7 (out.getD i []) most).map fun r=>(i,r)
def K2(most:Nat)(out:List (List Ac)):List (Nat × List Ac):=Hm most out out.length
theorem Qw(most:Nat)(out:List (List Ac))(k:Nat):Hm most out (k+1)=Hm most out k++(K7 (out.getD k []) most).map fun r=>(k,r):=by
 unfold Hm;rw[List.range_succ,List.flatMap_append];simp
theorem Z7(l:List Ac)(most:Nat):(K7 l most).length≤l.length:=by
 have h1:=cC most l (D3 l 0 0);have h2:=Tt l 0 0;unfold K7;omega
theorem V3(most:Nat)(out:List (List Ac)):∀k,k≤out.length→(Hm most out k).length≤(out.take k).flatten.length
 |0,_=>by simp[Hm]
 |k+1,h=>by
  have ih:=V3 most out k (by omega);have hr:=Z7 (out.getD k []) most;rw[Qw,a0w,a1z,List.take_add_one,List.flatten_append,a0w,a0v (by omega)];rw[a0x,a0v (by omega)] at hr ⊢;simp only[Option.getD_some] at hr ⊢;simp only[Option.toList_some,List.flatten_cons,List.flatten_nil,List.append_nil];omega
theorem E9.flat{l:List Ac}{bs:List ByteArray}{out:List (List Ac)}(h:E9 l bs out):out.flatten=l:=by
 induction h with
 |nil=>simp
 |cons l s bs out h _ _ _ _ ih=>rw[List.flatten_cons,ih,a1x]
theorem E9.count{l:List Ac}{bs:List ByteArray}{out:List (List Ac)}(h:E9 l bs out):out.length=bs.length+1:=by
 induction h with
 |nil=>rfl
 |cons l s bs out h _ _ _ _ ih=>rw[List.length_cons,ih,List.length_cons]
theorem Z8{l:List Ac}(h:risC l=true)(j:Nat)(hj:j<l.length):J2 l j=false:=by
 cases hb:J2 l j
 ·rfl
 ·rw[Y7 hj hb] at h;cases h
theorem lP{l:List Ac}(h:risC l=true)(n:Nat):risC (l.take n)=true:=by
 refine Sl fun j hj=>?_
 rw[List.length_take] at hj;have h1:=Z8 h j (by omega);unfold J2 at h1 ⊢;rw[a0x,a0x,List.getElem?_take,List.getElem?_take,if_pos (by omega),if_pos (by omega)];rw[a0x,a0x] at h1;exact h1
theorem lQ{l:List Ac}(h:risC l=true)(n:Nat):risC (l.drop n)=true:=by
 refine Sl fun j hj=>?_
 rw[List.length_drop] at hj
 rcases Nat.eq_zero_or_pos j with rfl|h0
 ·rfl
 have h1:=Z8 h (n+j) (by omega);unfold J2 at h1 ⊢;rw[decide_eq_true (by omega),Bool.true_and] at h1 ⊢;rw[a0x,a0x,List.getElem?_drop,List.getElem?_drop,show n+(j-1)=n+j-1 by omega];rw[a0x,a0x] at h1;exact h1
theorem E9.ris{l:List Ac}{bs:List ByteArray}{out:List (List Ac)}(h:E9 l bs out):risC l=true→∀x∈out,risC x=true:=by
 induction h with
 |nil=>
  intro h x hx;rw[List.mem_singleton.1 hx];exact h
 |cons l s bs out h _ _ _ _ ih=>
  intro hr x hx
  rcases List.mem_cons.1 hx with rfl|hx
  ·exact lP hr _
  ·exact ih (lQ hr _) x hx
theorem A4.at5{w:World}{base:Nat}{v:Value}{l:List Ac}(h:A4 w base v l)(hok:∀c∈l,Dm c):∃a cap,v=.slice a l.length cap∧l.length≤cap∧(a=none→cap=0)∧Bn w a l.length l:=by
 obtain⟨a,cap,e,h1,h2⟩:=h.at2 hok;refine⟨a,cap,e,?_,h1,h2⟩
 rcases h.2 with⟨h3,h0⟩|⟨g,c2,cur,h3,_,_,hn,_⟩
 ·omega
 ·rw[e] at h3;cases h3;exact hn
end
section
open Go.RowKit Go.Lib
theorem Fp.belowQ{S:List Nat}{a b c:World}(h:Fp S a b)(k:Below a.heap.size b c):Fp S a c:=
 ⟨k.os.trans h.os,k.tape.trans h.tape,k.output.trans h.output,a0u h.size k.size,fun i hi hn=>(k.block i hi).trans (h.block i hi hn)⟩
theorem Bg.typed{e:TypeId}{w:World}{base:Nat}{v:Value}{l:List Value}(h:Bg e w base v l):∀q,v.ownBlock=some q→base≤q∧∃c fz,w.heap[q]?=some (.cells c e fz):=by
 intro q hq
 rcases h.2 with⟨rfl,_⟩|⟨g,cap,cur,rfl,hg,hh,_⟩
 ·cases hq
 ·obtain rfl:g=q:=by simpa [Value.ownBlock] using hq
  exact⟨hg,_,_,hh⟩
theorem Bg.keptT{e:TypeId}{w w':World}{base:Nat}{S:List Nat}{v:Value}{l:List Value}(h:Bg e w base v l)(hk:An e base S w w'):Bg e w' base v l:=by
 refine⟨h.1,?_⟩
 rcases h.2 with h4|⟨g,cap,cur,hv,hg,hh,hr⟩
 ·exact Or.inl h4
 ·exact Or.inr ⟨g,cap,cur,hv,hg,(hk.high g _ _ hg hh).trans hh,hr⟩
theorem Bg.sl{e:TypeId}{w:World}{base:Nat}{v:Value}{l:List Value}(h:Bg e w base v l):∃a n c,v=.slice a n c:=by
 rcases h.2 with⟨rfl,_⟩|⟨g,cap,cur,rfl,_⟩
 ·exact⟨_,_,_,rfl⟩
 ·exact⟨_,_,_,rfl⟩
theorem Z9(T e:TypeId){z:Value}{bytes:Nat}(hu:Tryz.prog.underlying T=some (.slice e))(hinfo:(Tryz.prog.info? e).map (fun i=>(i.zero,i.size,i.bytes))=some (some z,1,bytes))(hzs:z.cells.size=1)(hby:bytes≤100000)
  {w:World}{o:Oper}{a:Act}{K:Act→World→Prop}{Q:Exit→Act→World→Prop}(s x:Operand)
  (ho:o.op=.call {callee:=.builtin .append,args:=#[s,x],argTypes:=#[T,T]})(base:Nat)(v:Value)(l:List Value)(hs:a.eval s=v)(hown:Bg e w base v l)
  (g:Nat)(t:Value)(ht:t.oneCell'=true)(hx:a.eval x=.slice (some ⟨g,0,none⟩) 1 1)(hg:w.cell? ⟨g,0,none⟩=some t)(hlen:l.length+1≤1000000000)(hbase:base≤w.heap.size)
  (h:∀v' w',Bg e w' base v' (l++[t])→Below base w w'→(∀D,D≠e→An D base [] w w')→K (a.put o.dst v') w'):o.wp Tryz.prog a w K Q:=by
 obtain⟨i0,hi,hz0,hz1,hz2⟩:=info_parts hinfo;refine wp_append_own (P:=Tryz.prog) w s x T ho base e i0 _ 1 bytes hu hi hz0 hz1 hz2 hzs (by decide) v l.length l hs hown ⟨g,0,none⟩ 1 1 [t] hx rfl (Xh hg) (by intro u hu;simp at hu;subst hu;exact ht) (by unfold maxLen;omega) (a0u (Nat.mul_le_mul (show l.length+1≤1000000000 by omega) hby) (by decide)) hbase ?_;intro v' w' h1 h2 _
 refine h v' w' ?_ ((Below.refl base w).grown h2 hbase (fun k hk=>(World.ownsRow.lt hown k hk).1)) fun D hD=>Ww (Bg.typed hown) h2 hD
 unfold Bg;rw[a0w];exact h1
theorem Tryz.infoU32:(Tryz.prog.info? 26).map (fun i=>(i.zero,i.size,i.bytes))=some (some (.int .u32 0),1,4):=by kernel_rfl
structure D9(w W0:World)(base p:Nat)(sum ep vF vS:Value)(fl sl:List Value)(s c:Value)(b:Nat→Bool)(vs:Nat→Value)(W:World):Prop where
 f0:b 4=false→Bg 9 W base vF fl
 f1:b 4=true→Bg 9 W base (vs 4) (fl++[s])
 s0:b 10=false→Bg 26 W base vS sl
 s1:b 10=true→Bg 26 W base (vs 10) (sl++[c])
 fb:b 3=true→b 4=false→∃g,vs 3=.slice (some ⟨g,0,none⟩) 1 1∧base≤g∧W.heap[g]?=some (.cells #[s] 9 (0,0))
 sb:b 9=true→b 10=false→∃g,vs 9=.slice (some ⟨g,0,none⟩) 1 1∧base≤g∧W.heap[g]?=some (.cells #[c] 26 (0,0))
 cel:W.heap[p]?=some (.cells #[sum,ep,cond (b 12) (vs 4) vF,cond (b 14) (vs 10) vS] 29 (0,0))
 kept:∀D,D≠9→D≠26→An D base [p] W0 W
 fp:Fp [p] w W
 o12:b 12=true→b 4=true
 o14:b 14=true→b 10=true
 o4:b 4=true→b 3=true
 o10:b 10=true→b 9=true
 sz:base≤W.heap.size
variable {w W0 W W2 : World} {base p : Nat} {sum ep vF vS : Value} {fl sl : List Value} {s c : Value} {b : Nat → Bool} {vs : Nat → Value}
theorem D9.start{vs:Nat→Value}(hf:Bg 9 W0 base vF fl)(hs:Bg 26 W0 base vS sl)(hc:W0.heap[p]?=some (.cells #[sum,ep,vF,vS] 29 (0,0)))(hfp:Fp [p] w W0)(hb:base≤W0.heap.size)(hp:p<base):D9 w W0 base p sum ep vF vS fl sl s c (fun _=>false) vs {W0 with drawn:=W0.drawn+1}:=
 ⟨fun _=>hf.fp (Fp.drew W0) (by simp),(fun h=>by cases h),fun _=>hs.fp (Fp.drew W0) (by simp),(fun h=>by cases h),(fun h=>by cases h),(fun h=>by cases h),hc,fun _ _ _=>An.of ((Fp.drew W0).mono (by simp)) (by simpa using hp),hfp.trans (Fp.drew W0) (by simp),(fun h=>by cases h),(fun h=>by cases h),(fun h=>by cases h),(fun h=>by cases h),hb⟩
theorem D9.plain{j:Nat}{x:Value}(h:D9 w W0 base p sum ep vF vS fl sl s c b vs W)(hj:j≠3∧j≠4∧j≠9∧j≠10∧j≠12∧j≠14):D9 w W0 base p sum ep vF vS fl sl s c (Ao b j) (Bv vs j x) W:=by
 obtain⟨h3,h4,h9,h10,h12,h14⟩:=hj;refine⟨?_,?_,?_,?_,?_,?_,?_,h.kept,h.fp,?_,?_,?_,?_,h.sz⟩
 ·rw[Af h4.symm];exact h.f0
 ·rw[Af h4.symm,Be h4.symm];exact h.f1
 ·rw[Af h10.symm];exact h.s0
 ·rw[Af h10.symm,Be h10.symm];exact h.s1
 ·rw[Af h3.symm,Af h4.symm,Be h3.symm];exact h.fb
 ·rw[Af h9.symm,Af h10.symm,Be h9.symm];exact h.sb
 ·rw[Af h12.symm,Af h14.symm,Be h4.symm,Be h10.symm];exact h.cel
 ·rw[Af h12.symm,Af h4.symm];exact h.o12
 ·rw[Af h14.symm,Af h10.symm];exact h.o14
 ·rw[Af h4.symm,Af h3.symm];exact h.o4
 ·rw[Af h10.symm,Af h9.symm];exact h.o10
theorem D9.on(h:D9 w W0 base p sum ep vF vS fl sl s c b vs W)(hf:Fp [] W W2):D9 w W0 base p sum ep vF vS fl sl s c b vs W2:=by
 refine⟨fun e=>(h.f0 e).fp hf (by simp),fun e=>(h.f1 e).fp hf (by simp),fun e=>(h.s0 e).fp hf (by simp),fun e=>(h.s1 e).fp hf (by simp),fun e1 e2=>?_,fun e1 e2=>?_,(hf.block _ (Ab h.cel) (by simp)).trans h.cel,fun D h1 h2=>(h.kept D h1 h2).trans (An.of hf (by simp)) (by simp),h.fp.trans hf (by simp),h.o12,h.o14,h.o4,h.o10,a0u h.sz hf.size⟩
 ·obtain⟨g,g1,g2,g3⟩:=h.fb e1 e2;exact⟨g,g1,g2,(hf.block _ (Ab g3) (by simp)).trans g3⟩
 ·obtain⟨g,g1,g2,g3⟩:=h.sb e1 e2;exact⟨g,g1,g2,(hf.block _ (Ab g3) (by simp)).trans g3⟩
theorem D9.bldF(h:D9 w W0 base p sum ep vF vS fl sl s c b vs W)(h3:b 3=false):D9 w W0 base p sum ep vF vS fl sl s c (Ao b 3) (Bv vs 3 (.slice (some ⟨W.heap.size,0,none⟩) 1 1)) (W.alloc (.cells #[s] 9)):=by
 have h4:=Em h.o4 h3;have k:=h.on (Fp.alloc W (.cells #[s] 9));refine⟨k.f0,k.f1,k.s0,k.s1,fun _ _=>⟨W.heap.size,Gp _ _ _,h.sz,Aj rfl _⟩,k.sb,k.cel,k.kept,k.fp,k.o12,k.o14,fun e=>?_,k.o10,k.sz⟩;rw[Af (by decide),h4] at e;cases e
theorem D9.bldS(h:D9 w W0 base p sum ep vF vS fl sl s c b vs W)(h9:b 9=false):D9 w W0 base p sum ep vF vS fl sl s c (Ao b 9) (Bv vs 9 (.slice (some ⟨W.heap.size,0,none⟩) 1 1)) (W.alloc (.cells #[c] 26)):=by
 have h10:=Em h.o10 h9;have k:=h.on (Fp.alloc W (.cells #[c] 26));refine⟨k.f0,k.f1,k.s0,k.s1,k.fb,fun _ _=>⟨W.heap.size,Gp _ _ _,h.sz,Aj rfl _⟩,k.cel,k.kept,k.fp,k.o12,k.o14,k.o4,fun e=>?_,k.sz⟩;rw[Af (by decide),h10] at e;cases e
theorem D9.appF{v':Value}(h:D9 w W0 base p sum ep vF vS fl sl s c b vs W)(h3:b 3=true)(h4:b 4=false)(ho:Bg 9 W2 base v' (fl++[s]))(hb:Below base W W2)(hk:∀D,D≠9→An D base [] W W2)(hp:p<base)(hwb:w.heap.size≤base):D9 w W0 base p sum ep vF vS fl sl s c (Ao b 4) (Bv vs 4 v') W2:=by
 have h12:=Em h.o12 h4;have hku:=hk 26 (by decide);refine⟨fun e=>?_,fun _=>by rw[Gp];exact ho,fun e=>(h.s0 e).keptT hku,fun e=>(h.s1 e).keptT hku,fun _ e=>?_,fun e1 e2=>?_,?_,fun D h1 h2=>(h.kept D h1 h2).trans (hk D h1) (by simp),h.fp.belowQ (hb.mono hwb),fun _=>Ei _ _,h.o14,fun _=>h3,h.o10,a0u h.sz hb.size⟩
 ·rw[Ei] at e;cases e
 ·rw[Ei] at e;cases e
 ·obtain⟨g,g1,g2,g3⟩:=h.sb e1 e2;exact⟨g,g1,g2,(hku.high g _ _ g2 g3).trans g3⟩
 ·have h6:=h.cel;rw[h12] at h6;rw[Af (by decide),h12];exact(hb.block _ hp).trans h6
theorem D9.appS{v':Value}(h:D9 w W0 base p sum ep vF vS fl sl s c b vs W)(h9:b 9=true)(h10:b 10=false)(ho:Bg 26 W2 base v' (sl++[c]))(hb:Below base W W2)(hk:∀D,D≠26→An D base [] W W2)(hp:p<base)(hwb:w.heap.size≤base):D9 w W0 base p sum ep vF vS fl sl s c (Ao b 10) (Bv vs 10 v') W2:=by
 have h14:=Em h.o14 h10;have hku:=hk 9 (by decide);refine⟨fun e=>(h.f0 e).keptT hku,fun e=>(h.f1 e).keptT hku,fun e=>?_,fun _=>by rw[Gp];exact ho,fun e1 e2=>?_,fun _ e=>?_,?_,fun D h1 h2=>(h.kept D h1 h2).trans (hk D h2) (by simp),h.fp.belowQ (hb.mono hwb),h.o12,fun _=>Ei _ _,h.o4,fun _=>h9,a0u h.sz hb.size⟩
 ·rw[Ei] at e;cases e
 ·obtain⟨g,g1,g2,g3⟩:=h.fb e1 e2;exact⟨g,g1,g2,(hku.high g _ _ g2 g3).trans g3⟩
 ·rw[Ei] at e;cases e
 ·have h6:=h.cel;rw[h14] at h6;rw[Af (by decide),Af (by decide),h14];exact(hb.block _ hp).trans h6
theorem D9.stoF{y:Value}(h:D9 w W0 base p sum ep vF vS fl sl s c b vs W)(h4:b 4=true)(hp:p<base)(hy:vs 4=y):D9 w W0 base p sum ep vF vS fl sl s c (Ao b 12) (Bv vs 12 undef) (W.setCell ⟨p,2,none⟩ y):=by
 have hf:Fp [p] W (W.setCell ⟨p,2,none⟩ y):=Fp.setCell W ⟨p,2,none⟩ y
 have hk:∀D,An D base [p] W (W.setCell ⟨p,2,none⟩ y):=fun D=>An.of hf (by simpa using hp)
 refine⟨fun e=>(h.f0 e).keptT (hk _),fun e=>(h.f1 e).keptT (hk _),fun e=>(h.s0 e).keptT (hk _),fun e=>(h.s1 e).keptT (hk _),fun e1 e2=>?_,fun e1 e2=>?_,?_,fun D h1 h2=>(h.kept D h1 h2).trans (hk D) (by simp),h.fp.trans hf (by simp),fun _=>h4,h.o14,h.o4,h.o10,a0u h.sz hf.size⟩
 ·obtain⟨g,g1,g2,g3⟩:=h.fb e1 e2;exact⟨g,g1,g2,((hk _).high g _ _ g2 g3).trans g3⟩
 ·obtain⟨g,g1,g2,g3⟩:=h.sb e1 e2;exact⟨g,g1,g2,((hk _).high g _ _ g2 g3).trans g3⟩
 ·rw[Bt h.cel];rw[Ei,Af (by decide),Be (by decide),Be (by decide),hy];rfl
theorem D9.stoS{y:Value}(h:D9 w W0 base p sum ep vF vS fl sl s c b vs W)(h10:b 10=true)(hp:p<base)(hy:vs 10=y):D9 w W0 base p sum ep vF vS fl sl s c (Ao b 14) (Bv vs 14 undef) (W.setCell ⟨p,3,none⟩ y):=by
 have hf:Fp [p] W (W.setCell ⟨p,3,none⟩ y):=Fp.setCell W ⟨p,3,none⟩ y
 have hk:∀D,An D base [p] W (W.setCell ⟨p,3,none⟩ y):=fun D=>An.of hf (by simpa using hp)
 refine⟨fun e=>(h.f0 e).keptT (hk _),fun e=>(h.f1 e).keptT (hk _),fun e=>(h.s0 e).keptT (hk _),fun e=>(h.s1 e).keptT (hk _),fun e1 e2=>?_,fun e1 e2=>?_,?_,fun D h1 h2=>(h.kept D h1 h2).trans (hk D) (by simp),h.fp.trans hf (by simp),h.o12,fun _=>h10,h.o4,h.o10,a0u h.sz hf.size⟩
 ·obtain⟨g,g1,g2,g3⟩:=h.fb e1 e2;exact⟨g,g1,g2,((hk _).high g _ _ g2 g3).trans g3⟩
 ·obtain⟨g,g1,g2,g3⟩:=h.sb e1 e2;exact⟨g,g1,g2,((hk _).high g _ _ g2 g3).trans g3⟩
 ·rw[Bt h.cel];rw[Ei,Af (by decide),Be (by decide),Be (by decide),hy];rfl
end
section
open Go.RowKit Go.Lib
theorem E9.mem{l:List Ac}{bs:List ByteArray}{out:List (List Ac)}(h:E9 l bs out){x:List Ac}(hx:x∈out){c:Ac}(hc:c∈x):c∈l:=by
 rw[←h.flat];exact List.mem_flatten.2 ⟨x,hx,hc⟩
theorem lR(w:World)(a:Option Addr)(n cap:Nat)(a2:Option Addr)(n2 cap2:Nat)(l:List Ac)(borders:List ByteArray)(m:Nat)(hl:Bn w a n l)(hsh:a=none∧cap=0∨∃b o,a=some ⟨b,o,none⟩)(hc:n≤cap)(hb:Fj w a2 n2 borders)(hn:n≤900000)(hn2:n2≤900000)(hbo:G1 borders=true)(hri:risC l=true)(hm0:1≤m)(hm:m<2^63):
  Calls Tryz.prog 50 #[.slice a n cap,.slice a2 n2 cap2,.int .i64 m] w fun e w'=>∃v out,e=.returned (.tuple #[v,.int .i64 0])∧Ez w' w.heap.size v (K2 m out)∧E9 l borders out∧Fp [] w w':=by
 have HSP:=a0z (fun W (hl:Bn W a n l) (hb:Fj W a2 n2 borders)=>Z3 W a n cap a2 n2 cap2 l borders hl hsh hc hb (by omega) (by omega) hbo hri);have HL:=a0z hl;have HB:=a0z hb;have HRI:=a0z hri
 have hll:l.length≤900000:=by have:=hl.len;omega
 have hbl:borders.length≤900000:=by have:=hb.len;omega
 clear hl hsh hc hb hbo hri;go_enter Tryz.func50,Tryz.ntmps50;go_wp2_with (fail);(with_reducible refine(HSP.out _ HL.out HB.out).mono ?_);rintro e w1 ⟨v1,out,rfl,ho1,hsr,hf1⟩;obtain⟨va,vc,rfl⟩:=ho1.slice
 have hoc:out.length≤900001:=by have:=hsr.count;omega
 have HO1:=a0z ho1;have HSR:=a0z hsr;have HF1:=a0z hf1;clear ho1 hsr hf1;go_wp2_with (fail)
 go_loopg [6,26] out.length (fun g vo vi wr=>∃i:Nat,g=out.length-i∧vi=.int .i64 i∧i≤out.length∧Ez wr w1.heap.size vo (Hm m out i)∧Fp [] w1 wr)
 case atStart=>exact⟨0,rfl,rfl,Nat.zero_le _,Ez.nil _ _,Fp.refl _ _⟩
 case round=>
  obtain⟨i,hg,rfl,hi,hop,hf⟩:=hrel;have HOP:=a0z hop;have HFW:=a0z hf;have HG:=a0z hg;clear hop hf hg
  by_cases hlt:i<out.length
  ·have zi:(i:Int)<(out.length:Int):=by omega
   have n1:IntKind.i64.wrap ((i:Int)+1)=((i+1:Nat):Int):=by rw[IntKind.wrap_i64];omega
   obtain⟨i1,hi1⟩:∃i1,i+1=i1:=⟨_,rfl⟩
   rw[hi1] at n1;obtain⟨gb,gcap,hgv,-,hgl,-,hge⟩:=(HO1.out.fp HFW.out (by simp)).get hlt;cases hgv;obtain⟨u,hu1,hu2⟩:=hge i hlt
   obtain⟨x,hx⟩:∃x,out[i]=x:=⟨_,rfl⟩
   rw[hx] at hu2
   have hxm:x∈out:=by rw[←hx];exact List.getElem_mem _
   obtain⟨ax,cx,rfl,hxc,hxn,hxl⟩:=A4.at5 hu2 (fun c hc=>HL.out.ok c (HSR.out.mem hxm hc))
   have hxb:x.length≤900000:=by have:=Tv hxm;rw[HSR.out.flat] at this;omega
   have HRO:=a0z (fun W (h:Bn W ax x.length x)=>lM W ax x.length cx m x h (HSR.out.ris HRI.out x hxm) (by omega) hxc hm0 hm)
   have hgd:out.getD i []=x:=by rw[a0x,a0v hlt,←hx];rfl
   have HGD:=a0z hgd;have HXL:=a0z hxl;have HI1:=a0z hi1;have q0:wr.cell? ⟨gb,i,none⟩=some (.slice ax x.length cx):=hu1;clear hge hu1 hu2 hx hxm hxc hxn hxl hgd hi1;go_wp2_with (fail);(with_reducible refine(HRO.out _ (HXL.out)).mono ?_);rintro e w2 ⟨v2,rfl,ho2,hf2⟩
   obtain⟨rolls,hrolls⟩:∃rolls,K7 x m=rolls:=⟨_,rfl⟩
   rw[hrolls] at ho2;obtain⟨ra,rc,rfl⟩:=ho2.slice;have HO2:=a0z ho2;have HRL:=a0z hrolls;have HOP2:=a0z (HOP.out.fp hf2 (by simp));have HFW2:=a0z (HFW.out.trans hf2 (by simp));have hsz2:w1.heap.size≤wr.heap.size:=HFW.out.size
   have hrb:rolls.length≤900000:=by have:=Z7 x m;rw[hrolls] at this;omega
   clear ho2 hf2 hrolls q0
   have HBN:Hid ((Hm m out i).length+rolls.length≤900000):=by
    have h1:=V3 m out (i+1) hlt;rw[Qw,HGD.out,HRL.out,a0w,a1z] at h1
    have h2:((out.take (i+1)).flatten).length≤l.length:=by
     rw[←HSR.out.flat]
     conv=>rhs;rw[←a1x (i+1) out,List.flatten_append,a0w]
     omega
    exact a0z (by omega)
   go_wp2_with (fail)
   go_loopg [6,42] rolls.length (fun g vo vj W=>∃j:Nat,g=rolls.length-j∧vj=.int .i64 j∧j≤rolls.length∧Ez W w1.heap.size vo (Hm m out i++(rolls.take j).map fun r=>(i,r))∧Fp [] w1 W∧∀D,D≠106→An D w1.heap.size [] w2 W)
   case atStart=>exact⟨0,rfl,rfl,Nat.zero_le _,by rw[List.take_zero,List.map_nil,List.append_nil];exact HOP2.out,HFW2.out,fun _ _=>An.of (Fp.refl [] _) (by simp)⟩
   case round=>
    obtain⟨j,hgj,rfl,hj,hop,hf,hk⟩:=hrel;have HOPJ:=a0z hop;have HFJ:=a0z hf;have HKJ:=a0z hk;have HGJ:=a0z hgj;clear hop hf hk hgj
    obtain⟨wj,hwj⟩:∃x,x=wr:=⟨_,rfl⟩
    subst hwj
    by_cases hjl:j<rolls.length
    ·have zj:(j:Int)<(rolls.length:Int):=by omega
     have nj:IntKind.i64.wrap ((j:Int)+1)=((j+1:Nat):Int):=by rw[IntKind.wrap_i64];omega
     obtain⟨j1,hj1⟩:∃j1,j+1=j1:=⟨_,rfl⟩
     rw[hj1] at nj;obtain⟨gr,grc,hgrv,-,-,-,hgre⟩:=(HO2.out.keptD hsz2 (HKJ.out _ (by decide)) (HKJ.out _ (by decide))).get hjl;cases hgrv;obtain⟨u,hu1,hu2⟩:=hgre j hjl
     obtain⟨r,hr⟩:∃r,rolls[j]=r:=⟨_,rfl⟩
     rw[hr] at hu2;obtain⟨ar,cr,rfl⟩:=A4.sliceL hu2;have HU2:=a0z (A4.mono hu2 hsz2);have q1:wj.cell? ⟨gr,j,none⟩=some (.slice ar r.length cr):=hu1
     have htk:rolls.take (j+1)=rolls.take j++[r]:=by rw[List.take_add_one,a0v hjl,hr];rfl
     have HTK:=a0z htk;have HJ1:=a0z hj1;have HSJ:Hid (w1.heap.size≤wj.heap.size):=a0z HFJ.out.size;clear hgre hu1 hu2 hr htk hj1;go_wp2_with (at_builtin;refine lO rfl _ _ rfl w1.heap.size _ _ rfl (HOPJ.out.fp (Fp.alloc _ _) (by simp)) _ i r.length cr ar r (HU2.out.fp (Fp.alloc _ _) (by simp)) rfl (Aj rfl _) (by have:=HBN.out;rw[a0w,a1z,List.length_take];omega) (by have:=HSJ.out;simp;omega) ?_;intro v3 w3 ho3 hb3 hk3;have HO3:=a0z ho3;have HB3:=a0z hb3;have HK3:=a0z hk3;clear ho3 hb3 hk3)
     go_roundg (rolls.length-j1)
     case measure=>have:=HGJ.out;have:=HJ1.out;omega
     case rel=>
      refine⟨j1,rfl,rfl,by have:=HJ1.out;omega,?_,(HFJ.out.trans (Fp.alloc _ _) (by simp)).belowTrans HB3.out,fun D hD=>((HKJ.out D hD).trans (An.of (Fp.alloc _ _) (by simp)) (by simp)).trans (HK3.out D hD) (by simp)⟩;rw[←HJ1.out,HTK.out,List.map_append,←List.append_assoc];exact HO3.out
    ·have z1:¬(j:Int)<(rolls.length:Int):=by omega
     obtain rfl:j=rolls.length:=by omega
     have HOQ:Hid (Ez wj w1.heap.size u6 (Hm m out i1)):=by
      have h1:=HOPJ.out;rw[List.take_length] at h1;rw[←HI1.out,Qw,HGD.out,HRL.out];exact a0z h1
     go_wp2_with (fail)
     go_roundg (out.length-i1)
     case measure=>have:=HG.out;have:=HI1.out;omega
     case rel=>exact⟨i1,rfl,rfl,by have:=HI1.out;omega,HOQ.out,HFJ.out⟩
  ·have z0:¬(i:Int)<(out.length:Int):=by omega
   obtain rfl:i=out.length:=by omega
   obtain⟨pa,pc,rfl⟩:=HOP.out.slice;have HS1:Hid (w.heap.size≤w1.heap.size):=a0z HF1.out.size
   obtain⟨pn,hpn⟩:∃pn,(Hm m out out.length).length=pn:=⟨_,rfl⟩
   rw[hpn] at HOP;rw[hpn];clear hpn;go_wp2_with (fail);refine bodyPost_ret (v:=.tuple #[.slice pa pn pc,.int .i64 0]) (by simp[results,Tryz.results50,go_sem]) rfl ?_;exact⟨_,rfl,out,HOP.out.mono HS1.out,HSR.out,HF1.out.trans HFW.out (by simp)⟩
theorem lS(w:World)(a:Option Addr)(n cap:Nat)(a2:Option Addr)(n2 cap2:Nat)(l:List Ac)(borders:List ByteArray)(m:Int)(hl:Bn w a n l)(hsh:a=none∧cap=0∨∃b o,a=some ⟨b,o,none⟩)(hc:n≤cap)(hb:Fj w a2 n2 borders)(hn:n≤900000)(hn2:n2≤900000)(hbo:G1 borders=true)(hri:risC l=true)(hm:m<1):
  Calls Tryz.prog 50 #[.slice a n cap,.slice a2 n2 cap2,.int .i64 m] w fun e w'=>e=.returned (.tuple #[.slice none 0 0,.int .i64 1])∧Fp [] w w':=by
 have HSP:=a0z (fun W (hl:Bn W a n l) (hb:Fj W a2 n2 borders)=>Z3 W a n cap a2 n2 cap2 l borders hl hsh hc hb (by omega) (by omega) hbo hri);have HRM:=a0z (fun w a n cap=>lN w a n cap m hm);have HL:=a0z hl;have HB:=a0z hb;clear hl hsh hc hb hbo hri;go_enter Tryz.func50,Tryz.ntmps50;go_wp2_with (fail);(with_reducible refine(HSP.out _ HL.out HB.out).mono ?_);rintro e w1 ⟨v1,out,rfl,ho1,hsr,hf1⟩;obtain⟨va,vc,rfl⟩:=ho1.slice;have hoc:=hsr.count
 have h0:0<out.length:=by omega
 obtain⟨gb,gcap,hgv,-,hgl,-,hge⟩:=ho1.get h0;cases hgv;obtain⟨u,hu1,hu2⟩:=hge 0 h0;obtain⟨ax,cx,rfl⟩:=A4.sliceL hu2;have q0:w1.cell? ⟨gb,0,none⟩=some (.slice ax out[0].length cx):=hu1
 obtain⟨xl,hxl⟩:∃xl,out[0].length=xl:=⟨_,rfl⟩
 rw[hxl] at q0
 have z0:(0:Int)<(out.length:Int):=by omega
 have HF1:=a0z hf1;clear hge hu1 hu2 hoc ho1 hf1 hsr hxl;go_wp2_with (fail)
 go_loopg [6,26] 0 (fun g vo vi wr=>g=0∧vi=.int .i64 0∧w1=wr)
 case atStart=>exact⟨rfl,rfl,rfl⟩
 case round=>
  obtain⟨rfl,rfl,rfl⟩:=hrel;go_wp2_with (fail);(with_reducible refine(HRM.out _ _ _ _).mono ?_);rintro e w2 ⟨rfl,hf2⟩;have HF2:=a0z hf2;clear hf2 q0;go_wp2_with (fail);refine bodyPost_ret (v:=.tuple #[.slice none 0 0,.int .i64 1]) (by simp[results,Tryz.results50,go_sem]) rfl ?_;exact⟨rfl,HF1.out.trans HF2.out (by simp)⟩
theorem lT(w:World)(a:Option Addr)(n cap:Nat)(a2:Option Addr)(n2 cap2:Nat)(borders:List ByteArray)(hb:Fj w a2 n2 borders)(hn2:n2≤900000)(hbo:G1 borders=false):
  Calls Tryz.prog 88 #[.slice a n cap,.slice a2 n2 cap2] w fun e w'=>e=.returned (.tuple #[.slice none 0 0,.int .i64 1])∧Fp [] w w':=by
 have HBO:=a0z (fun W (h:Fj W a2 n2 borders)=>dD W a2 n2 cap2 borders h (by omega));rw[hbo] at HBO;have HB:=a0z hb;clear hb hbo;go_enter Tryz.func88,Tryz.ntmps88;go_wp2_with (fail);(with_reducible refine(HBO.out _ (HB.out.of_fp (Fp.alloc _ _))).mono ?_);rintro e w1 ⟨rfl,hf1⟩;have HF1:Hid (Fp [] w w1):=(Fp.alloc _ _).trans hf1 (by simp);clear hf1;go_wp2_with (fail);refine bodyPost_ret (v:=.tuple #[.slice none 0 0,.int .i64 1]) (by simp[results,Tryz.results88,go_sem]) rfl ?_;exact⟨rfl,HF1.out⟩
theorem lU(w:World)(a:Option Addr)(n cap:Nat)(a2:Option Addr)(n2 cap2:Nat)(borders:List ByteArray)(m:Int)(hb:Fj w a2 n2 borders)(hn2:n2≤900000)(hbo:G1 borders=false):
  Calls Tryz.prog 50 #[.slice a n cap,.slice a2 n2 cap2,.int .i64 m] w fun e w'=>e=.returned (.tuple #[.slice none 0 0,.int .i64 1])∧Fp [] w w':=by
 have HSP:=a0z (fun W (hb:Fj W a2 n2 borders)=>lT W a n cap a2 n2 cap2 borders hb (by omega) hbo);have HB:=a0z hb;clear hb hbo;go_enter Tryz.func50,Tryz.ntmps50;go_wp2_with (fail);(with_reducible refine(HSP.out _ HB.out).mono ?_);rintro e w1 ⟨rfl,hf1⟩;have HF1:=a0z hf1;clear hf1;go_wp2_with (fail);refine bodyPost_ret (v:=.tuple #[.slice none 0 0,.int .i64 1]) (by simp[results,Tryz.results50,go_sem]) rfl ?_;exact⟨rfl,HF1.out⟩
end
end Go.Proofs.YtkagolpnaicdoaaGreatDoor
