/-
 'out[k] = append(out[k], row...)', out a list of lists of cells: the class of worlds on the way (for XRegionV). cut.Roll: plain. A region that only reads, or leaves what was there as it was, in the round of a range over a function (XRegion's calm law). Over any program.
-/
import Derived.Test.YtkagolpnaicdoaaGreatDoorMMrgK
import Derived.Test.YtkagolpnaicdoaaGreatDoorMTabG
import Derived.Test.YtkagolpnaicdoaaGreatDoorMCutC
import Derived.Test.YtkagolpnaicdoaaGreatDoorMRegionG
set_option maxRecDepth 100000
set_option maxHeartbeats 8000000
open List renaming length_set→a0z,getElem?_eq_getElem→a0x,getElem_of_mem→a0w,length_append→a0v,mem_of_getElem?→a1z,map_cons→a1x
open Nat renaming le_refl→a0u
namespace Go.Proofs.YtkagolpnaicdoaaGreatDoor
section
open Go.RowKit Go.Lib
theorem oZ{w:World}{o:Oper}{a:Act}{K:Act→World→Prop}{Q:Exit→Act→World→Prop}(s x:Operand)
  (ho:o.op=.call {callee:=.builtin .append,args:=#[s,x],argTypes:=#[78,78]})(base:Nat)(v:Value)(l:List Ac)(hs:a.eval s=v)(hown:A4 w base v l)
  (ad:Addr)(m c:Nat)(ls:List Ac)(hx:a.eval x=.slice (some ad) m c)(hl:Bn w (some ad) m ls)(hlen:l.length+ls.length≤1000000000)(hbase:base≤w.heap.size)
  (h:∀v' w',A4 w' base v' (l++ls)→w.grownBy w' v.ownBlock→Below base w w'→(v'.ownBlock=v.ownBlock∨v'.ownBlock=some w.heap.size)→K (a.put o.dst v') w'):o.wp Tryz.prog a w K Q:=by
 obtain⟨i0,hi,hz0,hz1,hz2⟩:=info_parts Tryz.infoCel;have hm:=hl.len
 have hnews:∀j u,(ls.flatMap Fe)[j]?=some u→w.cell? (ad.add j)=some u:=by
  intro j u hu
  rcases hl.cells with h0|⟨b,o,h0,_,hc⟩
  ·subst h0;simp at hu
  ·obtain rfl:=Option.some.inj h0
   have e1:(⟨b,o,none⟩:Addr).add j=⟨b,o+j,none⟩:=by unfold Addr.add;split<;>simp_all
   rw[e1];exact fF hc j u hu
 obtain⟨v',w',hr,h1,h2,_,h3⟩:=run_append_own_at (P:=Tryz.prog) w base 78 o.type 80 i0 _ 6 72 Tryz.underlying78 hi hz0 hz1 hz2 rfl (by decide) v l.length (l.flatMap Fe) hown ad m c (ls.flatMap Fe) (by rw[X7,hm]) hnews (fH ls) (by unfold maxLen;omega) (by omega) hbase;unfold Oper.wp execOp;simp only[ho,resolve,invoke,builtin,Sem.run_bind,Sem.run_pure,Result.andThen_ok,List.map_toArray,a1x,List.map_nil,hs,hx,hr];refine h v' w' ?_ h2 (fG hown h2 hbase) h3;unfold A4;rw[a0v,List.flatMap_append,←hm];exact h1
theorem Ww{D T:TypeId}{w w':World}{base:Nat}{k:Option Nat}(hk:∀q,k=some q→base≤q∧∃c fz,w.heap[q]?=some (.cells c T fz))(hg:w.grownBy w' k)(hD:D≠T):An D base [] w w':=by
 refine⟨hg.size,fun q h1 h2 _=>hg.block q h2 fun e=>by have:=(hk q e.symm).1;omega,fun q c fz _ h2=>hg.block q (Ab h2) fun e1=>?_⟩;obtain⟨_,c2,fz2,h3⟩:=hk q e1.symm;rw[h3] at h2;cases h2;exact hD rfl
theorem A4.typed{w:World}{base:Nat}{v:Value}{l:List Ac}(h:A4 w base v l):∀q,v.ownBlock=some q→base≤q∧∃c fz,w.heap[q]?=some (.cells c 80 fz):=by
 intro q hq
 rcases h.2 with⟨rfl,_⟩|⟨g,cap,cur,rfl,hg,hh,_⟩
 ·cases hq
 ·obtain rfl:g=q:=by simpa [Value.ownBlock] using hq
  exact⟨hg,_,_,hh⟩
theorem bX{D T:TypeId}{w:World}{base g k:Nat}{c:Array Value}{fz:Nat × Nat}{x:Value}(h:w.heap[g]?=some (.cells c T fz))(hD:D≠T)(hg:base≤g):An D base [] w (w.setCell ⟨g,k,none⟩ x):=by
 have hf:Fp [g] w (w.setCell ⟨g,k,none⟩ x):=Fp.setCell w ⟨g,k,none⟩ x;refine⟨hf.size,fun q h1 h2 _=>hf.block q h2 (by simp;omega),fun q c2 fz2 h1 h2=>hf.block q (Ab h2) ?_⟩;simp only[List.mem_cons,List.not_mem_nil,or_false];rintro rfl;rw[h] at h2;cases h2;exact hD rfl
structure G9(w W0:World)(base g k:Nat)(cur:Array Value)(vals:List Value)(xs:List (List Ac))(last row:List Ac)(u:Value)(ia is:Nat)(b:Nat→Bool)(vs:Nat→Value)(W:World):Prop where
 fp:Fp [] w W
 kept:∀D,D≠80→D≠78→An D base [] W0 W
 outer:W.heap[g]?=some (.cells (if b is=true then cur.setIfInBounds k (vs ia) else cur) 78 (0,0))
 oth:∀i (h1:i<vals.length) (h2:i<xs.length),i≠k→A4 W base vals[i] xs[i]
 last0:b ia=false→A4 W base u last
 res:b ia=true→A4 W base (vs ia) (last++row)∧((vs ia).ownBlock=u.ownBlock∨∀q,(vs ia).ownBlock=some q→W0.heap.size≤q)
 o97:b is=true→b ia=true
 sz:base≤W.heap.size
variable {w W0 W W2 : World} {base g k : Nat} {cur : Array Value} {vals : List Value} {xs : List (List Ac)} {last row : List Ac} {u : Value} {ia is : Nat} {b : Nat → Bool} {vs : Nat → Value}
theorem G9.start{vs:Nat→Value}(hf:Fp [] w W0)(hg:W0.heap[g]?=some (.cells cur 78 (0,0)))(ho:∀i (h1:i<vals.length) (h2:i<xs.length),i≠k→A4 W0 base vals[i] xs[i])(hl:A4 W0 base u last)(hb:base≤W0.heap.size):G9 w W0 base g k cur vals xs last row u ia is (fun _=>false) vs {W0 with drawn:=W0.drawn+1}:=
 ⟨hf.trans (Fp.drew W0) (by simp),fun _ _ _=>An.of (Fp.drew W0) (by simp),hg,fun i h1 h2 h3=>(ho i h1 h2 h3).fp (Fp.drew W0) (by simp),fun _=>hl.fp (Fp.drew W0) (by simp),(fun h=>by cases h),(fun h=>by cases h),hb⟩
theorem G9.plain{j:Nat}{x:Value}(h:G9 w W0 base g k cur vals xs last row u ia is b vs W)(hj:j≠ia∧j≠is):G9 w W0 base g k cur vals xs last row u ia is (Ao b j) (Bv vs j x) W:=by
 obtain⟨h1,h2⟩:=hj;refine⟨h.fp,h.kept,?_,h.oth,?_,?_,?_,h.sz⟩
 ·rw[Af h2.symm,Be h1.symm];exact h.outer
 ·rw[Af h1.symm];exact h.last0
 ·rw[Af h1.symm,Be h1.symm];exact h.res
 ·rw[Af h1.symm,Af h2.symm];exact h.o97
theorem G9.first(h:G9 w W0 base g k cur vals xs last row u ia is b vs W)(h7:b ia=false):W.heap[g]?=some (.cells cur 78 (0,0)):=by
 have:=h.outer;rw[Em h.o97 h7] at this;exact this
theorem G9.append{v':Value}(h:G9 w W0 base g k cur vals xs last row u ia is b vs W)(hne:ia≠is)(h7:b ia=false)(ho:A4 W2 base v' (last++row))(hgr:W.grownBy W2 u.ownBlock)(hb:Below base W W2)(hat:v'.ownBlock=u.ownBlock∨v'.ownBlock=some W.heap.size)(hwb:w.heap.size≤base)
  (hsep:∀i (h1:i<vals.length),i≠k→∀q,vals[i].ownBlock=some q→u.ownBlock≠some q):G9 w W0 base g k cur vals xs last row u ia is (Ao b ia) (Bv vs ia v') W2:=by
 have h9:=Em h.o97 h7;have hty:=(h.last0 h7).typed;have hsz0:W0.heap.size≤W.heap.size:=(h.kept 0 (by decide) (by decide)).size;refine⟨h.fp.belowTrans (hb.mono hwb),fun D h1 h2=>(h.kept D h1 h2).trans (Ww hty hgr h1) (by simp),?_,fun i h1 h2 h3=>(h.oth i h1 h2 h3).kept fun q hq=>hgr.block q ((h.oth i h1 h2 h3).lt q hq).2 (fun e=>hsep i h1 h3 q hq e.symm),(fun e=>by rw[Ei] at e;cases e),fun _=>?_,fun e=>?_,Nat.le_trans h.sz hb.size⟩
 ·rw[Af hne.symm,h9];have h6:=h.first h7;refine(hgr.block g (Ab h6) fun e=>?_).trans h6;obtain⟨_,c,fz,h8⟩:=hty g e.symm;rw[h6] at h8;cases h8
 ·rw[Gp];refine⟨ho,?_⟩
  rcases hat with e|e
  ·exact Or.inl e
  ·refine Or.inr fun q hq=>?_
   rw[e] at hq;cases hq;exact hsz0
 ·rw[Af hne.symm,h9] at e;cases e
theorem G9.store{y:Value}(h:G9 w W0 base g k cur vals xs last row u ia is b vs W)(hne:ia≠is)(h7:b ia=true)(h9:b is=false)(hg:base≤g)(hwb:w.heap.size≤base)(hy:vs ia=y):G9 w W0 base g k cur vals xs last row u ia is (Ao b is) (Bv vs is undef) (W.setCell ⟨g,k,none⟩ y):=by
 have hou:=h.outer;rw[h9] at hou;have hf:Fp [g] W (W.setCell ⟨g,k,none⟩ y):=Fp.setCell W ⟨g,k,none⟩ y;have hkc:An 80 base [] W (W.setCell ⟨g,k,none⟩ y):=bX hou (by decide) hg;refine⟨h.fp.trans hf (by intro i hi;right;simp at hi;omega),fun D h1 h2=>(h.kept D h1 h2).trans (bX hou h2 hg) (by simp),?_,fun i h1 h2 h3=>(h.oth i h1 h2 h3).keptT hkc,fun e=>?_,fun _=>?_,fun _=>?_,Nat.le_trans h.sz hf.size⟩
 ·rw[Ei,Be hne,hy];exact(Bt hou _).trans rfl
 ·rw[Af hne,h7] at e;cases e
 ·rw[Be hne];obtain⟨h1,h2⟩:=h.res h7;exact⟨h1.keptT hkc,h2⟩
 ·rw[Af hne];exact h7
theorem C9.of_nth{α β:Type}{P:α→β→Prop}:∀(l:List α) (m:List β),l.length=m.length→(∀i (h1:i<l.length) (h2:i<m.length),P l[i] m[i])→C9 P l m
 |[],[],_,_=>.nil
 |[],_ ::_,h,_=>by cases h
 |_ ::_,[],h,_=>by cases h
 |x::l,y::m,hl,h=>.cons (h 0 (Nat.zero_lt_succ _) (Nat.zero_lt_succ _)) (C9.of_nth l m (by simpa using hl) fun i h1 h2=>h (i+1) (Nat.succ_lt_succ h1) (Nat.succ_lt_succ h2))
theorem G9.done{cap:Nat}{v:Value}(h:G9 w W0 base g k cur vals xs last row u ia is b vs W)(h7:b ia=true)(h9:b is=true)(hv:v=.slice (some ⟨g,0,none⟩) vals.length cap)(hg:base≤g)(hvc:vals.length≤cap)(hcm:cap≤maxLen)(hcs:cur.size=cap*1)(ht:cur.toList.take (vals.length*1)=vals)(hl:vals.length=xs.length)(hk:k<vals.length)(hku:vals[k]=u)(hsep:Q7 vals)
  (hlt:∀i (h1:i<vals.length),∀q,vals[i].ownBlock=some q→q<W0.heap.size):Di E8 W base v (xs.set k (last++row)):=by
 have hou:=h.outer;rw[h9,if_pos rfl] at hou;obtain⟨ho,hat⟩:=h.res h7;refine⟨vals.set k (vs ia),?_,?_,?_⟩
 ·unfold Bg;refine⟨by simp,Or.inr ⟨g,cap,cur.setIfInBounds k (vs ia),by rw[a0z];exact hv,hg,hou,by rw[a0z];exact hvc,hcm,by rw[Array.size_setIfInBounds];exact hcs,?_⟩⟩;rw[Array.toList_setIfInBounds,a0z,List.take_set,ht]
 ·refine C9.of_nth _ _ (by rw[a0z,a0z,hl]) fun i h1 h2=>?_
  rw[a0z] at h1 h2;rw[List.getElem_set,List.getElem_set]
  by_cases e:k=i
  ·rw[if_pos e,if_pos e];exact ho
  ·rw[if_neg e,if_neg e];exact h.oth i h1 h2 (fun e2=>e e2.symm)
 ·have hs2:=List.pairwise_iff_getElem.1 hsep
  refine List.pairwise_iff_getElem.2 fun i j h1 h2 hij q hq hq2=>?_
  rw[a0z] at h1 h2;rw[List.getElem_set] at hq hq2
  by_cases e:k=i
  ·rw[if_pos e] at hq;rw[if_neg (by omega)] at hq2
   rcases hat with e2|e2
   ·rw[e2,←hku] at hq;subst e;exact hs2 k j h1 h2 hij q hq hq2
   ·have:=e2 q hq;have:=hlt j h2 q hq2;omega
  ·rw[if_neg e] at hq
   by_cases e3:k=j
   ·rw[if_pos e3] at hq2
    rcases hat with e2|e2
    ·rw[e2,←hku] at hq2;subst e3;exact hs2 i k h1 h2 hij q hq hq2
    ·have:=e2 q hq2;have:=hlt i h1 q hq;omega
   ·rw[if_neg e3] at hq2;exact hs2 i j h1 h2 hij q hq hq2
end
section
open Go.RowKit Go.Lib
def Jm(l:List Ac)(x:Nat × Nat):List Ac:=(l.drop x.1).take x.2
def Jn(most:Nat)(xs:List (List Ac))(row:List Ac):List (List Ac):=if 0<xs.length∧(xs.getD (xs.length-1) []).length+row.length≤most then xs.set (xs.length-1) (xs.getD (xs.length-1) []++row) else xs++[row]
def Jo(most:Nat)(l:List Ac)(pre:List (Nat × Nat)):List (List Ac):=pre.foldl (fun xs x=>Jn most xs (Jm l x)) []
def K7(l:List Ac)(most:Nat):List (List Ac):=Jo most l (D3 l 0 0)
theorem pA(most:Nat)(l:List Ac)(pre:List (Nat × Nat))(x:Nat × Nat):Jo most l (pre++[x])=Jn most (Jo most l pre) (Jm l x):=by
 unfold Jo;rw[List.foldl_append];rfl
theorem pB{most:Nat}{xs:List (List Ac)}{row:List Ac}(h:0<xs.length)(h2:(xs.getD (xs.length-1) []).length+row.length≤most):Jn most xs row=xs.set (xs.length-1) (xs.getD (xs.length-1) []++row):=if_pos ⟨h,h2⟩
theorem bY{most:Nat}{xs:List (List Ac)}{row:List Ac}(h:¬(0<xs.length∧(xs.getD (xs.length-1) []).length+row.length≤most)):Jn most xs row=xs++[row]:=if_neg h
theorem pC(most:Nat)(xs:List (List Ac))(row:List Ac):(Jn most xs row).length≤xs.length+1:=by
 unfold Jn;split
 ·simp
 ·simp
theorem pD(most:Nat)(xs:List (List Ac))(row:List Ac):(Jn most xs row).flatten=xs.flatten++row:=by
 unfold Jn;split
 ·rename_i h;obtain⟨h,_⟩:=h
  rcases List.eq_nil_or_concat xs with rfl|⟨ys,y,rfl⟩
  ·simp at h
  ·rw[List.concat_eq_append]
   have e:(ys++[y]).length-1=ys.length:=by simp
   rw[e,List.getD_eq_getElem?_getD,List.getElem?_append_right (a0u _),Nat.sub_self];simp
 ·simp
theorem bZ(most:Nat)(l:List Ac):∀(pre:List (Nat × Nat)) (xs:List (List Ac)),(pre.foldl (fun xs x=>Jn most xs (Jm l x)) xs).flatten=xs.flatten++(pre.map (Jm l)).flatten
 |[],xs=>by simp
 |x::pre,xs=>by
  rw[List.foldl_cons,bZ most l pre,pD];simp
theorem cA(most:Nat)(l:List Ac)(pre:List (Nat × Nat)):(Jo most l pre).flatten=(pre.map (Jm l)).flatten:=by
 unfold Jo;rw[bZ];simp
theorem cB(most:Nat)(l:List Ac):∀(pre:List (Nat × Nat)) (xs:List (List Ac)),(pre.foldl (fun xs x=>Jn most xs (Jm l x)) xs).length≤xs.length+pre.length
 |[],xs=>by simp
 |x::pre,xs=>by
  rw[List.foldl_cons,List.length_cons];have:=cB most l pre (Jn most xs (Jm l x));have:=pC most xs (Jm l x);omega
theorem cC(most:Nat)(l:List Ac)(pre:List (Nat × Nat)):(Jo most l pre).length≤pre.length:=by
 have:=cB most l pre [];rw[List.length_nil,Nat.zero_add] at this;exact this
theorem Wx(l:List Ac)(fr i:Nat)(hf:fr≤i):∀x∈D3 l fr i,x.1+x.2≤l.length∧0<x.2:=by
 intro x hx
 by_cases h:i<l.length
 ·cases he:I0 l i
  ·rw[S4 h he] at hx;exact Wx l fr (i+1) (by omega) x hx
  ·rw[Qu h he] at hx
   rcases List.mem_cons.1 hx with rfl|hx
   ·simp only;omega
   ·exact Wx l (i+1) (i+1) (a0u _) x hx
 ·rw[O7 h] at hx;cases hx
 termination_by l.length-i
theorem Tt(l:List Ac)(fr i:Nat):(D3 l fr i).length≤l.length-i:=by
 by_cases h:i<l.length
 ·cases he:I0 l i
  ·rw[S4 h he];have:=Tt l fr (i+1);omega
  ·rw[Qu h he,List.length_cons];have:=Tt l (i+1) (i+1);omega
 ·rw[O7 h];exact Nat.zero_le _
 termination_by l.length-i
theorem pE{l:List Ac}{i:Nat}(h:¬i+1<l.length):I0 l i=true:=by
 unfold I0;rw[decide_eq_false h];rfl
theorem Tu(l:List Ac)(fr i:Nat)(hf:fr≤i)(hi:i<l.length∨fr=i):((D3 l fr i).map (Jm l)).flatten=l.drop fr:=by
 by_cases h:i<l.length
 ·cases he:I0 l i
  ·rw[S4 h he]
   have h1:i+1<l.length:=by
    by_cases h1:i+1<l.length
    ·exact h1
    ·rw[pE h1] at he;cases he
   exact Tu l fr (i+1) (by omega) (Or.inl h1)
  ·rw[Qu h he,a1x,List.flatten_cons,Tu l (i+1) (i+1) (a0u _) (Or.inr rfl)];unfold Jm;simp only;rw[show l.drop (i+1)=(l.drop fr).drop (i+1-fr) by rw[List.drop_drop];congr 1;omega];exact List.take_append_drop _ _
 ·rw[O7 h]
  obtain rfl:fr=i:=by omega
  rw[List.drop_eq_nil_of_le (by omega)];rfl
 termination_by l.length-i
theorem pF{l:List Ac}{pre post:List (Nat × Nat)}{x:Nat × Nat}(most:Nat)(h:D3 l 0 0=pre++x::post):(Jo most l pre).flatten.length+(Jm l x).length≤l.length:=by
 have h1:=Tu l 0 0 (a0u _) (Or.inr rfl);rw[h,List.map_append,a1x,List.flatten_append,List.flatten_cons] at h1;have h2:=congrArg List.length h1;rw[a0v,a0v,List.drop_zero] at h2;rw[cA];omega
theorem Tv{xs:List (List Ac)}{x:List Ac}(h:x∈xs):x.length≤xs.flatten.length:=by
 obtain⟨s,t,rfl⟩:=List.append_of_mem h;simp;omega
theorem Di.opened{W:World}{base:Nat}{v:Value}{xs:List (List Ac)}(h:Di E8 W base v xs)(h0:0<xs.length):∃g cap cur vals,v=.slice (some ⟨g,0,none⟩) vals.length cap∧base≤g∧W.heap[g]?=some (.cells cur 78 (0,0))∧vals.length≤cap∧cap≤maxLen∧cur.size=cap*1∧cur.toList.take (vals.length*1)=vals∧vals.length=xs.length∧(∀i (h1:i<vals.length) (h2:i<xs.length),A4 W base vals[i] xs[i])∧Q7 vals:=by
 obtain⟨vals,h1,h2,h3⟩:=h;have hl:=h2.length_eq
 rcases h1.2 with⟨_,h4⟩|⟨g,cap,cur,hv,hg,hh,hc,hm,hs,ht⟩
 ·omega
 ·exact⟨g,cap,cur,vals,hv,hg,hh,hc,hm,hs,ht,hl,fun i h1 h2'=>h2.nth i h1 h2',h3⟩
end
section
open Go.RowKit
section
variable {P : Program} {l : List Oper}
theorem pG{Ss:List (World→Value→Prop)}{C:World→Prop}{R:World→World→Prop}{a0:Act}{Qn:Act→World→Prop}(hl:Ss.length=l.length)(hform:Fb l a0.tmps.size=true)
  (stab:∀S∈Ss,∀w w' v,C w→R w w'→S w v→S w' v)(rel:∀i,i<l.length→Rh P l Ss C R a0 i)
  (fin:∀a w listed,Um l Ss C a0 listed a w→(∀j,j<l.length→listed.getD j false=true)→Qn a w):
  ∀(fuel:Nat) (listed:Array Bool) (a:Act) (w:World),Gh listed=fuel→Um l Ss C a0 listed a w→Ih P l Qn fuel listed a w:=by
 intro fuel
 induction fuel with
 |zero=>
  intro listed a w hu inv;have hall:=Uo hu;rw[inv.size] at hall;refine⟨?_,fin a w listed inv hall⟩;apply List.eq_nil_iff_forall_not_mem.2;intro j hj;obtain⟨h1,o,ho,_⟩:=mem_ready.1 hj
  have hlt:j<l.length:=by simpa using(Array.getElem?_eq_some_iff.1 ho).1
  have h2:=hall j hlt
  have hls:j<listed.size:=by rw[inv.size];exact hlt
  simp[hls] at h1 h2;rw[h1] at h2;cases h2
 |succ fuel ih=>
  intro listed a w hu inv;refine⟨fun hr=>?_,fun i hi=>?_⟩
  ·--something is ready as long as not all is listed
   exfalso
   have hex:∃j,j<l.length∧listed.getD j false=false:=by
    by_cases hex:∃j,j<l.length∧listed.getD j false=false
    ·exact hex
    ·exfalso
     have hall:∀j,j<l.length→listed.getD j false=true:=fun j hj=>by
      cases h:listed.getD j false
      ·exact absurd ⟨j,hj,h⟩ hex
      ·rfl
     have:Gh listed=0:=by
      unfold Gh;rw[List.length_eq_zero_iff,List.filter_eq_nil_iff];intro b hb;obtain⟨j,hj,rfl⟩:=a0w hb
      have hj':j<listed.size:=by simpa using hj
      have:=hall j (by rw[←inv.size];exact hj');simp[hj'] at this ⊢;exact this
     omega
   obtain⟨j,hj,hleast⟩:∃j,(j<l.length∧listed.getD j false=false)∧∀k,k<j→¬(k<l.length∧listed.getD k false=false):=by
    obtain⟨j0,h0⟩:=hex
    induction j0 using Nat.strongRecOn with
    |_ n ih2=>
     by_cases hk:∃k,k<n∧(k<l.length∧listed.getD k false=false)
     ·obtain⟨k,hk1,hk2⟩:=hk;exact ih2 k hk1 hk2
     ·exact⟨n,h0,fun k hk1 hk2=>hk ⟨k,hk1,hk2⟩⟩
   have hjs:j<listed.size:=by rw[inv.size];exact hj.1
   have:j∈Region.ready .any l.toArray listed:=by
    refine mem_ready.2 ⟨by have:=hj.2;simp[hjs] at this ⊢;exact this,l[j],by simp[hj.1],fun e he hb=>?_⟩;have hlt:=Oh hform (a0x hj.1) e he hb;cases h:listed.getD e.on false
    ·exact absurd ⟨by omega,h⟩ (hleast e.on hlt)
    ·rfl
   rw[hr] at this;cases this
  ·obtain⟨h1,o,ho,hpre⟩:=mem_ready.1 hi
   have ho':l[i]?=some o:=by simpa using ho
   have hlt:i<l.length:=(List.getElem?_eq_some_iff.1 ho').1
   have hls:i<listed.size:=by rw[inv.size];exact hlt
   obtain⟨S,hS⟩:∃S,Ss[i]?=some S:=⟨Ss[i]'(by omega),a0x (by omega)⟩
   have hr:=rel i hlt o S ho' hS a w inv.cls inv.tmps inv.same (fun e he hb oe Se hoe hSe=>inv.done e.on oe Se hoe hSe (hpre e he hb))
   have hnext:∀v w2,C w2→(∀S'∈Ss,∀v,S' w v→S' w2 v)→S w2 (match o.dst with|some _=>v|none=>undef)→Ih P l Qn fuel (listed.setIfInBounds i true) (a.put o.dst v) w2:=by
    intro v w2 hC hst hv;refine ih _ _ _ (by have:=Un hls h1;omega) ⟨by simp[inv.size],by rw[Ri];exact inv.defers,by rw[P4];exact inv.tmps,?_,?_,hC⟩
    ·intro j oj Sj hj hSj hlj
     by_cases hij:i=j
     ·subst hij;rw[ho'] at hj;cases hj;rw[hS] at hSj;cases hSj;unfold A5
      cases hd:o.dst with
      |none=>rw[hd] at hv;exact hv
      |some d=>
       rw[hd] at hv;simp only;rw[P3 (by rw[inv.tmps];exact(G4 hform ho' hd).1)];exact hv
     ·rw[getD_set_ne false hij] at hlj;have h2:=hst Sj (a1z hSj) _ (inv.done j oj Sj hj hSj hlj)
      have:A5 oj (a.put o.dst v)=A5 oj a:=by
       unfold A5
       cases hdj:oj.dst with
       |none=>rfl
       |some d=>
        simp only
        refine K9 fun hd=>?_
        exact(G4 hform ho' hd).2 j oj hj (Ne.symm hij) hdj
      rw[this];exact h2
    ·intro t ht;rw[K9 (ht o (a1z ho'))];exact inv.same t ht
   refine⟨o,ho',?_⟩;split
   ·rename_i hw;rw[if_pos hw] at hr;refine(Rf (fun a2 w2 h=>?_) (fun _ _ _ h=>h.elim) hr);obtain⟨v,rfl,hC,hR,hv⟩:=h;exact hnext v w2 hC (fun S' hS' v hv=>stab S' hS' w w2 v inv.cls hR hv) hv
   ·rename_i hw;rw[if_neg hw] at hr;refine hnext undef w inv.cls (fun _ _ _ h=>h) ?_
    cases o.dst<;>exact hr
theorem pH{Qn:Act→World→Prop}{a0:Act}{w0:World}(Ss:List (World→Value→Prop))(C:World→Prop)(R:World→World→Prop)
  (hl:Ss.length=l.length)(hform:Fb l a0.tmps.size=true)(hC:C {w0 with drawn:=w0.drawn+1})
  (stab:∀S∈Ss,∀w w' v,C w→R w w'→S w v→S w' v)(rel:∀i,i<l.length→Rh P l Ss C R a0 i)
  (fin:∀vs w,C w→Fz w Ss vs→Qn (Am l vs a0) w):Ih P l Qn l.toArray.size (Array.replicate l.toArray.size false) a0 {w0 with drawn:=w0.drawn+1}:=by
 refine(pG hl hform stab rel ?_ _ _ _ _ (by simp[Gh]) ⟨by simp,rfl,rfl,?_,fun _ _=>rfl,hC⟩)
 ·intro a w listed inv hall
  have hvs:=fin (l.map (fun o=>A5 o a)) w inv.cls (Rm (by simp[hl]) (fun i S v h1 h2=>by
   rw[List.getElem?_map] at h2
   cases ho:l[i]? with
   |none=>rw[ho] at h2;cases h2
   |some o=>
    rw[ho] at h2;simp only[Option.map_some,Option.some.injEq] at h2;rw[←h2]
    exact inv.done i o S ho h1 (hall i (List.getElem?_eq_some_iff.1 ho).1)))
  have:Am l (l.map (fun o=>A5 o a)) a0=a:=by
   have hdef:(Am l (l.map (fun o=>A5 o a)) a0).defers=a.defers:=by rw[Rk,inv.defers]
   have htm:(Am l (l.map (fun o=>A5 o a)) a0).tmps=a.tmps:=by
    have hsz:(Am l (l.map (fun o=>A5 o a)) a0).tmps.size=a.tmps.size:=by rw[Rj,inv.tmps]
    refine Array.ext hsz fun t h1 h2=>?_
    have hg:(Am l (l.map (fun o=>A5 o a)) a0).tmps.getD t undef=a.tmps.getD t undef:=by
     by_cases hex:∃o∈l,o.dst=some t
     ·obtain⟨o,ho,hd⟩:=hex;obtain⟨i,hi,hio⟩:=a0w ho
      have hio':l[i]?=some o:=by rw[a0x hi,hio]
      rw[Rl l _ a0 (by simp) (fun i j oi oj d hi hj h1 h2=>by
       by_cases hij:i=j
       ·exact hij
       ·exact absurd h2 ((G4 hform hi h1).2 j oj hj (Ne.symm hij))) (fun o' ho' d hd'=>by
       obtain⟨k,hk,hko⟩:=a0w ho'
       exact(G4 hform (by rw[a0x hk,hko]) hd').1) i o (A5 o a) t hio' (by rw[List.getElem?_map,hio'];rfl) hd]
      unfold A5;rw[hd]
     ·have hex':∀o∈l,o.dst≠some t:=fun o ho hd=>hex ⟨o,ho,hd⟩
      rw[P5 l _ a0 t hex',inv.same t hex']
    simpa [h1,h2] using hg
   cases a;cases h:Am l (l.map (fun o=>A5 o _)) a0;rw[h] at hdef htm;simp only at hdef htm;rw[hdef,htm]
  rw[this] at hvs;exact hvs
 ·intro j o S _ _ h;exfalso
  rcases Nat.lt_or_ge j l.length with h'|h'
  ·simp[h'] at h
  ·simp[h'] at h
theorem pI{id lo n:Nat}{Q:Exit→Act→World→Prop}{a0:Act}{w0:World}(C:World→Prop)(R:World→World→Prop)
  (hm:P.follows .mixedOrders=true)(hd:Rn l=true)(hform:Fb l a0.tmps.size=true)(hC:C {w0 with drawn:=w0.drawn+1})
  (h:Hw P l C R a0 (fun a w=>Q .normal a w) 0 [] l.length):(Code.region id l.toArray true).wpIn (Fence.wide.inRound lo) n P Q a0 w0:=by
 obtain⟨Ss,_,g1,g2,g3,g4⟩:=Xr hform l.length 0 [] h rfl (by omega);exact eE hm hd (pH Ss C R g1 hform hC g2 (fun i hi=>g4 i (Nat.zero_le _) hi) g3)
theorem Wy{id lo n:Nat}{Q:Exit→Act→World→Prop}{a0:Act}{w0:World}(hm:P.follows .mixedOrders=true)(hd:Rn l=true)(hform:Fb l a0.tmps.size=true)
  (h:Hw P l (fun w'=>Fp [] w0 w') (Fp []) a0 (fun a w=>Q .normal a w) 0 [] l.length):(Code.region id l.toArray true).wpIn (Fence.wide.inRound lo) n P Q a0 w0:=
 pI _ _ hm hd hform (Fp.drew w0) h
end
end
end Go.Proofs.YtkagolpnaicdoaaGreatDoor
