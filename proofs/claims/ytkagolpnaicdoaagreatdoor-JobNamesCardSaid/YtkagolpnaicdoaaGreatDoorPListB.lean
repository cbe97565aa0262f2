/-
 Lists whose elements are slices of the call's own: as they lie; append of one; 'out = append(out, f(x))' beside a store: the class of worlds on the way (for XRegionV). cut: Clone of cells, Search of a row, Split. cut.Split.
-/
import Derived.Test.YtkagolpnaicdoaaGreatDoorPRunE
import Derived.Test.YtkagolpnaicdoaaGreatDoorPWalE
import Derived.Test.YtkagolpnaicdoaaGreatDoorPMrgF
import Derived.Test.YtkagolpnaicdoaaGreatDoorPTabG
set_option maxRecDepth 100000
set_option maxHeartbeats 8000000
open Go.Lib renaming hid→a0z
open List renaming getElem?_cons_zero→a0x,getElem?_toArray→a0w,setIfInBounds_toArray→a0v,getElem?_eq_getElem→a0u,set_cons_succ→a1w,set_cons_zero→a1v,reverse_cons→a1u,reverse_nil→a2z,cons_append→a2x,nil_append→a2w,take_of_length_le→a2v
open Nat renaming le_trans→a1z,le_refl→a1x
namespace Go.Proofs.YtkagolpnaicdoaaGreatDoor
section
open Go.RowKit Go.Lib
theorem Dh.nth{α β:Type}{P:α→β→Prop}{l:List α}{m:List β}(h:Dh P l m):∀i (h1:i<l.length) (h2:i<m.length),P l[i] m[i]:=by
 induction h with
 |nil=>intro i h1;exact absurd h1 (Nat.not_lt_zero _)
 |cons hp _ ih=>
  intro i h1 h2
  cases i with
  |zero=>exact hp
  |succ i=>exact ih i (by simpa using h1) (by simpa using h2)
structure O0(β:Type) where
 T:TypeId
 e:TypeId
 k:TypeId
 P:World→Nat→Value→β→Prop
 mono:∀{w base base' v x},P w base v x→base'≤base→P w base' v x
 kept:∀{w w' base S v x},P w base v x→Av k base S w w'→P w' base v x
 sl:∀{w base v x},P w base v x→∃a n c,v=.slice a n c
 lt:∀{w base v x},P w base v x→∀q,v.ownBlock=some q→base≤q∧q<w.heap.size
 und:Tryz.prog.underlying T=some (.slice e)
 info:(Tryz.prog.info? e).map (fun i=>(i.zero,i.size,i.bytes))=some (some (.slice none 0 0),1,24)
 ne:k≠e
section
variable {β : Type} {E : O0 β}
def R4(vals:List Value):Prop:=vals.Pairwise fun u v=>∀q,u.ownBlock=some q→v.ownBlock≠some q
def Dj(E:O0 β)(W:World)(base:Nat)(v:Value)(xs:List β):Prop:=∃vals,Bg E.e W base v vals∧Dh (fun v x=>E.P W base v x) vals xs∧R4 vals
def O1(E:O0 β)(W:World)(base N:Nat)(v:Value)(xs:List β):Prop:=∃vals,Bg E.e W base v vals∧Dh (fun v x=>E.P W base v x) vals xs∧R4 vals∧∀u∈vals,∀q,u.ownBlock=some q→q<N
theorem Dj.mono{W:World}{base base':Nat}{v:Value}{xs:List β}(h:Dj E W base v xs)(hb:base'≤base):Dj E W base' v xs:=by
 obtain⟨vals,h1,h2,h3⟩:=h;exact⟨vals,h1.mono hb,K7 (fun _ _ h=>E.mono h hb) h2,h3⟩
theorem Dj.fp{W W':World}{base:Nat}{S:List Nat}{v:Value}{xs:List β}(h:Dj E W base v xs)(hf:Fp S W W')(hS:∀k∈S,k<base):Dj E W' base v xs:=by
 obtain⟨vals,h1,h2,h3⟩:=h;exact⟨vals,h1.fp hf hS,K7 (fun _ _ h=>E.kept h (Av.of hf hS)) h2,h3⟩
theorem O1.fp{W W':World}{base N:Nat}{S:List Nat}{v:Value}{xs:List β}(h:O1 E W base N v xs)(hf:Fp S W W')(hS:∀k∈S,k<base):O1 E W' base N v xs:=by
 obtain⟨vals,h1,h2,h3,h4⟩:=h;exact⟨vals,h1.fp hf hS,K7 (fun _ _ h=>E.kept h (Av.of hf hS)) h2,h3,h4⟩
theorem Dh.memQ{α β:Type}{P:α→β→Prop}{l:List α}{m:List β}(h:Dh P l m){x:α}(hx:x∈l):∃r,P x r:=by
 induction h with
 |nil=>cases hx
 |cons hp _ ih=>
  rcases List.mem_cons.1 hx with e|e
  ·rw[e];exact⟨_,hp⟩
  ·exact ih e
theorem Dj.toN{W:World}{base:Nat}{v:Value}{xs:List β}(h:Dj E W base v xs):O1 E W base W.heap.size v xs:=by
 obtain⟨vals,h1,h2,h3⟩:=h;refine⟨vals,h1,h2,h3,fun u hu q hq=>?_⟩;obtain⟨r,hr⟩:=h2.memQ hu;exact(E.lt hr q hq).2
theorem Dj.nil(W:World)(base:Nat):Dj E W base (.slice none 0 0) []:=⟨[],Bg.nil _ _ _,.nil,List.Pairwise.nil⟩
theorem Dj.slice{W:World}{base:Nat}{v:Value}{xs:List β}(h:Dj E W base v xs):∃a cap,v=.slice a xs.length cap:=by
 obtain⟨vals,h1,h2,_⟩:=h;obtain⟨⟨a,cap,e⟩,_⟩:=h1.at;exact⟨_,_,by rw[e,h2.length_eq]⟩
theorem Dj.get{W:World}{base:Nat}{v:Value}{xs:List β}(h:Dj E W base v xs){i:Nat}(hi:i<xs.length):∃g cap,v=.slice (some ⟨g,0,none⟩) xs.length cap∧xs.length≤cap∧g<W.heap.size∧base≤g∧∀j (hj:j<xs.length),∃u,W.cell? ⟨g,j,none⟩=some u∧E.P W base u xs[j]:=by
 obtain⟨vals,h1,h2,_⟩:=h;have hl:=h2.length_eq
 rcases h1.2 with⟨_,h3⟩|⟨g,cap,cur,hv,hg,hh,hc,_,_,ht⟩
 ·omega
 ·refine⟨g,cap,by rw[hv,hl],by omega,Ab hh,hg,fun j hj=>⟨vals[j]'(by omega),?_,h2.nth j (by omega) hj⟩⟩
  have h4:(cur.toList.take (vals.length*1))[j]?=vals[j]?:=by rw[ht]
  rw[Nat.mul_one,List.getElem?_take,if_pos (by omega),Array.getElem?_toList,a0u (by omega)] at h4;rw[Aa hh];exact h4
theorem X5{w:World}{g:Nat}{t:Value}(hg:w.cell? ⟨g,0,none⟩=some t):∀(j:Nat) (u:Value),[t][j]?=some u→w.cell? ((⟨g,0,none⟩:Addr).add j)=some u:=by
 intro j u hu
 have hj:j=0:=by
  have:=(List.getElem?_eq_some_iff.1 hu).1
  simpa using this
 subst hj;simp at hu;subst hu
 have e1:(⟨g,0,none⟩:Addr).add 0=⟨g,0,none⟩:=by unfold Addr.add;split<;>simp_all
 rw[e1];exact hg
theorem eH{w w':World}{base:Nat}{vals:List Value}{xs:List β}{v v':Value}{t:Value}{x:β}(hv:Bg E.e w base v vals)(hr:Dh (fun v x=>E.P w base v x) vals xs)(htr:E.P w base t x)(hsep:R4 vals){N:Nat}(hlt:∀u∈vals,∀q,u.ownBlock=some q→q<N)(hnew:∀q,t.ownBlock=some q→N≤q)(hbase:base≤w.heap.size)
  (h1:w'.ownsRow base E.e 1 v' (vals.length+1) (vals++[t]))(h2:w.grownBy w' v.ownBlock):Dj E w' base v' (xs++[x])∧Below base w w'∧(∀D,D≠E.e→Av D base [] w w'):=by
 have hkd:∀D,D≠E.e→Av D base [] w w':=fun D hD=>Vy hD hv h2 hbase
 have hk:=hkd _ E.ne;refine⟨⟨vals++[t],?_,S9 (K7 (fun _ _ h=>E.kept h hk) hr) (E.kept htr hk),?_⟩,(Below.refl base w).grown h2 hbase (fun k hk=>(World.ownsRow.lt hv k hk).1),hkd⟩
 ·unfold Bg;rw[List.length_append];exact h1
 ·refine List.pairwise_append.2 ⟨hsep,List.pairwise_singleton _ _,fun u hu t' ht' q hq e=>?_⟩;rw[List.mem_singleton.1 ht'] at e;have:=hlt u hu q hq;have:=hnew q e;omega
theorem U4(E:O0 β){w:World}{o:Oper}{a:Act}{K:Act→World→Prop}{Q:Exit→Act→World→Prop}(s x:Operand)
  (ho:o.op=.call {callee:=.builtin .append,args:=#[s,x],argTypes:=#[E.T,E.T]})(base:Nat)(v:Value)(xs:List β)(hs:a.eval s=v){N:Nat}(hown:O1 E w base N v xs)
  (g:Nat)(t:Value)(r:β)(htr:E.P w base t r)(hnew:∀q,t.ownBlock=some q→N≤q)(hx:a.eval x=.slice (some ⟨g,0,none⟩) 1 1)(hg:w.cell? ⟨g,0,none⟩=some t)(hlen:xs.length+1≤1000000000)(hbase:base≤w.heap.size)
  (h:∀v' w',Dj E w' base v' (xs++[r])→Below base w w'→(∀D,D≠E.e→Av D base [] w w')→K (a.put o.dst v') w'):o.wp Tryz.prog a w K Q:=by
 obtain⟨vals,hv,hr,hsep,hlt⟩:=hown;have hvl:=hr.length_eq;obtain⟨i0,hi,hz0,hz1,hz2⟩:=info_parts E.info;obtain⟨ta,tn,tc,rfl⟩:=E.sl htr;refine wp_append_own (P:=Tryz.prog) w s x E.T ho base E.e i0 _ 1 24 E.und hi hz0 hz1 hz2 rfl (by decide) v vals.length vals hs hv ⟨g,0,none⟩ 1 1 [.slice ta tn tc] hx rfl (X5 hg) (by intro u hu;simp at hu;subst hu;rfl) (by unfold maxLen;omega) (by omega) hbase ?_;intro v' w' h1 h2 _;obtain⟨g1,g2,g3⟩:=eH hv hr htr hsep hlt hnew hbase h1 h2;exact h v' w' g1 g2 g3
theorem sG(E:O0 β){w:World}{ops:Array Oper}{rest:List Oper}{o:Oper}{a:Act}{Q:Exit→Act→World→Prop}(hgd:o.guard=none)(s x:Operand)
  (ho:o.op=.call {callee:=.builtin .append,args:=#[s,x],argTypes:=#[E.T,E.T]})(base:Nat)(v:Value)(xs:List β)(hs:a.eval s=v){N:Nat}(hown:O1 E w base N v xs)
  (g:Nat)(t:Value)(r:β)(htr:E.P w base t r)(hnew:∀q,t.ownBlock=some q→N≤q)(hx:a.eval x=.slice (some ⟨g,0,none⟩) 1 1)(hg:w.cell? ⟨g,0,none⟩=some t)(hlen:xs.length+1≤1000000000)(hbase:base≤w.heap.size)
  (h:∀v' w',Dj E w' base v' (xs++[r])→Below base w w'→(∀D,D≠E.e→Av D base [] w w')→wpList Tryz.prog ops Q rest (a.put o.dst v') w'):wpList Tryz.prog ops Q (o::rest) a w:=by
 obtain⟨vals,hv,hr,hsep,hlt⟩:=hown;have hvl:=hr.length_eq;obtain⟨i0,hi,hz0,hz1,hz2⟩:=info_parts E.info;obtain⟨ta,tn,tc,rfl⟩:=E.sl htr;refine wpList_append_own w hgd s x E.T ho base E.e i0 _ 1 24 E.und hi hz0 hz1 hz2 rfl (by decide) v vals.length vals hs hv ⟨g,0,none⟩ 1 1 [.slice ta tn tc] hx rfl (X5 hg) (by intro u hu;simp at hu;subst hu;rfl) (by unfold maxLen;omega) (by omega) hbase ?_;intro v' w' h1 h2 _;obtain⟨g1,g2,g3⟩:=eH hv hr htr hsep hlt hnew hbase h1 h2;exact h v' w' g1 g2 g3
structure Ec(E:O0 β)(G:β→Prop)(w W0:World)(base cl:Nat)(Tc:TypeId)(X:Bool→Value→Value)(ic ib ia is:Nat)(v:Value)(xs:List β)(b:Nat→Bool)(vs:Nat→Value)(W:World):Prop where
 own0:b ia=false→O1 E W base W0.heap.size v xs
 own1:b ia=true→∃r,G r∧Dj E W base (vs ia) (xs++[r])
 res:b ic=true→b ia=false→∃r,G r∧E.P W base (vs ic) r∧∀q,(vs ic).ownBlock=some q→W0.heap.size≤q
 bld:b ib=true→b ia=false→∃g,vs ib=.slice (some ⟨g,0,none⟩) 1 1∧W.cell? ⟨g,0,none⟩=some (vs ic)
 cel:W.heap[cl]?=some (.cells #[X (b is) (vs ia)] Tc (0,0))
 keptD:∀D,D≠E.e→Av D base [cl] W0 W
 fp:Fp [] w W
 o54:b is=true→b ia=true
 o43:b ia=true→b ib=true
 o32:b ib=true→b ic=true
 sz:base≤W.heap.size
structure Qe(ic ib ia is:Nat):Prop where
 a:ic≠ib
 b:ic≠ia
 c:ic≠is
 d:ib≠ia
 e:ib≠is
 f:ia≠is
variable {G : β → Prop} {w W0 W W2 : World} {base cl : Nat} {Tc : TypeId} {X : Bool → Value → Value} {ic ib ia is : Nat} {v : Value} {xs : List β} {b : Nat → Bool} {vs : Nat → Value}
theorem Ec.kept(h:Ec E G w W0 base cl Tc X ic ib ia is v xs b vs W):Av E.k base [cl] W0 W:=h.keptD _ E.ne
theorem Ec.start{vs:Nat→Value}(ho:Dj E W0 base v xs){x0:Value}(hc:W0.heap[cl]?=some (.cells #[x0] Tc (0,0)))(hX:∀u,X false u=x0)(hf:Fp [] w W0)(hb:base≤W0.heap.size)(hcl:cl<base):Ec E G w W0 base cl Tc X ic ib ia is v xs (fun _=>false) vs {W0 with drawn:=W0.drawn+1}:=
 ⟨fun _=>ho.toN.fp (Fp.drew W0) (by simp),(fun h=>by cases h),(fun h=>by cases h),(fun h=>by cases h),by rw[hX];exact hc,fun _ _=>Av.of ((Fp.drew W0).mono (by simp)) (by simpa using hcl),hf.trans (Fp.drew W0) (by simp),(fun h=>by cases h),(fun h=>by cases h),(fun h=>by cases h),hb⟩
theorem Ec.plain{k:Nat}{x:Value}(h:Ec E G w W0 base cl Tc X ic ib ia is v xs b vs W)(hk:k≠ic∧k≠ib∧k≠ia∧k≠is):Ec E G w W0 base cl Tc X ic ib ia is v xs (Ap b k) (Bw vs k x) W:=by
 obtain⟨h2,h3,h4,h5⟩:=hk;refine⟨?_,?_,?_,?_,?_,h.keptD,h.fp,?_,?_,?_,h.sz⟩
 ·rw[Af h4.symm];exact h.own0
 ·rw[Af h4.symm,Bc h4.symm];exact h.own1
 ·rw[Af h4.symm,Af h2.symm,Bc h2.symm];exact h.res
 ·rw[Af h4.symm,Af h3.symm,Bc h3.symm,Bc h2.symm];exact h.bld
 ·rw[Af h5.symm,Bc h4.symm];exact h.cel
 ·rw[Af h5.symm,Af h4.symm];exact h.o54
 ·rw[Af h4.symm,Af h3.symm];exact h.o43
 ·rw[Af h3.symm,Af h2.symm];exact h.o32
theorem Ec.first(h:Ec E G w W0 base cl Tc X ic ib ia is v xs b vs W)(h4:b ia=false):∃u,W.heap[cl]?=some (.cells #[X false u] Tc (0,0)):=by
 have:=h.cel;rw[Et h.o54 h4] at this;exact⟨_,this⟩
theorem Ec.call{r:β}{vr:Value}(h:Ec E G w W0 base cl Tc X ic ib ia is v xs b vs W)(hi:Qe ic ib ia is)(h2:b ic=false)(hf:Fp [] W W2)(hg:G r)(hr:E.P W2 W.heap.size vr r):Ec E G w W0 base cl Tc X ic ib ia is v xs (Ap b ic) (Bw vs ic vr) W2:=by
 have h3:=Et h.o32 h2;have h4:=Et h.o43 h3;have h5:=Et h.o54 h4;refine⟨fun _=>(h.own0 h4).fp hf (by simp),fun e=>?_,fun _ _=>⟨r,hg,by rw[Gq];exact E.mono hr h.sz,by rw[Gq];exact fun q hq=>a1z h.kept.size (E.lt hr q hq).1⟩,fun e=>?_,?_,fun D hD=>(h.keptD D hD).trans (Av.of (hf.mono (by simp):Fp [] W W2) (by simp)) (by simp),h.fp.trans hf (by simp),fun e=>?_,fun e=>?_,fun _=>Ej _ _,a1z h.sz hf.size⟩
 ·rw[Af hi.b.symm,h4] at e;cases e
 ·rw[Af hi.a.symm,h3] at e;cases e
 ·rw[Af hi.c.symm,Bc hi.b.symm];exact(hf.block _ (Ab h.cel) (by simp)).trans h.cel
 ·rw[Af hi.c.symm,h5] at e;cases e
 ·rw[Af hi.b.symm,h4] at e;cases e
theorem Ec.build(h:Ec E G w W0 base cl Tc X ic ib ia is v xs b vs W)(hi:Qe ic ib ia is)(h2:b ic=true)(h3:b ib=false):Ec E G w W0 base cl Tc X ic ib ia is v xs (Ap b ib) (Bw vs ib (.slice (some ⟨W.heap.size,0,none⟩) 1 1)) (W.alloc (.cells #[vs ic] E.e)):=by
 have h4:=Et h.o43 h3;have h5:=Et h.o54 h4;have hf:=Fp.alloc W (.cells #[vs ic] E.e);refine⟨fun _=>(h.own0 h4).fp hf (by simp),fun e=>?_,fun _ _=>?_,fun _ _=>⟨W.heap.size,Gq _ _ _,?_⟩,?_,fun D hD=>(h.keptD D hD).trans (Av.of (hf.mono (by simp):Fp [] W _) (by simp)) (by simp),h.fp.trans hf (by simp),fun e=>?_,fun e=>?_,fun e=>?_,a1z h.sz hf.size⟩
 ·rw[Af hi.d.symm,h4] at e;cases e
 ·obtain⟨r,hg,hr,hq⟩:=h.res h2 h4;exact⟨r,hg,by rw[Bc hi.a];exact E.kept hr (Av.of hf (by simp)),by rw[Bc hi.a];exact hq⟩
 ·rw[Bc hi.a,Aa (Ai rfl _)];rfl
 ·rw[Af hi.e.symm,Bc hi.d.symm];exact Cb h.cel
 ·rw[Af hi.e.symm,h5] at e;cases e
 ·rw[Af hi.d.symm,h4] at e;cases e
 ·rw[Af hi.a];exact h2
theorem Ec.append{r:β}{v':Value}(h:Ec E G w W0 base cl Tc X ic ib ia is v xs b vs W)(hi:Qe ic ib ia is)(h3:b ib=true)(h4:b ia=false)(hg:G r)(ho:Dj E W2 base v' (xs++[r]))(hb:Below base W W2)(hk:∀D,D≠E.e→Av D base [] W W2)(hcl:cl<base)(hwb:w.heap.size≤base)(hX:∀u u',X false u=X false u'):
  Ec E G w W0 base cl Tc X ic ib ia is v xs (Ap b ia) (Bw vs ia v') W2:=by
 have h5:=Et h.o54 h4;refine⟨fun e=>?_,fun _=>⟨r,hg,by rw[Gq];exact ho⟩,fun _ e=>?_,fun _ e=>?_,?_,fun D hD=>(h.keptD D hD).trans (hk D hD) (by simp),h.fp.belowTrans (hb.mono hwb),fun e=>?_,fun _=>?_,fun e=>?_,a1z h.sz hb.size⟩
 ·rw[Ej] at e;cases e
 ·rw[Ej] at e;cases e
 ·rw[Ej] at e;cases e
 ·rw[Af hi.f.symm,h5,Gq,hX v' (vs ia)];have h6:=h.cel;rw[h5] at h6;exact(hb.block _ hcl).trans h6
 ·rw[Af hi.f.symm,h5] at e;cases e
 ·rw[Af hi.d];exact h3
 ·rw[Af hi.b];exact h.o32 h3
theorem Ec.store{y:Value}(h:Ec E G w W0 base cl Tc X ic ib ia is v xs b vs W)(hi:Qe ic ib ia is)(h4:b ia=true)(hcl:cl<base)(hwb:w.heap.size≤cl)(hy:X true (vs ia)=y):Ec E G w W0 base cl Tc X ic ib ia is v xs (Ap b is) (Bw vs is undef) (W.setCell ⟨cl,0,none⟩ y):=by
 have hf:Fp [cl] W (W.setCell ⟨cl,0,none⟩ y):=Fp.setCell W ⟨cl,0,none⟩ y;refine⟨fun e=>?_,fun _=>?_,fun _ e=>?_,fun _ e=>?_,?_,fun D hD=>(h.keptD D hD).trans (Av.of hf (by simpa using hcl)) (by simp),h.fp.trans hf (by intro i hi;right;simp at hi;omega),fun _=>?_,fun e=>?_,fun e=>?_,a1z h.sz hf.size⟩
 ·rw[Af hi.f,h4] at e;cases e
 ·obtain⟨r,hg,hr⟩:=h.own1 h4;exact⟨r,hg,by rw[Bc hi.f];exact hr.fp hf (by simpa using hcl)⟩
 ·rw[Af hi.f,h4] at e;cases e
 ·rw[Af hi.f,h4] at e;cases e
 ·rw[Ej,Bc hi.f,hy];exact(Bm h.cel _).trans rfl
 ·rw[Af hi.f];exact h4
 ·rw[Af hi.e];exact h.o43 h4
 ·rw[Af hi.c];rw[Af hi.e] at e;exact h.o32 e
end
theorem Tryz.infoCelL:(Tryz.prog.info? 78).map (fun i=>(i.zero,i.size,i.bytes))=some (some (.slice none 0 0),1,24):=by kernel_rfl
theorem A2.keptT{w w':World}{base:Nat}{S:List Nat}{v:Value}{l:List Ac}(h:A2 w base v l)(hk:Av 80 base S w w'):A2 w' base v l:=by
 refine h.kept fun k hk'=>?_
 rcases h.2 with⟨rfl,_⟩|⟨g,cap,cur,rfl,hg,hh,_⟩
 ·cases hk'
 ·obtain rfl:g=k:=by simpa [Value.ownBlock] using hk'
  exact hk.high _ _ _ hg hh
def Fj:O0 (List Ac) where
 T:=149
 e:=78
 k:=80
 P:=A2
 mono:=fun h hb=>A2.mono h hb
 kept:=fun h hk=>h.keptT hk
 sl:=fun h=>by
  rcases h.2 with⟨rfl,_⟩|⟨g,cap,cur,rfl,_⟩
  ·exact⟨_,_,_,rfl⟩
  ·exact⟨_,_,_,rfl⟩
 lt:=fun h=>A2.lt h
 und:=Tryz.underlying149
 info:=Tryz.infoCelL
 ne:=by decide
end
section
open Go.RowKit Go.Lib
theorem R5(w:World)(a:Option Addr)(n cap:Nat)(l:List Ac)(hat:Bt w a n l)(hnone:a=none→cap=0)(hn:n≤1000000):
  Calls Tryz.prog 136 #[.slice a n cap] w fun e w'=>∃v',e=.returned v'∧A2 w' w.heap.size v' l∧Fp [] w w':=by
 have HAT:=a0z hat;have hln:n=l.length:=hat.len
 have q22:∀(w:World) (a:Option Addr) (n c n' c':Nat),(binOp .eql 78 (.slice a n c) (.slice none n' c')).run Tryz.prog w=.ok (.bool a.isNone) w:=fun w a n c n' c'=>Lib.run_eql_slice_nil w _ _ a n c n' c' Tryz.underlying78
 cases a with
 |none=>
  obtain rfl:=hnone rfl
  have hl0:l=[]:=by
   rcases hat.cells with h|⟨b,o,h,_⟩
   ·exact h
   ·cases h
  subst hl0;have hn0:n=0:=hln;subst hn0;clear hln hat hnone hn;go_enter Tryz.func136,Tryz.ntmps136;go_wp2_with (fail);go_ret;exact⟨_,rfl,A2.nil _ _,Fp.refl _ _⟩
 |some ad=>
  have HLN:=a0z hln;clear hat hnone hln;go_enter Tryz.func136,Tryz.ntmps136;go_wp2_with (at_builtin;refine Y9 rfl _ _ rfl w.heap.size _ [] rfl (A2.made w _ (a1x _)) _ _ _ l rfl (HAT.out.fp (Fp.alloc _ _)) (by intro h;cases h) (by have:=HLN.out;simp;omega) (by simp) ?_;intro v2 w2 hown2 hbel2;have HO2:=a0z hown2;have HB2:=a0z hbel2;clear hown2 hbel2);go_ret;exact⟨_,rfl,HO2.out,(Fp.alloc w _).belowTrans (HB2.out.mono (by simp))⟩
theorem sH(w:World)(b2 b7:Nat)(a:Option Addr)(n cap i:Nat)(l:List Ac)(s:ByteArray)(hb2:w.heap[b2]?=some (.cells #[.slice a n cap] 78 (0,0)))(hb7:w.heap[b7]?=some (.cells #[.string s] 9 (0,0)))(hl:Bt w a n l)(hi:i<n):
  Calls Tryz.prog 146 #[.int .i64 i,.pointer (some ⟨b2,0,none⟩),.pointer (some ⟨b7,0,none⟩)] w fun e w'=>e=.returned (.bool (!(I0 (l.getD i Bv).row s)))∧Fp [] w w':=by
 have hil:i<l.length:=by rw[←hl.len];exact hi
 obtain⟨b1,o1,e,_,hc⟩:=P1 hl hil;subst e
 have e2:l.getD i Bv=l[i]:=by rw[List.getD_eq_getElem?_getD,a0u hil];rfl
 rw[e2]
 obtain⟨c,hcc⟩:∃c,l[i]=c:=⟨_,rfl⟩
 rw[hcc] at hc ⊢;obtain⟨row,col,ts,seq,del,val⟩:=c;have HCE:=a0z hc;have HB2:=a0z hb2;have HB7:=a0z hb7
 have zi:(i:Int)<(n:Int):=by omega
 obtain⟨bl,hbl⟩:∃bl,Op.bytesLess row.toList s.toList=bl:=⟨_,rfl⟩
 have hbl2:I0 row s=bl:=hbl;simp only;rw[hbl2];clear hc hb2 hb7 hcc e2 hl hbl2;go_enter Tryz.func146,Tryz.ntmps146;go_wp2_with (fail);refine Df (by kernel_rfl) (by kernel_rfl) ?_
 iterate 8
  apply A9 rfl rfl rfl
  ·intro a w hC hA K hK
   try have h1:=hA.fr 1 rfl
   try have h0:=hA.fr 0 rfl
   try have h5:=hA.eq 0 5 rfl
   try have h6:=hA.eq 1 6 rfl
   try have h7:=hA.eq 2 7 rfl
   try have h8:=hA.eq 3 8 rfl
   try have h2:=hA.fr 2 rfl
   try have h9:=hA.eq 4 9 rfl
   try have h10:=hA.eq 5 10 rfl
   try have h11:=hA.eq 6 11 rfl
   obtain⟨k0,k1,k2,k3,k4,k5⟩:=HCE.out _ hC;simp only at k0;have p2:=Aa ((hC.block _ (Ab HB2.out) (by simp)).trans HB2.out) 0;have p7:=Aa ((hC.block _ (Ab HB7.out) (by simp)).trans HB7.out) 0;simp only[a0w,a0x] at p2 p7;simp only[Oper.wp,execOp];go_simp;exact hK _ hC (Fp.refl _ _)
 refine⟨?_,?_⟩
 ·repeat(first|exact trivial|refine C3 _ ?_ |refine⟨fun w1 w2 v _ hf ⟨g,h1,h2⟩=>⟨g,h1,(hf.block g (Ab h2) (by simp)).trans h2⟩,?_⟩)
 ·intro w' hC;simp only[a1u,a2z,a2w,a2x]
  iterate 8 (refine Au ?_)
  refine A6 ?_;simp only[Am,Act.put,a0v,a1w,a1v];have HC:=a0z hC;clear hC;go_wp2_with (fail);go_ret;exact⟨rfl,HC.out⟩
theorem sI(w:World)(n b2 b7:Nat)(p:Nat→Bool)(hn:n≤1000000)
  (hcl:∀i W,i<n→Fp [] w W→Calls Tryz.prog 146 #[.int .i64 i,.pointer (some ⟨b2,0,none⟩),.pointer (some ⟨b7,0,none⟩)] W fun e W'=>e=.returned (.bool (p i))∧Fp [] W W'):
  Calls Tryz.prog 145 #[.int .i64 n,.func (.func 146) #[] #[.pointer (some ⟨b2,0,none⟩),.pointer (some ⟨b7,0,none⟩)]] w fun e w'=>
   ∃h:Nat,e=.returned (.int .i64 h)∧h≤n∧(h<n→p h=true)∧(0<h→p (h-1)=false)∧Fp [] w w':=by
 have HCL:=a0z hcl;clear hcl;go_enter Tryz.func145,Tryz.ntmps145;go_wp2_with (fail)
 go_loopg [5,6] n (fun g vi vj wr=>∃i j:Nat,g=j-i∧i≤j∧j≤n∧vi=.int .i64 i∧vj=.int .i64 j∧(j<n→p j=true)∧(0<i→p (i-1)=false)∧Fp [] w wr)
 case atStart=>exact⟨0,n,by omega,by omega,a1x _,rfl,rfl,fun h=>absurd h (Nat.lt_irrefl _),fun h=>absurd h (Nat.lt_irrefl _),Fp.refl _ _⟩
 case round=>
  obtain⟨i,j,rfl,hij,hjn,rfl,rfl,hpj,hpi,hf⟩:=hrel;have HF:=a0z hf;have HPJ:=a0z hpj;have HPI:=a0z hpi;clear hf hpj hpi
  by_cases hlt:i<j
  ·have z:(i:Int)<(j:Int):=by omega
   obtain⟨m,hm⟩:∃m,(i+j)/2=m:=⟨_,rfl⟩
   have e1:((i:Int)+(j:Int))/2=(m:Int):=by omega
   have hmi:i≤m:=by omega
   have hmj:m<j:=by omega
   clear hm;go_wp2_with (fail);(with_reducible refine(HCL.out m _ (by omega) HF.out).mono ?_);rintro e w2 ⟨rfl,hf⟩;have HF2:=a0z (HF.out.trans hf (by simp));clear hf;cases hp:p m
   ·have HP:=a0z hp;clear hp;go_wp2_with (fail)
    go_roundg (j-(m+1))
    case measure=>omega
    case rel=>exact⟨m+1,j,rfl,by omega,hjn,by simp,rfl,HPJ.out,fun _=>HP.out,HF2.out⟩
   ·have HP:=a0z hp;clear hp;go_wp2_with (fail)
    go_roundg (m-i)
    case measure=>omega
    case rel=>exact⟨i,m,rfl,by omega,by omega,rfl,rfl,fun _=>HP.out,HPI.out,HF2.out⟩
  ·obtain rfl:i=j:=by omega
   have z:¬(i:Int)<(i:Int):=by omega
   go_wp2_with (fail);go_ret;exact⟨i,rfl,hjn,HPJ.out,HPI.out,HF.out⟩
inductive Fo:List Ac→List ByteArray→List (List Ac)→Prop
 |nil (l:List Ac):Fo l [] [l]
 |cons (l:List Ac) (s:ByteArray) (bs:List ByteArray) (out:List (List Ac)) (h:Nat):h≤l.length→(h<l.length→I0 (l.getD h Bv).row s=false)→(0<h→I0 (l.getD (h-1) Bv).row s=true)→Fo (l.drop h) bs out→Fo l (s::bs) (l.take h::out)
inductive Jc:List Ac→List ByteArray→List (List Ac)→List Ac→Prop
 |nil (l:List Ac):Jc l [] [] l
 |snoc (l:List Ac) (bs:List ByteArray) (out:List (List Ac)) (r:List Ac) (s:ByteArray) (h:Nat):Jc l bs out r→h≤r.length→(h<r.length→I0 (r.getD h Bv).row s=false)→(0<h→I0 (r.getD (h-1) Bv).row s=true)→Jc l (bs++[s]) (out++[r.take h]) (r.drop h)
theorem Jc.join{l r:List Ac}{bs:List ByteArray}{out:List (List Ac)}(h:Jc l bs out r):∀{bs2:List ByteArray} {out2:List (List Ac)},Fo r bs2 out2→Fo l (bs++bs2) (out++out2):=by
 induction h with
 |nil=>exact fun h=>h
 |snoc bs out r s h _ h1 h2 h3 ih=>
  intro bs2 out2 h4;rw[List.append_assoc,List.append_assoc];exact ih (Fo.cons r s bs2 out2 h h1 h2 h3 h4)
theorem Jc.all{l r:List Ac}{bs:List ByteArray}{out:List (List Ac)}(h:Jc l bs out r):Fo l bs (out++[r]):=by
 have:=h.join (Fo.nil r);rw[List.append_nil] at this;exact this
theorem Jc.sub{l r:List Ac}{bs:List ByteArray}{out:List (List Ac)}(h:Jc l bs out r):r.length≤l.length∧(∀c∈r,c∈l)∧out.length=bs.length:=by
 induction h with
 |nil=>exact⟨a1x _,fun c h=>h,rfl⟩
 |snoc bs out r s h _ h1 h2 h3 ih=>exact⟨by rw[List.length_drop];omega,fun c hc=>ih.2.1 c (List.mem_of_mem_drop hc),by simp[ih.2.2]⟩
end
section
open Go.RowKit Go.Lib
def eI(rv nv:Value):Bool→Value→Value:=fun d _=>cond d nv rv
structure Jd(w W0:World)(base cl:Nat)(rv nv:Value)(hd:List Ac)(v:Value)(xs:List (List Ac))(b:Nat→Bool)(vs:Nat→Value)(W:World):Prop where
 l:Ec Fj (fun r=>r=hd) w W0 base cl 78 (eI rv nv) 4 5 6 11 v xs b vs W
 m:b 10=true→b 6=true∧vs 10=vs 6
variable {w W0 W W2 : World} {base cl : Nat} {rv nv : Value} {hd : List Ac} {v : Value} {xs : List (List Ac)} {b : Nat → Bool} {vs : Nat → Value}
theorem N5:Qe 4 5 6 11:=⟨by decide,by decide,by decide,by decide,by decide,by decide⟩
theorem Jd.other{k:Nat}{x:Value}(h:Jd w W0 base cl rv nv hd v xs b vs W)(hk:k≠10)(h6:k=6→b 6=false)(hl:Ec Fj (fun r=>r=hd) w W0 base cl 78 (eI rv nv) 4 5 6 11 v xs (Ap b k) (Bw vs k x) W2):Jd w W0 base cl rv nv hd v xs (Ap b k) (Bw vs k x) W2:=by
 refine⟨hl,fun e=>?_⟩;rw[Af hk.symm] at e;obtain⟨h1,h2⟩:=h.m e
 have hk6:k≠6:=fun e=>by rw[h6 e] at h1;cases h1
 exact⟨Pm h1,by rw[Bc hk.symm,Bc hk6.symm];exact h2⟩
theorem Jd.plain{k:Nat}{x:Value}(h:Jd w W0 base cl rv nv hd v xs b vs W)(hk:k≠10∧k≠4∧k≠5∧k≠6∧k≠11):Jd w W0 base cl rv nv hd v xs (Ap b k) (Bw vs k x) W:=h.other hk.1 (fun e=>absurd e hk.2.2.2.1) (h.l.plain ⟨hk.2.1,hk.2.2.1,hk.2.2.2.1,hk.2.2.2.2⟩)
theorem Jd.assign(h:Jd w W0 base cl rv nv hd v xs b vs W)(h6:b 6=true){x:Value}(hx:x=vs 6):Jd w W0 base cl rv nv hd v xs (Ap b 10) (Bw vs 10 x) W:=
 ⟨h.l.plain (by decide),fun _=>⟨Pm h6,by rw[Gq,Bc (by decide)];exact hx⟩⟩
theorem Jd.cel0(h:Jd w W0 base cl rv nv hd v xs b vs W)(h11:b 11=false):W.heap[cl]?=some (.cells #[rv] 78 (0,0)):=by
 have:=h.l.cel;rw[h11] at this;exact this
structure sJ(w:World)(l:List Ac)(borders:List ByteArray)(k:Nat)(v:Value)(W:World):Prop where
 ex:∃out r a n cap,Dj Fj W (w.heap.size+1) v out∧Jc l (borders.take k) out r∧W.heap[w.heap.size]?=some (.cells #[.slice a n cap] 78 (0,0))∧Bt w a n r∧n≤cap∧(a=none∧cap=0∨∃b o,a=some ⟨b,o,none⟩)
 fp:Fp [] w W
 sz:w.heap.size<W.heap.size
theorem eJ(w:World)(a:Option Addr)(n cap:Nat)(a2:Option Addr)(n2 cap2:Nat)(l:List Ac)(borders:List ByteArray)(hl:Bt w a n l)(hsh:a=none∧cap=0∨∃b o,a=some ⟨b,o,none⟩)(hc:n≤cap)(hb:F4 w a2 n2 borders)(hn:n≤1000000)(hn2:n2≤1000000)(hbo:G8 borders=true)(hri:risC l=true):
  Calls Tryz.prog 88 #[.slice a n cap,.slice a2 n2 cap2] w fun e w'=>∃v out,e=.returned (.tuple #[v,.int .i64 0])∧Dj Fj w' w.heap.size v out∧Fo l borders out∧Fp [] w w':=by
 have HBO:=a0z (fun W (h:F4 W a2 n2 borders)=>fP W a2 n2 cap2 borders h hn2);have HRI:=a0z (fun W (h:Bt W a n l)=>Uf W a n cap l h (by omega));rw[hbo] at HBO;rw[hri] at HRI;have HL:=a0z hl;have HB:=a0z hb;have HC:=a0z hc;have HLN:=a0z hb.len;have HLL:=a0z hl.len;have HSH:=a0z hsh;clear hl hb hbo hri hc hsh;go_enter Tryz.func88,Tryz.ntmps88;go_wp2_with (fail);(with_reducible refine(HBO.out _ (HB.out.of_fp (Fp.alloc _ _))).mono ?_);rintro e w1 ⟨rfl,hf1⟩;have HX1:=a0z ((hf1.block _ (by simp) (by simp)).trans (Ai rfl _):w1.heap[w.heap.size]?=some (.cells #[.slice a n cap] 78 (0,0)));have q1:w1.cell? ⟨w.heap.size,0,none⟩=some (.slice a n cap):=Aa HX1.out 0;have HF1:Hid (Fp [] w w1):=(Fp.alloc _ _).trans hf1 (by simp);clear hf1;go_wp2_with (fail);(with_reducible refine(HRI.out _ (HL.out.fp HF1.out)).mono ?_);rintro e w2 ⟨rfl,hf2⟩;have HX2:=a0z ((hf2.block _ (Ab HX1.out) (by simp)).trans HX1.out);have HF2:Hid (Fp [] w w2):=HF1.out.trans hf2 (by simp);have hbw:w.heap.size<w2.heap.size:=Ab HX2.out;clear hf2 q1;go_wp2_with (fail)
 go_loopg [4,19] n2 (fun gg v vi wr=>∃k:Nat,vi=.int .i64 k∧gg+k=n2∧sJ w l borders k v wr)
 case atStart=>exact⟨0,rfl,by omega,⟨[],l,a,n,cap,Dj.nil _ _,Jc.nil l,HX2.out,HL.out,HC.out,HSH.out⟩,HF2.out,hbw⟩
 case round=>
  obtain⟨k,rfl,hg,hm⟩:=hrel;obtain⟨out,r,ar,nr,cr,ho,hu,hx,hcr,hncr,hsr⟩:=hm.ex;have HF:=a0z hm.fp;have HO:=a0z ho;have HU:=a0z hu;have HX:=a0z hx;have HCR:=a0z hcr;have HSR:=a0z hsr;have hsz:=hm.sz;have hnr:nr=r.length:=hcr.len;have HNR:=a0z hnr;have hsub:=hu.sub
  have hnl:nr≤1000000:=by have:=HLL.out;omega
  have hol:out.length≤1000000:=by have:=hsub.2.2;rw[List.length_take] at this;have:=HLN.out;omega
  clear hm ho hu hx hcr hsr hsub hnr
  by_cases hk:k<n2
  ·have zk:(k:Int)<(n2:Int):=by omega
   have n1:IntKind.i64.wrap ((k:Int)+1)=((k+1:Nat):Int):=by rw[IntKind.wrap_i64];omega
   have hkl:k<borders.length:=by have:=HLN.out;omega
   obtain⟨b,o,e,hc⟩:=fO HB.out hkl;subst e;have q0:=hc k hkl wr HF.out
   have htk:borders.take (k+1)=borders.take k++[H7 borders k]:=by
    rw[List.take_add_one,a0u hkl,fN hkl];rfl
   have HTK:=a0z htk
   obtain⟨s,hs⟩:∃s,H7 borders k=s:=⟨_,rfl⟩
   rw[hs] at q0 HTK
   have hb2:∀X:Obj,(wr.alloc X).heap[w.heap.size]?=some (.cells #[.slice ar nr cr] 78 (0,0)):=fun X=>Cb HX.out
   have q2:∀X:Obj,(wr.alloc X).cell? ⟨w.heap.size,0,none⟩=some (.slice ar nr cr):=fun X=>Aa (hb2 X) 0
   have HSE:=a0z (sI (wr.alloc (.cells #[.string s] 9)) nr w.heap.size wr.heap.size (fun i=>!(I0 (r.getD i Bv).row s)) hnl fun i W hi hf=>sH W w.heap.size wr.heap.size ar nr cr i r s ((hf.block _ (Ab (hb2 _)) (by simp)).trans (hb2 _)) ((hf.block _ (by simp) (by simp)).trans (Ai rfl _)) (HCR.out.fp ((HF.out.alloc' _).trans hf (by simp))) hi);clear hc hs htk hb2;go_wp2_with (fail);(with_reducible refine HSE.out.mono ?_);rintro e w3 ⟨h,rfl,hhn,hh1,hh2,hf3⟩
   have HH1:Hid (h<nr→I0 (r.getD h Bv).row s=false):=fun e=>by simpa using hh1 e
   have HH2:Hid (0<h→I0 (r.getD (h-1) Bv).row s=true):=fun e=>by simpa using hh2 e
   have HF3:Hid (Fp [] wr w3):=(Fp.alloc _ _).trans hf3 (by simp);have HFW:Hid (Fp [] w w3):=HF.out.trans HF3.out (by simp);have HX3:=a0z ((HF3.out.block _ (Ab HX.out) (by simp)).trans HX.out);have HO3:=a0z (HO.out.fp HF3.out (by simp))
   have hsz3:w.heap.size+1≤w3.heap.size:=by have:=HF3.out.size;omega
   have zh1:(h:Int)≤(cr:Int):=by omega
   have zh2:(h:Int)≤(nr:Int):=by omega
   obtain⟨va,vc,rfl⟩:=HO3.out.slice;clear hh1 hh2 hf3 q2 q0
   by_cases hch:cr=h
   ·have hnh:nr=h:=by omega
    have HRR:Hid (r.drop h=[]∧r.take h=r):=⟨List.drop_of_length_le (by have:=HNR.out;omega),a2v (by have:=HNR.out;omega)⟩
    have HCL:=a0z (fun w' (hf:Fp [] w w')=>R5 w' ar h h (r.take h) (by rw[HRR.out.2,←hnh];exact HCR.out.fp hf) (fun e=>by rcases HSR.out with h2|⟨b,o,h2⟩;exact hch▸h2.2;rw[h2] at e;cases e) (by omega));subst hch;have HNH:=a0z hnh;clear hnh
    obtain⟨d1,hd1⟩:∃d,nr-cr=d:=⟨_,rfl⟩
    go_wp2_with (fail);refine Px (Jd w w3 (w.heap.size+1) w.heap.size (.slice ar nr cr) (.slice ar d1 0) (r.take cr) (.slice va out.length vc) out) (fun _ _=>True) (by kernel_rfl) (by kernel_rfl) (fun _=>⟨Ec.start HO3.out HX3.out (fun _=>rfl) HFW.out hsz3 (by omega),(fun e=>by cases e)⟩) ?_;apply Cj (fun _ _ _ h _=>h.plain (by decide)) rfl rfl rfl
    ·intro b a w hC hA K hK;have h4:=hA.fr 4 rfl;simp only[Oper.wp,execOp];go_simp;exact hK _ hC trivial
    apply Cj (fun _ _ _ h _=>h.plain (by decide)) rfl rfl rfl
    ·intro b a w hC hA K hK;have h2:=hA.fr 2 rfl;have q0:=Aa (hC.cel0 (hA.post 11 (by kernel_rfl))) 0;simp only[a0w,a0x] at q0;simp only[Oper.wp,execOp];go_simp;exact hK _ hC trivial
    iterate 2
     apply Cj (fun _ _ _ h _=>h.plain (by decide)) rfl rfl rfl
     ·intro b a w hC hA K hK
      try have h8:=hA.fr 8 rfl
      try have h28:=hA.eq 1 28 rfl
      try have h29:=hA.eq 2 29 rfl
      simp only[Oper.wp,execOp];go_simp;exact hK _ hC trivial
    apply Dt (fun _ _=>True) rfl rfl rfl
    ·intro b a w hC hA K hK;have h30:=hA.eq 3 30 rfl;simp only[Oper.wp,execOp];go_simp;(with_reducible refine(HCL.out _ hC.l.fp).mono ?_);rintro e w4 ⟨vr,rfl,hr,hf⟩;exact hK _ _ (hC.other (by decide) (fun e=>absurd e (by decide)) (hC.l.call N5 hA.self hf rfl hr)) trivial trivial
    apply Dt (fun _ _=>True) rfl rfl rfl
    ·intro b a w hC hA K hK;have h31:=hA.dep 4 31 _ (by kernel_rfl) rfl;obtain⟨rr,hg,hr,-⟩:=hC.l.res (hA.pre 4 (by kernel_rfl)) (hA.post 6 (by kernel_rfl));obtain⟨a2,n2,c2,e2⟩:=Fj.sl hr;have hv:=hA.val 4 31 (by kernel_rfl);rw[e2] at hv;have hst:=hC.other (by decide) (fun e=>absurd e (by decide)) (hC.l.build N5 (hA.pre 4 (by kernel_rfl)) hA.self);rw[e2] at hst;simp only[Oper.wp,execOp];go_simp;exact hK _ _ hst trivial trivial
    apply Dt (fun _ _=>True) rfl rfl rfl
    ·intro b a w hC hA K hK;have h27:=hA.eq 0 27 rfl;have h32:=hA.dep 5 32 _ (by kernel_rfl) rfl;obtain⟨g,hg1,hg2⟩:=hC.l.bld (hA.pre 5 (by kernel_rfl)) hA.self;obtain⟨rr,hg,hr,hq⟩:=hC.l.res (hC.l.o32 (hA.pre 5 (by kernel_rfl))) hA.self;refine U4 Fj (.tmp 27) (.tmp 32) rfl _ (.slice va out.length vc) out (Gf h27) (hC.l.own0 hA.self) g _ rr hr hq (Gf ((hA.val 5 32 (by kernel_rfl)).trans hg1)) hg2 (by omega) hC.l.sz ?_;intro v' w' h1 h2 h3;exact hK _ _ (hC.other (by decide) (fun _=>hA.self) (hC.l.append N5 (hA.pre 5 (by kernel_rfl)) hA.self hg h1 h2 h3 (by omega) (by omega) (fun _ _=>rfl))) trivial trivial
    apply Cj (fun _ _ _ h _=>h.plain (by decide)) rfl rfl rfl
    ·intro b a w hC hA K hK;have h2:=hA.fr 2 rfl;have q0:=Aa (hC.cel0 (hA.post 11 (by kernel_rfl))) 0;simp only[a0w,a0x] at q0;simp only[Oper.wp,execOp];go_simp;exact hK _ hC trivial
    iterate 2
     apply Cj (fun _ _ _ h _=>h.plain (by decide)) rfl rfl rfl
     ·intro b a w hC hA K hK
      try have h8:=hA.fr 8 rfl
      try have h34:=hA.eq 7 34 rfl
      try have h35:=hA.eq 8 35 rfl
      simp only[Oper.wp,execOp];go_simp;exact hK _ hC trivial
    apply Dt (fun _ _=>True) rfl rfl rfl
    ·intro b a w hC hA K hK;have h33:=hA.dep 6 33 _ (by kernel_rfl) rfl;simp only[Oper.wp,execOp];go_simp;exact hK _ _ (hC.assign (hA.pre 6 (by kernel_rfl)) (hA.val 6 33 (by kernel_rfl))) trivial trivial
    apply I9 (fun _=>True) rfl rfl rfl
    ·intro b a w hC hA K hK;have h2:=hA.fr 2 rfl;have h36:=hA.eq 9 36 rfl;have h6:b 6=true:=(hC.m (hA.pre 10 (by kernel_rfl))).1;have hst:=hC.other (by decide) (fun e=>absurd e (by decide)) (hC.l.store N5 h6 (by omega) (a1x _) rfl);have f0:=Ar hC.l.cel 0;have q0:=Aa hC.l.cel 0;simp only[Oper.wp,execOp];go_simp;exact hK undef _ hst trivial trivial
    refine⟨?_,?_⟩
    ·refine⟨fun _ _ _ _ _=>trivial,?_⟩;refine⟨fun _ _ _ _ _=>trivial,?_⟩
     iterate 3 refine E6 _ ?_
     refine⟨fun _ _ _ _ _=>trivial,?_⟩;refine⟨fun _ _ _ _ _=>trivial,?_⟩;refine⟨fun _ _ _ _ _=>trivial,?_⟩
     iterate 4 refine E6 _ ?_
     exact trivial
    ·intro w' bb hbb;simp only[a1u,a2z,a2w,a2x]
     iterate 4 (refine Au ?_)
     refine Az ?_;intro v4 u4;refine Az ?_;intro v5 u5;refine Az ?_;intro v6 u6
     iterate 3 (refine Au ?_)
     refine Az ?_;intro v10 u10;refine Az ?_;intro v11 u11;refine A6 ?_;intro hC;simp only[Am,Act.put,a0v,a1w,a1v];have hcel:=hC.l.cel;rw[hbb 11 (by simp)] at hcel;obtain⟨rr,hrr,ho5⟩:=hC.l.own1 (hbb 6 (by simp));have hv10:=(hC.m (hbb 10 (by simp))).2;have H1:=a0z hcel
     have H2:Hid (Dj Fj w' (w.heap.size+1) v10 (out++[r.take cr])):=by
      rw[←hrr];have e:v10=v6:=hv10;rw[e];exact ho5
     have H3:=a0z hC.l.fp;clear hC hbb hcel ho5 hv10;go_wp2_with (fail)
     go_roundg (gk-1)
     case measure=>omega
     case rel=>
      refine⟨k+1,by simp,by omega,⟨out++[r.take cr],r.drop cr,_,_,_,H2.out,by rw[HTK.out];exact Jc.snoc _ _ _ _ s cr HU.out (by have:=HNR.out;omega) (fun e=>HH1.out (by have:=HNR.out;omega)) HH2.out,H1.out,⟨by rw[HRR.out.1];have:=HNH.out;simp;omega,Or.inl HRR.out.1,by rw[HRR.out.1];intro c hc;cases hc⟩,by have:=HNH.out;omega,by rcases HSR.out with h2|h2;exact Or.inl ⟨h2.1,rfl⟩;exact Or.inr h2⟩,H3.out,Ab H1.out⟩
   ·obtain⟨b3,o3,hb3⟩:∃b o,ar=some ⟨b,o,none⟩:=by
     rcases HSR.out with h2|h2
     ·exfalso;apply hch;omega
     ·exact h2
    subst hb3;have HDR:Hid (Bt w (some ⟨b3,o3+h*6,none⟩) (nr-h) (r.drop h)):=HCR.out.drop h (nr-h) (by omega);have HCL:=a0z (fun w' (hf:Fp [] w w')=>R5 w' (some ⟨b3,o3,none⟩) h cr (r.take h) ((HCR.out.fp hf).take h (by omega)) (fun e=>by cases e) (by omega))
    obtain⟨d1,hd1⟩:∃d,nr-h=d:=⟨_,rfl⟩
    obtain⟨d2,hd2⟩:∃d,cr-h=d:=⟨_,rfl⟩
    rw[hd1] at HDR;go_wp2_with (fail);refine Px (Jd w w3 (w.heap.size+1) w.heap.size (.slice (some ⟨b3,o3,none⟩) nr cr) (.slice (some ⟨b3,o3+h*6,none⟩) d1 d2) (r.take h) (.slice va out.length vc) out) (fun _ _=>True) (by kernel_rfl) (by kernel_rfl) (fun _=>⟨Ec.start HO3.out HX3.out (fun _=>rfl) HFW.out hsz3 (by omega),(fun e=>by cases e)⟩) ?_;apply Cj (fun _ _ _ h _=>h.plain (by decide)) rfl rfl rfl
    ·intro b a w hC hA K hK;have h4:=hA.fr 4 rfl;simp only[Oper.wp,execOp];go_simp;exact hK _ hC trivial
    apply Cj (fun _ _ _ h _=>h.plain (by decide)) rfl rfl rfl
    ·intro b a w hC hA K hK;have h2:=hA.fr 2 rfl;have q0:=Aa (hC.cel0 (hA.post 11 (by kernel_rfl))) 0;simp only[a0w,a0x] at q0;simp only[Oper.wp,execOp];go_simp;exact hK _ hC trivial
    iterate 2
     apply Cj (fun _ _ _ h _=>h.plain (by decide)) rfl rfl rfl
     ·intro b a w hC hA K hK
      try have h8:=hA.fr 8 rfl
      try have h28:=hA.eq 1 28 rfl
      try have h29:=hA.eq 2 29 rfl
      simp only[Oper.wp,execOp];go_simp;exact hK _ hC trivial
    apply Dt (fun _ _=>True) rfl rfl rfl
    ·intro b a w hC hA K hK;have h30:=hA.eq 3 30 rfl;simp only[Oper.wp,execOp];go_simp;(with_reducible refine(HCL.out _ hC.l.fp).mono ?_);rintro e w4 ⟨vr,rfl,hr,hf⟩;exact hK _ _ (hC.other (by decide) (fun e=>absurd e (by decide)) (hC.l.call N5 hA.self hf rfl hr)) trivial trivial
    apply Dt (fun _ _=>True) rfl rfl rfl
    ·intro b a w hC hA K hK;have h31:=hA.dep 4 31 _ (by kernel_rfl) rfl;obtain⟨rr,hg,hr,-⟩:=hC.l.res (hA.pre 4 (by kernel_rfl)) (hA.post 6 (by kernel_rfl));obtain⟨a2,n2,c2,e2⟩:=Fj.sl hr;have hv:=hA.val 4 31 (by kernel_rfl);rw[e2] at hv;have hst:=hC.other (by decide) (fun e=>absurd e (by decide)) (hC.l.build N5 (hA.pre 4 (by kernel_rfl)) hA.self);rw[e2] at hst;simp only[Oper.wp,execOp];go_simp;exact hK _ _ hst trivial trivial
    apply Dt (fun _ _=>True) rfl rfl rfl
    ·intro b a w hC hA K hK;have h27:=hA.eq 0 27 rfl;have h32:=hA.dep 5 32 _ (by kernel_rfl) rfl;obtain⟨g,hg1,hg2⟩:=hC.l.bld (hA.pre 5 (by kernel_rfl)) hA.self;obtain⟨rr,hg,hr,hq⟩:=hC.l.res (hC.l.o32 (hA.pre 5 (by kernel_rfl))) hA.self;refine U4 Fj (.tmp 27) (.tmp 32) rfl _ (.slice va out.length vc) out (Gf h27) (hC.l.own0 hA.self) g _ rr hr hq (Gf ((hA.val 5 32 (by kernel_rfl)).trans hg1)) hg2 (by omega) hC.l.sz ?_;intro v' w' h1 h2 h3;exact hK _ _ (hC.other (by decide) (fun _=>hA.self) (hC.l.append N5 (hA.pre 5 (by kernel_rfl)) hA.self hg h1 h2 h3 (by omega) (by omega) (fun _ _=>rfl))) trivial trivial
    apply Cj (fun _ _ _ h _=>h.plain (by decide)) rfl rfl rfl
    ·intro b a w hC hA K hK;have h2:=hA.fr 2 rfl;have q0:=Aa (hC.cel0 (hA.post 11 (by kernel_rfl))) 0;simp only[a0w,a0x] at q0;simp only[Oper.wp,execOp];go_simp;exact hK _ hC trivial
    iterate 2
     apply Cj (fun _ _ _ h _=>h.plain (by decide)) rfl rfl rfl
     ·intro b a w hC hA K hK
      try have h8:=hA.fr 8 rfl
      try have h34:=hA.eq 7 34 rfl
      try have h35:=hA.eq 8 35 rfl
      simp only[Oper.wp,execOp];go_simp;exact hK _ hC trivial
    apply Dt (fun _ _=>True) rfl rfl rfl
    ·intro b a w hC hA K hK;have h33:=hA.dep 6 33 _ (by kernel_rfl) rfl;simp only[Oper.wp,execOp];go_simp;exact hK _ _ (hC.assign (hA.pre 6 (by kernel_rfl)) (hA.val 6 33 (by kernel_rfl))) trivial trivial
    apply I9 (fun _=>True) rfl rfl rfl
    ·intro b a w hC hA K hK;have h2:=hA.fr 2 rfl;have h36:=hA.eq 9 36 rfl;have h6:b 6=true:=(hC.m (hA.pre 10 (by kernel_rfl))).1;have hst:=hC.other (by decide) (fun e=>absurd e (by decide)) (hC.l.store N5 h6 (by omega) (a1x _) rfl);have f0:=Ar hC.l.cel 0;have q0:=Aa hC.l.cel 0;simp only[Oper.wp,execOp];go_simp;exact hK undef _ hst trivial trivial
    refine⟨?_,?_⟩
    ·refine⟨fun _ _ _ _ _=>trivial,?_⟩;refine⟨fun _ _ _ _ _=>trivial,?_⟩
     iterate 3 refine E6 _ ?_
     refine⟨fun _ _ _ _ _=>trivial,?_⟩;refine⟨fun _ _ _ _ _=>trivial,?_⟩;refine⟨fun _ _ _ _ _=>trivial,?_⟩
     iterate 4 refine E6 _ ?_
     exact trivial
    ·intro w' bb hbb;simp only[a1u,a2z,a2w,a2x]
     iterate 4 (refine Au ?_)
     refine Az ?_;intro v4 u4;refine Az ?_;intro v5 u5;refine Az ?_;intro v6 u6
     iterate 3 (refine Au ?_)
     refine Az ?_;intro v10 u10;refine Az ?_;intro v11 u11;refine A6 ?_;intro hC;simp only[Am,Act.put,a0v,a1w,a1v];have hcel:=hC.l.cel;rw[hbb 11 (by simp)] at hcel;obtain⟨rr,hrr,ho5⟩:=hC.l.own1 (hbb 6 (by simp));have hv10:=(hC.m (hbb 10 (by simp))).2;have H1:=a0z hcel
     have H2:Hid (Dj Fj w' (w.heap.size+1) v10 (out++[r.take h])):=by
      rw[←hrr];have e:v10=v6:=hv10;rw[e];exact ho5
     have H3:=a0z hC.l.fp;clear hC hbb hcel ho5 hv10;go_wp2_with (fail)
     go_roundg (gk-1)
     case measure=>omega
     case rel=>
      refine⟨k+1,by simp,by omega,⟨out++[r.take h],r.drop h,_,_,_,H2.out,by rw[HTK.out];exact Jc.snoc _ _ _ _ s h HU.out (by have:=HNR.out;omega) (fun e=>HH1.out (by have:=HNR.out;omega)) HH2.out,H1.out,HDR.out,by omega,Or.inr ⟨_,_,rfl⟩⟩,H3.out,Ab H1.out⟩
  ·have zk:¬(k:Int)<(n2:Int):=by omega
   have q2:wr.cell? ⟨w.heap.size,0,none⟩=some (.slice ar nr cr):=Aa HX.out 0;have HCL:=a0z (R5 wr ar nr cr r (HCR.out.fp HF.out) (fun e=>by rcases HSR.out with h|⟨b,o,h⟩;exact h.2;rw[h] at e;cases e) hnl)
   have HU2:Hid (Fo l borders (out++[r])):=by
    have:=HU.out.all;rw[a2v (by have:=HLN.out;omega)] at this;exact this
   have hsz3:w.heap.size+1≤wr.heap.size:=hsz;go_wp2_with (fail);(with_reducible refine HCL.out.mono ?_);rintro e w3 ⟨v3,rfl,ho3,hf3⟩;have HO3:=a0z ho3;have HF3:=a0z hf3;obtain⟨a3,c3,rfl,-⟩:=ho3.at2 (fun c hc=>HL.out.ok c (HU.out.sub.2.1 c hc));clear ho3 hf3;go_wp2_with (at_builtin;(refine sG Fj rfl _ _ rfl (w.heap.size+1) _ out rfl ((HO.out.toN.fp HF3.out (by simp)).fp (Fp.alloc _ _) (by simp)) _ _ r (((HO3.out.mono hsz3:A2 w3 (w.heap.size+1) _ r)).fp (Fp.alloc _ _) (by simp)) (fun q hq=>(HO3.out.lt q hq).1) rfl (by rw[Aa (Ai rfl _)];rfl) (by omega) (by have:=HF3.out.size;simp;omega) ?_);intro v4 w4 ho4 hb4 hk4;have HO4:=a0z ho4;have HB4:=a0z hb4;clear ho4 hb4 hk4);refine bodyPost_ret (v:=.tuple #[v4,.int .i64 0]) (by simp[results,Tryz.results88,go_sem]) rfl ?_;exact⟨v4,_,rfl,HO4.out.mono (by omega),HU2.out,((HF.out.trans HF3.out (by simp)).alloc' _).belowTrans (HB4.out.mono (by omega))⟩
end
end Go.Proofs.YtkagolpnaicdoaaGreatDoor
