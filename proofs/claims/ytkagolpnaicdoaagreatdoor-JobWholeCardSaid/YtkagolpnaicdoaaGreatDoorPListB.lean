/-
 Lists whose elements are slices of the call's own: as they lie; append of one; 'out = append(out, f(x))' beside a store: the class of worlds on the way (for XRegionV). The rows of cells, each once (table.rows). bloom: a filter's bits; what it has. bloom.May: whether a filter has a name.
-/
import Derived.Test.YtkagolpnaicdoaaGreatDoorPRunF
import Derived.Lib.OwnBridge
set_option maxRecDepth 100000
set_option maxHeartbeats 8000000
open Go.Lib renaming hid->a0z
open List renaming replicate->a0x,length_map->a0w,getElem?_eq_getElem->a0v,getElem?_toArray->a1z,getD_eq_getElem?_getD->a1w,getElem?_cons_zero->a1v,take_succ_eq_append_getElem->a1u,map_map->a2x,setIfInBounds_toArray->a2w,range->a2v,length_replicate->a3x
open Nat renaming le_trans->a0u,mod_eq_of_lt->a2z
open Go.IntKind renaming wrap_i64->a1x,wrap_u32->a3z
open BitVec renaming ofInt->a2u,ofInt_natCast->a3w,toNat_ofNat->a3v
namespace Go.Proofs.YtkagolpnaicdoaaGreatDoor
section
open Go.RowKit Go.Lib
theorem Dx.nth{α β:Type}{P:α→β→Prop}{l:List α}{m:List β}(h:Dx P l m):∀i (a:i<l.length) (d:i<m.length),P l[i] m[i]:=by
 induction h with
 |nil=>intro i a;exact absurd a (Nat.not_lt_zero _)
 |cons hp _ ih=>
  intro i a d
  cases i with
  |zero=>exact hp
  |succ i=>exact ih i (by simpa using a) (by simpa using d)
structure Rh(β:Type) where
 T:TypeId
 e:TypeId
 k:TypeId
 P:World->Nat->Value->β->Prop
 mono:∀{w base base' v x},P w base v x->base'<=base->P w base' v x
 kept:∀{w w' base S v x},P w base v x->Aq k base S w w'->P w' base v x
 sl:∀{w base v x},P w base v x->∃a n c,v=.slice a n c
 lt:∀{w base v x},P w base v x->∀q,v.ownBlock=some q->base<=q/\q<w.heap.size
 und:Tryz.prog.underlying T=some (.slice e)
 info:(Tryz.prog.info? e).map (fun i=>(i.zero,i.size,i.bytes))=some (some (.slice none 0 0),1,24)
 ne:k≠e
section
variable {β : Type} {E : Rh β}
def V0(vals:List Value):Prop:=vals.Pairwise fun u v=>∀q,u.ownBlock=some q->v.ownBlock≠some q
def D4(E:Rh β)(W:World)(base:Nat)(v:Value)(xs:List β):Prop:=∃vals,Bg E.e W base v vals/\Dx (fun v x=>E.P W base v x) vals xs/\V0 vals
def Ri(E:Rh β)(W:World)(base N:Nat)(v:Value)(xs:List β):Prop:=∃vals,Bg E.e W base v vals/\Dx (fun v x=>E.P W base v x) vals xs/\V0 vals/\∀u∈vals,∀q,u.ownBlock=some q->q<N
theorem D4.mono{W:World}{base a:Nat}{v:Value}{xs:List β}(h:D4 E W base v xs)(f:a<=base):D4 E W a v xs:=by
 obtain⟨d,j,i,g⟩:=h;exact⟨d,j.mono f,Md (fun _ _ h=>E.mono h f) i,g⟩
theorem D4.fp{W W':World}{base:Nat}{S:List Nat}{v:Value}{xs:List β}(h:D4 E W base v xs)(d:Fp S W W')(f:∀k∈S,k<base):D4 E W' base v xs:=by
 obtain⟨a,j,i,g⟩:=h;exact⟨a,j.fp d f,Md (fun _ _ h=>E.kept h (Aq.of d f)) i,g⟩
theorem Ri.fp{W W':World}{base N:Nat}{S:List Nat}{v:Value}{xs:List β}(h:Ri E W base N v xs)(d:Fp S W W')(f:∀k∈S,k<base):Ri E W' base N v xs:=by
 obtain⟨a,l,j,i,g⟩:=h;exact⟨a,l.fp d f,Md (fun _ _ h=>E.kept h (Aq.of d f)) j,i,g⟩
theorem Dx.memQ{α β:Type}{P:α→β→Prop}{l:List α}{m:List β}(h:Dx P l m){x:α}(a:x∈l):∃r,P x r:=by
 induction h with
 |nil=>cases a
 |cons hp _ ih=>
  rcases List.mem_cons.1 a with e|e
  ·rw[e];exact⟨_,hp⟩
  ·exact ih e
theorem D4.toN{W:World}{base:Nat}{v:Value}{xs:List β}(h:D4 E W base v xs):Ri E W base W.heap.size v xs:=by
 obtain⟨a,k,d,j⟩:=h;refine⟨a,k,d,j,fun u f q i=>?_⟩;obtain⟨r,g⟩:=d.memQ f;exact(E.lt g q i).2
theorem D4.nil(W:World)(base:Nat):D4 E W base (.slice none 0 0) []:=⟨[],Bg.nil _ _ _,.nil,List.Pairwise.nil⟩
theorem D4.slice{W:World}{base:Nat}{v:Value}{xs:List β}(h:D4 E W base v xs):∃a cap,v=.slice a xs.length cap:=by
 obtain⟨d,g,f,_⟩:=h;obtain⟨⟨a,cap,e⟩,_⟩:=g.at;exact⟨_,_,by rw[e,f.length_eq]⟩
theorem D4.get{W:World}{base:Nat}{v:Value}{xs:List β}(h:D4 E W base v xs){i:Nat}(s:i<xs.length):∃g cap,v=.slice (some ⟨g,0,none⟩) xs.length cap∧xs.length≤cap∧g<W.heap.size∧base≤g∧∀j (f:j<xs.length),∃u,W.cell? ⟨g,j,none⟩=some u∧E.P W base u xs[j]:=by
 obtain⟨a,r,m,_⟩:=h;have p:=m.length_eq
 rcases r.2 with⟨_,x⟩|⟨g,cap,d,n,q,k,t,_,_,o⟩
 ·omega
 ·refine⟨g,cap,by rw[n,p],by omega,Ac k,q,fun j f=>⟨a[j]'(by omega),?_,m.nth j (by omega) f⟩⟩
  have l:(d.toList.take (a.length*1))[j]?=a[j]?:=by rw[o]
  rw[Nat.mul_one,List.getElem?_take,if_pos (by omega),Array.getElem?_toList,a0v (by omega)] at l;rw[Ab k];exact l
theorem cB{w:World}{g:Nat}{t:Value}(f:w.cell? ⟨g,0,none⟩=some t):∀(j:Nat) (u:Value),[t][j]?=some u→w.cell? ((⟨g,0,none⟩:Addr).add j)=some u:=by
 intro j u a
 have d:j=0:=by
  have:=(List.getElem?_eq_some_iff.1 a).1
  simpa using this
 subst d;simp at a;subst a
 have h:(⟨g,0,none⟩:Addr).add 0=⟨g,0,none⟩:=by unfold Addr.add;split<;>simp_all
 rw[h];exact f
theorem lV{w w':World}{base:Nat}{a:List Value}{xs:List β}{v o:Value}{t:Value}{x:β}(p:Bg E.e w base v a)(y:Dx (fun v x=>E.P w base v x) a xs)(l:E.P w base t x)(f:V0 a){N:Nat}(n:∀u∈a,∀q,u.ownBlock=some q→q<N)(g:∀q,t.ownBlock=some q→N≤q)(d:base≤w.heap.size)
  (B:w'.ownsRow base E.e 1 o (a.length+1) (a++[t]))(r:w.grownBy w' v.ownBlock):D4 E w' base o (xs++[x])/\Below base w w'/\(∀D,D≠E.e->Aq D base [] w w'):=by
 have i:∀D,D≠E.e->Aq D base [] w w':=fun D A=>Wp A p r d
 have j:=i _ E.ne;refine⟨⟨a++[t],?_,Uk (Md (fun _ _ h=>E.kept h j) y) (E.kept l j),?_⟩,(Below.refl base w).grown r d (fun k j=>(World.ownsRow.lt p k j).1),i⟩
 ·unfold Bg;rw[List.length_append];exact B
 ·refine List.pairwise_append.2 ⟨f,List.pairwise_singleton _ _,fun u s C m q z e=>?_⟩;rw[List.mem_singleton.1 m] at e;have:=n u s q z;have:=g q e;omega
theorem Yd(E:Rh β){w:World}{o:Oper}{a:Act}{K:Act→World→Prop}{Q:Exit→Act→World→Prop}(s x:Operand)
  (U:o.op=.call {callee:=.builtin .append,args:=#[s,x],argTypes:=#[E.T,E.T]})(base:Nat)(v:Value)(xs:List β)(S:a.eval s=v){N:Nat}(k:Ri E w base N v xs)
  (g:Nat)(t:Value)(r:β)(i:E.P w base t r)(l:∀q,t.ownBlock=some q->N<=q)(O:a.eval x=.slice (some ⟨g,0,none⟩) 1 1)(Y:w.cell? ⟨g,0,none⟩=some t)(F:xs.length+1<=1000000000)(d:base<=w.heap.size)
  (h:∀m w',D4 E w' base m (xs++[r])->Below base w w'->(∀D,D≠E.e->Aq D base [] w w')->K (a.put o.dst m) w'):o.wp Tryz.prog a w K Q:=by
 obtain⟨f,A,C,j,z⟩:=k;have R:=C.length_eq;obtain⟨M,V,y,p,n⟩:=info_parts E.info;obtain⟨L,I,J,rfl⟩:=E.sl i;refine wp_append_own (P:=Tryz.prog) w s x E.T U base E.e M _ 1 24 E.und V y p n rfl (by decide) v f.length f S A ⟨g,0,none⟩ 1 1 [.slice L I J] O rfl (cB Y) (by intro u B;simp at B;subst B;rfl) (by unfold maxLen;omega) (by omega) d ?_;intro m w' h1 Z _;obtain⟨g1,g2,g3⟩:=lV A C i j z l d h1 Z;exact h m w' g1 g2 g3
theorem Aak(E:Rh β){w:World}{i:Array Oper}{rest:List Oper}{o:Oper}{a:Act}{Q:Exit→Act→World→Prop}(B:o.guard=none)(s x:Operand)
  (V:o.op=.call {callee:=.builtin .append,args:=#[s,x],argTypes:=#[E.T,E.T]})(base:Nat)(v:Value)(xs:List β)(U:a.eval s=v){N:Nat}(l:Ri E w base N v xs)
  (g:Nat)(t:Value)(r:β)(j:E.P w base t r)(m:∀q,t.ownBlock=some q->N<=q)(R:a.eval x=.slice (some ⟨g,0,none⟩) 1 1)(Z:w.cell? ⟨g,0,none⟩=some t)(J:xs.length+1<=1000000000)(d:base<=w.heap.size)
  (h:∀n w',D4 E w' base n (xs++[r])->Below base w w'->(∀D,D≠E.e->Aq D base [] w w')->wpList Tryz.prog i Q rest (a.put o.dst n) w'):wpList Tryz.prog i Q (o::rest) a w:=by
 obtain⟨f,C,I,k,A⟩:=l;have S:=I.length_eq;obtain⟨O,Y,z,y,p⟩:=info_parts E.info;obtain⟨M,K,L,rfl⟩:=E.sl j;refine wpList_append_own w B s x E.T V base E.e O _ 1 24 E.und Y z y p rfl (by decide) v f.length f U C ⟨g,0,none⟩ 1 1 [.slice M K L] R rfl (cB Z) (by intro u F;simp at F;subst F;rfl) (by unfold maxLen;omega) (by omega) d ?_;intro n w' h1 h2 _;obtain⟨g1,g2,g3⟩:=lV C I j k A m d h1 h2;exact h n w' g1 g2 g3
structure Ep(E:Rh β)(G:β->Prop)(w W0:World)(base cl:Nat)(Tc:TypeId)(X:Bool->Value->Value)(ic ib ia is:Nat)(v:Value)(xs:List β)(b:Nat->Bool)(vs:Nat->Value)(W:World):Prop where
 own0:b ia=false->Ri E W base W0.heap.size v xs
 own1:b ia=true->∃r,G r/\D4 E W base (vs ia) (xs++[r])
 res:b ic=true->b ia=false->∃r,G r/\E.P W base (vs ic) r/\∀q,(vs ic).ownBlock=some q->W0.heap.size<=q
 bld:b ib=true->b ia=false->∃g,vs ib=.slice (some ⟨g,0,none⟩) 1 1/\W.cell? ⟨g,0,none⟩=some (vs ic)
 cel:W.heap[cl]?=some (.cells #[X (b is) (vs ia)] Tc (0,0))
 keptD:∀D,D≠E.e->Aq D base [cl] W0 W
 fp:Fp [] w W
 o54:b is=true->b ia=true
 o43:b ia=true->b ib=true
 o32:b ib=true->b ic=true
 sz:base<=W.heap.size
structure Tm(ic ib ia is:Nat):Prop where
 a:ic≠ib
 b:ic≠ia
 c:ic≠is
 d:ib≠ia
 e:ib≠is
 f:ia≠is
variable {G : β -> Prop} {w W0 W W2 : World} {base cl : Nat} {Tc : TypeId} {X : Bool -> Value -> Value} {ic ib ia is : Nat} {v : Value} {xs : List β} {b : Nat -> Bool} {vs : Nat -> Value}
theorem Ep.kept(h:Ep E G w W0 base cl Tc X ic ib ia is v xs b vs W):Aq E.k base [cl] W0 W:=h.keptD _ E.ne
theorem Ep.start{vs:Nat->Value}(f:D4 E W0 base v xs){d:Value}(i:W0.heap[cl]?=some (.cells #[d] Tc (0,0)))(k:∀u,X false u=d)(g:Fp [] w W0)(j:base<=W0.heap.size)(a:cl<base):Ep E G w W0 base cl Tc X ic ib ia is v xs (fun _=>false) vs {W0 with drawn:=W0.drawn+1}:=
 ⟨fun _=>f.toN.fp (Fp.drew W0) (by simp),(fun h=>by cases h),(fun h=>by cases h),(fun h=>by cases h),by rw[k];exact i,fun _ _=>Aq.of ((Fp.drew W0).mono (by simp)) (by simpa using a),g.trans (Fp.drew W0) (by simp),(fun h=>by cases h),(fun h=>by cases h),(fun h=>by cases h),j⟩
theorem Ep.plain{k:Nat}{x:Value}(h:Ep E G w W0 base cl Tc X ic ib ia is v xs b vs W)(i:k≠ic/\k≠ib/\k≠ia/\k≠is):Ep E G w W0 base cl Tc X ic ib ia is v xs (Ah b k) (C0 vs k x) W:=by
 obtain⟨f,d,a,g⟩:=i;refine⟨?_,?_,?_,?_,?_,h.keptD,h.fp,?_,?_,?_,h.sz⟩
 ·rw[Ag a.symm];exact h.own0
 ·rw[Ag a.symm,Bi a.symm];exact h.own1
 ·rw[Ag a.symm,Ag f.symm,Bi f.symm];exact h.res
 ·rw[Ag a.symm,Ag d.symm,Bi d.symm,Bi f.symm];exact h.bld
 ·rw[Ag g.symm,Bi a.symm];exact h.cel
 ·rw[Ag g.symm,Ag a.symm];exact h.o54
 ·rw[Ag a.symm,Ag d.symm];exact h.o43
 ·rw[Ag d.symm,Ag f.symm];exact h.o32
theorem Ep.first(h:Ep E G w W0 base cl Tc X ic ib ia is v xs b vs W)(a:b ia=false):∃u,W.heap[cl]?=some (.cells #[X false u] Tc (0,0)):=by
 have:=h.cel;rw[F2 h.o54 a] at this;exact⟨_,this⟩
theorem Ep.call{r:β}{i:Value}(h:Ep E G w W0 base cl Tc X ic ib ia is v xs b vs W)(d:Tm ic ib ia is)(p:b ic=false)(f:Fp [] W W2)(m:G r)(j:E.P W2 W.heap.size i r):Ep E G w W0 base cl Tc X ic ib ia is v xs (Ah b ic) (C0 vs ic i) W2:=by
 have k:=F2 h.o32 p;have g:=F2 h.o43 k;have o:=F2 h.o54 g;refine⟨fun _=>(h.own0 g).fp f (by simp),fun e=>?_,fun _ _=>⟨r,m,by rw[Hj];exact E.mono j h.sz,by rw[Hj];exact fun q l=>a0u h.kept.size (E.lt j q l).1⟩,fun e=>?_,?_,fun D n=>(h.keptD D n).trans (Aq.of (f.mono (by simp):Fp [] W W2) (by simp)) (by simp),h.fp.trans f (by simp),fun e=>?_,fun e=>?_,fun _=>Fj _ _,a0u h.sz f.size⟩
 ·rw[Ag d.b.symm,g] at e;cases e
 ·rw[Ag d.a.symm,k] at e;cases e
 ·rw[Ag d.c.symm,Bi d.b.symm];exact(f.block _ (Ac h.cel) (by simp)).trans h.cel
 ·rw[Ag d.c.symm,o] at e;cases e
 ·rw[Ag d.b.symm,g] at e;cases e
theorem Ep.build(h:Ep E G w W0 base cl Tc X ic ib ia is v xs b vs W)(f:Tm ic ib ia is)(j:b ic=true)(p:b ib=false):Ep E G w W0 base cl Tc X ic ib ia is v xs (Ah b ib) (C0 vs ib (.slice (some ⟨W.heap.size,0,none⟩) 1 1)) (W.alloc (.cells #[vs ic] E.e)):=by
 have i:=F2 h.o43 p;have o:=F2 h.o54 i;have g:=Fp.alloc W (.cells #[vs ic] E.e);refine⟨fun _=>(h.own0 i).fp g (by simp),fun e=>?_,fun _ _=>?_,fun _ _=>⟨W.heap.size,Hj _ _ _,?_⟩,?_,fun D n=>(h.keptD D n).trans (Aq.of (g.mono (by simp):Fp [] W _) (by simp)) (by simp),h.fp.trans g (by simp),fun e=>?_,fun e=>?_,fun e=>?_,a0u h.sz g.size⟩
 ·rw[Ag f.d.symm,i] at e;cases e
 ·obtain⟨r,m,k,l⟩:=h.res j i;exact⟨r,m,by rw[Bi f.a];exact E.kept k (Aq.of g (by simp)),by rw[Bi f.a];exact l⟩
 ·rw[Bi f.a,Ab (Ai rfl _)];rfl
 ·rw[Ag f.e.symm,Bi f.d.symm];exact Bw h.cel
 ·rw[Ag f.e.symm,o] at e;cases e
 ·rw[Ag f.d.symm,i] at e;cases e
 ·rw[Ag f.a];exact j
theorem Ep.append{r:β}{g:Value}(h:Ep E G w W0 base cl Tc X ic ib ia is v xs b vs W)(a:Tm ic ib ia is)(o:b ib=true)(y:b ia=false)(t:G r)(q:D4 E W2 base g (xs++[r]))(k:Below base W W2)(s:∀D,D≠E.e→Aq D base [] W W2)(j:cl<base)(i:w.heap.size≤base)(x:∀u p,X false u=X false p):
  Ep E G w W0 base cl Tc X ic ib ia is v xs (Ah b ia) (C0 vs ia g) W2:=by
 have l:=F2 h.o54 y;refine⟨fun e=>?_,fun _=>⟨r,t,by rw[Hj];exact q⟩,fun _ e=>?_,fun _ e=>?_,?_,fun D m=>(h.keptD D m).trans (s D m) (by simp),h.fp.belowTrans (k.mono i),fun e=>?_,fun _=>?_,fun e=>?_,a0u h.sz k.size⟩
 ·rw[Fj] at e;cases e
 ·rw[Fj] at e;cases e
 ·rw[Fj] at e;cases e
 ·rw[Ag a.f.symm,l,Hj,x g (vs ia)];have n:=h.cel;rw[l] at n;exact(k.block _ j).trans n
 ·rw[Ag a.f.symm,l] at e;cases e
 ·rw[Ag a.d];exact o
 ·rw[Ag a.b];exact h.o32 o
theorem Ep.store{y:Value}(h:Ep E G w W0 base cl Tc X ic ib ia is v xs b vs W)(a:Tm ic ib ia is)(d:b ia=true)(g:cl<base)(l:w.heap.size<=cl)(k:X true (vs ia)=y):Ep E G w W0 base cl Tc X ic ib ia is v xs (Ah b is) (C0 vs is undef) (W.setCell ⟨cl,0,none⟩ y):=by
 have j:Fp [cl] W (W.setCell ⟨cl,0,none⟩ y):=Fp.setCell W ⟨cl,0,none⟩ y;refine⟨fun e=>?_,fun _=>?_,fun _ e=>?_,fun _ e=>?_,?_,fun D o=>(h.keptD D o).trans (Aq.of j (by simpa using g)) (by simp),h.fp.trans j (by intro i a;right;simp at a;omega),fun _=>?_,fun e=>?_,fun e=>?_,a0u h.sz j.size⟩
 ·rw[Ag a.f,d] at e;cases e
 ·obtain⟨r,n,m⟩:=h.own1 d;exact⟨r,n,by rw[Bi a.f];exact m.fp j (by simpa using g)⟩
 ·rw[Ag a.f,d] at e;cases e
 ·rw[Ag a.f,d] at e;cases e
 ·rw[Fj,Bi a.f,k];exact(Bd h.cel _).trans rfl
 ·rw[Ag a.f];exact d
 ·rw[Ag a.e];exact h.o43 d
 ·rw[Ag a.c];rw[Ag a.e] at e;exact h.o32 e
end
theorem Tryz.infoCelL:(Tryz.prog.info? 78).map (fun i=>(i.zero,i.size,i.bytes))=some (some (.slice none 0 0),1,24):=by kernel_rfl
theorem Ao.keptT{w w':World}{base:Nat}{S:List Nat}{v:Value}{l:List Aa}(h:Ao w base v l)(d:Aq 80 base S w w'):Ao w' base v l:=by
 refine h.kept fun k a=>?_
 rcases h.2 with⟨rfl,_⟩|⟨g,cap,j,rfl,i,f,_⟩
 ·cases a
 ·obtain rfl:g=k:=by simpa [Value.ownBlock] using a
  exact d.high _ _ _ i f
def Gu:Rh (List Aa) where
 T:=149
 e:=78
 k:=80
 P:=Ao
 mono:=fun h hb=>Ao.mono h hb
 kept:=fun h hk=>h.keptT hk
 sl:=fun h=>by
  rcases h.2 with⟨rfl,_⟩|⟨g,cap,cur,rfl,_⟩
  ·exact⟨_,_,_,rfl⟩
  ·exact⟨_,_,_,rfl⟩
 lt:=fun h=>Ao.lt h
 und:=Tryz.underlying149
 info:=Tryz.infoCelL
 ne:=by decide
end
section
section
open Go.RowKit
def cC(l:List Aa)(j:Nat):Bool:=decide (j=0∨(l.getD j Az).row≠(l.getD (j-1) Az).row)
def V1(l:List Aa)(m:Nat):List ByteArray:=((a2v m).filter (cC l)).map fun j=>(l.getD j Az).row
def Fe(l:List Aa):List ByteArray:=V1 l l.length
theorem lW(l:List Aa)(m:Nat):(V1 l m).length<=m:=by
 unfold V1;rw[a0w];exact a0u (List.length_filter_le _ _) (by simp)
theorem Aal{a b:ByteArray}(h:a.data.toList=b.data.toList):a=b:=by
 have:=congrArg bl h
 rwa [L1,L1] at this
theorem Aam(l:List Aa):(Lib.compact (l.map fun c=>c.row.data.toList)).map encStr=(Fe l).map Value.string:=by
 unfold Lib.compact Lib.compactUpTo Fe V1;rw[a0w,a2x,a2x]
 have a:∀j,j<l.length->(l.map fun c=>c.row.data.toList).toArray[j]! =(l.getD j Az).row.data.toList:=by
  intro j f;rw[getElem!_pos _ j (by simpa using f)];simp only[List.getElem_toArray,List.getElem_map];rw[a1w,a0v f];rfl
 have g:(a2v l.length).filter (Lib.keeps (l.map fun c=>c.row.data.toList).toArray)=(a2v l.length).filter (cC l):=by
  apply List.filter_congr;intro j f;have d:=List.mem_range.1 f;unfold Lib.keeps cC
  by_cases i:j=0
  ·subst i;simp
  ·rw[a j d,a (j-1) (by omega)];apply decide_eq_decide.2;constructor
   ·rintro(h|h)
    ·exact Or.inl h
    ·exact Or.inr fun e=>h (by rw[e])
   ·rintro(h|h)
    ·exact Or.inl h
    ·exact Or.inr fun e=>h (Aal e)
 rw[g];apply List.map_congr_left;intro j f;have d:=List.mem_range.1 (List.mem_filter.1 f).1;simp only[Function.comp];rw[a j d]
theorem Aan(w:World)(a:Option Addr)(len cap:Nat)(l:List Aa)(P:Bh w a len l)(hn:len≤1000000):
  Calls Tryz.prog 95 #[.slice a len cap] w fun e w'=>∃v,e=.returned v/\Db w' w.heap.size v (Fe l)/\Fp [] w w':=by
 have HL:=a0z P;have n:=a0z P.len;clear P;go_enter Tryz.func95,Tryz.ntmps95;go_wp2_with (fail)
 go_loopg [2,7] len (fun g y vi wr=>∃(k:Nat) (v:Value),g+k=len/\v=y/\vi=.int .i64 k/\Db wr w.heap.size v ((l.take k).map (·.row))/\Fp [] w wr)
 case atStart=>exact⟨0,_,by omega,rfl,rfl,by simpa using Db.nil _ _,Fp.refl _ _⟩
 case round=>
  obtain⟨k,y,hg,rfl,rfl,o,Y⟩:=hrel;have L:=a0z Y;have HO:=a0z o;clear Y o
  by_cases hk:k<len
  ·have zk:(k:Int)<(len:Int):=by omega
   have F:k<l.length:=by rw[<-n.out];exact hk
   obtain⟨b1,o1,rfl,ae,h⟩:=Lj HL.out F
   have C:(l.take (k+1)).map (·.row)=(l.take k).map (·.row)++[l[k].row]:=by rw[a1u F,List.map_append];rfl
   have s:=a0z C
   have B:((l.take k).map (·.row)).length<=1000000:=by rw[a0w,List.length_take];omega
   have T:=a0z B
   obtain⟨c,Z⟩:∃c,l[k]=c:=⟨_,rfl⟩
   rw[Z] at h s;obtain⟨q0,q1,q2,q3,q4,q5⟩:=h wr L.out;clear h Z C B;obtain⟨M,ag,ts,seq,af,aa⟩:=c;simp only at s q0 q1 q2 q3 q4 q5;have ad:w.heap.size<=wr.heap.size:=L.out.size;go_wp2_with (at_builtin;(refine tN rfl _ _ rfl w.heap.size _ _ rfl ((HO.out.fp (Fp.alloc _ _) (by simp)).fp (Fp.alloc _ _) (by simp)) _ M rfl (by rw[Ab (Ai (by simp) _)];rfl) (by have:=T.out;omega) (by simp;omega) ?_);intro v2 w2 D I;have u:=a0z D;have x:=a0z I;clear D I)
   go_roundg (gk-1)
   case measure=>omega
   case rel=>exact⟨k+1,_,by omega,rfl,by simp,by rw[s.out];exact u.out,((L.out.alloc' _).alloc' _).belowTrans x.out⟩
  ·obtain rfl:k=len:=by omega
   have zk:¬(k:Int)<(k:Int):=by omega
   have o:Db wr w.heap.size y (l.map (·.row)):=by
    have:=HO.out
    rwa [List.take_of_length_le (by rw[n.out];exact Nat.le_refl _)] at this
   have t:=a0z (Aam l)
   have i:wr.ownsRow w.heap.size 9 1 y (l.map fun c=>c.row.data.toList).length ((l.map fun c=>c.row.data.toList).map encStr):=by
    have S:wr.ownsRow w.heap.size 9 1 y (l.map (·.row)).length ((l.map (·.row)).map Value.string):=o;rw[<-Lib.map_encStr,a2x,a2x,a0w] at S;rw[a2x,a0w];exact S
   by_cases V:y=.slice none 0 0
   ·subst V
    have h0:l.map (·.row)=[]:=by
     have S:=o.1
     rcases o.2 with⟨_,z⟩|⟨g,_,_,z,_⟩
     ·exact List.eq_nil_of_length_eq_zero z
     ·cases z
    have O:l=[]:=List.map_eq_nil_iff.1 h0;subst O;have U:=a0z (Tryz.slices_Compact_string_empty none 0 wr);clear o i;go_wp2_with (fail);(with_reducible refine U.out.mono ?_);rintro e w2 ⟨rfl,rfl⟩;go_wp2_with (fail);go_ret;exact⟨_,rfl,Db.nil _ _,L.out⟩
   ·obtain⟨g,J,rfl,R,ab,r,ac,N,hH⟩:=Lib.holds_of_ownsRow i V;have HC:=a0z (Tryz.slices_Compact_string g 0 J (l.map fun c=>c.row.data.toList) wr hH (by rw[a0w];have:=n.out;omega) (by rw[a0w] at r ⊢;exact r));have K:=a0z i;clear o i hH;have j:=congrArg List.length t.out;rw[a0w,a0w] at j
    obtain⟨zs,p⟩:∃zs,(l.map fun c=>c.row.data.toList)=zs:=⟨_,rfl⟩
    rw[p] at HC K t j N r;rw[p]
    have Q:(Lib.compact zs).length<=zs.length:=by
     unfold Lib.compact Lib.compactUpTo;rw[a0w];exact a0u (List.length_filter_le _ _) (by simp)
    clear p;go_wp2_with (fail);(with_reducible refine HC.out.mono ?_);rintro e w2 ⟨rfl,q,rfl⟩;have f:=Lib.ownsRow_putRow (q:=q) (k:=(Lib.compact zs).length) (ys:=Lib.compact zs++a0x (zs.length-(Lib.compact zs).length) []) K.out (by rw[List.length_append,a3x];omega) Q;rw[List.take_left' rfl,t.out] at f;have m:=Lib.below_putRow (enc:=encStr) (q:=q) (d:=(Lib.compact zs++a0x (zs.length-(Lib.compact zs).length) []).toArray) (Below.refl w.heap.size wr) R
    obtain⟨w3,A⟩:∃w3,Sort.putRow encStr (Sort.ahead wr q) g 0 (Lib.compact zs++a0x (zs.length-(Lib.compact zs).length) []).toArray=w3:=⟨_,rfl⟩
    rw[A] at f m ⊢;have u:=a0z f;have x:=a0z m;clear f m A;go_wp2_with (fail);go_ret;refine⟨_,rfl,?_,L.out.belowTrans x.out⟩;have z:=u.out;rw[j] at z;exact z
end
section
open Go.RowKit
def V2(x:UInt8)(k:Nat):UInt8:=UInt8.ofNat (x.toNat ||| 2^k)
def Rj(d:List UInt8)(i:Nat):List UInt8:=d.set (i/8) (V2 (d.getD (i/8) 0) (i%8))
def Qh(s:ByteArray):Nat:=Eb 0 s
def Ye(s:ByteArray):Nat:=Eb (Qh s) ⟨#[1]⟩
def Nz(s:ByteArray)(k:Nat):Nat:=(Qh s+k*Ye s)%4294967296
def Tn(s:ByteArray)(many k:Nat):Nat:=Nz s k%many
def L5(s:ByteArray)(d:List UInt8)(k:Nat):List UInt8:=(a2v k).foldl (fun d j=>Rj d (Tn s (8*d.length) j)) d
theorem Aao(d:List UInt8)(i:Nat):(Rj d i).length=d.length:=by simp[Rj]
theorem lX(s:ByteArray)(d:List UInt8)(k:Nat):L5 s d (k+1)=Rj (L5 s d k) (Tn s (8*(L5 s d k).length) k):=by
 unfold L5;rw[List.range_succ,List.foldl_append];rfl
theorem Yf(s:ByteArray)(d:List UInt8):∀k,(L5 s d k).length=d.length
 |0=>rfl
 |k+1=>by rw[lX,Aao,Yf s d k]
theorem Aap(s:ByteArray):Nz s 0=Qh s:=by
 have:=Q8 0 s;unfold Nz Qh;rw[Nat.zero_mul,Nat.add_zero];exact a2z this
theorem Aaq(s:ByteArray)(k:Nat):Nz s (k+1)=(Nz s k+Ye s)%4294967296:=by
 unfold Nz;rw[Nat.add_mul,Nat.one_mul];omega
theorem Aar(s:ByteArray)(k:Nat):Nz s k<4294967296:=Nat.mod_lt _ (by decide)
theorem Aas(s:ByteArray){many:Nat}(k:Nat)(h:0<many):Tn s many k<many:=Nat.mod_lt _ h
theorem Aat(a b:Nat)(i:a<256)(h:b<256):bits .or .u8 (a:Int) (b:Int)=((a ||| b:Nat):Int):=by
 have g:a ||| b<2^8:=Nat.or_lt_two_pow (by omega) (by omega)
 have f:(a2u 8 (a:Int)).toNat=a:=by
  rw[a3w,a3v];exact a2z (by omega)
 have d:(a2u 8 (b:Int)).toNat=b:=by
  rw[a3w,a3v];exact a2z (by omega)
 show IntKind.u8.wrap ((a2u 8 (a:Int) ||| a2u 8 (b:Int)).toNat:Int)=_;rw[BitVec.toNat_or,f,d,IntKind.wrap_u8];omega
theorem Aau(x:UInt8){k:Nat}(h:k<8):(V2 x k).toNat=x.toNat ||| 2^k:=by
 unfold V2;rw[UInt8.toNat_ofNat'];apply a2z;have a:(2:Nat)^k<=2^7:=Nat.pow_le_pow_right (by decide) (by omega);exact Nat.or_lt_two_pow (n:=8) x.toNat_lt (by omega)
def Gy(w:World)(g:Nat)(d:List UInt8):Prop:=w.heap[g]?=some (.cells (d.map Bc).toArray 5 (0,0))
theorem Gy.cell{w:World}{g j:Nat}{d:List UInt8}(h:Gy w g d)(a:j<d.length):w.cell? ⟨g,j,none⟩=some (.int .u8 (d.getD j 0).toNat):=by
 rw[Ab h];rw[a1z,List.getElem?_map,a0v a,a1w,a0v a];rfl
theorem Gy.free{w:World}{g:Nat}{d:List UInt8}(h:Gy w g d)(j:Nat):w.frozen? ⟨g,j,none⟩=false:=Ar h j
theorem Gy.set{w:World}{g j:Nat}{d:List UInt8}{x:UInt8}(h:Gy w g d):Gy (w.setCell ⟨g,j,none⟩ (.int .u8 x.toNat)) g (d.set j x):=by
 unfold Gy;rw[Bd h];simp only[a2w];rw[show(Value.int .u8 (x.toNat:Int))=Bc x from rfl,<-List.map_set]
theorem Gy.fp{w w':World}{g:Nat}{d:List UInt8}{S:List Nat}(h:Gy w g d)(f:Fp S w w')(a:g∉S):Gy w' g d:=(f.block g (Ac h) a).trans h
structure L6(w:World)(bx g n:Nat)(d d':List UInt8)(done:Bool)(w':World):Prop where
 row:Gy w' g (if done=true then d' else d)
 box:w'.heap[bx]?=some (.cells #[.slice (some ⟨g,0,none⟩) n n] 113 (0,0))
 fp:Fp [g] w w'
def CM(w:World)(bx g n:Nat)(d d':List UInt8)(b:Nat->Bool)(w':World):Prop:=L6 w bx g n d d' (b 10) w'
theorem Aav(w:World)(u g n i:Nat)(d:List UInt8)(o:w.heap[u]?=some (.cells #[.slice (some ⟨g,0,none⟩) n n] 113 (0,0)))(M:Gy w g d)(hd:d.length=n)(T:i<8*n)(hn:n≤100000)(D:u≠g):
  Calls Tryz.prog 158 #[.int .i64 i,.pointer (some ⟨u,0,none⟩)] w fun e w'=>e=.returned (.bool true)/\Gy w' g (Rj d i)/\Fp [g] w w':=by
 have t:=a0z o;have HG:=a0z M
 obtain⟨q,J⟩:∃q,i/8=q:=⟨_,rfl⟩
 obtain⟨r,I⟩:∃r,i%8=r:=⟨_,rfl⟩
 have e1:(i:Int)/8=(q:Int):=by omega
 have e2:(i:Int).tmod 8=(r:Int):=by rw[Int.tmod_eq_emod_of_nonneg (by omega)];omega
 have e3:IntKind.i64.wrap (q:Int)=(q:Int):=by rw[a1x];omega
 have e4:min r 8=r:=by omega
 have S:(q:Int)<(n:Int):=by omega
 have C:q<d.length:=by omega
 obtain⟨x,B⟩:∃x,d.getD q 0=x:=⟨_,rfl⟩
 have F:=a0z (fun w (h:Gy w g d)=>h.cell C);rw[B] at F
 have N:Hid (Rj d i=d.set q (V2 x r)):=by unfold Hid Rj;rw[J,I,B]
 have L:(2:Nat)^r<=2^7:=Nat.pow_le_pow_right (by decide) (by omega)
 obtain⟨p,l⟩:∃p,2^r=p:=⟨_,rfl⟩
 rw[l] at L
 have Q:IntKind.u8.wrap (((2:Nat):Int)^r)=(p:Int):=by
  rw[IntKind.wrap_u8,<-l]
  have:(((2:Nat):Int)^r)=((2^r:Nat):Int):=by push_cast;rfl
  rw[this,l];omega
 have P:IntKind.u8.wrap ((2:Int)^r)=(p:Int):=Q;have A:=x.toNat_lt
 obtain⟨y,z⟩:∃y,V2 x r=y:=⟨_,rfl⟩
 have p2:bits .or .u8 (x.toNat:Int) (p:Int)=(y.toNat:Int):=by
  rw[Aat _ _ A (by omega),<-z,Aau x (by omega),l]
 rw[z] at N
 have R:r<8:=by omega
 clear J I B z l o M T L;go_enter Tryz.func158,Tryz.ntmps158;go_wp2_with (fail);refine Ft (CM w u g n d (d.set q y)) (fun _ _=>True) (by kernel_rfl) (by kernel_rfl) ⟨HG.out.fp (Fp.drew w) (by simp),((Fp.drew w).block _ (Ac t.out) (by simp)).trans t.out,(Fp.drew w).mono (by simp)⟩ ?_
 iterate 4
  apply Be (fun _ _ h=>h) rfl rfl rfl
  ·intro b a w k j K m
   try have h1:=j.fr 1 rfl
   try have h0:=j.fr 0 rfl
   try have h5:=j.eq 1 5 rfl
   try have V:=j.eq 0 4 rfl
   try have U:=j.eq 2 6 rfl
   have q0:=Ab (L6.box k) 0;simp only[a1z,a1v] at q0;simp only[Oper.wp,execOp];go_simp;exact m _ k trivial
 apply Be (fun _ _ h=>h) rfl rfl rfl
 ·intro b a w k j K m;have h7:=j.eq 3 7 rfl;have q0:=Ab (L6.box k) 0;simp only[a1z,a1v] at q0;have f:=L6.row k;rw[j.post 10 (by kernel_rfl)] at f;have q1:=F.out _ f;simp only[Oper.wp,execOp];go_simp;exact m _ k trivial
 iterate 5
  apply Be (fun _ _ h=>h) rfl rfl rfl
  ·intro b a w k j K m
   try have h0:=j.fr 0 rfl
   try have h9:=j.eq 5 9 rfl
   try have ab:=j.eq 6 10 rfl
   try have h8:=j.eq 4 8 rfl
   try have aa:=j.eq 7 11 rfl
   try have V:=j.eq 0 4 rfl
   try have U:=j.eq 2 6 rfl
   have q0:=Ab (L6.box k) 0;simp only[a1z,a1v] at q0;simp only[Oper.wp,execOp];go_simp;exact m _ k trivial
 apply Gs (fun _=>True) rfl rfl
 ·intro b a w k j K m;have Y:=j.eq 9 13 rfl;have Z:=j.eq 8 12 rfl;have f:=L6.row k;rw[j.self] at f;have q1:=F.out _ f;have z1:=f.free q;simp only[Oper.wp,execOp];go_simp;exact m undef _ ⟨f.set,((Fp.setCell w ⟨g,q,none⟩ _).block _ (Ac (L6.box k)) (by simpa using D)).trans (L6.box k),(L6.fp k).setCell' (Or.inl (by simp)) _⟩ trivial trivial
 refine⟨?_,?_⟩
 ·refine⟨fun _ _ _ _ _=>trivial,?_⟩
  iterate 10 refine Cc _ ?_
  exact trivial
 ·intro w1 bb k s;simp only[List.reverse_cons,List.reverse_nil,List.nil_append,List.cons_append]
  iterate 10 (refine Am ?_)
  refine Ap ?_;intro O u10;refine A0 ?_;simp only[Aj,Act.put,a2w,List.set_cons_succ,List.set_cons_zero];have f:=L6.row k;rw[s 10 (by decide)] at f;have HR:=a0z f;have HF:=a0z (L6.fp k);clear f k s u10;go_wp2_with (fail);go_ret;exact⟨rfl,by rw[N.out];exact HR.out,HF.out⟩
theorem Aaw(name:ByteArray)(M u L:Nat)(I:Nat→World→Prop)(X:World→Prop)(w:World)(eg:∀args w,(callFunc u args).run Tryz.prog w=.ok (.enter u args) w)
  (h:name.size<=100000000)(hM:0<M)(aa:M<=1000000)(j:∀k w,I k w->Dl w)(J:∀k w w',I k w->Fp [] w w'->I k w')(K:I 0 w)
  (a:∀k w,k<4->I k w->Calls Tryz.prog u #[.int .i64 (Tn name M k:Nat),.pointer (some ⟨L,0,none⟩)] w fun e w'=>(e=.returned (.bool true)/\I (k+1) w')∨(e=.returned (.bool false)/\X w')):
  Calls Tryz.prog 157 #[.string name,.int .i64 M,.func (.func u) #[] #[.pointer (some ⟨L,0,none⟩)]] w fun e w'=>(e=.returned (.bool true)/\I 4 w')∨(e=.returned (.bool false)/\X w'):=by
 have N:=a0z j;have P:=a0z J;have R:=a0z K;have HL:=a0z a
 have O:Hid (∀w,Dl w->Calls Tryz.prog 52 #[.string name] w fun e w'=>e=.returned (.int .u32 (Qh name))/\Fp [] w w'):=fun w j=>Vn name w h j
 have C:Hid (∀w,Dl w->Calls Tryz.prog 98 #[.int .u32 (Qh name),.string ⟨#[1]⟩] w fun e w'=>e=.returned (.int .u32 (Ye name))/\Fp [] w w'):=fun w j=>X1 (Qh name) ⟨#[1]⟩ w (Q8 _ _) (by show 1<=_;decide) j
 clear j J K a;have r:=a0z (Aap name)
 obtain⟨ha,m⟩:∃x,Qh name=x:=⟨_,rfl⟩
 obtain⟨B,d⟩:∃x,Ye name=x:=⟨_,rfl⟩
 have D:=a0z d
 have Z:B<4294967296:=by rw[<-d];exact Q8 _ _
 rw[m] at O C r;rw[d] at C;clear m d
 have u0:IntKind.u32.wrap (M:Int)=(M:Int):=by rw[a3z];omega
 go_enter Tryz.func157,Tryz.ntmps157;go_wp2_with (fail);(with_reducible refine(O.out _ (N.out _ _ R.out)).mono ?_);rintro e w1 ⟨rfl,o⟩;have Q:=a0z (P.out _ _ _ R.out o);clear o;go_wp2_with (fail);(with_reducible refine(C.out _ (N.out _ _ Q.out)).mono ?_);rintro e w2 ⟨rfl,n⟩;have H2:=a0z (P.out _ _ _ Q.out n);clear n;go_wp2_with (fail)
 go_loopg [7,13] 4 (fun g T S wr=>∃k:Nat,g+k=4/\T=.int .u32 (Nz name k:Nat)/\S=.int .i64 k/\I k wr)
 case atStart=>exact⟨0,by omega,by rw[r.out],rfl,H2.out⟩
 case round=>
  obtain⟨k,hg,rfl,rfl,l⟩:=hrel;have s:=a0z l;clear l
  by_cases Y:k<4
  ·have zk:(k:Int)<4:=by omega
   have f:=a0z (Aaq name k);rw[D.out] at f;have q:=a0z (HL.out k wr Y s.out);have A:=Aar name k;have i:Hid (Tn name M k=Nz name k%M):=rfl
   obtain⟨x,z⟩:∃x,Nz name k=x:=⟨_,rfl⟩
   rw[z] at f A i;rw[z]
   obtain⟨p,t⟩:∃p,x%M=p:=⟨_,rfl⟩
   have V:(x:Int)%(M:Int)=(p:Int):=by rw[<-t];rfl
   have U:p<M:=by rw[<-t];exact Nat.mod_lt _ hM
   rw[i.out,t] at q
   have u1:IntKind.i64.wrap (p:Int)=(p:Int):=by rw[a1x];omega
   have u1':IntKind.u32.wrap (p:Int)=(p:Int):=by rw[a3z];omega
   have M0:¬M=0:=by omega
   obtain⟨y,F⟩:∃y,(x+B)%4294967296=y:=⟨_,rfl⟩
   have u2:IntKind.u32.wrap ((x:Int)+(B:Int))=(y:Int):=by rw[a3z];omega
   rw[F] at f;clear z t F i;go_wp2_with (fail);(with_reducible refine q.out.mono ?_);rintro e w3 (⟨rfl,hi3⟩|⟨rfl,hx3⟩)
   ·have H3:=a0z hi3;clear hi3;go_wp2_with (fail)
    go_roundg (gk-1)
    case measure=>omega
    case rel=>exact⟨k+1,by omega,by rw[f.out],by simp,H3.out⟩
   ·have HX:=a0z hx3;clear hx3;go_wp2_with (fail);go_ret;exact Or.inr ⟨rfl,HX.out⟩
  ·obtain rfl:k=4:=by omega
   go_wp2_with (fail);go_ret;exact Or.inl ⟨rfl,s.out⟩
theorem Aax(name:ByteArray)(l g n:Nat)(d:List UInt8)(w:World)(f:name.size≤100000000)(y:0<n)(z:n≤100000)(t:d.length=n)(p:w.heap[l]?=some (.cells #[.slice (some ⟨g,0,none⟩) n n] 113 (0,0)))(B:Gy w g d)
  (m:l≠g)(o:g≠0)(u:Dl w):
  Calls Tryz.prog 157 #[.string name,.int .i64 (8*n:Nat),.func (.func 158) #[] #[.pointer (some ⟨l,0,none⟩)]] w fun e w'=>e=.returned (.bool true)/\Gy w' g (L5 name d 4)/\Fp [g] w w':=by
 refine(Aaw name (8*n) 158 l (fun k w'=>Gy w' g (L5 name d k)/\w'.heap[l]?=some (.cells #[.slice (some ⟨g,0,none⟩) n n] 113 (0,0))/\Fp [g] w w') (fun _=>False) w (enters_of Tryz.func158 (by kernel_rfl) rfl) f (by omega) (by omega)
  (fun k w' h=>u.fp h.2.2 (by simpa using Ne.symm o)) (fun k a b h j=>⟨h.1.fp j (by simp),(j.block _ (Ac h.2.1) (by simp)).trans h.2.1,h.2.2.trans j (by simp)⟩) ⟨B,p,Fp.refl _ _⟩ ?_).mono ?_
 ·rintro k w' C ⟨s,r,q⟩;refine(Aav w' l g n (Tn name (8*n) k) (L5 name d k) r s (by rw[Yf,t]) (Aas _ _ (by omega)) z m).mono ?_;rintro e w2 ⟨rfl,x,j⟩;refine Or.inl ⟨rfl,?_,(j.block _ (Ac r) (by simpa using m)).trans r,q.trans j (by intro i A;exact Or.inl A)⟩;rw[lX,Yf,t];exact x
 ·rintro e w' (⟨rfl,s,_,q⟩|⟨_,h⟩)
  ·exact⟨rfl,s,q⟩
  ·exact h.elim
def Rk(k:Nat):Nat:=max ((k*10+7)/8) 8
def J4(names:List ByteArray)(k:Nat):List UInt8:=(names.take k).foldl (fun d s=>L5 s d 4) (a0x (Rk names.length) 0)
def G6(names:List ByteArray):ByteArray:=bl (J4 names names.length)
theorem Aay(names:List ByteArray){k:Nat}(h:k<names.length):J4 names (k+1)=L5 names[k] (J4 names k) 4:=by
 unfold J4;rw[a1u h,List.foldl_append];rfl
theorem Aaz(names:List ByteArray):∀d:List UInt8,(names.foldl (fun d s=>L5 s d 4) d).length=d.length:=by
 induction names with
 |nil=>intro d;rfl
 |cons s l ih=>intro d;rw[List.foldl_cons,ih,Yf]
theorem cD(names:List ByteArray)(k:Nat):(J4 names k).length=Rk names.length:=by
 unfold J4;rw[Aaz,a3x]
theorem Gy.str{w:World}{g cap:Nat}{d:List UInt8}(h:Gy w g d):(convert 113 9 (.slice (some ⟨g,0,none⟩) d.length cap)).run Tryz.prog w=.ok (.string (bl d)) w:=by
 have a:=Vf (cap:=cap) (n:=d.length) (f:=fun j=>d.getD j 0) (b:=g) (w:=w) ⟨Ac h,fun j k=>by
  rw[h.cell k];rfl,fun j _=>h.free j⟩
 rw[a]
 have e:(a2v d.length).map (fun j=>d.getD j 0)=d:=by
  apply List.ext_getElem
  ·simp
  ·intro i l a;simp only[List.getElem_map,List.getElem_range];rw[a1w,a0v a];rfl
 rw[e];rfl
theorem Aa0(v:Value)(n:Nat):madeCells #[v] n=(a0x n v).toArray:=by
 apply Array.ext
 ·rw[size_madeCells];simp
 ·intro i d a;simp[madeCells,Nat.mod_one]
theorem Aa1(w:World)(n:Nat)(a:n<=100000):(Instr.makeSlice 113 (.int .i64 n) (.int .i64 n)).run Tryz.prog w=.ok (.slice (some ⟨w.heap.size,0,none⟩) n n) (w.alloc (.cells ((a0x n (0:UInt8)).map Bc).toArray 5)):=by
 have h:=run_makeSlice (P:=Tryz.prog) w 113 5 Tryz.t5 (.int .u8 0) Tryz.underlying113 (by kernel_rfl) (by kernel_rfl) .i64 .i64 n n (by omega) (Int.le_refl _) (by show(n:Int).toNat*1<=_;omega) (by show((1:Nat):Int)*n<=_;omega) (by omega)
 change _ =Result.ok _ (w.alloc (.cells (madeCells (Value.int .u8 0).cells ((n:Int).toNat*1)) 5)) at h
 rw[h,Int.toNat_natCast,Nat.mul_one];rw[show(Value.int .u8 0).cells=#[Value.int .u8 0] from rfl,Aa0,List.map_replicate];rfl
theorem Aa2(w:World)(v:Value)(base:Nat)(names:List ByteArray)(hv:Db w base v names)(hn:names.length≤2000)(D:∀s∈names,s.size≤100000000)(ht:Dl w):
  Calls Tryz.prog 94 #[v,.int .i64 10] w fun e w'=>e=.returned (.tuple #[.string (G6 names),.int .i64 0])/\Fp [] w w':=by
 obtain⟨⟨a,cap,rfl⟩,O⟩:=hv.at;have ah:=a0z O;have HT:=a0z ht;have af:=a0z D
 obtain⟨nl,d⟩:∃nl,names.length=nl:=⟨_,rfl⟩
 obtain⟨n,i⟩:∃n,Rk nl=n:=⟨_,rfl⟩
 have ab:n=max ((nl*10+7)/8) 8:=by rw[<-i];rfl
 have n1:IntKind.i64.wrap ((nl:Int)*10)=((nl*10:Nat):Int):=by rw[a1x];omega
 obtain⟨m1,J⟩:∃m,nl*10=m:=⟨_,rfl⟩
 rw[J] at n1
 have n2:IntKind.i64.wrap ((m1:Int)+7)=((m1+7:Nat):Int):=by rw[a1x];omega
 obtain⟨m2,I⟩:∃m,m1+7=m:=⟨_,rfl⟩
 rw[I] at n2
 obtain⟨m3,ad⟩:∃m,m2/8=m:=⟨_,rfl⟩
 have n3:(m2:Int)/8=(m3:Int):=by omega
 have n4:max (m3:Int) 8=(n:Int):=by omega
 have ai:8<=n:=by omega
 have F:n<=100000:=by omega
 clear J I ad ab hv O ht D;rw[d];go_enter Tryz.func94,Tryz.ntmps94;have ac:=Aa1 w n F;have f:Gy (w.alloc (.cells ((a0x n (0:UInt8)).map Bc).toArray 5)) w.heap.size (a0x n 0):=Ai rfl _;have u:=Fp.alloc w (.cells ((a0x n (0:UInt8)).map Bc).toArray 5)
 have C:(w.alloc (.cells ((a0x n (0:UInt8)).map Bc).toArray 5)).heap.size=w.heap.size+1:=by simp
 obtain⟨w1,A⟩:∃w1,w.alloc (.cells ((a0x n (0:UInt8)).map Bc).toArray 5)=w1:=⟨_,rfl⟩
 rw[A] at ac f u C;have S:=a0z f;have ag:=a0z u;clear A f u;go_wp2_with (fail)
 go_loopg [30] nl (fun g vi wr=>∃k:Nat,g+k=nl/\vi=.int .i64 k/\Gy wr w.heap.size (J4 names k)/\wr.heap[w.heap.size+1]?=some (.cells #[.slice (some ⟨w.heap.size,0,none⟩) n n] 113 (0,0))/\Fp [] w wr)
 case atStart=>
  refine⟨0,by omega,rfl,?_,Ai C.symm _,ag.out.alloc' _⟩
  have e:J4 names 0=a0x n 0:=by unfold J4;rw[d,i];rfl
  rw[e];exact S.out.fp (Fp.alloc _ _) (by simp)
 case round=>
  obtain⟨k,hg,rfl,K,x,hf⟩:=hrel;have R:=a0z K;have y:=a0z x;have Z:=a0z hf;have q1:wr.cell? ⟨w.heap.size+1,0,none⟩=some (.slice (some ⟨w.heap.size,0,none⟩) n n):=Ab x 0;clear K x hf
  by_cases hk:k<nl
  ·have zk:(k:Int)<(nl:Int):=by omega
   have t:k<names.length:=by rw[d];exact hk
   have q:(J4 names k).length=n:=by rw[cD,d,i]
   have aj:=a0z q;have U:=a0z (Aay names t)
   obtain⟨s,Y⟩:∃s,names[k]=s:=⟨_,rfl⟩
   have aa:s.size<=100000000:=by rw[<-Y];exact af.out _ (List.getElem_mem t)
   rw[Y] at U
   have N:∃z o,a=some ⟨z,0,none⟩∧cap=o∧wr.cell? ⟨z,k,none⟩=some (.string s):=by
    rcases ah.out with h|⟨z,c0,e0,_,ae,hc⟩
    ·rw[h] at d;simp at d;omega
    ·injection e0 with e1 _ e3
     refine⟨z,c0,e1,e3,?_⟩;rw[Z.out.cell (p:=⟨z,k,none⟩) ae (by simp),hc k t,Y]
   obtain⟨z,o,rfl,rfl,q0⟩:=N
   have n5:IntKind.i64.wrap (8*(n:Int))=((8*n:Nat):Int):=by rw[a1x];omega
   have B:=HT.out.fp Z.out (by simp);have h4:0<w.heap.size:=World.block_lt_of_cell? _ _ (HT.out 0 (by decide));have P:=a0z (Aax s (w.heap.size+1) w.heap.size n (J4 names k) wr aa (by omega) F q y.out R.out (by omega) (by omega) B)
   obtain⟨n8,j⟩:∃n8,8*n=n8:=⟨_,rfl⟩
   rw[j] at n5 P;clear Y q B j;go_wp2_with (fail);(with_reducible refine P.out.mono ?_);rintro e w2 ⟨rfl,l,L⟩;have Q:=a0z l;have T:=a0z L;clear l L;go_wp2_with (fail)
   go_roundg (gk-1)
   case measure=>omega
   case rel=>exact⟨k+1,by omega,by simp,by rw[U.out];exact Q.out,(T.out.block _ (Ac y.out) (by simp)).trans y.out,Z.out.trans T.out (by simp)⟩
  ·obtain rfl:k=nl:=by omega
   have zk:¬(k:Int)<(k:Int):=by omega
   have M:=R.out.str (cap:=n);rw[show(J4 names k).length=n from by rw[cD,d,i]] at M
   have V:Hid (G6 names=bl (J4 names k)):=by unfold Hid G6;rw[d]
   obtain⟨r,hr⟩:∃r,bl (J4 names k)=r:=⟨_,rfl⟩
   rw[hr] at M V;clear hr;go_wp2_with (fail);go_ret2;exact⟨by rw[V.out];rfl,Z.out⟩
end
section
open Go.RowKit
end
end
end Go.Proofs.YtkagolpnaicdoaaGreatDoor
