/-
 A region that draws its order, walked once: each operation says what its value is good for, as long as the world goes on by steps that keep it so. Over any program.
-/
import Derived.Test.YtkagolpnaicdoaaGreatDoorPMem
set_option maxRecDepth 100000
set_option maxHeartbeats 8000000
open List renaming getElem?_eq_getElem->a0z,getElem_of_mem->a0x,append_assoc->a0v,mem_of_getElem?->a0u
open Bool renaming and_eq_true->a0w
open Nat renaming lt_or_ge->a1z
namespace Go.Proofs.YtkagolpnaicdoaaGreatDoor
open Go.RowKit
section
variable {P : Program} {l : List Oper}
def A3(o:Oper)(a:Act):Value:=match o.dst with|some d=>a.tmps.getD d undef|none=>undef
def Aj:List Oper->List Value->Act->Act
 |o::l,v::vs,a=>Aj l vs (a.put o.dst v)
 |_,_,a=>a
theorem Uc{o:Oper}{a:Act}{w:World}{K K':Act→World→Prop}{Q Q':Exit→Act→World→Prop}(h:∀a w,K a w→K' a w)(f:∀e a w,Q e a w→Q' e a w)
  (b:o.wp P a w K Q):o.wp P a w K' Q':=by
 unfold Oper.wp at*;generalize (execOp a.eval o).run P w=r at*
 cases r with
 |ok n w'=>
  cases n<;>simp only[Oper.upon] at b ⊢
  case value=>exact h _ _ b
  case skip=>exact h _ _ b
  case defer=>exact h _ _ b
  case enter=>
   refine Calls.mono b (fun e i d=>?_);cases e
   ·exact h _ _ d
   ·exact f _ _ _ d
   ·obtain⟨k,g,j⟩:=d;exact⟨k,g,f _ _ _ j⟩
  case row=>exact Rows.mono b (fun _ _ d=>h _ _ d)
 |halt x w'=>cases x<;>simp only[Oper.upon] at b ⊢ <;>first|exact f _ _ _ b|exact b
def Wg(P:Program)(l:List Oper)(Ss:List (World→Value→Prop))(C:World→Prop)(R:World→World→Prop)(a0:Act)(i:Nat):Prop:=
 ∀o S,l[i]?=some o->Ss[i]?=some S->∀(a:Act) (w:World),C w->a.tmps.size=a0.tmps.size->(∀t,(∀o∈l,o.dst≠some t)->a.tmps.getD t undef=a0.tmps.getD t undef)->
  (∀e∈o.after,Region.binds .any e=true->∀oe Se,l[e.on]?=some oe->Ss[e.on]?=some Se->Se w (A3 oe a))->
  if Region.wanted o (yielded l.toArray a.tmps)=true then o.wp P a w (fun a2 w2=>∃v,a2=a.put o.dst v/\C w2/\R w w2/\S w2 (match o.dst with|some _=>v|none=>undef)) (fun _ _ _=>False) else S w undef
def Fh(l:List Oper)(size:Nat):Bool:=
 ((List.range l.length).all fun i=>match l[i]? with
  |some o=>(o.after.all fun e=>!Region.binds .any e||decide (e.on<i))&&(match o.dst with|some d=>decide (d<size)&&((List.range l.length).all fun j=>j==i||(match l[j]? with|some oj=>oj.dst !=some d|none=>true))|none=>true)
  |none=>true)
theorem O8{a i:Nat}{o:Oper}(h:Fh l a=true)(d:l[i]?=some o):∀e∈o.after,Region.binds .any e=true->e.on<i:=by
 intro e g j;unfold Fh at h;have b:=List.all_eq_true.1 h i (List.mem_range.2 (List.getElem?_eq_some_iff.1 d).1);rw[d] at b;simp only[a0w] at b;have f:=Array.all_eq_true_iff_forall_mem.1 b.1 e g;rw[j] at f
 simpa using f
theorem Gz{a i d:Nat}{o:Oper}(h:Fh l a=true)(k:l[i]?=some o)(q:o.dst=some d):d<a/\∀j f,l[j]?=some f->j≠i->f.dst≠some d:=by
 unfold Fh at h;have b:=List.all_eq_true.1 h i (List.mem_range.2 (List.getElem?_eq_some_iff.1 k).1);rw[k] at b;simp only[a0w,q] at b;refine⟨by simpa using b.2.1,fun j f m g p=>?_⟩;have n:=List.all_eq_true.1 b.2.2 j (List.mem_range.2 (List.getElem?_eq_some_iff.1 m).1);rw[m] at n;simp[g,p] at n
theorem Rw{a:Act}{d:Nat}{v:Value}(h:d<a.tmps.size):(a.put (some d) v).tmps.getD d undef=v:=by
 simp[Act.put,h]
theorem Lm{a:Act}{b:Option Nat}{t:Nat}{v:Value}(h:b≠some t):(a.put b v).tmps.getD t undef=a.tmps.getD t undef:=by
 cases b with
 |none=>rfl
 |some d=>
  have:d≠t:=fun e=>h (by rw[e])
  simp[Act.put,this]
theorem Rx(a:Act)(b:Option Nat)(v:Value):(a.put b v).tmps.size=a.tmps.size:=by
 cases b<;>simp[Act.put]
theorem Ud(a:Act)(b:Option Nat)(v:Value):(a.put b v).defers=a.defers:=by
 cases b<;>rfl
structure Yy(l:List Oper)(Ss:List (World->Value->Prop))(C:World->Prop)(a0:Act)(listed:Array Bool)(a:Act)(w:World):Prop where
 size:listed.size=l.length
 defers:a.defers=a0.defers
 tmps:a.tmps.size=a0.tmps.size
 done:∀j o S,l[j]?=some o->Ss[j]?=some S->listed.getD j false=true->S w (A3 o a)
 same:∀t,(∀o∈l,o.dst≠some t)->a.tmps.getD t undef=a0.tmps.getD t undef
 cls:C w
def F8(listed:Array Bool):Nat:=(listed.toList.filter (fun b=>!b)).length
theorem Wh{listed:Array Bool}{i:Nat}(d:i<listed.size)(h:listed.getD i true=false):F8 (listed.setIfInBounds i true)+1=F8 listed:=by
 unfold F8;rw[Array.toList_setIfInBounds]
 have a:listed.toList[i]?=some false:=by
  rw[Array.getElem?_toList];simp[d] at h ⊢;exact h
 generalize listed.toList=L at a;clear h d
 induction L generalizing i with
 |nil=>simp at a
 |cons b r ih=>
  cases i with
  |zero=>
   simp at a;subst a;simp
  |succ i=>
   simp at a;have:=ih a
   cases b<;>simp<;>omega
theorem Wi{a:Array Bool}(h:F8 a=0):∀j,j<a.size->a.getD j false=true:=by
 intro j b;unfold F8 at h;have d:=List.filter_eq_nil_iff.1 (List.eq_nil_of_length_eq_zero h) a[j] (by simp);simp[b]
 simpa using d
theorem Ad8{Ss:List (World→Value→Prop)}{C:World→Prop}{R:World→World→Prop}{V:Act}{Q:Exit→Act→World→Prop}(hl:Ss.length=l.length)(r:Fh l V.tmps.size=true)
  (stab:∀S∈Ss,∀w w' v,C w->R w w'->S w v->S w' v)(rel:∀i,i<l.length->Wg P l Ss C R V i)
  (ac:∀a w listed,Yy l Ss C V listed a w->(∀j,j<l.length->listed.getD j false=true)->Q .normal a w):
  ∀(g:Nat) (listed:Array Bool) (a:Act) (w:World),F8 listed=g->Yy l Ss C V listed a w->wpAny P .any l.toArray Q g listed a w:=by
 intro g
 induction g with
 |zero=>
  intro listed a w hu f;have m:=Wi hu;rw[f.size] at m;refine⟨?_,ac a w listed f m⟩;apply List.eq_nil_iff_forall_not_mem.2;intro j q;obtain⟨U,o,T,_⟩:=mem_ready.1 q
  have p:j<l.length:=by simpa using(Array.getElem?_eq_some_iff.1 T).1
  have O:=m j p
  have B:j<listed.size:=by rw[f.size];exact p
  simp[B] at U O;rw[U] at O;cases O
 |succ g ih=>
  intro listed a w hu f;refine⟨fun G=>?_,fun i hi=>?_⟩
  ·--something is ready as long as not all is listed
   exfalso
   have y:∃j,j<l.length∧listed.getD j false=false:=by
    by_cases y:∃j,j<l.length/\listed.getD j false=false
    ·exact y
    ·exfalso
     have m:∀j,j<l.length->listed.getD j false=true:=fun j q=>by
      cases h:listed.getD j false
      ·exact absurd ⟨j,q,h⟩ y
      ·rfl
     have:F8 listed=0:=by
      unfold F8;rw[List.length_eq_zero_iff,List.filter_eq_nil_iff];intro b N;obtain⟨j,q,rfl⟩:=a0x N
      have L:j<listed.size:=by simpa using q
      have:=m j (by rw[<-f.size];exact L);simp[L] at this ⊢;exact this
     omega
   obtain⟨j,q,x⟩:∃j,(j<l.length∧listed.getD j false=false)∧∀k,k<j→¬(k<l.length∧listed.getD k false=false):=by
    obtain⟨j0,h0⟩:=y
    induction j0 using Nat.strongRecOn with
    |_ n ih2=>
     by_cases hk:∃k,k<n/\(k<l.length/\listed.getD k false=false)
     ·obtain⟨k,E,D⟩:=hk;exact ih2 k E D
     ·exact⟨n,h0,fun k E D=>hk ⟨k,E,D⟩⟩
   have Z:j<listed.size:=by rw[f.size];exact q.1
   have:j∈Region.ready .any l.toArray listed:=by
    refine mem_ready.2 ⟨by have:=q.2;simp[Z] at this ⊢;exact this,l[j],by simp[q.1],fun e he N=>?_⟩;have p:=O8 r (a0z q.1) e he N;cases h:listed.getD e.on false
    ·exact absurd ⟨by omega,h⟩ (x e.on p)
    ·rfl
   rw[G] at this;cases this
  ·obtain⟨U,o,T,J⟩:=mem_ready.1 hi
   have s:l[i]?=some o:=by simpa using T
   have p:i<l.length:=(List.getElem?_eq_some_iff.1 s).1
   have B:i<listed.size:=by rw[f.size];exact p
   obtain⟨S,hS⟩:∃S,Ss[i]?=some S:=⟨Ss[i]'(by omega),a0z (by omega)⟩
   have G:=rel i p o S s hS a w f.cls f.tmps f.same (fun e he N oe Se Y aa=>f.done e.on oe Se Y aa (J e he N))
   have u:∀v w2,C w2→(∀S'∈Ss,∀v,S' w v→S' w2 v)→S w2 (match o.dst with|some _=>v|none=>undef)→wpAny P .any l.toArray Q g (listed.setIfInBounds i true) (a.put o.dst v) w2:=by
    intro v w2 hC X A;refine ih _ _ _ (by have:=Wh B U;omega) ⟨by simp[f.size],by rw[Ud];exact f.defers,by rw[Rx];exact f.tmps,?_,?_,hC⟩
    ·intro j I Sj q z K
     by_cases F:i=j
     ·subst F;rw[s] at q;cases q;rw[hS] at z;cases z;unfold A3
      cases M:o.dst with
      |none=>rw[M] at A;exact A
      |some d=>
       rw[M] at A;simp only;rw[Rw (by rw[f.tmps];exact(Gz r s M).1)];exact A
     ·rw[getD_set_ne false F] at K;have O:=X Sj (a0u z) _ (f.done j I Sj q z K)
      have:A3 I (a.put o.dst v)=A3 I a:=by
       unfold A3
       cases hdj:I.dst with
       |none=>rfl
       |some d=>
        simp only
        refine Lm fun M=>?_
        exact(Gz r s M).2 j I q (Ne.symm F) hdj
      rw[this];exact O
    ·intro t ht;rw[Lm (ht o (a0u s))];exact f.same t ht
   unfold wpOp;simp only[T];split
   ·rename_i W;rw[if_pos W] at G;refine Or.inl (Uc (fun a2 w2 h=>?_) (fun _ _ _ h=>h.elim) G);obtain⟨v,rfl,hC,hR,A⟩:=h;exact u v w2 hC (fun S' ab v A=>stab S' ab w w2 v f.cls hR A) A
   ·rename_i W;rw[if_neg W] at G;refine u undef w f.cls (fun _ _ _ h=>h) ?_
    cases o.dst<;>exact G
theorem Ue:∀(l:List Oper) (b:List Value) (a:Act),(Aj l b a).tmps.size=a.tmps.size
 |[],_,_=>rfl
 |_ ::_,[],_=>rfl
 |o::l,v::b,a=>by unfold Aj;rw[Ue l b,Rx]
theorem Uf:∀(l:List Oper) (b:List Value) (a:Act),(Aj l b a).defers=a.defers
 |[],_,_=>rfl
 |_ ::_,[],_=>rfl
 |o::l,v::b,a=>by unfold Aj;rw[Uf l b,Ud]
theorem Ry:∀(l:List Oper) (b:List Value) (a:Act) (t:Nat),(∀o∈l,o.dst≠some t)→(Aj l b a).tmps.getD t undef=a.tmps.getD t undef
 |[],_,_,_,_=>rfl
 |_ ::_,[],_,_,_=>rfl
 |o::l,v::b,a,t,h=>by
  unfold Aj;rw[Ry l b _ t (fun f d=>h f (by simp[d])),Lm (h o (by simp))]
theorem Ug:∀(l:List Oper) (f:List Value) (a:Act),f.length=l.length→(∀(i j:Nat) k g d,l[i]?=some k→l[j]?=some g→k.dst=some d→g.dst=some d→i=j)→(∀o∈l,∀d,o.dst=some d→d<a.tmps.size)→
  ∀(i:Nat) (o:Oper) (v:Value) (d:Nat),l[i]?=some o->f[i]?=some v->o.dst=some d->(Aj l f a).tmps.getD d undef=v
 |[],_,_,_,_,_,i,_,_,_,h,_,_=>by simp at h
 |_ ::_,[],_,hl,_,_,_,_,_,_,_,_,_=>by simp at hl
 |o::l,v::f,a,hl,hd,hs,i,m,v',d,ho,hv,hod=>by
  unfold Aj
  cases i with
  |zero=>
   simp at ho hv;subst ho;subst hv
   rw[Ry l f _ d (fun m b r=>by
    obtain⟨j,n,rfl⟩:=a0x b;have:=hd 0 (j+1) o l[j] d rfl (by simp[n]) hod r
    omega),hod]
   exact Rw (hs o (by simp) d hod)
  |succ i=>
   simp at ho hv
   exact Ug l f (a.put o.dst v) (by simpa using hl) (fun i j k g d q n t s=>by
    have:=hd (i+1) (j+1) k g d (by simpa using q) (by simpa using n) t s
    omega) (fun m b u p=>by rw[Rx];exact hs m (by simp[b]) u p) i m v' d ho hv hod
def F9(w:World):List (World->Value->Prop)->List Value->Prop
 |S::Ss,v::vs=>S w v/\F9 w Ss vs
 |[],[]=>True
 |_,_=>False
theorem Uh{w:World}:∀{Ss:List (World->Value->Prop)} {a:List Value},a.length=Ss.length->(∀(i:Nat) (S:World->Value->Prop) (v:Value),Ss[i]?=some S->a[i]?=some v->S w v)->F9 w Ss a
 |[],[],_,_=>trivial
 |[],_ ::_,h,_=>by simp at h
 |_ ::_,[],h,_=>by simp at h
 |S::Ss,v::a,h,k=>⟨k 0 S v rfl rfl,Uh (by simpa using h) (fun i S' b f d=>k (i+1) S' b (by simpa using f) (by simpa using d))⟩
theorem Ad9{id:Nat}{Q:Exit→Act→World→Prop}{f:Act}{w0:World}(Ss:List (World→Value→Prop))(C:World→Prop)(R:World→World→Prop)
  (U:P.follows .mixedOrders=true)(O:Ss.length=l.length)(b:Fh l f.tmps.size=true)(Y:C {w0 with drawn:=w0.drawn+1})
  (stab:∀S∈Ss,∀w w' v,C w->R w w'->S w v->S w' v)(rel:∀i,i<l.length->Wg P l Ss C R f i)
  (M:∀N w,C w->F9 w Ss N->Q .normal (Aj l N f) w):(Code.region id l.toArray true).wp P Q f w0:=by
 refine wp_region_any U (Ad8 O b stab rel ?_ _ _ _ _ (by simp[F8]) ⟨by simp,rfl,rfl,?_,fun _ _=>rfl,Y⟩)
 ·intro a w B g z
  have u:=M (l.map (fun o=>A3 o a)) w g.cls (Uh (by simp[O]) (fun i S v A n=>by
   rw[List.getElem?_map] at n
   cases p:l[i]? with
   |none=>rw[p] at n;cases n
   |some o=>
    rw[p] at n;simp only[Option.map_some,Option.some.injEq] at n;rw[<-n]
    exact g.done i o S p A (z i (List.getElem?_eq_some_iff.1 p).1)))
  have:Aj l (l.map (fun o=>A3 o a)) f=a:=by
   have m:(Aj l (l.map (fun o=>A3 o a)) f).defers=a.defers:=by rw[Uf,g.defers]
   have s:(Aj l (l.map (fun o=>A3 o a)) f).tmps=a.tmps:=by
    have E:(Aj l (l.map (fun o=>A3 o a)) f).tmps.size=a.tmps.size:=by rw[Ue,g.tmps]
    refine Array.ext E fun t A n=>?_
    have X:(Aj l (l.map (fun o=>A3 o a)) f).tmps.getD t undef=a.tmps.getD t undef:=by
     by_cases y:∃o∈l,o.dst=some t
     ·obtain⟨o,p,D⟩:=y;obtain⟨i,J,I⟩:=a0x p
      have q:l[i]?=some o:=by rw[a0z J,I]
      rw[Ug l _ f (by simp) (fun i j Z T d J W A n=>by
       by_cases x:i=j
       ·exact x
       ·exact absurd n ((Gz b J A).2 j T W (Ne.symm x))) (fun o' F d K=>by
       obtain⟨k,V,G⟩:=a0x F
       exact(Gz b (by rw[a0z V,G]) K).1) i o (A3 o a) t q (by rw[List.getElem?_map,q];rfl) D]
      unfold A3;rw[D]
     ·have r:∀o∈l,o.dst≠some t:=fun o p D=>y ⟨o,p,D⟩
      rw[Ry l _ f t r,g.same t r]
    simpa [A,n] using X
   cases a;cases h:Aj l (l.map (fun o=>A3 o _)) f;rw[h] at m s;simp only at m s;rw[m,s]
  rw[this] at u;exact u
 ·intro j o S _ _ h;exfalso
  rcases a1z j l.length with L|L
  ·simp[L] at h
  ·simp[L] at h
def B6(x:Value):World->Value->Prop:=fun _ v=>v=x
def Jb(l:List Oper)(i j t:Nat):Bool:=match l[i]?,l[j]? with
 |some o,some oj=>(o.after.any fun e=>Region.binds .any e&&e.on==j)&&oj.dst==some t
 |_,_=>false
def oQ(l:List Oper)(t:Nat):Bool:=l.all fun o=>o.dst !=some t
structure N7(l:List Oper)(Ss:List (World->Value->Prop))(a0:Act)(i:Nat)(a:Act)(w:World):Prop where
 size:a.tmps.size=a0.tmps.size
 dep:∀(j t:Nat) (S:World->Value->Prop),Jb l i j t=true->Ss[i-1-j]?=some S->S w (a.tmps[t]?.getD undef)
 free:∀(t:Nat) (v:Value),oQ l t=true->a0.tmps.getD t undef=v->a.tmps[t]?.getD undef=v
def Aea(P:Program)(l:List Oper)(done:List (World→Value→Prop))(S:World→Value→Prop)(C:World→Prop)(R:World→World→Prop)(a0:Act)(i:Nat):Prop:=
 ∀o,l[i]?=some o->∀(a:Act) (w:World),C w->N7 l done a0 i a w->
  if Region.wanted o (yielded l.toArray a.tmps)=true then o.wp P a w (fun a2 w2=>∃v,a2=a.put o.dst v/\C w2/\R w w2/\S w2 (match o.dst with|some _=>v|none=>undef)) (fun _ _ _=>False) else S w undef
theorem Aeb{Ss:List (World→Value→Prop)}{g:Act}{i:Nat}{a:Act}{w:World}{o:Oper}(n:l[i]?=some o)(x:a.tmps.size=g.tmps.size)(u:∀t,(∀o∈l,o.dst≠some t)→a.tmps.getD t undef=g.tmps.getD t undef)
  (s:∀e∈o.after,Region.binds .any e=true->∀h Se,l[e.on]?=some h->Ss[i-1-e.on]?=some Se->Se w (A3 h a)):N7 l Ss g i a w:=by
 refine⟨x,fun j t S b r=>?_,fun t v p m=>?_⟩
 ·unfold Jb at b;rw[n] at b
  cases hj:l[j]? with
  |none=>rw[hj] at b;cases b
  |some oj=>
   rw[hj] at b;simp only[a0w,beq_iff_eq] at b;obtain⟨e,q,k⟩:=Array.any_eq_true'.1 b.1;simp only[a0w,beq_iff_eq] at k;obtain⟨f,rfl⟩:=k;have:=s e q f oj S hj r;unfold A3 at this;rw[b.2] at this
   simpa using this
 ·have:=u t (fun o d=>by simpa using List.all_eq_true.1 p o d);rw[m] at this
  simpa using this
def Ui(C:World->Prop)(R:World->World->Prop):List (World->Value->Prop)->Prop
 |[]=>True
 |S::Ss=>(∀w w' v,C w->R w w'->S w v->S w' v)/\Ui C R Ss
theorem oR{C:World→Prop}{R:World→World→Prop}:∀{Ss:List (World→Value→Prop)},Ui C R Ss→∀S∈Ss,∀w w' v,C w→R w w'→S w v→S w' v
 |[],_,S,a=>by cases a
 |T::Ss,h,S,a=>by
  rcases List.mem_cons.1 a with rfl|a
  ·exact h.1
  ·exact oR h.2 S a
theorem B7(x:Value){C:World->Prop}{R:World->World->Prop}{Ss:List (World->Value->Prop)}(h:Ui C R Ss):Ui C R (B6 x::Ss):=⟨fun _ _ _ _ _ h=>h,h⟩
def Ij(P:Program)(l:List Oper)(C:World->Prop)(R:World->World->Prop)(a0:Act)(F:Act->World->Prop):Nat->List (World->Value->Prop)->Nat->Prop
 |_,done,0=>Ui C R done/\∀w,C w->∀vs,F9 w done.reverse vs->F (Aj l vs a0) w
 |i,done,n+1=>∃S,Aea P l done S C R a0 i/\Ij P l C R a0 F (i+1) (S::done) n
theorem Aec{C:World->Prop}{R:World->World->Prop}:∀{Ss Ts:List (World->Value->Prop)},(∀S∈Ts,S∈Ss)->Ui C R Ss->∀S∈Ts,∀w w' v,C w->R w w'->S w v->S w' v:=
 fun a h S b=>oR h S (a S b)
theorem dL{C:World→Prop}{R:World→World→Prop}{m:Act}{F:Act→World→Prop}(b:Fh l m.tmps.size=true):∀(n i:Nat) (done:List (World→Value→Prop)),Ij P l C R m F i done n→done.length=i→i+n=l.length→
  ∃Ss,(∃r,Ss=done.reverse++r)/\Ss.length=l.length/\(∀S∈Ss,∀w w' v,C w->R w w'->S w v->S w' v)/\(∀g w,C w->F9 w Ss g->F (Aj l g m) w)/\∀k,i<=k->k<l.length->Wg P l Ss C R m k
 |0,i,done,h,h1,h2=>⟨done.reverse,⟨[],by simp⟩,by simp;omega,Aec (fun S u=>by simpa using u) h.1,fun g w x=>h.2 w x g,fun k J A=>by omega⟩
 |n+1,i,done,h,h1,h2=>by
  obtain⟨S,p,d⟩:=h;obtain⟨Ss,⟨r,j⟩,N,M,L,K⟩:=dL b n (i+1) (S::done) d (by simp[h1]) (by omega);rw[List.reverse_cons] at j;refine⟨Ss,⟨[S]++r,by rw[j,a0v]⟩,N,M,L,fun k J A=>?_⟩
  by_cases e:k=i
  ·subst e;intro o S' s f a w x G E D
   have u:Ss[k]?=some S:=by rw[j,a0v,List.getElem?_append_right (by simp;omega)];simp[h1]
   rw[u] at f;cases f;refine p o s a w x (Aeb s G E fun e y z B Se q t=>D e y z B Se q ?_);have I:=O8 b s e y z;rw[j,a0v,List.getElem?_append_left (by simp;omega),List.getElem?_reverse (by omega),h1];exact t
  ·exact K k (by omega) A
theorem dM{id:Nat}{Q:Exit→Act→World→Prop}{d:Act}{w0:World}(C:World→Prop)(R:World→World→Prop)
  (f:P.follows .mixedOrders=true)(b:Fh l d.tmps.size=true)(j:C {w0 with drawn:=w0.drawn+1})
  (h:Ij P l C R d (fun a w=>Q .normal a w) 0 [] l.length):(Code.region id l.toArray true).wp P Q d w0:=by
 obtain⟨Ss,_,o,n,m,k⟩:=dL b l.length 0 [] h rfl (by omega);exact Ad9 Ss C R f o b j n (fun i g=>k i (Nat.zero_le _) g) m
theorem C9{id:Nat}{Q:Exit→Act→World→Prop}{d:Act}{w0:World}(f:P.follows .mixedOrders=true)(b:Fh l d.tmps.size=true)
  (h:Ij P l (fun w'=>Fp [] w0 w') (Fp []) d (fun a w=>Q .normal a w) 0 [] l.length):(Code.region id l.toArray true).wp P Q d w0:=
 dM _ _ f b (Fp.drew w0) h
theorem Aw{C:World→Prop}{R:World→World→Prop}{f:Act}{F:Act→World→Prop}{i n:Nat}{done:List (World→Value→Prop)}{o:Oper}{x:Value}(k:l[i]?=some o)(p:o.guard=none)(g:o.dst.isSome=true)
  (h:∀a w,C w->N7 l done f i a w->∀K:Act->World->Prop,(∀w2,C w2->R w w2->K (a.put o.dst x) w2)->o.wp P a w K (fun _ _ _=>False))
  (m:Ij P l C R f F (i+1) (B6 x::done) n):Ij P l C R f F i done (n+1):=by
 refine⟨B6 x,?_,m⟩;intro t b a w q s;rw[k] at b;cases b
 have j:Region.wanted o (yielded l.toArray a.tmps)=true:=by unfold Region.wanted;rw[p]
 rw[if_pos j]
 refine h a w q s _ fun w2 c r=>⟨x,rfl,c,r,?_⟩
 cases hd':o.dst with
 |none=>rw[hd'] at g;cases g
 |some d=>rfl
theorem Qp{C:World→Prop}{R:World→World→Prop}{f:Act}{F:Act→World→Prop}{i n:Nat}{done:List (World→Value→Prop)}{o:Oper}(S:World→Value→Prop)(k:l[i]?=some o)(p:o.guard=none)(g:o.dst.isSome=true)
  (h:∀a w,C w->N7 l done f i a w->∀K:Act->World->Prop,(∀v w2,C w2->R w w2->S w2 v->K (a.put o.dst v) w2)->o.wp P a w K (fun _ _ _=>False))
  (m:Ij P l C R f F (i+1) (S::done) n):Ij P l C R f F i done (n+1):=by
 refine⟨S,?_,m⟩;intro u b a w q t;rw[k] at b;cases b
 have j:Region.wanted o (yielded l.toArray a.tmps)=true:=by unfold Region.wanted;rw[p]
 rw[if_pos j]
 refine h a w q t _ fun v w2 c r s=>⟨v,rfl,c,r,?_⟩
 cases hd':o.dst with
 |none=>rw[hd'] at g;cases g
 |some d=>exact s
theorem Yz{C:World→Prop}{R:World→World→Prop}{d:Act}{F:Act→World→Prop}{i n:Nat}{done:List (World→Value→Prop)}{o:Oper}(S:World→Prop)(g:l[i]?=some o)(k:o.guard=none)
  (h:∀a w,C w->N7 l done d i a w->∀K:Act->World->Prop,(∀v w2,C w2->R w w2->S w2->K (a.put o.dst v) w2)->o.wp P a w K (fun _ _ _=>False))
  (j:Ij P l C R d F (i+1) ((fun w _=>S w)::done) n):Ij P l C R d F i done (n+1):=by
 refine⟨fun w _=>S w,?_,j⟩;intro q b a w m p;rw[g] at b;cases b
 have f:Region.wanted o (yielded l.toArray a.tmps)=true:=by unfold Region.wanted;rw[k]
 rw[if_pos f]
 exact h a w m p _ fun v w2 c r s=>⟨v,rfl,c,r,s⟩
theorem oS{a:Act}{j t:Nat}{oj:Oper}{b:Bool}(g:l[j]?=some oj)(i:oj.dst=some t)(h:a.tmps.getD t undef=.bool b):yielded l.toArray a.tmps j=some b:=by
 unfold yielded
 have k:l.toArray[j]?=some oj:=by simpa using g
 rw[k];simp only[Option.bind_some,i]
 rcases a1z t a.tmps.size with d|f
 ·simp[d] at h ⊢;rw[h]
 ·simp[f] at h;cases h
theorem Hr{C:World→Prop}{R:World→World→Prop}{q:Act}{F:Act→World→Prop}{i n:Nat}{done:List (World→Value→Prop)}{o s:Oper}{x:Value}{b:Bool}(j t:Nat)(A:l[i]?=some o)(D:o.guard=some (j,b))(k:l[j]?=some s)(m:s.dst=some t)
  (g:Jb l i j t=true)(p:done[i-1-j]?=some (B6 (.bool b)))(u:o.dst.isSome=true)
  (h:∀a w,C w->N7 l done q i a w->∀K:Act->World->Prop,(∀w2,C w2->R w w2->K (a.put o.dst x) w2)->o.wp P a w K (fun _ _ _=>False))
  (B:Ij P l C R q F (i+1) (B6 x::done) n):Ij P l C R q F i done (n+1):=by
 refine⟨B6 x,?_,B⟩;intro G f a w E v;rw[A] at f;cases f;have y:=oS k m (by have:=v.dep j t _ g p;simpa [B6] using this)
 have z:Region.wanted o (yielded l.toArray a.tmps)=true:=by unfold Region.wanted;rw[D];simp[y]
 rw[if_pos z]
 refine h a w E v _ fun w2 c r=>⟨x,rfl,c,r,?_⟩
 cases hd':o.dst with
 |none=>rw[hd'] at u;cases u
 |some d=>rfl
theorem An{C:World→Prop}{R:World→World→Prop}{r:Act}{F:Act→World→Prop}{i n:Nat}{done:List (World→Value→Prop)}{o q:Oper}{b d:Bool}(j t:Nat)(v:l[i]?=some o)(y:o.guard=some (j,d))(k:l[j]?=some q)(m:q.dst=some t)
  (h:Jb l i j t=true)(p:done[i-1-j]?=some (B6 (.bool b)))(g:(d !=b)=true)
  (x:Ij P l C R r F (i+1) (B6 undef::done) n):Ij P l C R r F i done (n+1):=by
 refine⟨B6 undef,?_,x⟩;intro A f a w B z;rw[v] at f;cases f;have s:=oS k m (by have:=z.dep j t _ h p;simpa [B6] using this)
 have u:¬Region.wanted o (yielded l.toArray a.tmps)=true:=by
  unfold Region.wanted;rw[y];simp[s];intro e;rw[e] at g;simp at g
 rw[if_neg u];rfl
theorem G9{C:World→Prop}{R:World→World→Prop}{r:Act}{F:Act→World→Prop}{i n:Nat}{done:List (World→Value→Prop)}{o oj:Oper}{b:Bool}(j t:Nat)(v:l[i]?=some o)(y:o.guard=some (j,b))(g:l[j]?=some oj)(m:oj.dst=some t)
  (f:Jb l i j t=true)(p:done[i-1-j]?=some (B6 undef))
  (x:Ij P l C R r F (i+1) (B6 undef::done) n):Ij P l C R r F i done (n+1):=by
 refine⟨B6 undef,?_,x⟩;intro B d a w D z;rw[v] at d;cases d
 have q:a.tmps.getD t undef=undef:=by have:=z.dep j t _ f p;simpa [B6] using this
 have s:yielded l.toArray a.tmps j=none:=by
  unfold yielded
  have A:l.toArray[j]?=some oj:=by simpa using g
  rw[A];simp only[Option.bind_some,m]
  rcases a1z t a.tmps.size with h|k
  ·simp[h] at q ⊢;rw[q];rfl
  ·simp[k]
 have u:¬Region.wanted o (yielded l.toArray a.tmps)=true:=by
  unfold Region.wanted;rw[y];simp[s]
 rw[if_neg u];rfl
theorem Aed{w:World}{x:Value}{Ss:List (World->Value->Prop)}{a:List Value}(h:F9 w (B6 x::Ss) a):∃r,a=x::r/\F9 w Ss r:=by
 cases a with
 |nil=>exact h.elim
 |cons v r=>obtain⟨rfl,b⟩:=h;exact⟨r,rfl,b⟩
theorem Aee{w:World}{S:World->Value->Prop}{Ss:List (World->Value->Prop)}{a:List Value}(h:F9 w (S::Ss) a):∃v r,a=v::r/\S w v/\F9 w Ss r:=by
 cases a with
 |nil=>exact h.elim
 |cons v r=>exact⟨v,r,rfl,h.1,h.2⟩
theorem Am{w:World}{x:Value}{Ss:List (World->Value->Prop)}{G:List Value->Prop}(h:∀r,F9 w Ss r->G (x::r)):∀vs,F9 w (B6 x::Ss) vs->G vs:=by
 intro vs a;obtain⟨r,rfl,b⟩:=Aed a;exact h r b
theorem Ap{w:World}{S:World->Value->Prop}{Ss:List (World->Value->Prop)}{G:List Value->Prop}(h:∀v,S w v->∀r,F9 w Ss r->G (v::r)):∀vs,F9 w (S::Ss) vs->G vs:=by
 intro vs a;obtain⟨v,r,rfl,d,b⟩:=Aee a;exact h v d r b
theorem Aef{w:World}{a:List Value}(h:F9 w [] a):a=[]:=by
 cases a with
 |nil=>rfl
 |cons v r=>exact h.elim
theorem A0{w:World}{G:List Value->Prop}(h:G []):∀vs,F9 w [] vs->G vs:=by
 intro vs a;rw[Aef a];exact h
end
section
open Go.RowKit
theorem N7.eq{l:List Oper}{Ss:List (World->Value->Prop)}{f:Act}{i:Nat}{a:Act}{w:World}(h:N7 l Ss f i a w)(j t:Nat){x:Value}(b:Ss[i-1-j]?=some (B6 x))(d:Jb l i j t=true:=by decide+kernel):a.tmps[t]?.getD undef=x:=h.dep j t (B6 x) d b
theorem N7.fr{l:List Oper}{Ss:List (World->Value->Prop)}{b:Act}{i:Nat}{a:Act}{w:World}(h:N7 l Ss b i a w)(t:Nat){v:Value}(d:b.tmps.getD t undef=v)(f:oQ l t=true:=by decide+kernel):a.tmps[t]?.getD undef=v:=h.free t v f d
end
end Go.Proofs.YtkagolpnaicdoaaGreatDoor
