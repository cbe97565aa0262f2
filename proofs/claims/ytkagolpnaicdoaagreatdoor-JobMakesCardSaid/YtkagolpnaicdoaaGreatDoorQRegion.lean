/- Lemmas. -/
import Derived.Test.YtkagolpnaicdoaaGreatDoorQMem
set_option maxRecDepth 100000
set_option maxHeartbeats 8000000
open List renaming getElem?_eq_getElem->X,getElem_of_mem->Y,append_assoc->Z,mem_of_getElem?->a0x
open Bool renaming and_eq_true->a0z
open Nat renaming lt_or_ge->a0w
namespace Go.Proofs.YtkagolpnaicdoaaGreatDoor
open Go.RowKit
section
variable {P : Program} {l : List Oper}
def Az(o:Oper)(a:Act):Value:=match o.dst with|some d=>a.tmps.getD d undef|none=>undef
def Aj:List Oper->List Value->Act->Act
 |o::l,v::vs,a=>Aj l vs (a.put o.dst v)
 |_,_,a=>a
theorem Tn{o:Oper}{a:Act}{w:World}{K K':Act→World→Prop}{Q Q':Exit→Act→World→Prop}(h:∀a w,K a w→K' a w)(d:∀e a w,Q e a w→Q' e a w)
  (b:o.wp P a w K Q):o.wp P a w K' Q':=by
 unfold Oper.wp at*;generalize (execOp a.eval o).run P w=r at*
 cases r with
 |ok n w'=>
  cases n<;>simp only[Oper.upon] at b ⊢
  case value=>exact h _ _ b
  case skip=>exact h _ _ b
  case defer=>exact h _ _ b
  case enter=>
   refine Calls.mono b (fun e i c=>?_);cases e
   .exact h _ _ c
   .exact d _ _ _ c
   .obtain⟨k,g,j⟩:=c;exact⟨k,g,d _ _ _ j⟩
  case row=>exact Rows.mono b (fun _ _ c=>h _ _ c)
 |halt x w'=>cases x<;>simp only[Oper.upon] at b ⊢ <;>first|exact d _ _ _ b|exact b
def Vp(P:Program)(l:List Oper)(Ss:List (World→Value→Prop))(C:World→Prop)(R:World→World→Prop)(a0:Act)(i:Nat):Prop:=
 ∀o S,l[i]?=some o->Ss[i]?=some S->∀(a:Act) (w:World),C w->a.tmps.size=a0.tmps.size->(∀t,(∀o∈l,o.dst≠some t)->a.tmps.getD t undef=a0.tmps.getD t undef)->
  (∀e∈o.after,Region.binds .any e=true->∀oe Se,l[e.on]?=some oe->Ss[e.on]?=some Se->Se w (Az oe a))->
  if Region.wanted o (yielded l.toArray a.tmps)=true then o.wp P a w (fun a2 w2=>∃v,a2=a.put o.dst v/\C w2/\R w w2/\S w2 (match o.dst with|some _=>v|none=>undef)) (fun _ _ _=>False) else S w undef
def Fv(l:List Oper)(size:Nat):Bool:=
 ((List.range l.length).all fun i=>match l[i]? with
  |some o=>(o.after.all fun e=>!Region.binds .any e||decide (e.on<i))&&(match o.dst with|some d=>decide (d<size)&&((List.range l.length).all fun j=>j==i||(match l[j]? with|some oj=>oj.dst !=some d|none=>true))|none=>true)
  |none=>true)
theorem O7{a i:Nat}{o:Oper}(h:Fv l a=true)(c:l[i]?=some o):∀e∈o.after,Region.binds .any e=true->e.on<i:=by
 intro e g j;unfold Fv at h;have b:=List.all_eq_true.1 h i (List.mem_range.2 (List.getElem?_eq_some_iff.1 c).1);rw[c] at b;simp only[a0z] at b;have d:=Array.all_eq_true_iff_forall_mem.1 b.1 e g;rw[j] at d
 simpa using d
theorem He{a i d:Nat}{o:Oper}(h:Fv l a=true)(k:l[i]?=some o)(q:o.dst=some d):d<a/\∀j c,l[j]?=some c->j≠i->c.dst≠some d:=by
 unfold Fv at h;have b:=List.all_eq_true.1 h i (List.mem_range.2 (List.getElem?_eq_some_iff.1 k).1);rw[k] at b;simp only[a0z,q] at b;refine⟨by simpa using b.2.1,fun j c m g p=>?_⟩;have n:=List.all_eq_true.1 b.2.2 j (List.mem_range.2 (List.getElem?_eq_some_iff.1 m).1);rw[m] at n;simp[g,p] at n
theorem Q9{a:Act}{d:Nat}{v:Value}(h:d<a.tmps.size):(a.put (some d) v).tmps.getD d undef=v:=by
 simp[Act.put,h]
theorem L0{a:Act}{b:Option Nat}{t:Nat}{v:Value}(h:b≠some t):(a.put b v).tmps.getD t undef=a.tmps.getD t undef:=by
 cases b with
 |none=>rfl
 |some d=>
  have:d≠t:=fun e=>h (by rw[e]);simp[Act.put,this]
theorem Re(a:Act)(b:Option Nat)(v:Value):(a.put b v).tmps.size=a.tmps.size:=by
 cases b<;>simp[Act.put]
theorem To(a:Act)(b:Option Nat)(v:Value):(a.put b v).defers=a.defers:=by
 cases b<;>rfl
structure Yb(l:List Oper)(Ss:List (World->Value->Prop))(C:World->Prop)(a0:Act)(listed:Array Bool)(a:Act)(w:World):Prop where
 size:listed.size=l.length
 defers:a.defers=a0.defers
 tmps:a.tmps.size=a0.tmps.size
 done:∀j o S,l[j]?=some o->Ss[j]?=some S->listed.getD j false=true->S w (Az o a)
 same:∀t,(∀o∈l,o.dst≠some t)->a.tmps.getD t undef=a0.tmps.getD t undef
 cls:C w
def Gf(listed:Array Bool):Nat:=(listed.toList.filter (fun b=>!b)).length
theorem Vq{listed:Array Bool}{i:Nat}(c:i<listed.size)(h:listed.getD i true=false):Gf (listed.setIfInBounds i true)+1=Gf listed:=by
 unfold Gf;rw[Array.toList_setIfInBounds];have a:listed.toList[i]?=some false:=by
  rw[Array.getElem?_toList];simp[c] at h ⊢;exact h
 generalize listed.toList=L at a;clear h c
 induction L generalizing i with
 |nil=>simp at a
 |cons b r ih=>
  cases i with
  |zero=>
   simp at a;subst a;simp
  |succ i=>
   simp at a;have:=ih a
   cases b<;>simp<;>omega
theorem Vr{a:Array Bool}(h:Gf a=0):∀j,j<a.size->a.getD j false=true:=by
 intro j b;unfold Gf at h;have c:=List.filter_eq_nil_iff.1 (List.eq_nil_of_length_eq_zero h) a[j] (by simp);simp[b]
 simpa using c
theorem Abz{Ss:List (World→Value→Prop)}{C:World→Prop}{R:World→World→Prop}{V:Act}{Q:Exit→Act→World→Prop}(hl:Ss.length=l.length)(r:Fv l V.tmps.size=true)
  (stab:∀S∈Ss,∀w w' v,C w->R w w'->S w v->S w' v)(rel:∀i,i<l.length->Vp P l Ss C R V i)
  (af:∀a w listed,Yb l Ss C V listed a w->(∀j,j<l.length->listed.getD j false=true)->Q .normal a w):
  ∀(g:Nat) (listed:Array Bool) (a:Act) (w:World),Gf listed=g->Yb l Ss C V listed a w->wpAny P .any l.toArray Q g listed a w:=by
 intro g
 induction g with
 |zero=>
  intro listed a w hu c;have m:=Vr hu;rw[c.size] at m;refine⟨?_,af a w listed c m⟩;apply List.eq_nil_iff_forall_not_mem.2;intro j q;obtain⟨U,o,T,_⟩:=mem_ready.1 q
  have p:j<l.length:=by simpa using(Array.getElem?_eq_some_iff.1 T).1
  have O:=m j p
  have B:j<listed.size:=by rw[c.size];exact p
  simp[B] at U O;rw[U] at O;cases O
 |succ g ih=>
  intro listed a w hu c;refine⟨fun G=>?_,fun i hi=>?_⟩
  ·--something is ready as long as not all is listed
   exfalso;have y:∃j,j<l.length∧listed.getD j false=false:=by
    by_cases y:∃j,j<l.length/\listed.getD j false=false
    .exact y
    .exfalso;have m:∀j,j<l.length→listed.getD j false=true:=fun j q=>by
      cases h:listed.getD j false
      .exact absurd ⟨j,q,h⟩ y
      .rfl
     have:Gf listed=0:=by
      unfold Gf;rw[List.length_eq_zero_iff,List.filter_eq_nil_iff];intro b N;obtain⟨j,q,rfl⟩:=Y N
      have L:j<listed.size:=(by simpa using q)
      have:=m j (by rw[<-c.size];exact L);simp[L] at this ⊢;exact this
     omega
   obtain⟨j,q,x⟩:∃j,(j<l.length∧listed.getD j false=false)∧∀k,k<j→¬(k<l.length∧listed.getD k false=false):=by
    obtain⟨j0,h0⟩:=y
    induction j0 using Nat.strongRecOn with
    |_ n ih2=>
     by_cases hk:∃k,k<n/\(k<l.length/\listed.getD k false=false)
     .obtain⟨k,E,D⟩:=hk;exact ih2 k E D
     .exact⟨n,h0,fun k E D=>hk ⟨k,E,D⟩⟩
   have ac:j<listed.size:=(by rw[c.size];exact q.1)
   have:j∈Region.ready .any l.toArray listed:=by
    refine mem_ready.2 ⟨by have:=q.2;simp[ac] at this ⊢;exact this,l[j],by simp[q.1],fun e he N=>?_⟩;have p:=O7 r (X q.1) e he N;cases h:listed.getD e.on false
    .exact absurd ⟨by omega,h⟩ (x e.on p)
    .rfl
   rw[G] at this;cases this
  .obtain⟨U,o,T,J⟩:=mem_ready.1 hi
   have s:l[i]?=some o:=(by simpa using T)
   have p:i<l.length:=(List.getElem?_eq_some_iff.1 s).1
   have B:i<listed.size:=(by rw[c.size];exact p)
   obtain⟨S,hS⟩:∃S,Ss[i]?=some S:=⟨Ss[i]'(by omega),X (by omega)⟩
   have G:=rel i p o S s hS a w c.cls c.tmps c.same (fun e he N oe Se ab ad=>c.done e.on oe Se ab ad (J e he N))
   have u:∀v w2,C w2→(∀S'∈Ss,∀v,S' w v→S' w2 v)→S w2 (match o.dst with|some _=>v|none=>undef)→wpAny P .any l.toArray Q g (listed.setIfInBounds i true) (a.put o.dst v) w2:=by
    intro v w2 hC aa A;refine ih _ _ _ (by have:=Vq B U;omega) ⟨by simp[c.size],by rw[To];exact c.defers,by rw[Re];exact c.tmps,?_,?_,hC⟩
    .intro j I Sj q z K;by_cases F:i=j
     .subst F;rw[s] at q;cases q;rw[hS] at z;cases z;unfold Az
      cases M:o.dst with
      |none=>rw[M] at A;exact A
      |some d=>
       rw[M] at A;simp only;rw[Q9 (by rw[c.tmps];exact(He r s M).1)];exact A
     .rw[getD_set_ne false F] at K;have O:=aa Sj (a0x z) _ (c.done j I Sj q z K);have:Az I (a.put o.dst v)=Az I a:=by
       unfold Az
       cases hdj:I.dst with
       |none=>rfl
       |some d=>
        simp only;refine L0 fun M=>?_;exact(He r s M).2 j I q (Ne.symm F) hdj
      rw[this];exact O
    .intro t ht;rw[L0 (ht o (a0x s))];exact c.same t ht
   unfold wpOp;simp only[T];split
   .rename_i W;rw[if_pos W] at G;refine Or.inl (Tn (fun a2 w2 h=>?_) (fun _ _ _ h=>h.elim) G);obtain⟨v,rfl,hC,hR,A⟩:=h;exact u v w2 hC (fun S' ae v A=>stab S' ae w w2 v c.cls hR A) A
   .rename_i W;rw[if_neg W] at G;refine u undef w c.cls (fun _ _ _ h=>h) ?_
    cases o.dst<;>exact G
theorem Tq:∀(l:List Oper) (b:List Value) (a:Act),(Aj l b a).tmps.size=a.tmps.size
 |[],_,_=>rfl
 |_ ::_,[],_=>rfl
 |o::l,v::b,a=>by unfold Aj;rw[Tq l b,Re]
theorem Tt:∀(l:List Oper) (b:List Value) (a:Act),(Aj l b a).defers=a.defers
 |[],_,_=>rfl
 |_ ::_,[],_=>rfl
 |o::l,v::b,a=>by unfold Aj;rw[Tt l b,To]
theorem Rf:∀(l:List Oper) (b:List Value) (a:Act) (t:Nat),(∀o∈l,o.dst≠some t)→(Aj l b a).tmps.getD t undef=a.tmps.getD t undef
 |[],_,_,_,_=>rfl
 |_ ::_,[],_,_,_=>rfl
 |o::l,v::b,a,t,h=>by
  unfold Aj;rw[Rf l b _ t (fun d c=>h d (by simp[c])),L0 (h o (by simp))]
theorem Tu:∀(l:List Oper) (c:List Value) (a:Act),c.length=l.length→(∀(i j:Nat) k g d,l[i]?=some k→l[j]?=some g→k.dst=some d→g.dst=some d→i=j)→(∀o∈l,∀d,o.dst=some d→d<a.tmps.size)→
  ∀(i:Nat) (o:Oper) (v:Value) (d:Nat),l[i]?=some o->c[i]?=some v->o.dst=some d->(Aj l c a).tmps.getD d undef=v
 |[],_,_,_,_,_,i,_,_,_,h,_,_=>by simp at h
 |_ ::_,[],_,hl,_,_,_,_,_,_,_,_,_=>by simp at hl
 |o::l,v::c,a,hl,hd,hs,i,m,v',d,ho,hv,hod=>by
  unfold Aj
  cases i with
  |zero=>
   simp at ho hv;subst ho;subst hv
   rw[Rf l c _ d (fun m b r=>by
    obtain⟨j,n,rfl⟩:=Y b;have:=hd 0 (j+1) o l[j] d rfl (by simp[n]) hod r
    omega),hod]
   exact Q9 (hs o (by simp) d hod)
  |succ i=>
   simp at ho hv;exact Tu l c (a.put o.dst v) (by simpa using hl) (fun i j k g d q n t s=>by
    have:=hd (i+1) (j+1) k g d (by simpa using q) (by simpa using n) t s
    omega) (fun m b u p=>by rw[Re];exact hs m (by simp[b]) u p) i m v' d ho hv hod
def E8(w:World):List (World->Value->Prop)->List Value->Prop
 |S::Ss,v::vs=>S w v/\E8 w Ss vs
 |[],[]=>True
 |_,_=>False
theorem Tv{w:World}:∀{Ss:List (World->Value->Prop)} {a:List Value},a.length=Ss.length->(∀(i:Nat) (S:World->Value->Prop) (v:Value),Ss[i]?=some S->a[i]?=some v->S w v)->E8 w Ss a
 |[],[],_,_=>trivial
 |[],_ ::_,h,_=>by simp at h
 |_ ::_,[],h,_=>by simp at h
 |S::Ss,v::a,h,k=>⟨k 0 S v rfl rfl,Tv (by simpa using h) (fun i S' b d c=>k (i+1) S' b (by simpa using d) (by simpa using c))⟩
theorem Ab0{id:Nat}{Q:Exit→Act→World→Prop}{c:Act}{w0:World}(Ss:List (World→Value→Prop))(C:World→Prop)(R:World→World→Prop)
  (U:P.follows .mixedOrders=true)(O:Ss.length=l.length)(b:Fv l c.tmps.size=true)(hC:C {w0 with drawn:=w0.drawn+1})
  (stab:∀S∈Ss,∀w w' v,C w->R w w'->S w v->S w' v)(rel:∀i,i<l.length->Vp P l Ss C R c i)
  (M:∀N w,C w->E8 w Ss N->Q .normal (Aj l N c) w):(Code.region id l.toArray true).wp P Q c w0:=by
 refine wp_region_any U (Abz O b stab rel ?_ _ _ _ _ (by simp[Gf]) ⟨by simp,rfl,rfl,?_,fun _ _=>rfl,hC⟩)
 .intro a w B g z;have u:=M (l.map (fun o=>Az o a)) w g.cls (Tv (by simp[O]) (fun i S v A n=>by
   rw[List.getElem?_map] at n
   cases p:l[i]? with
   |none=>rw[p] at n;cases n
   |some o=>
    rw[p] at n;simp only[Option.map_some,Option.some.injEq] at n;rw[<-n]
    exact g.done i o S p A (z i (List.getElem?_eq_some_iff.1 p).1)))
  have:Aj l (l.map (fun o=>Az o a)) c=a:=by
   have m:(Aj l (l.map (fun o=>Az o a)) c).defers=a.defers:=(by rw[Tt,g.defers])
   have s:(Aj l (l.map (fun o=>Az o a)) c).tmps=a.tmps:=by
    have E:(Aj l (l.map (fun o=>Az o a)) c).tmps.size=a.tmps.size:=(by rw[Tq,g.tmps])
    refine Array.ext E fun t A n=>?_;have hg:(Aj l (l.map (fun o=>Az o a)) c).tmps.getD t undef=a.tmps.getD t undef:=by
     by_cases y:∃o∈l,o.dst=some t
     .obtain⟨o,p,D⟩:=y;obtain⟨i,J,I⟩:=Y p
      have q:l[i]?=some o:=(by rw[X J,I])
      rw[Tu l _ c (by simp) (fun i j oi T d J W A n=>by
       by_cases x:i=j
       .exact x
       .exact absurd n ((He b J A).2 j T W (Ne.symm x))) (fun o' F d K=>by
       obtain⟨k,V,G⟩:=Y F
       exact(He b (by rw[X V,G]) K).1) i o (Az o a) t q (by rw[List.getElem?_map,q];rfl) D]
      unfold Az;rw[D]
     .have r:∀o∈l,o.dst≠some t:=fun o p D=>y ⟨o,p,D⟩;rw[Rf l _ c t r,g.same t r]
    simpa [A,n] using hg
   cases a;cases h:Aj l (l.map (fun o=>Az o _)) c;rw[h] at m s;simp only at m s;rw[m,s]
  rw[this] at u;exact u
 .intro j o S _ _ h;exfalso;rcases a0w j l.length with L|L
  .simp[L] at h
  .simp[L] at h
def Cc(x:Value):World->Value->Prop:=fun _ v=>v=x
def Jp(l:List Oper)(i j t:Nat):Bool:=match l[i]?,l[j]? with
 |some o,some oj=>(o.after.any fun e=>Region.binds .any e&&e.on==j)&&oj.dst==some t
 |_,_=>false
def nG(l:List Oper)(t:Nat):Bool:=l.all fun o=>o.dst !=some t
structure O8(l:List Oper)(Ss:List (World->Value->Prop))(a0:Act)(i:Nat)(a:Act)(w:World):Prop where
 size:a.tmps.size=a0.tmps.size
 dep:∀(j t:Nat) (S:World->Value->Prop),Jp l i j t=true->Ss[i-1-j]?=some S->S w (a.tmps[t]?.getD undef)
 free:∀(t:Nat) (v:Value),nG l t=true->a0.tmps.getD t undef=v->a.tmps[t]?.getD undef=v
def Ab1(P:Program)(l:List Oper)(done:List (World→Value→Prop))(S:World→Value→Prop)(C:World→Prop)(R:World→World→Prop)(a0:Act)(i:Nat):Prop:=
 ∀o,l[i]?=some o->∀(a:Act) (w:World),C w->O8 l done a0 i a w->
  if Region.wanted o (yielded l.toArray a.tmps)=true then o.wp P a w (fun a2 w2=>∃v,a2=a.put o.dst v/\C w2/\R w w2/\S w2 (match o.dst with|some _=>v|none=>undef)) (fun _ _ _=>False) else S w undef
theorem Ab2{Ss:List (World→Value→Prop)}{g:Act}{i:Nat}{a:Act}{w:World}{o:Oper}(n:l[i]?=some o)(x:a.tmps.size=g.tmps.size)(u:∀t,(∀o∈l,o.dst≠some t)→a.tmps.getD t undef=g.tmps.getD t undef)
  (s:∀e∈o.after,Region.binds .any e=true->∀h Se,l[e.on]?=some h->Ss[i-1-e.on]?=some Se->Se w (Az h a)):O8 l Ss g i a w:=by
 refine⟨x,fun j t S b r=>?_,fun t v p m=>?_⟩
 .unfold Jp at b;rw[n] at b
  cases hj:l[j]? with
  |none=>rw[hj] at b;cases b
  |some oj=>
   rw[hj] at b;simp only[a0z,beq_iff_eq] at b;obtain⟨e,q,k⟩:=Array.any_eq_true'.1 b.1;simp only[a0z,beq_iff_eq] at k;obtain⟨d,rfl⟩:=k;have:=s e q d oj S hj r;unfold Az at this;rw[b.2] at this
   simpa using this
 .have:=u t (fun o c=>by simpa using List.all_eq_true.1 p o c);rw[m] at this
  simpa using this
def Rh(C:World->Prop)(R:World->World->Prop):List (World->Value->Prop)->Prop
 |[]=>True
 |S::Ss=>(∀w w' v,C w->R w w'->S w v->S w' v)/\Rh C R Ss
theorem nH{C:World→Prop}{R:World→World→Prop}:∀{Ss:List (World→Value→Prop)},Rh C R Ss→∀S∈Ss,∀w w' v,C w→R w w'→S w v→S w' v
 |[],_,S,a=>by cases a
 |T::Ss,h,S,a=>by
  rcases List.mem_cons.1 a with rfl|a
  .exact h.1
  .exact nH h.2 S a
theorem cI(x:Value){C:World->Prop}{R:World->World->Prop}{Ss:List (World->Value->Prop)}(h:Rh C R Ss):Rh C R (Cc x::Ss):=⟨fun _ _ _ _ _ h=>h,h⟩
def I9(P:Program)(l:List Oper)(C:World->Prop)(R:World->World->Prop)(a0:Act)(F:Act->World->Prop):Nat->List (World->Value->Prop)->Nat->Prop
 |_,done,0=>Rh C R done/\∀w,C w->∀vs,E8 w done.reverse vs->F (Aj l vs a0) w
 |i,done,n+1=>∃S,Ab1 P l done S C R a0 i/\I9 P l C R a0 F (i+1) (S::done) n
theorem Ab3{C:World->Prop}{R:World->World->Prop}:∀{Ss Ts:List (World->Value->Prop)},(∀S∈Ts,S∈Ss)->Rh C R Ss->∀S∈Ts,∀w w' v,C w->R w w'->S w v->S w' v:=
 fun a h S b=>nH h S (a S b)
theorem cJ{C:World→Prop}{R:World→World→Prop}{m:Act}{F:Act→World→Prop}(b:Fv l m.tmps.size=true):∀(n i:Nat) (done:List (World→Value→Prop)),I9 P l C R m F i done n→done.length=i→i+n=l.length→
  ∃Ss,(∃r,Ss=done.reverse++r)/\Ss.length=l.length/\(∀S∈Ss,∀w w' v,C w->R w w'->S w v->S w' v)/\(∀g w,C w->E8 w Ss g->F (Aj l g m) w)/\∀k,i<=k->k<l.length->Vp P l Ss C R m k
 |0,i,done,h,h1,h2=>⟨done.reverse,⟨[],by simp⟩,by simp;omega,Ab3 (fun S u=>by simpa using u) h.1,fun g w x=>h.2 w x g,fun k J A=>by omega⟩
 |n+1,i,done,h,h1,h2=>by
  obtain⟨S,p,c⟩:=h;obtain⟨Ss,⟨r,j⟩,N,M,L,K⟩:=cJ b n (i+1) (S::done) c (by simp[h1]) (by omega);rw[List.reverse_cons] at j;refine⟨Ss,⟨[S]++r,by rw[j,Z]⟩,N,M,L,fun k J A=>?_⟩;by_cases e:k=i
  .subst e;intro o S' s d a w x G E D
   have u:Ss[k]?=some S:=(by rw[j,Z,List.getElem?_append_right (by simp;omega)];simp[h1])
   rw[u] at d;cases d;refine p o s a w x (Ab2 s G E fun e y z B Se q t=>D e y z B Se q ?_);have I:=O7 b s e y z;rw[j,Z,List.getElem?_append_left (by simp;omega),List.getElem?_reverse (by omega),h1];exact t
  .exact K k (by omega) A
theorem Ab4{id:Nat}{Q:Exit→Act→World→Prop}{c:Act}{w0:World}(C:World→Prop)(R:World→World→Prop)
  (d:P.follows .mixedOrders=true)(b:Fv l c.tmps.size=true)(j:C {w0 with drawn:=w0.drawn+1})
  (h:I9 P l C R c (fun a w=>Q .normal a w) 0 [] l.length):(Code.region id l.toArray true).wp P Q c w0:=by
 obtain⟨Ss,_,p,n,m,k⟩:=cJ b l.length 0 [] h rfl (by omega);exact Ab0 Ss C R d p b j n (fun i g=>k i (Nat.zero_le _) g) m
theorem Bo{id:Nat}{Q:Exit→Act→World→Prop}{c:Act}{w0:World}(d:P.follows .mixedOrders=true)(b:Fv l c.tmps.size=true)
  (h:I9 P l (fun w'=>Fp [] w0 w') (Fp []) c (fun a w=>Q .normal a w) 0 [] l.length):(Code.region id l.toArray true).wp P Q c w0:=
 Ab4 _ _ d b (Fp.drew w0) h
theorem A1{C:World→Prop}{R:World→World→Prop}{g:Act}{F:Act→World→Prop}{i n:Nat}{done:List (World→Value→Prop)}{o:Oper}{x:Value}(m:l[i]?=some o)(q:o.guard=none)(j:o.dst.isSome=true)
  (h:∀a w,C w->O8 l done g i a w->∀K:Act->World->Prop,(∀w2,C w2->R w w2->K (a.put o.dst x) w2)->o.wp P a w K (fun _ _ _=>False))
  (p:I9 P l C R g F (i+1) (Cc x::done) n):I9 P l C R g F i done (n+1):=by
 refine⟨Cc x,?_,p⟩;intro u b a w s t;rw[m] at b;cases b
 have k:Region.wanted o (yielded l.toArray a.tmps)=true:=by unfold Region.wanted;rw[q]
 rw[if_pos k]
 refine h a w s t _ fun w2 c r=>⟨x,rfl,c,r,?_⟩
 cases hd':o.dst with
 |none=>rw[hd'] at j;cases j
 |some d=>rfl
theorem nI{C:World→Prop}{R:World→World→Prop}{g:Act}{F:Act→World→Prop}{i n:Nat}{done:List (World→Value→Prop)}{o:Oper}(S:World→Value→Prop)(m:l[i]?=some o)(q:o.guard=none)(j:o.dst.isSome=true)
  (h:∀a w,C w->O8 l done g i a w->∀K:Act->World->Prop,(∀v w2,C w2->R w w2->S w2 v->K (a.put o.dst v) w2)->o.wp P a w K (fun _ _ _=>False))
  (p:I9 P l C R g F (i+1) (S::done) n):I9 P l C R g F i done (n+1):=by
 refine⟨S,?_,p⟩;intro x b a w t u;rw[m] at b;cases b
 have k:Region.wanted o (yielded l.toArray a.tmps)=true:=by unfold Region.wanted;rw[q]
 rw[if_pos k]
 refine h a w t u _ fun v w2 c r s=>⟨v,rfl,c,r,?_⟩
 cases hd':o.dst with
 |none=>rw[hd'] at j;cases j
 |some d=>exact s
theorem nJ{a:Act}{j t:Nat}{oj:Oper}{b:Bool}(g:l[j]?=some oj)(i:oj.dst=some t)(h:a.tmps.getD t undef=.bool b):yielded l.toArray a.tmps j=some b:=by
 unfold yielded
 have k:l.toArray[j]?=some oj:=by simpa using g
 rw[k];simp only[Option.bind_some,i];rcases a0w t a.tmps.size with c|d
 .simp[c] at h ⊢;rw[h]
 .simp[d] at h;cases h
theorem Gw{C:World→Prop}{R:World→World→Prop}{s:Act}{F:Act→World→Prop}{i n:Nat}{done:List (World→Value→Prop)}{o u:Oper}{x:Value}{b:Bool}(j t:Nat)(B:l[i]?=some o)(E:o.guard=some (j,b))(m:l[j]?=some u)(p:u.dst=some t)
  (k:Jp l i j t=true)(q:done[i-1-j]?=some (Cc (.bool b)))(v:o.dst.isSome=true)
  (h:∀a w,C w->O8 l done s i a w->∀K:Act->World->Prop,(∀w2,C w2->R w w2->K (a.put o.dst x) w2)->o.wp P a w K (fun _ _ _=>False))
  (D:I9 P l C R s F (i+1) (Cc x::done) n):I9 P l C R s F i done (n+1):=by
 refine⟨Cc x,?_,D⟩;intro I g a w G y;rw[B] at g;cases g;have z:=nJ m p (by have:=y.dep j t _ k q;simpa [Cc] using this)
 have A:Region.wanted o (yielded l.toArray a.tmps)=true:=by unfold Region.wanted;rw[E];simp[z]
 rw[if_pos A]
 refine h a w G y _ fun w2 c r=>⟨x,rfl,c,r,?_⟩
 cases hd':o.dst with
 |none=>rw[hd'] at v;cases v
 |some d=>rfl
theorem Jq{C:World→Prop}{R:World→World→Prop}{r:Act}{F:Act→World→Prop}{i n:Nat}{done:List (World→Value→Prop)}{o q:Oper}{b c:Bool}(j t:Nat)(v:l[i]?=some o)(y:o.guard=some (j,c))(k:l[j]?=some q)(m:q.dst=some t)
  (h:Jp l i j t=true)(p:done[i-1-j]?=some (Cc (.bool b)))(g:(c !=b)=true)
  (x:I9 P l C R r F (i+1) (Cc undef::done) n):I9 P l C R r F i done (n+1):=by
 refine⟨Cc undef,?_,x⟩;intro A d a w B z;rw[v] at d;cases d;have s:=nJ k m (by have:=z.dep j t _ h p;simpa [Cc] using this);have u:¬Region.wanted o (yielded l.toArray a.tmps)=true:=by
  unfold Region.wanted;rw[y];simp[s];intro e;rw[e] at g;simp at g
 rw[if_neg u];rfl
theorem Yc{C:World→Prop}{R:World→World→Prop}{r:Act}{F:Act→World→Prop}{i n:Nat}{done:List (World→Value→Prop)}{o oj:Oper}{b:Bool}(j t:Nat)(v:l[i]?=some o)(y:o.guard=some (j,b))(g:l[j]?=some oj)(m:oj.dst=some t)
  (d:Jp l i j t=true)(p:done[i-1-j]?=some (Cc undef))
  (x:I9 P l C R r F (i+1) (Cc undef::done) n):I9 P l C R r F i done (n+1):=by
 refine⟨Cc undef,?_,x⟩;intro B c a w D z;rw[v] at c;cases c
 have q:a.tmps.getD t undef=undef:=by have:=z.dep j t _ d p;simpa [Cc] using this
 have s:yielded l.toArray a.tmps j=none:=by
  unfold yielded
  have A:l.toArray[j]?=some oj:=by simpa using g
  rw[A];simp only[Option.bind_some,m];rcases a0w t a.tmps.size with h|k
  .simp[h] at q ⊢;rw[q];rfl
  .simp[k]
 have u:¬Region.wanted o (yielded l.toArray a.tmps)=true:=by
  unfold Region.wanted;rw[y];simp[s]
 rw[if_neg u];rfl
theorem Ab5{w:World}{x:Value}{Ss:List (World->Value->Prop)}{a:List Value}(h:E8 w (Cc x::Ss) a):∃r,a=x::r/\E8 w Ss r:=by
 cases a with
 |nil=>exact h.elim
 |cons v r=>obtain⟨rfl,b⟩:=h;exact⟨r,rfl,b⟩
theorem cK{w:World}{S:World->Value->Prop}{Ss:List (World->Value->Prop)}{a:List Value}(h:E8 w (S::Ss) a):∃v r,a=v::r/\S w v/\E8 w Ss r:=by
 cases a with
 |nil=>exact h.elim
 |cons v r=>exact⟨v,r,rfl,h.1,h.2⟩
theorem A2{w:World}{x:Value}{Ss:List (World->Value->Prop)}{G:List Value->Prop}(h:∀r,E8 w Ss r->G (x::r)):∀vs,E8 w (Cc x::Ss) vs->G vs:=by
 intro vs a;obtain⟨r,rfl,b⟩:=Ab5 a;exact h r b
theorem As{w:World}{S:World->Value->Prop}{Ss:List (World->Value->Prop)}{G:List Value->Prop}(h:∀v,S w v->∀r,E8 w Ss r->G (v::r)):∀vs,E8 w (S::Ss) vs->G vs:=by
 intro vs a;obtain⟨v,r,rfl,c,b⟩:=cK a;exact h v c r b
theorem cL{w:World}{a:List Value}(h:E8 w [] a):a=[]:=by
 cases a with
 |nil=>rfl
 |cons v r=>exact h.elim
theorem C7{w:World}{G:List Value->Prop}(h:G []):∀vs,E8 w [] vs->G vs:=by
 intro vs a;rw[cL a];exact h
end
section
open Go.RowKit
theorem O8.e{l:List Oper}{Ss:List (World->Value->Prop)}{d:Act}{i:Nat}{a:Act}{w:World}(h:O8 l Ss d i a w)(j t:Nat){x:Value}(b:Ss[i-1-j]?=some (Cc x):=by rfl)(c:Jp l i j t=true:=by decide+kernel):a.tmps[t]?.getD undef=x:=h.dep j t (Cc x) c b
theorem O8.f{l:List Oper}{Ss:List (World->Value->Prop)}{b:Act}{i:Nat}{a:Act}{w:World}(h:O8 l Ss b i a w)(t:Nat){v:Value}(c:b.tmps.getD t undef=v:=by rfl)(d:nG l t=true:=by decide+kernel):a.tmps[t]?.getD undef=v:=h.free t v d c
theorem nK{w:World}{S:World→Value→Prop}:∀{A:List (World→Value→Prop)} {b:List Value},E8 w (A++[S]) b→∃a u,b=a++[u]∧E8 w A a∧S w u
 |[],b,h=>by
  obtain⟨v,r,rfl,d,c⟩:=cK h;have e:r=[]:=cL c;subst e;exact⟨[],v,rfl,trivial,d⟩
 |T::A,b,h=>by
  obtain⟨v,r,rfl,d,c⟩:=cK h;obtain⟨a,u,rfl,i,g⟩:=nK c;exact⟨v::a,u,rfl,⟨d,i⟩,g⟩
def Ri(C:World->Prop)(G:World->List Value->Prop):List (World->Value->Prop)->List Value->Prop
 |[],vs=>∀w,C w->G w vs
 |S::Ss,vs=>∃x,S=Cc x/\Ri C G Ss (x::vs)
theorem Bl{C:World->Prop}{G:World->List Value->Prop}{vs:List Value}(h:∀w,C w->G w vs):Ri C G [] vs:=h
theorem Bm{C:World->Prop}{G:World->List Value->Prop}{Ss:List (World->Value->Prop)}{x:Value}{vs:List Value}(h:Ri C G Ss (x::vs)):Ri C G (Cc x::Ss) vs:=⟨x,rfl,h⟩
theorem nL{w:World}{C:World→Prop}{G:World→List Value→Prop}(g:C w):∀{d:List (World→Value→Prop)} {b:List Value},Ri C G d b→∀a,E8 w d.reverse a→G w (a++b)
 |[],b,h,a,hu=>by
  have e:a=[]:=cL hu;subst e;exact h w g
 |S::Ss,b,⟨x,hx,h⟩,a,hu=>by
  subst hx;rw[List.reverse_cons] at hu;obtain⟨c,u,rfl,j,i⟩:=nK hu;rw[Z];have e:u=x:=i;subst e;exact nL g h c j
theorem nM{C:World->Prop}{R:World->World->Prop}{G:World->List Value->Prop}:∀{d:List (World->Value->Prop)} {a:List Value},Ri C G d a->Rh C R d
 |[],_,_=>trivial
 |S::Ss,a,⟨x,hx,h⟩=>by subst hx;exact cI _ (nM h)
theorem Bn{P:Program}{l:List Oper}{C:World->Prop}{R:World->World->Prop}{b:Act}{F:Act->World->Prop}{i:Nat}{done:List (World->Value->Prop)}(h:Ri C (fun w a=>F (Aj l a b) w) done []):I9 P l C R b F i done 0:=by
 refine⟨nM h,fun w c a d=>?_⟩;have:=nL c h a d
 rwa [List.append_nil] at this
end
end Go.Proofs.YtkagolpnaicdoaaGreatDoor
