/- Lemmas. -/
import Derived.Test.YtkagolpnaicdoaaGreatDoorQRunA
set_option maxRecDepth 100000
set_option maxHeartbeats 8000000
open Go.Lib renaming hid->X
open List renaming setIfInBounds_toArray->Y,set_cons_succ->Z,set_cons_zero->a0z,getElem?_eq_getElem->a0w,length_take->a0v,reverse_cons->a1x,length_drop->a1w,length_nil->a1v,getElem_of_mem->a2z,length_append->a2w,getElem?_append_right->a2v,getElem?_map->a2u,append_assoc->a3z,getElem?_append_left->a3x,getElem_mem->a3w,length_cons->a3v,mem_of_mem_take->a4z
open Go.IntKind renaming wrap_i64->a0x
open Nat renaming le_trans->a0u,lt_of_lt_of_le->a2x,le_refl->a3u,lt_or_ge->a4x
open Bool renaming and_eq_true->a1z
open Int renaming le_of_eq->a1u
namespace Go.Proofs.YtkagolpnaicdoaaGreatDoor
section
open Go.RowKit
section
variable {P : Program} {l : List Oper}
abbrev BS:=(Nat->Bool)->World->Value->Prop
def cM(x:Value):BS:=fun _=>Cc x
structure Kx(l:List Oper)(b:Nat->Bool)(i:Nat):Prop where
 self:b i=false
 pre:∀j,Kv l i j=true->b j=true
 post:∀j,Kv l j i=true->b j=false
 closed:∀j k,b j=true->Kv l j k=true->b k=true
theorem nN{b:Nat→Bool}{i:Nat}{o:Oper}(t:l[i]?=some o)(q:b i=false)(s:∀e∈o.after,Region.binds .any e=true→b e.on=true)
  (u:∀j m,l[j]?=some m->b j=true->∀e∈m.after,Region.binds .any e=true->b e.on=true):Kx l b i:=by
 have r:∀j k,b j=true→Kv l j k=true→b k=true:=fun j k d h=>by
  unfold Kv at h
  cases hlj:l[j]? with
  |none=>rw[hlj] at h;cases h
  |some m=>
   rw[hlj] at h;obtain⟨e,p,g⟩:=Array.any_eq_true'.1 h;simp only[a1z,beq_iff_eq] at g;rw[<-g.2];exact u j m hlj d e p g.1
 refine⟨q,fun j d=>?_,fun j d=>?_,r⟩
 .unfold Kv at d;rw[t] at d;obtain⟨e,p,g⟩:=Array.any_eq_true'.1 d;simp only[a1z,beq_iff_eq] at g;rw[<-g.2];exact s e p g.1
 .cases hbj:b j with
  |false=>rfl
  |true=>have:=r j i hbj d;rw[q] at this;cases this
def cN(P:Program)(l:List Oper)(Ss:List BS)(C:(Nat→Bool)→World→Prop)(R:Nat→World→World→Prop)(a0:Act)(i:Nat):Prop:=
 ∀o S,l[i]?=some o->Ss[i]?=some S->∀(b:Nat->Bool) (a:Act) (w:World),C b w->b i=false->(∀e∈o.after,Region.binds .any e=true->b e.on=true)->
  (∀j oj,l[j]?=some oj->b j=true->∀e∈oj.after,Region.binds .any e=true->b e.on=true)->a.tmps.size=a0.tmps.size->
  (∀t,(∀j oj,l[j]?=some oj->oj.dst=some t->b j=false)->a.tmps.getD t undef=a0.tmps.getD t undef)->
  (∀e∈o.after,Region.binds .any e=true->∀oe Se,l[e.on]?=some oe->Ss[e.on]?=some Se->Se b w (Az oe a))->
  if Region.wanted o (yielded l.toArray a.tmps)=true then o.wp P a w (fun a2 w2=>∃v,a2=a.put o.dst v/\C (Ak b i) w2/\R i w w2/\S (Ak b i) w2 (match o.dst with|some _=>v|none=>undef)) (fun _ _ _=>False)
  else S (Ak b i) w undef/\C (Ak b i) w/\R i w w
structure nO(l:List Oper)(Ss:List BS)(C:(Nat->Bool)->World->Prop)(a0:Act)(listed:Array Bool)(a:Act)(w:World):Prop where
 size:listed.size=l.length
 defers:a.defers=a0.defers
 tmps:a.tmps.size=a0.tmps.size
 done:∀j o S,l[j]?=some o->Ss[j]?=some S->listed.getD j false=true->S (Cd listed) w (Az o a)
 same:∀t,(∀j oj,l[j]?=some oj->oj.dst=some t->Cd listed j=false)->a.tmps.getD t undef=a0.tmps.getD t undef
 closed:∀j oj,l[j]?=some oj->Cd listed j=true->∀e∈oj.after,Region.binds .any e=true->Cd listed e.on=true
 cls:C (Cd listed) w
theorem Ab6{Ss:List BS}{C:(Nat→Bool)→World→Prop}{R:Nat→World→World→Prop}{a0:Act}{Qn:Act→World→Prop}(hl:Ss.length=l.length)(z:Fv l a0.tmps.size=true)
  (stab:∀j S,Ss[j]?=some S->∀b i w w' v,Kx l b i->b j=true->R i w w'->S b w v->S (Ak b i) w' v)(rel:∀i,i<l.length->cN P l Ss C R a0 i)
  (aj:∀a w listed,nO l Ss C a0 listed a w->(∀j,j<l.length->listed.getD j false=true)->Qn a w):
  ∀(q:Nat) (listed:Array Bool) (a:Act) (w:World),Gf listed=q->nO l Ss C a0 listed a w->Ij P l Qn q listed a w:=by
 intro q
 induction q with
 |zero=>
  intro listed a w hu g;have u:=Vr hu;rw[g.size] at u;refine⟨?_,aj a w listed g u⟩;apply List.eq_nil_iff_forall_not_mem.2;intro j m;obtain⟨h1,o,ho,_⟩:=mem_ready.1 m
  have y:j<l.length:=by simpa using(Array.getElem?_eq_some_iff.1 ho).1
  have h2:=u j y
  have I:j<listed.size:=by rw[g.size];exact y
  simp[I] at h1 h2;rw[h1] at h2;cases h2
 |succ q ih=>
  intro listed a w hu g;refine⟨fun Q=>?_,fun i hi=>?_⟩
  ·--something is ready as long as not all is listed
   exfalso;have M:∃j,j<l.length∧listed.getD j false=false:=by
    by_cases M:∃j,j<l.length/\listed.getD j false=false
    .exact M
    .exfalso;have u:∀j,j<l.length→listed.getD j false=true:=fun j m=>by
      cases h:listed.getD j false
      .exact absurd ⟨j,m,h⟩ M
      .rfl
     have:Gf listed=0:=by
      unfold Gf;rw[List.length_eq_zero_iff,List.filter_eq_nil_iff];intro b E;obtain⟨j,m,rfl⟩:=a2z E
      have ab:j<listed.size:=(by simpa using m)
      have:=u j (by rw[<-g.size];exact ab);simp[ab] at this ⊢;exact this
     omega
   obtain⟨j,m,L⟩:∃j,(j<l.length∧listed.getD j false=false)∧∀k,k<j→¬(k<l.length∧listed.getD k false=false):=by
    obtain⟨j0,h0⟩:=M
    induction j0 using Nat.strongRecOn with
    |_ n ih2=>
     by_cases hk:∃k,k<n/\(k<l.length/\listed.getD k false=false)
     .obtain⟨k,V,U⟩:=hk;exact ih2 k V U
     .exact⟨n,h0,fun k V U=>hk ⟨k,V,U⟩⟩
   have ah:j<listed.size:=(by rw[g.size];exact m.1)
   have:j∈Region.ready .any l.toArray listed:=by
    refine mem_ready.2 ⟨by have:=m.2;simp[ah] at this ⊢;exact this,l[j],by simp[m.1],fun e J E=>?_⟩;have y:=O7 z (a0w m.1) e J E;cases h:listed.getD e.on false
    .exact absurd ⟨by omega,h⟩ (L e.on y)
    .rfl
   rw[Q] at this;cases this
  .obtain⟨h1,o,ho,A⟩:=mem_ready.1 hi
   have r:l[i]?=some o:=(by simpa using ho)
   have y:i<l.length:=(List.getElem?_eq_some_iff.1 r).1
   have I:i<listed.size:=(by rw[g.size];exact y)
   obtain⟨S,hS⟩:∃S,Ss[i]?=some S:=⟨Ss[i]'(by omega),a0w (by omega)⟩
   have ad:Cd listed i=false:=(by unfold Cd;simp[I] at h1 ⊢;exact h1)
   have Q:=rel i y o S r hS (Cd listed) a w g.cls ad (fun e J E=>A e J E) g.closed g.tmps g.same (fun e J E oe Se af ai=>g.done e.on oe Se af ai (A e J E));have p:Cd (listed.setIfInBounds i true)=Ak (Cd listed) i:=by
    funext k
    unfold Cd Ak;by_cases e:k=i
    .subst e;rw[if_pos rfl];simp[I]
    .rw[if_neg e,getD_set_ne false (Ne.symm e)]
   have ac:Kx l (Cd listed) i:=nN r ad (fun e J E=>A e J E) g.closed
   have G:∀v w2,C (Ak (Cd listed) i) w2→R i w w2→S (Ak (Cd listed) i) w2 (match o.dst with|some _=>v|none=>undef)→Ij P l Qn q (listed.setIfInBounds i true) (a.put o.dst v) w2:=by
    intro v w2 hC ae hv;refine ih _ _ _ (by have:=Vq I h1;omega) ⟨by simp[g.size],by rw[To];exact g.defers,by rw[Re];exact g.tmps,?_,?_,?_,by rw[p];exact hC⟩
    .intro j K Sj m O s;by_cases aa:i=j
     .subst aa;rw[r] at m;cases m;rw[hS] at O;cases O;rw[p];unfold Az
      cases N:o.dst with
      |none=>rw[N] at hv;exact hv
      |some d=>
       rw[N] at hv;simp only;rw[Q9 (by rw[g.tmps];exact(He z r N).1)];exact hv
     .rw[getD_set_ne false aa] at s;have h2:=stab j Sj O _ _ _ _ _ ac s ae (g.done j K Sj m O s);rw[←p] at h2;have:Az K (a.put o.dst v)=Az K a:=by
       unfold Az
       cases hdj:K.dst with
       |none=>rfl
       |some d=>
        simp only;refine L0 fun N=>?_;exact(He z r N).2 j K m (Ne.symm aa) hdj
      rw[this];exact h2
    .intro t ht;have ag:o.dst≠some t:=fun N=>by
      have:=ht i o r N;rw[p] at this;unfold Ak at this;rw[if_pos rfl] at this;cases this
     rw[L0 ag];refine g.same t fun j K m N=>?_;have:=ht j K m N;rw[p] at this;unfold Ak at this;by_cases e:j=i
     .rw[if_pos e] at this;cases this
     .rw[if_neg e] at this;exact this
    .intro j K m s e J E;rw[p] at s ⊢;have up:∀k,Cd listed k=true→Ak (Cd listed) i k=true:=fun k hk=>by
      unfold Ak;by_cases e:k=i
      .rw[if_pos e]
      .rw[if_neg e];exact hk
     by_cases ej:j=i
     .subst ej;rw[r] at m;cases m;exact up _ (A e J E)
     .unfold Ak at s;rw[if_neg ej] at s;exact up _ (g.closed j K m s e J E)
   refine⟨o,r,?_⟩;split
   .rename_i hw;rw[if_pos hw] at Q;refine(Tn (fun a2 w2 h=>?_) (fun _ _ _ h=>h.elim) Q);obtain⟨v,rfl,hC,hR,hv⟩:=h;exact G v w2 hC hR hv
   .rename_i hw;rw[if_neg hw] at Q;refine G undef w Q.2.1 Q.2.2 ?_
    cases o.dst<;>exact Q.1
theorem Ab7{Qn:Act→World→Prop}{a0:Act}{M:World}(Ss:List BS)(C:(Nat→Bool)→World→Prop)(R:Nat→World→World→Prop)
  (hl:Ss.length=l.length)(g:Fv l a0.tmps.size=true)(hC:C (fun _=>false) {M with drawn:=M.drawn+1})
  (stab:∀j S,Ss[j]?=some S->∀b i w w' v,Kx l b i->b j=true->R i w w'->S b w v->S (Ak b i) w' v)(rel:∀i,i<l.length->cN P l Ss C R a0 i)
  (ad:∀vs w b,C b w->(∀j,j<l.length->b j=true)->E8 w (Ss.map fun S=>S b) vs->Qn (Aj l vs a0) w):Ij P l Qn l.toArray.size (Array.replicate l.toArray.size false) a0 {M with drawn:=M.drawn+1}:=by
 refine(Ab6 hl g stab rel ?_ _ _ _ _ (by simp[Gf]) ⟨by simp,rfl,rfl,?_,fun _ _=>rfl,?_,by rw[aM];exact hC⟩)
 .intro a w r m z;have J:=ad (l.map (fun o=>Az o a)) w (Cd r) m.cls z (Tv (by simp[hl]) (fun i S v I q=>by
   rw[a2u] at I;obtain⟨S,ac,rfl⟩:=Option.map_eq_some_iff.1 I;rw[a2u] at q
   cases s:l[i]? with
   |none=>rw[s] at q;cases q
   |some o=>
    rw[s] at q;simp only[Option.map_some,Option.some.injEq] at q;rw[<-q]
    exact m.done i o S s ac (z i (List.getElem?_eq_some_iff.1 s).1)))
  have:Aj l (l.map (fun o=>Az o a)) a0=a:=by
   have p:(Aj l (l.map (fun o=>Az o a)) a0).defers=a.defers:=(by rw[Tt,m.defers])
   have A:(Aj l (l.map (fun o=>Az o a)) a0).tmps=a.tmps:=by
    have O:(Aj l (l.map (fun o=>Az o a)) a0).tmps.size=a.tmps.size:=(by rw[Tq,m.tmps])
    refine Array.ext O fun t I q=>?_;have hg:(Aj l (l.map (fun o=>Az o a)) a0).tmps.getD t undef=a.tmps.getD t undef:=by
     by_cases L:∃o∈l,o.dst=some t
     .obtain⟨o,s,G⟩:=L;obtain⟨i,hi,aa⟩:=a2z s
      have u:l[i]?=some o:=(by rw[a0w hi,aa])
      rw[Tu l _ a0 (by simp) (fun i j oi N d hi V I q=>by
       by_cases K:i=j
       .exact K
       .exact absurd q ((He g hi I).2 j N V (Ne.symm K))) (fun o' Q d ab=>by
       obtain⟨k,hk,U⟩:=a2z Q
       exact(He g (by rw[a0w hk,U]) ab).1) i o (Az o a) t u (by rw[a2u,u];rfl) G]
      unfold Az;rw[G]
     .have y:∀o∈l,o.dst≠some t:=fun o s G=>L ⟨o,s,G⟩;rw[Rf l _ a0 t y,m.same t (fun j N V G=>absurd G (y N (List.mem_of_getElem? V)))]
    simpa [I,q] using hg
   cases a;cases h:Aj l (l.map (fun o=>Az o _)) a0;rw[h] at p A;simp only at p A;rw[p,A]
  rw[this] at J;exact J
 .intro j o S _ _ h;exfalso;rcases a4x j l.length with E|E
  .simp[E] at h
  .simp[E] at h
 .intro j o _ h;exfalso;unfold Cd at h;rcases a4x j l.length with E|E
  .simp[E] at h
  .simp[E] at h
structure Yd(l:List Oper)(Ss:List BS)(a0:Act)(i:Nat)(b:Nat->Bool)(a:Act)(w:World):Prop where
 size:a.tmps.size=a0.tmps.size
 dep:∀(j t:Nat) (S:BS),Jp l i j t=true->Ss[i-1-j]?=some S->S b w (a.tmps[t]?.getD undef)
 free:∀(t:Nat) (v:Value),aO l i t=true->a0.tmps.getD t undef=v->a.tmps[t]?.getD undef=v
 adm:Kx l b i
theorem Ab8{Ss:List BS}{a0:Act}{i:Nat}{b:Nat→Bool}{a:Act}{w:World}{o:Oper}(y:l[i]?=some o)(p:b i=false)(G:∀e∈o.after,Region.binds .any e=true→b e.on=true)
  (z:∀j d,l[j]?=some d->b j=true->∀e∈d.after,Region.binds .any e=true->b e.on=true)(N:a.tmps.size=a0.tmps.size)
  (M:∀t,(∀j d,l[j]?=some d->d.dst=some t->b j=false)->a.tmps.getD t undef=a0.tmps.getD t undef)
  (L:∀e∈o.after,Region.binds .any e=true->∀u Se,l[e.on]?=some u->Ss[i-1-e.on]?=some Se->Se b w (Az u a)):Yd l Ss a0 i b a w:=by
 have later:∀j d,l[j]?=some d→(d.after.any fun e=>Region.binds .any e&&e.on==i)=true→b j=false:=fun j d k J=>by
  obtain⟨e,r,m⟩:=Array.any_eq_true'.1 J;simp only[a1z,beq_iff_eq] at m
  cases hbj:b j with
  |false=>rfl
  |true=>
   have:=z j d k hbj e r m.1;rw[m.2,p] at this;cases this
 refine⟨N,fun j t S g K=>?_,fun t v I E=>?_,nN y p G z⟩
 .unfold Jp at g;rw[y] at g
  cases k:l[j]? with
  |none=>rw[k] at g;cases g
  |some d=>
   rw[k] at g;simp only[a1z,beq_iff_eq] at g;obtain⟨e,r,m⟩:=Array.any_eq_true'.1 g.1;simp only[a1z,beq_iff_eq] at m;obtain⟨s,rfl⟩:=m;have:=L e r s d S k K;unfold Az at this;rw[g.2] at this
   simpa using this
 .have A:∀j d,l[j]?=some d→d.dst=some t→b j=false:=fun j d k g=>by
   have q:j<l.length:=(List.getElem?_eq_some_iff.1 k).1;have:=List.all_eq_true.1 I j (List.mem_range.2 q);rw[k] at this;simp only[g,bne_self_eq_false,Bool.false_or,Bool.or_eq_true,beq_iff_eq] at this;rcases this with rfl|h
   .exact p
   .exact later j d k h
  have:=M t A;rw[E] at this
  simpa using this
def Ab9(P:Program)(l:List Oper)(done:List BS)(S:BS)(C:(Nat→Bool)→World→Prop)(R:Nat→World→World→Prop)(a0:Act)(i:Nat):Prop:=
 ∀(b:Nat->Bool),∀o,l[i]?=some o->∀(a:Act) (w:World),C b w->Yd l done a0 i b a w->
  if Region.wanted o (yielded l.toArray a.tmps)=true then o.wp P a w (fun a2 w2=>∃v,a2=a.put o.dst v/\C (Ak b i) w2/\R i w w2/\S (Ak b i) w2 (match o.dst with|some _=>v|none=>undef)) (fun _ _ _=>False)
  else S (Ak b i) w undef/\C (Ak b i) w/\R i w w
def Vs(l:List Oper)(R:Nat->World->World->Prop):List BS->Prop
 |[]=>True
 |S::Ss=>(∀b i w w' v,Kx l b i->b Ss.length=true->R i w w'->S b w v->S (Ak b i) w' v)/\Vs l R Ss
theorem nP{R:Nat→World→World→Prop}:∀{Ss:List BS},Vs l R Ss→∀j S,Ss.reverse[j]?=some S→∀b i w w' v,Kx l b i→b j=true→R i w w'→S b w v→S (Ak b i) w' v
 |[],_,j,S,hS=>by simp at hS
 |T::Ss,h,j,S,hS=>by
  rw[a1x] at hS;rcases a4x j Ss.reverse.length with d|d
  .rw[a3x d] at hS;exact nP h.2 j S hS
  .have g:j=Ss.length:=by
    have:=(List.getElem?_eq_some_iff.1 hS).1;simp at this d;omega
   subst g;rw[a2v d] at hS;simp at hS;subst hS;exact h.1
theorem N0(x:Value){R:Nat->World->World->Prop}{Ss:List BS}(h:Vs l R Ss):Vs l R (cM x::Ss):=⟨fun _ _ _ _ _ _ _ _ h=>h,h⟩
def Rj(P:Program)(l:List Oper)(C:(Nat->Bool)->World->Prop)(R:Nat->World->World->Prop)(a0:Act)(F:Act->World->Prop):Nat->List BS->Nat->Prop
 |_,done,0=>Vs l R done/\∀w b,C b w->(∀j,j<l.length->b j=true)->∀vs,E8 w (done.reverse.map fun S=>S b) vs->F (Aj l vs a0) w
 |i,done,n+1=>∃S,Ab9 P l done S C R a0 i/\Rj P l C R a0 F (i+1) (S::done) n
theorem nQ{C:(Nat→Bool)→World→Prop}{R:Nat→World→World→Prop}{a0:Act}{F:Act→World→Prop}(d:Fv l a0.tmps.size=true):∀(n i:Nat) (done:List BS),Rj P l C R a0 F i done n→done.length=i→i+n=l.length→
  ∃Ss,(∃r,Ss=done.reverse++r)/\Ss.length=l.length/\(∀j S,Ss[j]?=some S->∀b i w w' v,Kx l b i->b j=true->R i w w'->S b w v->S (Ak b i) w' v)/\(∀vs w b,C b w->(∀j,j<l.length->b j=true)->E8 w (Ss.map fun S=>S b) vs->F (Aj l vs a0) w)/\∀k,i<=k->k<l.length->cN P l Ss C R a0 k
 |0,i,done,h,h1,h2=>⟨done.reverse,⟨[],by simp⟩,by simp;omega,nP h.1,fun vs w b z q=>h.2 w b z q vs,fun k U E=>by omega⟩
 |n+1,i,done,h,h1,h2=>by
  obtain⟨S,s,g⟩:=h;obtain⟨Ss,⟨r,p⟩,g1,g2,g3,V⟩:=nQ d n (i+1) (S::done) g (by simp[h1]) (by omega);rw[a1x] at p;refine⟨Ss,⟨[S]++r,by rw[p,a3z]⟩,g1,g2,g3,fun k U E=>?_⟩;by_cases e:k=i
  .subst e;intro o S' u m b a w z K J I N M L
   have Q:Ss[k]?=some S:=(by rw[p,a3z,a2v (by simp;omega)];simp[h1])
   rw[Q] at m;cases m;refine s b o u a w z (Ab8 u K J I N M fun e A q G Se t y=>L e A q G Se t ?_);have O:=O7 d u e A q;rw[p,a3z,a3x (by simp;omega),List.getElem?_reverse (by omega),h1];exact y
  .exact V k (by omega) E
theorem Aca{id:Nat}{Q:Exit→Act→World→Prop}{a0:Act}{w0:World}(C:(Nat→Bool)→World→Prop)(R:Nat→World→World→Prop)
  (g:P.follows .mixedOrders=true)(d:Fv l a0.tmps.size=true)(k:C (fun _=>false) {w0 with drawn:=w0.drawn+1})
  (h:Rj P l C R a0 (fun a w=>Q .normal a w) 0 [] l.length):(Code.region id l.toArray true).wp P Q a0 w0:=by
 obtain⟨Ss,_,r,q,p,m⟩:=nQ d l.length 0 [] h rfl (by omega);exact aL g (Ab7 Ss C R r d k q (fun i j=>m i (Nat.zero_le _) j) p)
variable {C : (Nat -> Bool) -> World -> Prop} {R : Nat -> World -> World -> Prop} {a0 : Act} {F : Act -> World -> Prop} {i n : Nat} {done : List BS}
theorem N5{o:Oper}{x:Value}(s:∀b w,C b w→C (Ak b i) w)(m:l[i]?=some o)(q:o.guard=none)(j:o.dst.isSome=true)
  (h:∀b a w,C b w->Yd l done a0 i b a w->∀K:Act->World->Prop,(∀w2,C b w2->R i w w2->K (a.put o.dst x) w2)->o.wp P a w K (fun _ _ _=>False))
  (p:Rj P l C R a0 F (i+1) (cM x::done) n):Rj P l C R a0 F i done (n+1):=by
 refine⟨cM x,?_,p⟩;intro b y g a w t u;rw[m] at g;cases g
 have k:Region.wanted o (yielded l.toArray a.tmps)=true:=by unfold Region.wanted;rw[q]
 rw[if_pos k]
 refine h b a w t u _ fun w2 c r=>⟨x,rfl,s _ _ c,r,?_⟩
 cases hd':o.dst with
 |none=>rw[hd'] at j;cases j
 |some d=>rfl
theorem Tz{o:Oper}(S:BS)(m:l[i]?=some o)(q:o.guard=none)(j:o.dst.isSome=true)
  (h:∀b a w,C b w->Yd l done a0 i b a w->∀K:Act->World->Prop,(∀v w2,C (Ak b i) w2->R i w w2->S (Ak b i) w2 v->K (a.put o.dst v) w2)->o.wp P a w K (fun _ _ _=>False))
  (p:Rj P l C R a0 F (i+1) (S::done) n):Rj P l C R a0 F i done (n+1):=by
 refine⟨S,?_,p⟩;intro b y g a w t u;rw[m] at g;cases g
 have k:Region.wanted o (yielded l.toArray a.tmps)=true:=by unfold Region.wanted;rw[q]
 rw[if_pos k]
 refine h b a w t u _ fun v w2 c r s=>⟨v,rfl,c,r,?_⟩
 cases hd':o.dst with
 |none=>rw[hd'] at j;cases j
 |some d=>exact s
end
theorem Qf(b:Nat->Bool)(i:Nat):Ak b i i=true:=if_pos rfl
theorem J5{b:Nat->Bool}{i k:Nat}(h:b k=true):Ak b i k=true:=by unfold Ak;split<;>first|rfl|exact h
theorem Ei{a:Act}{t:Nat}{v:Value}(h:a.tmps[t]?.getD undef=v):a.eval (.tmp t)=v:=by rw[<-h];simp[go_sem]
theorem Ba.take{w:World}{a:Option Addr}{len:Nat}{l:List Ac}(h:Ba w a len l)(n:Nat)(q:n<=len):Ba w a n (l.take n):=by
 have r:=h.len;refine⟨by rw[a0v];omega,?_,fun c g=>h.ok c (a4z g)⟩;rcases h.cells with p|⟨b,o,m,k,j⟩
 .subst p;exact Or.inl (by simp)
 .refine Or.inr ⟨b,o,m,k,fun i d=>?_⟩;rw[List.getElem_take];exact j i (by rw[a0v] at d;omega)
theorem Ba.drop{w:World}{b o len:Nat}{l:List Ac}(h:Ba w (some ⟨b,o,none⟩) len l)(n m:Nat)(t:n+m=len):Ba w (some ⟨b,o+n*6,none⟩) m (l.drop n):=by
 have u:=h.len;refine⟨by rw[a1w];omega,?_,fun c g=>h.ok c (List.mem_of_mem_drop g)⟩;rcases h.cells with r|⟨y,s,q,p,k⟩
 .subst r;exact Or.inl (by simp)
 .cases q;refine Or.inr ⟨b,o+n*6,rfl,p,fun i d=>?_⟩;rw[List.getElem_drop];have j:=k (n+i) (by rw[a1w] at d;omega);rw[show o+n*6+i*6=o+(n+i)*6 from by omega];exact j
theorem Ap.empty{w:World}{base g:Nat}(d:base<=g)(h:w.heap[g]?=some (.cells #[] 80 (0,0))):Ap w base (.slice (some ⟨g,0,none⟩) 0 0) []:=
 ⟨rfl,Or.inr ⟨g,0,#[],rfl,d,h,a3u _,Nat.zero_le _,rfl,rfl⟩⟩
theorem Ap.open{w:World}{base:Nat}{v:Value}{l:List Ac}(h:Ap w base v l)(k:0<l.length):
  ∃g cap d,v=.slice (some ⟨g,0,none⟩) l.length cap/\base<=g/\w.heap[g]?=some (.cells d 80 (0,0))/\l.length<=cap/\cap<=maxLen/\d.size=cap*6/\d.toList.take (l.length*6)=l.flatMap E9:=by
 rcases h.2 with⟨_,j⟩|j
 .omega
 .exact j
end
section
open Go.RowKit
structure Tf(base:Nat)(D:List TypeId)(S:List Nat)(W W':World):Prop where
 os:W'.os=W.os
 tape:W'.tape=W.tape
 output:W'.output=W.output
 size:W.heap.size<=W'.heap.size
 block:∀k,k<W.heap.size->k∉S->(base<=k->∀c T fz,W.heap[k]?=some (.cells c T fz)->T∉D)->W'.heap[k]?=W.heap[k]?
variable {base : Nat} {D : List TypeId} {S S' : List Nat} {a b c W W' : World}
theorem Tf.of(h:Fp S W W'):Tf base D S W W':=⟨h.os,h.tape,h.output,h.size,fun k g d _=>h.block k g d⟩
theorem Tf.refl(W:World):Tf base D S W W:=Tf.of (Fp.refl _ _)
theorem Tf.trans(h:Tf base D S a b)(k:Tf base D S' b c)(p:∀i∈S',i∈S∨a.heap.size<=i:=by simp):Tf base D S a c:=by
 refine⟨k.os.trans h.os,k.tape.trans h.tape,k.output.trans h.output,a0u h.size k.size,fun i m j g=>?_⟩;have e:=h.block i m j g;refine(k.block i (a2x m h.size) (fun q=>?_) (fun s c T t r=>g s c T t (e▸r))).trans e;rcases p i q with d|d
 .exact j d
 .omega
theorem Tf.mono(h:Tf base D S a b)(d:∀i∈S,i∈S'):Tf base D S' a b:=⟨h.os,h.tape,h.output,h.size,fun i m k j=>h.block i m (fun g=>k (d i g)) j⟩
theorem Tf.low(h:Tf base D S W W'){k:Nat}(d:k<W.heap.size)(j:k<base)(g:k∉S):W'.heap[k]?=W.heap[k]?:=h.block k d g fun m=>by omega
theorem Tf.cells(h:Tf base D S W W'){k:Nat}{c:Array Value}{T:TypeId}{j:Nat × Nat}(d:W.heap[k]?=some (.cells c T j))(p:k∉S)(m:T∉D):W'.heap[k]?=some (.cells c T j):=
 (h.block k (Array.getElem?_eq_some_iff.1 d).1 p fun _ c' T' q g=>by rw[d] at g;cases g;exact m).trans d
theorem Tf.toFp(h:Tf W.heap.size D S W W'):Fp S W W':=⟨h.os,h.tape,h.output,h.size,fun k g d=>h.block k g d fun j=>by omega⟩
theorem Tf.onto(h:Tf base D S b c)(k:Fp S' a b)(q:a.heap.size<=base)(m:∀i∈S,i∈S'∨a.heap.size<=i):Fp S' a c:=by
 refine⟨h.os.trans k.os,h.tape.trans k.tape,h.output.trans k.output,a0u k.size h.size,fun i j g=>?_⟩;refine(h.block i (a2x j k.size) (fun p=>?_) (fun r=>by omega)).trans (k.block i j g);rcases m i p with d|d
 .exact g d
 .omega
theorem Tf.grown{e:TypeId}{d n:Nat}{v:Value}{l:List Value}(h:W.ownsRow base e d v n l)(j:W.grownBy W' v.ownBlock)(r:e∈D):Tf base D S W W':=by
 refine⟨j.os,j.tape,j.output,j.size,fun k t _ s=>j.block k t fun p=>?_⟩;rcases h.2 with⟨rfl,_⟩|⟨g,cap,u,rfl,m,q,_⟩
 .cases p
 .obtain rfl:k=g:=by simpa [Value.ownBlock] using p
  exact s m _ _ _ q r
section
variable {α : Type} {R : Hv α}
theorem Ag.tf{base':Nat}{v:Value}{l:List α}(h:Ag R W base' v l)(m:Tf base D S W W')(q:R.e∉D)(p:∀k,v.ownBlock=some k→k∉S):Ag R W' base' v l:=by
 refine h.kept fun k d=>?_;rcases h.2 with⟨rfl,_⟩|⟨g,cap,r,rfl,_,j,_⟩
 .cases d
 .obtain rfl:g=k:=by simpa [Value.ownBlock] using d
  rw[j];exact m.cells j (p _ d) q
theorem Bj.tf{b o n:Nat}{l:List α}(h:Bj R W (some ⟨b,o,none⟩) n l)(g:Tf base D S W W')(q:b<base)(r:b∉S):Bj R W' (some ⟨b,o,none⟩) n l:=by
 refine⟨h.len,?_⟩;rcases h.cells with s|⟨y,t,e,d,p⟩
 .exact Or.inl s
 .cases e;exact Or.inr ⟨b,o,rfl,a2x d g.size,fun i m j u k=>(World.cell?_of_block (w:=W) (g.low d q r)).trans (p i m j u k)⟩
end
end
section
open Go.RowKit
section
variable {α : Type} {R : Hv α}
theorem Vt(T:TypeId){z:Value}{d:Nat}(hu:Tryz.prog.underlying T=some (.slice R.e))(t:(Tryz.prog.info? R.e).map (fun i=>(i.zero,i.size,i.bytes))=some (some z,R.k,d))(G:z.cells.size=R.k)(N:d≤100000)
  {w:World}{o:Oper}{a:Act}{K:Act->World->Prop}{Q:Exit->Act->World->Prop}(s x:Operand)
  (ho:o.op=.call {callee:=.builtin .append,args:=#[s,x],argTypes:=#[T,T]})(base:Nat)(v:Value)(l:List α)(hs:a.eval s=v)(q:Ag R w base v l)
  (U:Addr)(m c:Nat)(r:List α)(hx:a.eval x=.slice (some U) m c)(hl:Bj R w (some U) m r)(aa:l.length+r.length<=1000000000)(g:base<=w.heap.size)
  (h:∀y w',Ag R w' base y (l++r)->Below base w w'->w.grownBy w' v.ownBlock->K (a.put o.dst y) w'):o.wp Tryz.prog a w K Q:=by
 obtain⟨i0,hi,L,J,I⟩:=info_parts t;have V:=hl.len;refine wp_append_own (P:=Tryz.prog) w s x T ho base R.e i0 _ R.k d hu hi L J I G R.pos v l.length (l.flatMap R.enc) hs q U m c (r.flatMap R.enc) hx (by rw[Q0,V]) ?_ (jT r) (by unfold maxLen;omega) (a0u (Nat.mul_le_mul (show l.length+m<=1000000000 by omega) N) (by decide)) g ?_
 .intro j u p;rcases hl.cells with O|⟨b,o,O,_,hc⟩
  .subst O;simp at p
  .obtain rfl:=Option.some.inj O
   have e1:(⟨b,o,none⟩:Addr).add j=⟨b,o+j,none⟩:=(by unfold Addr.add;split<;>simp_all)
   rw[e1]
   have M:j<r.length*R.k:=(by rw[<-Q0 (R:=R)];exact(List.getElem?_eq_some_iff.1 p).1)
   obtain⟨E,A,h3⟩:=aS M R.pos;rw[h3,U9 r _ _ A E] at p;have:=hc (j/R.k) E (j%R.k) u p;rw[Nat.add_assoc,<-h3] at this;exact this
 .intro y w' E A _;refine h y w' ?_ ((Below.refl base w).grown A g (fun k hk=>(q.lt k hk).1)) A;unfold Ag;rw[a2w,List.flatMap_append,<-V];exact E
structure Gg(R:Hv α)(D:List TypeId)(T:TypeId)(C:Value->Array Value)(base B:Nat)(v:Value)(l:List α)(x:α)(ib ia is:Nat)(W0:World)(b:Nat->Bool)(vs:Nat->Value)(W:World):Prop where
 own0:b ia=false->Ag R W base v l
 own1:b ia=true->Ag R W base (vs ia) (l++[x])
 bld:b ib=true->b ia=false->∃g,vs ib=.slice (some ⟨g,0,none⟩) 1 1/\Bj R W (some ⟨g,0,none⟩) 1 [x]
 cel:W.heap[B]?=some (.cells (C (if b is=true then vs ia else v)) T (0,0))
 tf:Tf base D [B] W0 W
 oa:b is=true->b ia=true
 ob:b ia=true->b ib=true
 sz:base<=W.heap.size
variable {D : List TypeId} {T : TypeId} {C : Value -> Array Value} {base B : Nat} {v : Value} {l : List α} {x : α} {ib ia is : Nat} {W0 W W2 : World} {b : Nat -> Bool} {vs : Nat -> Value}
theorem Ye{a c:Bool}(h:a=true->c=true)(d:c=false):a=false:=by cases a<;>cases c<;>simp_all
theorem Gg.start{vs:Nat->Value}(d:Ag R W0 base v l)(g:W0.heap[B]?=some (.cells (C v) T (0,0)))(j:base<=W0.heap.size):Gg R D T C base B v l x ib ia is W0 (fun _=>false) vs {W0 with drawn:=W0.drawn+1}:=
 ⟨fun _=>d.fp (Fp.drew W0),(fun h=>by cases h),(fun h=>by cases h),g,(Tf.of (Fp.drew W0)).mono (by simp),(fun h=>by cases h),(fun h=>by cases h),j⟩
theorem Gg.plain{k:Nat}{y:Value}(h:Gg R D T C base B v l x ib ia is W0 b vs W)(m:k≠ib/\k≠ia/\k≠is):Gg R D T C base B v l x ib ia is W0 (Ak b k) (B6 vs k y) W:=by
 obtain⟨g,d,j⟩:=m;refine⟨?_,?_,?_,?_,h.tf,?_,?_,h.sz⟩
 .rw[Ah d.symm];exact h.own0
 .rw[Ah d.symm,Bd d.symm];exact h.own1
 .rw[Ah d.symm,Ah g.symm,Bd g.symm];exact h.bld
 .rw[Ah j.symm,Bd d.symm];exact h.cel
 .rw[Ah j.symm,Ah d.symm];exact h.oa
 .rw[Ah d.symm,Ah g.symm];exact h.ob
theorem Gg.first(h:Gg R D T C base B v l x ib ia is W0 b vs W)(d:b ia=false):W.heap[B]?=some (.cells (C v) T (0,0)):=by
 have:=h.cel;rw[Ye h.oa d] at this;exact this
theorem Gg.on(h:Gg R D T C base B v l x ib ia is W0 b vs W)(m:b ia=false)(d:Fp [] W W2){k:Nat}{y:Value}(s:k≠ib/\k≠ia/\k≠is):Gg R D T C base B v l x ib ia is W0 (Ak b k) (B6 vs k y) W2:=by
 obtain⟨p,j,q⟩:=s;refine⟨fun _=>(h.own0 m).fp d,fun e=>?_,fun r z=>?_,?_,h.tf.trans (Tf.of d),?_,?_,a0u h.sz d.size⟩
 .rw[Ah j.symm,m] at e;cases e
 .rw[Ah p.symm] at r;obtain⟨g,u,t⟩:=h.bld r m;exact⟨g,by rw[Bd p.symm];exact u,t.fp d⟩
 .rw[Ah q.symm,Bd j.symm];exact(d.block _ (Ae h.cel) (by simp)).trans h.cel
 .rw[Ah q.symm,Ah j.symm];exact h.oa
 .rw[Ah j.symm,Ah p.symm];exact h.ob
theorem Gg.build(h:Gg R D T C base B v l x ib ia is W0 b vs W)(k:b ib=false)(d:ib≠ia∧ib≠is∧ia≠is):
  Gg R D T C base B v l x ib ia is W0 (Ak b ib) (B6 vs ib (.slice (some ⟨W.heap.size,0,none⟩) 1 1)) (W.alloc (.cells (R.enc x).toArray R.e)):=by
 have j:=Ye h.ob k;have g:=Fp.alloc W (.cells (R.enc x).toArray R.e);refine⟨fun _=>(h.own0 j).fp g,fun e=>?_,fun _ _=>⟨W.heap.size,Gu _ _ _,Bj.one (Ai rfl _)⟩,?_,h.tf.trans (Tf.of g),?_,fun _=>Eg _ _,a0u h.sz g.size⟩
 .rw[Ah d.1.symm,j] at e;cases e
 .rw[Ah d.2.1.symm,Bd d.1.symm];exact Dy h.cel
 .rw[Ah d.2.1.symm,Ah d.1.symm];exact h.oa
theorem Gg.append{k:Value}(h:Gg R D T C base B v l x ib ia is W0 b vs W)(r:b ib=true)(j:b ia=false)(p:Ag R W2 base k (l++[x]))(q:W.grownBy W2 v.ownBlock)(t:R.e∈D)(s:T∉D)(g:ib≠ia∧ib≠is∧ia≠is):
  Gg R D T C base B v l x ib ia is W0 (Ak b ia) (B6 vs ia k) W2:=by
 have m:=Ye h.oa j;have d:Tf base D [] W W2:=Tf.grown (h.own0 j) q t;refine⟨fun e=>?_,fun _=>by rw[Gu];exact p,fun _ e=>?_,?_,h.tf.trans d,fun e=>?_,fun _=>?_,a0u h.sz d.size⟩
 .rw[Eg] at e;cases e
 .rw[Eg] at e;cases e
 .rw[Ah g.2.2.symm,m];exact d.cells (h.first j) (by simp) s
 .rw[Ah g.2.2.symm,m] at e;cases e
 .rw[Ah g.1];exact r
theorem Gg.store{off:Nat}(h:Gg R D T C base B v l x ib ia is W0 b vs W)(p:b ia=true)(t:b is=false)(A:(C v).setIfInBounds off (vs ia)=C (vs ia))(z:T≠R.e)(d:ib≠ia∧ib≠is∧ia≠is):
  Gg R D T C base B v l x ib ia is W0 (Ak b is) (B6 vs is undef) (W.setCell ⟨B,off,none⟩ (vs ia)):=by
 have r:Fp [B] W (W.setCell ⟨B,off,none⟩ (vs ia)):=Fp.setCell W ⟨B,off,none⟩ (vs ia);have m:=h.cel;rw[t] at m;refine⟨fun e=>?_,fun _=>?_,fun _ e=>?_,?_,h.tf.trans (Tf.of r),fun _=>?_,fun e=>?_,a0u h.sz r.size⟩
 .rw[Ah d.2.2,p] at e;cases e
 .rw[Bd d.2.2];have q:=h.own1 p;refine q.kept fun k j=>r.block k (q.lt k j).2 fun u=>?_;obtain rfl:=List.mem_singleton.1 u;rcases q.2 with⟨s,_⟩|⟨g,cap,E,s,_,y,_⟩
  .rw[s] at j;cases j
  .rw[s] at j
   obtain rfl:g=k:=by simpa [Value.ownBlock] using j
   rw[y] at m;cases m;exact z rfl
 .rw[Ah d.2.2,p] at e;cases e
 .rw[Eg,if_pos rfl,Bd d.2.2,Cf m];rw[<-A];rfl
 .rw[Ah d.2.2];exact p
 .rw[Ah d.2.2] at e;rw[Ah d.2.1];exact h.ob e
theorem Gg.slice(h:Gg R D T C base B v l x ib ia is W0 b vs W)(d:b ia=true):∃a n c,vs ia=.slice a n c:=by
 obtain⟨a,c,e,_⟩:=(h.own1 d).len;exact⟨_,_,_,e⟩
end
end
section
open Go.RowKit Go.Lib
theorem Rk{w:World}{b o:Nat}{x:Ad}(h:Oy Dm w b o x):w.cell? ⟨b,o,none⟩=some (.string x.c.row)/\w.cell? ⟨b,o+1,none⟩=some (.string x.c.col)/\w.cell? ⟨b,o+2,none⟩=some (.int .u64 x.c.ts)/\w.cell? ⟨b,o+3,none⟩=some (.int .u64 x.c.seq)/\w.cell? ⟨b,o+4,none⟩=some (.bool x.c.del)/\w.cell? ⟨b,o+5,none⟩=some (.string x.c.val)/\w.cell? ⟨b,o+6,none⟩=some (.int .i64 x.pos):=
 ⟨h 0 _ rfl,h 1 _ rfl,h 2 _ rfl,h 3 _ rfl,h 4 _ rfl,h 5 _ rfl,h 6 _ rfl⟩
def RQ(i:Nat)(w w':World):Prop:=(i=4->∃g,w.heap[g]?=some (.cells #[] 94 (0,0))/\w.grownBy w' (some g))/\(i≠4->i≠10->i≠14->Fp [] w w')
theorem RQ.calm{i:Nat}{w w':World}(d:i≠4)(h:Fp [] w w'):RQ i w w':=⟨fun e=>absurd e d,fun _ _ _=>h⟩
def T0(B:Nat):BS:=fun b w v=>b 4=true∨b 10=true∨b 14=true∨∃g,v=.slice (some ⟨g,0,none⟩) 0 0/\B<=g/\w.heap[g]?=some (.cells #[] 94 (0,0))
def T4(B:Nat)(l:List Ad):BS:=fun b w v=>b 10=true∨b 14=true∨Ag Dm w B v l
def T9(x:Ad):BS:=fun b w v=>b 10=true∨b 14=true∨∃g,v=.slice (some ⟨g,0,none⟩) 1 1/\w.heap[g]?=some (.cells (Jr x).toArray 94 (0,0))
def Vu(B:Nat)(l:List Ad):BS:=fun b w v=>b 14=true∨Ag Dm w B v l
def Rm(B:Nat)(l:List Ad):BS:=fun _ w v=>Ag Dm w B v l
section
variable {ops : List Oper} {b : Nat -> Bool} {i B : Nat} {w w' : World} {v : Value} {l : List Ad} {x : Ad}
theorem T0.stab(h:Kx ops b i)(r:RQ i w w')(q:T0 B b w v):T0 B (Ak b i) w' v:=by
 rcases q with d|d|d|⟨g,e,s,m⟩
 .exact Or.inl (J5 d)
 .exact Or.inr (Or.inl (J5 d))
 .exact Or.inr (Or.inr (Or.inl (J5 d)))
 .by_cases p:i=4
  .subst p;exact Or.inl (Qf _ _)
  .by_cases k:i=10
   .subst k;exact Or.inr (Or.inl (Qf _ _))
   .by_cases j:i=14
    .subst j;exact Or.inr (Or.inr (Or.inl (Qf _ _)))
    .exact Or.inr (Or.inr (Or.inr ⟨g,e,s,((r.2 p k j).block g (Ae m) (by simp)).trans m⟩))
theorem T4.stab(h:Kx ops b i)(k:b 4=true)(p:RQ i w w')(m:T4 B l b w v):T4 B l (Ak b i) w' v:=by
 rcases m with d|d|d
 .exact Or.inl (J5 d)
 .exact Or.inr (Or.inl (J5 d))
 .by_cases j:i=10
  .subst j;exact Or.inl (Qf _ _)
  .by_cases g:i=14
   .subst g;exact Or.inr (Or.inl (Qf _ _))
   .have q:i≠4:=fun e=>by subst e;rw[h.self] at k;cases k
    exact Or.inr (Or.inr (d.fp (p.2 q j g)))
theorem T9.stab(h:Kx ops b i)(m:RQ i w w')(r:T9 x b w v):T9 x (Ak b i) w' v:=by
 rcases r with d|d|⟨g,e,d⟩
 .exact Or.inl (J5 d)
 .exact Or.inr (Or.inl (J5 d))
 .by_cases k:i=10
  .subst k;exact Or.inl (Qf _ _)
  .by_cases j:i=14
   .subst j;exact Or.inr (Or.inl (Qf _ _))
   .by_cases q:i=4
    .obtain⟨u,t,s⟩:=m.1 q;refine Or.inr (Or.inr ⟨g,e,(s.block g (Ae d) fun e=>?_).trans d⟩);obtain rfl:=Option.some.inj e;have p:w.heap[g]?=_ :=d;rw[t] at p;cases p
    .exact Or.inr (Or.inr ⟨g,e,((m.2 q k j).block g (Ae d) (by simp)).trans d⟩)
theorem Vu.stab(h:Kx ops b i)(q:Kv ops 10 4=true)(j:b 10=true)(p:RQ i w w')(m:Vu B l b w v):Vu B l (Ak b i) w' v:=by
 rcases m with g|g
 .exact Or.inl (J5 g)
 .by_cases d:i=14
  .subst d;exact Or.inl (Qf _ _)
  .have k:i≠10:=fun e=>by subst e;rw[h.self] at j;cases j
   have r:i≠4:=fun e=>by subst e;have:=h.closed 10 4 j q;rw[h.self] at this;cases this
   exact Or.inr (g.fp (p.2 r k d))
theorem Rm.stab(h:Kx ops b i)(s:Kv ops 10 4=true)(r:Kv ops 14 10=true)(g:b 14=true)(q:RQ i w w')(p:Rm B l b w v):Rm B l (Ak b i) w' v:=by
 have d:=h.closed 14 10 g r;have m:=h.closed 10 4 d s
 have j:i≠14:=fun e=>by subst e;rw[h.self] at g;cases g
 have k:i≠10:=fun e=>by subst e;rw[h.self] at d;cases d
 have t:i≠4:=fun e=>by subst e;rw[h.self] at m;cases m
 exact Ag.fp p (q.2 t k j) (by simp)
theorem nR(h:Kx ops b i){j k:Nat}(d:Kv ops j k=true)(g:b k=false):b j=false:=by
 cases e:b j with
 |false=>rfl
 |true=>have:=h.closed j k e d;rw[g] at this;cases this
end
theorem Ag.emptyQ{w:World}{base g:Nat}(d:base<=g)(h:w.heap[g]?=some (.cells #[] 94 (0,0))):Ag Dm w base (.slice (some ⟨g,0,none⟩) 0 0) []:=
 ⟨rfl,Or.inr ⟨g,0,#[],rfl,d,h,a3u _,Nat.zero_le _,rfl,rfl⟩⟩
structure Acb(out:List Ad)(x:Ad)(m:Nat):Prop where
 le:m<=out.length
 lt:∀i (hi:i<out.length),i<m->Bv out[i] x<0
 at_:∀hm:m<out.length,Bc out[m] x=true∨0<Bv out[m] x
theorem nS(w:World)(a:Option Addr)(n cap:Nat)(l:List Ad)(hl:Bj Dm w a n l)(bj:Be l)(hn:n≤100000):
  Calls Tryz.prog 41 #[.slice a n cap] w fun e w'=>∃(v:Value) (r:List Ad),e=.returned v/\Bf l r/\Ag Dm w' w.heap.size v r/\Fp [] w w':=by
 have HL:=X hl;have b3:=X hl.len;have bz:=X bj;clear hl bj;go_in;go_wp2_with fail
 go_loopg [3,4] n (fun gg va vi wr=>∃k g c p,gg+k=n/\va=.slice (some ⟨g,0,none⟩) (p:List Ad).length c/\vi=.int .i64 (k:Nat)/\Bf (l.take k) p/\p.length<=k/\Ag Dm wr w.heap.size va p/\Fp [] w wr)
 case atStart=>exact⟨0,w.heap.size,0,[],by omega,rfl,rfl,by rw[List.take_zero];exact Bf.nil,a3u _,Ag.made _ _ (a3u _),Fp.alloc _ _⟩
 case round=>
  obtain⟨k,g,c,p,hg,rfl,rfl,ay,cw,ho,O⟩:=hrel;have HR:=X ay;have HO:=X ho;have HF:=X O;have cx:p.length<=c:=by
   obtain⟨a2,c2,e2,-,h2⟩:=ho.len;cases e2;exact h2
  have cd:w.heap.size<=wr.heap.size:=HF.o.size;clear ay ho O;by_cases hk:k<n
  .have zk:(k:Int)<(n:Int):=(by omega)
   have au:k<l.length:=(by rw[<-b3.o];exact hk)
   obtain⟨b1,o1,rfl,cf,ae⟩:=HL.o.get au;obtain⟨x,hx⟩:=Aa (l[k]);rw[hx] at ae;have bs:=X (show l.take (k+1)=l.take k++[x] by rw[List.take_succ_eq_append_getElem au,hx]);have br:Hid (B9 x):=X (by rw[<-hx];exact bz.o _ (a3w au));have bd:Hid (Be (l.take k)):=X (fun y hy=>bz.o y (a4z hy));have bf:Hid (Be p):=X (fun y hy=>bd.o y (HR.o.sub y hy));have ag:=X (fun w' (h:Fp [] w w')=>Rk (ae w' h));simp only[show Dm.k=7 from rfl] at ag;obtain⟨⟨E,I,A,xs,G,u⟩,J⟩:=x;simp only at ag;clear ae hx au cf;obtain⟨wo,b6⟩:=Bz wr;subst b6
   go_upto_block 2 with(fail)
   go_cut [5] from 13 to 44 (fun v5 wx=>∃m:Nat,v5=.int .i64 m/\Acb p ⟨⟨E,I,A,xs,G,u⟩,J⟩ m/\Fp [] wo wx)
   case first=>
    go_wp2_with fail
    go_loopg [5] p.length (fun g2 vm w2=>∃m:Nat,g2+m=p.length/\vm=.int .i64 m/\(∀i (hi:i<p.length),i<m->Bv p[i] ⟨⟨E,I,A,xs,G,u⟩,J⟩<0)/\Fp [] wo w2)
    case atStart=>exact⟨0,by omega,rfl,fun i _ h=>absurd h (Nat.not_lt_zero _),Fp.refl _ _⟩
    case round=>
     obtain⟨m,c1,rfl,bm,bp⟩:=hrel;have ax:=X bm;have aa:=X bp;clear bm bp;by_cases hm:m<p.length
     .have zm:(m:Int)<(p.length:Int):=(by omega)
      have L:=fun w' (h:Fp [] wo w')=>Rk ((HO.o.fp h).elem hm).1;simp only[show Dm.k=7 from rfl] at L;have a9:Hid (B9 p[m]):=X (bf.o _ (a3w hm));obtain⟨y,hy⟩:=Aa (p[m]);have HY:=X hy;rw[hy] at L a9;have ac:=Nu y ⟨⟨E,I,A,xs,G,u⟩,J⟩;have ab:Bc y ⟨⟨E,I,A,xs,G,u⟩,J⟩=I2 y.c ⟨E,I,A,xs,G,u⟩:=rfl;have M:=K5 y ⟨⟨E,I,A,xs,G,u⟩,J⟩;have U:=X (fun w=>cX y ⟨⟨E,I,A,xs,G,u⟩,J⟩ w);have Q:=X (fun w=>Z6 y.c ⟨E,I,A,xs,G,u⟩ w);obtain⟨ci,ao⟩:=Aa (B8 y ⟨⟨E,I,A,xs,G,u⟩,J⟩);obtain⟨sc,ak⟩:=Aa (I2 y.c ⟨E,I,A,xs,G,u⟩);rw[ao] at U ac;rw[ak] at Q ab;have aq:=X ab
      have be:Hid ((ci<0→sc=false→Bv y ⟨⟨E,I,A,xs,G,u⟩,J⟩<0)∧(¬ci<0→sc=false→0<Bv y ⟨⟨E,I,A,xs,G,u⟩,J⟩)):=X (by
       rw[ab] at M;constructor
       .intro h1 h2
        have h3:¬Bv y ⟨⟨E,I,A,xs,G,u⟩,J⟩=0:=fun h=>by rw[h2] at M;exact absurd (M.2 h) (by decide)
        rcases ac with⟨_,h4⟩|⟨h4,_⟩
        .omega
        .exact absurd h4 h3
       .intro h1 h2
        have h3:¬Bv y ⟨⟨E,I,A,xs,G,u⟩,J⟩=0:=fun h=>by rw[h2] at M;exact absurd (M.2 h) (by decide)
        rcases ac with⟨h5,h4⟩|⟨h4,_⟩
        .omega
        .exact absurd h4 h3)
      have V:=X L;obtain⟨⟨yr,yc,yt,ys,yd,yv⟩,yp⟩:=y;unfold Ic Jr at U;unfold A7 at Q;simp only at U Q V;clear L ac ab M ao ak hy;by_cases an:ci<0
      .cases sc
       .have HK:=X (be.o.1 an rfl);go_wp2_with fail;refine Bo (by kernel_rfl) (by kernel_rfl) ?_
        iterate 30
         first|apply A1 rfl rfl rfl|apply Gw _ _ rfl rfl rfl rfl (by kernel_rfl) rfl rfl
         .intro a w s d K t;have:=d.f 5;have:=d.f 3;have:=d.f 0;have:=d.f 4;(try have:=d.e 1 14);(try have:=d.e 0 13);(try have:=d.e 2 15);(try have:=d.e 3 16);(try have:=d.e 5 18);(try have:=d.e 6 19);(try have:=d.e 7 20);(try have:=d.e 9 22);(try have:=d.e 10 23);(try have:=d.e 11 24);(try have:=d.e 8 21);(try have:=d.e 12 25);(try have:=d.e 13 26);(try have:=d.e 4 17);(try have:=d.e 14 27);(try have:=d.e 15 28);(try have:=d.e 17 30);(try have:=d.e 18 31);(try have:=d.e 19 32);(try have:=d.e 20 33);(try have:=d.e 22 35);(try have:=d.e 23 36);(try have:=d.e 24 37);(try have:=d.e 25 38);(try have:=d.e 21 34);(try have:=d.e 26 39);(try have:=d.e 27 40);(try have:=d.e 16 29);(try have:=d.e 28 41);obtain⟨y0,y1,y2,y3,y4,y5,y6⟩:=V.o _ (aa.o.trans s);obtain⟨x0,x1,x2,x3,x4,x5,x6⟩:=ag.o _ ((HF.o.trans aa.o).trans s);simp only[Oper.wp,execOp];go_simp
          first
          |exact t _ s (Fp.refl _ _)
          |first
            |((with_reducible refine(U.o _).mono ?_);rintro e w2 ⟨rfl,O⟩;exact t _ (s.trans O) O)
            |((with_reducible refine(Q.o _).mono ?_);rintro e w2 ⟨rfl,O⟩;exact t _ (s.trans O) O)
        refine Bn ?_
        iterate 30 refine Bm ?_
        refine Bl fun w' s=>?_
        .simp only[Aj,Act.put,Y,Z,a0z];have ah:=X (aa.o.trans s);clear s;go_wp2_with fail
         go_roundg (gk-1)
         case measure=>omega
         case rel=>
          refine⟨m+1,by omega,by go_num,fun i hi h=>?_,ah.o⟩;by_cases e:i=m
          .subst e;rw[HY.o];exact HK.o
          .exact ax.o i hi (by omega)
       .go_wp2_with fail;refine Bo (by kernel_rfl) (by kernel_rfl) ?_
        iterate 30
         first|apply A1 rfl rfl rfl|apply Gw _ _ rfl rfl rfl rfl (by kernel_rfl) rfl rfl
         .intro a w s d K t;have:=d.f 5;have:=d.f 3;have:=d.f 0;have:=d.f 4;(try have:=d.e 1 14);(try have:=d.e 0 13);(try have:=d.e 2 15);(try have:=d.e 3 16);(try have:=d.e 5 18);(try have:=d.e 6 19);(try have:=d.e 7 20);(try have:=d.e 9 22);(try have:=d.e 10 23);(try have:=d.e 11 24);(try have:=d.e 8 21);(try have:=d.e 12 25);(try have:=d.e 13 26);(try have:=d.e 4 17);(try have:=d.e 14 27);(try have:=d.e 15 28);(try have:=d.e 17 30);(try have:=d.e 18 31);(try have:=d.e 19 32);(try have:=d.e 20 33);(try have:=d.e 22 35);(try have:=d.e 23 36);(try have:=d.e 24 37);(try have:=d.e 25 38);(try have:=d.e 21 34);(try have:=d.e 26 39);(try have:=d.e 27 40);(try have:=d.e 16 29);(try have:=d.e 28 41);obtain⟨y0,y1,y2,y3,y4,y5,y6⟩:=V.o _ (aa.o.trans s);obtain⟨x0,x1,x2,x3,x4,x5,x6⟩:=ag.o _ ((HF.o.trans aa.o).trans s);simp only[Oper.wp,execOp];go_simp
          first
          |exact t _ s (Fp.refl _ _)
          |first
            |((with_reducible refine(U.o _).mono ?_);rintro e w2 ⟨rfl,O⟩;exact t _ (s.trans O) O)
            |((with_reducible refine(Q.o _).mono ?_);rintro e w2 ⟨rfl,O⟩;exact t _ (s.trans O) O)
        refine Bn ?_
        iterate 30 refine Bm ?_
        refine Bl fun w' s=>?_
        .simp only[Aj,Act.put,Y,Z,a0z];have ah:=X (aa.o.trans s);clear s;go_wp2_with fail
         go_meet
         case rel=>exact⟨m,rfl,⟨Nat.le_of_lt hm,ax.o,fun _=>Or.inl (by rw[HY.o];exact aq.o)⟩,ah.o⟩
      .have HK:Hid (Bc p[m] ⟨⟨E,I,A,xs,G,u⟩,J⟩=true∨0<Bv p[m] ⟨⟨E,I,A,xs,G,u⟩,J⟩):=X (by
        rw[HY.o,aq.o];cases sc
        .exact Or.inr (be.o.2 an rfl)
        .exact Or.inl rfl)
       have zc:decide (ci<0)=false:=decide_eq_false an;go_wp2_with fail;refine Bo (by kernel_rfl) (by kernel_rfl) ?_
       iterate 30
        first
        |apply Jq _ _ rfl rfl rfl rfl (by kernel_rfl) rfl rfl
        |first|apply A1 rfl rfl rfl|apply Gw _ _ rfl rfl rfl rfl (by kernel_rfl) rfl rfl
         .intro a w s d K t;have:=d.f 5;have:=d.f 3;have:=d.f 0;have:=d.f 4;(try have:=d.e 1 14);(try have:=d.e 0 13);(try have:=d.e 2 15);(try have:=d.e 3 16);(try have:=d.e 5 18);(try have:=d.e 6 19);(try have:=d.e 7 20);(try have:=d.e 9 22);(try have:=d.e 10 23);(try have:=d.e 11 24);(try have:=d.e 8 21);(try have:=d.e 12 25);(try have:=d.e 13 26);(try have:=d.e 4 17);(try have:=d.e 14 27);(try have:=d.e 15 28);(try have:=d.e 16 29);(try have:=d.e 28 41);obtain⟨y0,y1,y2,y3,y4,y5,y6⟩:=V.o _ (aa.o.trans s);obtain⟨x0,x1,x2,x3,x4,x5,x6⟩:=ag.o _ ((HF.o.trans aa.o).trans s);simp only[Oper.wp,execOp];go_simp
          first
          |exact t _ s (Fp.refl _ _)
          |first
            |((with_reducible refine(U.o _).mono ?_);rintro e w2 ⟨rfl,O⟩;exact t _ (s.trans O) O)
            |((with_reducible refine(Q.o _).mono ?_);rintro e w2 ⟨rfl,O⟩;exact t _ (s.trans O) O)
       refine Bn ?_
       iterate 30 refine Bm ?_
       refine Bl fun w' s=>?_
       .simp only[Aj,Act.put,Y,Z,a0z];have ah:=X (aa.o.trans s);clear s;go_wp2_with fail
        go_meet
        case rel=>exact⟨m,rfl,⟨Nat.le_of_lt hm,ax.o,fun _=>HK.o⟩,ah.o⟩
     .have zm:¬(m:Int)<(p.length:Int):=(by omega)
      go_wp2_with fail;refine Bo (by kernel_rfl) (by kernel_rfl) ?_
      iterate 30
       first
       |apply Jq _ _ rfl rfl rfl rfl (by kernel_rfl) rfl rfl
       |apply A1 rfl rfl rfl
        .intro a w s d K t;have:=d.f 5;have:=d.f 3;(try have:=d.e 1 14);(try have:=d.e 0 13);(try have:=d.e 2 15);(try have:=d.e 3 16);(try have:=d.e 4 17);(try have:=d.e 14 27);(try have:=d.e 15 28);(try have:=d.e 16 29);(try have:=d.e 28 41);simp only[Oper.wp,execOp];go_simp;exact t _ s (Fp.refl _ _)
      refine Bn ?_
      iterate 30 refine Bm ?_
      refine Bl fun w' s=>?_
      .simp only[Aj,Act.put,Y,Z,a0z];have ah:=X (aa.o.trans s);clear s;go_wp2_with fail
       go_meet
       case rel=>exact⟨m,rfl,⟨by omega,ax.o,fun h=>absurd h hm⟩,ah.o⟩
   case rest=>
    obtain⟨m,rfl,a3,bn⟩:=hcut;have HP:=X a3;have bi:=X bn;have bk:=a3.le;clear a3 bn;obtain⟨w5,b8⟩:=Bz wc;subst b8
    go_upto_region 9 with(fail)
    go_cut [60] from 61 to 77 (fun v wx=>∃bb:Bool,v=.bool bb/\(bb=true->∃hm:m<p.length,Bc p[m] ⟨⟨E,I,A,xs,G,u⟩,J⟩=true)/\(bb=false->∀hm:m<p.length,0<Bv p[m] ⟨⟨E,I,A,xs,G,u⟩,J⟩)/\Fp [] w5 wx)
    case first=>
     by_cases hm:m<p.length
     .have zm:(m:Int)<(p.length:Int):=(by omega)
      have L:=fun w' (h:Fp [] wo w')=>Rk ((HO.o.fp h).elem hm).1;simp only[show Dm.k=7 from rfl] at L;have a9:Hid (B9 p[m]):=X (bf.o _ (a3w hm));obtain⟨y,hy⟩:=Aa (p[m]);have HY:=X hy;rw[hy] at L a9;have ac:=Nu y ⟨⟨E,I,A,xs,G,u⟩,J⟩;have ab:Bc y ⟨⟨E,I,A,xs,G,u⟩,J⟩=I2 y.c ⟨E,I,A,xs,G,u⟩:=rfl;have M:=K5 y ⟨⟨E,I,A,xs,G,u⟩,J⟩;have U:=X (fun w=>cX y ⟨⟨E,I,A,xs,G,u⟩,J⟩ w);have Q:=X (fun w=>Z6 y.c ⟨E,I,A,xs,G,u⟩ w);obtain⟨ci,ao⟩:=Aa (B8 y ⟨⟨E,I,A,xs,G,u⟩,J⟩);obtain⟨sc,ak⟩:=Aa (I2 y.c ⟨E,I,A,xs,G,u⟩);rw[ao] at U ac;rw[ak] at Q ab;have aq:=X ab
      have be:Hid ((ci<0→sc=false→Bv y ⟨⟨E,I,A,xs,G,u⟩,J⟩<0)∧(¬ci<0→sc=false→0<Bv y ⟨⟨E,I,A,xs,G,u⟩,J⟩)):=X (by
       rw[ab] at M;constructor
       .intro h1 h2
        have h3:¬Bv y ⟨⟨E,I,A,xs,G,u⟩,J⟩=0:=fun h=>by rw[h2] at M;exact absurd (M.2 h) (by decide)
        rcases ac with⟨_,h4⟩|⟨h4,_⟩
        .omega
        .exact absurd h4 h3
       .intro h1 h2
        have h3:¬Bv y ⟨⟨E,I,A,xs,G,u⟩,J⟩=0:=fun h=>by rw[h2] at M;exact absurd (M.2 h) (by decide)
        rcases ac with⟨h5,h4⟩|⟨h4,_⟩
        .omega
        .exact absurd h4 h3)
      have V:=X L;obtain⟨⟨yr,yc,yt,ys,yd,yv⟩,yp⟩:=y;unfold Ic Jr at U;unfold A7 at Q;simp only at U Q V;clear L ac ab M ao ak hy;have cq:=X (HP.o.at_ hm);go_wp2_with fail;refine Bo (by kernel_rfl) (by kernel_rfl) ?_
      iterate 18
       first|apply A1 rfl rfl rfl|apply Gw _ _ rfl rfl rfl rfl (by kernel_rfl) rfl rfl
       .intro a w s d K t;have:=d.f 5;have:=d.f 3;have:=d.f 0;have:=d.f 4;(try have:=d.e 1 62);(try have:=d.e 0 61);(try have:=d.e 2 63);(try have:=d.e 3 64);(try have:=d.e 5 66);(try have:=d.e 6 67);(try have:=d.e 7 68);(try have:=d.e 8 69);(try have:=d.e 10 71);(try have:=d.e 11 72);(try have:=d.e 12 73);(try have:=d.e 13 74);(try have:=d.e 9 70);(try have:=d.e 14 75);(try have:=d.e 4 65);(try have:=d.e 15 76);(try have:=d.e 16 77);obtain⟨y0,y1,y2,y3,y4,y5,y6⟩:=V.o _ (bi.o.trans s);obtain⟨x0,x1,x2,x3,x4,x5,x6⟩:=ag.o _ ((HF.o.trans bi.o).trans s);simp only[Oper.wp,execOp];go_simp
        first
        |exact t _ s (Fp.refl _ _)
        |first
          |((with_reducible refine(U.o _).mono ?_);rintro e w2 ⟨rfl,O⟩;exact t _ (s.trans O) O)
          |((with_reducible refine(Q.o _).mono ?_);rintro e w2 ⟨rfl,O⟩;exact t _ (s.trans O) O)
      refine Bn ?_
      iterate 18 refine Bm ?_
      refine Bl fun w' s=>?_
      .simp only[Aj,Act.put,Y,Z,a0z];have N:=X s;clear s;go_wp2_with fail
       go_meet
       case rel=>
        refine⟨sc,rfl,fun h=>⟨hm,by rw[HY.o,aq.o,h]⟩,fun h _=>?_,N.o⟩;rcases cq.o with h1|h1
        .rw[HY.o,aq.o,h] at h1;cases h1
        .exact h1
     .have zm:¬(m:Int)<(p.length:Int):=(by omega)
      go_wp2_with fail;refine Bo (by kernel_rfl) (by kernel_rfl) ?_
      iterate 18
       first
       |apply Jq _ _ rfl rfl rfl rfl (by kernel_rfl) rfl rfl
       |apply A1 rfl rfl rfl
        .intro a w s d K t;have:=d.f 5;have:=d.f 3;(try have:=d.e 1 62);(try have:=d.e 0 61);(try have:=d.e 2 63);(try have:=d.e 3 64);(try have:=d.e 4 65);(try have:=d.e 15 76);(try have:=d.e 16 77);simp only[Oper.wp,execOp];go_simp;exact t _ s (Fp.refl _ _)
      refine Bn ?_
      iterate 18 refine Bm ?_
      refine Bl fun w' s=>?_
      .simp only[Aj,Act.put,Y,Z,a0z];have N:=X s;clear s;go_wp2_with fail
       go_meet
       case rel=>exact⟨false,rfl,(fun h=>by cases h),fun _ h=>absurd h hm,N.o⟩
    case rest=>
     obtain⟨bb,rfl,a5,a6,bo⟩:=hcut;have N:=X (bi.o.trans bo);clear bo;obtain⟨w6,b7⟩:=Bz wc;subst b7;have aw:=X (fun w' (h:Fp [] w6 w')=>ag.o w' ((HF.o.trans N.o).trans h));cases bb
     .have bw:=X (Acp bd.o br.o HR.o bk HP.o.lt (a6 rfl));rw[←bs.o] at bw;have b0:=X (HO.o.fp N.o)
      have co:Hid (Bj Dm w6 (some ⟨g,0,none⟩) m (p.take m)):=X (by
       obtain⟨a2,c2,e2,-,-,ap⟩:=b0.o.at;cases e2
       exact ap.take m bk)
      obtain⟨ad,c3,bq⟩:∃ad,(if c=m then some (⟨g,0,none⟩:Addr) else some ⟨g,m*7,none⟩)=some ad/\Bj Dm w6 (some ad) (p.length-m) (p.drop m):=by
       by_cases e:c=m
       .refine⟨_,if_pos e,?_⟩;have h0:p.drop m=[]:=List.drop_eq_nil_of_le (by omega);rw[h0];exact⟨by show p.length-m=0;omega,Or.inl rfl⟩
       .refine⟨_,if_neg e,?_⟩;obtain⟨a2,c2,e2,-,-,ap⟩:=b0.o.at;cases e2;have h:=ap.drop m (p.length-m) (by omega);simp only[show Dm.k=7 from rfl,Nat.zero_add] at h;exact h
      have cr:=X bq;have bh:=X (show p.length<=100000 by omega)
      have cz:(m:Int)<=(c:Int):=(by omega)
      have cy:(m:Int)<=(p.length:Int):=(by omega)
      have c0:(p.length:Int)<=(c:Int):=(by omega)
      clear a5 a6 bq;go_wp2_with fail;refine Aca (fun _ w'=>Fp [] w6 w') RQ (by kernel_rfl) (by kernel_rfl) (Fp.drew _) ?_;apply Tz (T0 w6.heap.size) rfl rfl rfl
      .intro b a w s d K t;simp only[Oper.wp,execOp];go_simp;exact t _ _ (s.alloc' _) (RQ.calm (by decide) (Fp.alloc _ _)) (Or.inr (Or.inr (Or.inr ⟨_,rfl,s.size,Ai rfl _⟩)))
      apply N5 (fun _ _ h=>h) rfl rfl rfl
      .intro b a w s d K t;have h3:=d.free 3 _ (by kernel_rfl) rfl;simp only[Oper.wp,execOp];go_simp;exact t _ s (RQ.calm (by decide) (Fp.refl _ _))
      apply N5 (fun _ _ h=>h) rfl rfl rfl
      .intro b a w s d K t;have h5:=d.free 5 _ (by kernel_rfl) rfl;simp only[Oper.wp,execOp];go_simp;exact t _ s (RQ.calm (by decide) (Fp.refl _ _))
      apply N5 (fun _ _ h=>h) rfl rfl rfl
      .intro b a w s d K t;have dc:a.tmps[46]?.getD undef=_ :=d.dep 1 46 _ (by kernel_rfl) rfl;have db:a.tmps[47]?.getD undef=_ :=d.dep 2 47 _ (by kernel_rfl) rfl;simp only[Oper.wp,execOp];go_simp;exact t _ s (RQ.calm (by decide) (Fp.refl _ _))
      apply Tz (T4 w6.heap.size (p.take m)) rfl rfl rfl
      .intro b a w s d K t;have cl:=d.dep 0 45 _ (by kernel_rfl) rfl;have ck:a.tmps[48]?.getD undef=_ :=d.dep 3 48 _ (by kernel_rfl) rfl;have n5:=d.adm.self;have aj:=d.adm.post 10 (by kernel_rfl);have ai:=nR d.adm (j:=14) (k:=10) (by kernel_rfl) aj;rcases cl with z|z|z|⟨q,cn,hg,hh⟩
       .rw[n5] at z;cases z
       .rw[aj] at z;cases z
       .rw[ai] at z;cases z
       refine Vt (R:=Dm) 89 Tryz.underlying89 Tryz.infoRi rfl (by decide) _ _ rfl w6.heap.size _ [] (Ei cn) (Ag.emptyQ hg hh) _ _ _ _ (Ei ck) (co.o.fp s) (by have:=bh.o;simp only[a0v,a1v];omega) s.size ?_;intro v' w' ho af a4;exact t _ _ (s.belowTrans af) ⟨fun _=>⟨q,hh,a4⟩,fun h=>absurd rfl h⟩ (Or.inr (Or.inr ho))
      apply N5 (fun _ _ h=>h) rfl rfl rfl
      .intro b a w s d K t;have h0:=d.free 0 _ (by kernel_rfl) rfl;simp only[Oper.wp,execOp];go_simp;exact t _ s (RQ.calm (by decide) (Fp.refl _ _))
      apply N5 (fun _ _ h=>h) rfl rfl rfl
      .intro b a w s d K t;have h4:=d.free 4 _ (by kernel_rfl) rfl;simp only[Oper.wp,execOp];go_simp;exact t _ s (RQ.calm (by decide) (Fp.refl _ _))
      apply N5 (fun _ _ h=>h) rfl rfl rfl
      .intro b a w s d K t;have da:a.tmps[50]?.getD undef=_ :=d.dep 5 50 _ (by kernel_rfl) rfl;have c9:a.tmps[51]?.getD undef=_ :=d.dep 6 51 _ (by kernel_rfl) rfl;obtain⟨x0,x1,x2,x3,x4,x5,x6⟩:=aw.o _ s;simp only[Oper.wp,execOp];go_simp;exact t _ s (RQ.calm (by decide) (Fp.refl _ _))
      apply N5 (fun _ _ h=>h) rfl rfl rfl
      .intro b a w s d K t;have c8:a.tmps[52]?.getD undef=_ :=d.dep 7 52 _ (by kernel_rfl) rfl;obtain⟨x0,x1,x2,x3,x4,x5,x6⟩:=aw.o _ s;simp only[Oper.wp,execOp];go_simp;exact t _ s (RQ.calm (by decide) (Fp.refl _ _))
      apply Tz (T9 ⟨⟨E,I,A,xs,G,u⟩,J⟩) rfl rfl rfl
      .intro b a w s d K t;have c6:a.tmps[53]?.getD undef=_ :=d.dep 8 53 _ (by kernel_rfl) rfl;simp only[Oper.wp,execOp];go_simp;exact t _ _ (s.alloc' _) (RQ.calm (by decide) (Fp.alloc _ _)) (Or.inr (Or.inr ⟨_,rfl,Ai rfl _⟩))
      apply Tz (Vu w6.heap.size (p.take m++[⟨⟨E,I,A,xs,G,u⟩,J⟩])) rfl rfl rfl
      .intro b a w s d K t;have a8:=d.dep 4 49 _ (by kernel_rfl) rfl;have cj:=d.dep 9 54 _ (by kernel_rfl) rfl;have aj:=d.adm.self;have ai:=nR d.adm (j:=14) (k:=10) (by kernel_rfl) aj;rcases a8 with z|z|a8
       .rw[aj] at z;cases z
       .rw[ai] at z;cases z
       rcases cj with z|z|⟨q,cm,hg⟩
       .rw[aj] at z;cases z
       .rw[ai] at z;cases z
       refine Vt (R:=Dm) 89 Tryz.underlying89 Tryz.infoRi rfl (by decide) _ _ rfl w6.heap.size _ _ (Ei rfl) a8 _ _ _ [⟨⟨E,I,A,xs,G,u⟩,J⟩] (Ei cm) (Bj.one hg) (by have:=bh.o;simp only[a0v,a3v,a1v];omega) s.size ?_;intro v' w' ho af a4;exact t _ _ (s.belowTrans af) ⟨fun h=>absurd h (by decide),fun _ h=>absurd rfl h⟩ (Or.inr ho)
      apply N5 (fun _ _ h=>h) rfl rfl rfl
      .intro b a w s d K t;have h3:=d.free 3 _ (by kernel_rfl) rfl;simp only[Oper.wp,execOp];go_simp;exact t _ s (RQ.calm (by decide) (Fp.refl _ _))
      apply N5 (fun _ _ h=>h) rfl rfl rfl
      .intro b a w s d K t;have h5:=d.free 5 _ (by kernel_rfl) rfl;simp only[Oper.wp,execOp];go_simp;exact t _ s (RQ.calm (by decide) (Fp.refl _ _))
      apply N5 (fun _ _ h=>h) rfl rfl rfl
      .intro b a w s d K t;have c5:a.tmps[56]?.getD undef=_ :=d.dep 11 56 _ (by kernel_rfl) rfl;have c4:a.tmps[57]?.getD undef=_ :=d.dep 12 57 _ (by kernel_rfl) rfl;simp only[Oper.wp,execOp];go_simp;exact t _ s (RQ.calm (by decide) (Fp.refl _ _))
      apply Tz (Rm w6.heap.size (p.take m++[⟨⟨E,I,A,xs,G,u⟩,J⟩]++p.drop m)) rfl rfl rfl
      .intro b a w s d K t;have a7:=d.dep 10 55 _ (by kernel_rfl) rfl;have ch:a.tmps[58]?.getD undef=_ :=d.dep 13 58 _ (by kernel_rfl) rfl;have ai:=d.adm.self;rcases a7 with z|a7
       .rw[ai] at z;cases z
       refine Vt (R:=Dm) 89 Tryz.underlying89 Tryz.infoRi rfl (by decide) _ _ rfl w6.heap.size _ _ (Ei rfl) a7 _ _ _ (p.drop m) (Ei ch) (cr.o.fp s) (by have:=bh.o;simp only[a2w,a0v,a1w,a3v,a1v];omega) s.size ?_;intro v' w' ho af a4;exact t _ _ (s.belowTrans af) ⟨fun h=>absurd h (by decide),fun _ _ h=>absurd rfl h⟩ ho
      apply Tz (Rm w6.heap.size (p.take m++[⟨⟨E,I,A,xs,G,u⟩,J⟩]++p.drop m)) rfl rfl rfl
      .intro b a w s d K t;have cg:=d.dep 14 59 _ (by kernel_rfl) rfl;simp only[Oper.wp,execOp];go_simp;exact t _ _ s (RQ.calm (by decide) (Fp.refl _ _)) cg
      refine⟨?_,?_⟩
      .refine⟨fun b i w w' v h h0 hr hs=>Rm.stab h (by kernel_rfl) (by kernel_rfl) (h.closed 15 14 h0 (by kernel_rfl)) hr hs,?_⟩;refine⟨fun b i w w' v h h0 hr hs=>Rm.stab h (by kernel_rfl) (by kernel_rfl) h0 hr hs,?_⟩;refine N0 _ ?_;refine N0 _ ?_;refine N0 _ ?_;refine⟨fun b i w w' v h h0 hr hs=>Vu.stab h (by kernel_rfl) h0 hr hs,?_⟩;refine⟨fun b i w w' v h h0 hr hs=>T9.stab h hr hs,?_⟩;refine N0 _ ?_;refine N0 _ ?_;refine N0 _ ?_;refine N0 _ ?_;refine⟨fun b i w w' v h h0 hr hs=>T4.stab h h0 hr hs,?_⟩;refine N0 _ ?_;refine N0 _ ?_;refine N0 _ ?_;refine⟨fun b i w w' v h h0 hr hs=>T0.stab h hr hs,?_⟩;exact trivial
      .intro w7 bb s ce;simp only[a1x,List.reverse_nil,List.nil_append,List.cons_append,List.map_cons,List.map_nil];refine As ?_;intro v0 u0
       iterate 3 (refine A2 ?_)
       refine As ?_;intro v4 u4
       iterate 4 (refine A2 ?_)
       refine As ?_;intro v9 u9;refine As ?_;intro cu u10
       iterate 3 (refine A2 ?_)
       refine As ?_;intro ct u14;refine As ?_;intro b4 u15;refine C7 ?_;simp only[Aj,Act.put,Y,Z,a0z];clear u0 u4 u9 u10 u14 ce;have u15':Ag Dm w7 w6.heap.size b4 (p.take m++[⟨⟨E,I,A,xs,G,u⟩,J⟩]++p.drop m):=u15;obtain⟨g7,c7,cs,e7,-,-,-,-,-,-⟩:=u15'.open (by simp;omega);have b5:=N.o.size;have bg:=X (u15'.mono (a0u cd b5));have ar:=X ((HF.o.trans N.o).trans s);subst e7;have b2:=X (show(p.take m++([⟨⟨E,I,A,xs,G,u⟩,J⟩]:List Ad)++p.drop m).length<=k+1 by simp only[a2w,a0v,a1w,a3v,a1v];omega);clear s u15 u15';go_wp2_with fail
       go_roundg (gk-1)
       case measure=>omega
       case rel=>exact⟨k+1,g7,c7,_,by omega,rfl,by go_num,bw.o,b2.o,bg.o,ar.o⟩
     .obtain⟨hm,az⟩:=a5 rfl
      have zm:(m:Int)<(p.length:Int):=(by omega)
      have L:=fun w' (h:Fp [] w6 w')=>Rk ((HO.o.fp (N.o.trans h (by simp))).elem hm).1;simp only[show Dm.k=7 from rfl] at L;have al:=fun h=>Acs bd.o br.o HR.o hm az h;have am:=fun h=>Acr (x:=⟨⟨E,I,A,xs,G,u⟩,J⟩) HR.o hm az h bf.o;rw[<-bs.o] at al am;obtain⟨y,hy⟩:=Aa (p[m]);rw[hy] at L al am;obtain⟨⟨yr,yc,yt,ys,yd,yv⟩,yp⟩:=y;simp only at L al am;have V:=X L;have ba:=X al;have bc:=X am;clear a5 a6 az L al am hy;go_wp2_with fail;refine Bo (by kernel_rfl) (by kernel_rfl) ?_
      iterate 11
       apply A1 rfl rfl rfl
       .intro a w s d K t;have:=d.f 0;have:=d.f 4;have:=d.f 3;have:=d.f 5;(try have:=d.e 0 78);(try have:=d.e 1 79);(try have:=d.e 2 80);(try have:=d.e 3 81);(try have:=d.e 5 83);(try have:=d.e 6 84);(try have:=d.e 7 85);(try have:=d.e 8 86);(try have:=d.e 4 82);(try have:=d.e 9 87);obtain⟨y0,y1,y2,y3,y4,y5,y6⟩:=V.o _ s;obtain⟨x0,x1,x2,x3,x4,x5,x6⟩:=aw.o _ s;simp only[Oper.wp,execOp];go_simp;exact t _ s (Fp.refl _ _)
      refine Bn ?_
      iterate 11 refine Bm ?_
      refine Bl fun w' s=>?_
      .simp only[Aj,Act.put,Y,Z,a0z];by_cases cv:yp<J
       .have av:=HO.o.fp (N.o.trans s (by simp));obtain⟨y0,y1,y2,y3,y4,y5,y6⟩:=V.o _ s;obtain⟨x0,x1,x2,x3,x4,x5,x6⟩:=aw.o _ s;have hz:=(av.elem hm).2.1;have z0:=hz (m*7);have z1:=hz (m*7+1);have z2:=hz (m*7+2);have z3:=hz (m*7+3);have z4:=hz (m*7+4);have z5:=hz (m*7+5);have z6:=hz (m*7+6);have cc:=(av.elem hm).2.2.1;have bt:=X (av.setQ (⟨⟨E,I,A,xs,G,u⟩,J⟩:Ad) hm);have ar:=X ((HF.o.trans N.o).trans s);have bv:=X (ba.o (by omega));clear s hz av bc ba;go_wp2_with fail
        go_roundg (gk-1)
        case measure=>omega
        case rel=>exact⟨k+1,g,c,p.set m ⟨⟨E,I,A,xs,G,u⟩,J⟩,by omega,by rw[List.length_set],by go_num,bv.o,by rw[List.length_set];omega,bt.o.1,ar.o.trans bt.o.2 (by intro i hi;right;rw[List.mem_singleton.1 hi];exact cc)⟩
       .have ar:=X ((HF.o.trans N.o).trans s);have bg:=X (HO.o.fp (N.o.trans s (by simp)));have bx:=X (bc.o (by omega));clear s bc ba;go_wp2_with fail
        go_roundg (gk-1)
        case measure=>omega
        case rel=>exact⟨k+1,g,c,p,by omega,rfl,by go_num,bx.o,by omega,bg.o,ar.o⟩
  .have zk:¬(k:Int)<(n:Int):=(by omega)
   have b9:k=l.length:=by have:=b3.o;omega
   have a1:=HR.o;rw[b9,List.take_length] at a1;have cp:=X a1;clear a1;go_wp2_with fail;go_ret;exact⟨_,rfl,p,cp.o,HO.o,HF.o⟩
end
structure Lc(x y n:Nat)(l l':List Ad):Prop where
 perm:l'.Perm l
 pt:∀p,Af l' p=if x<=p/\p<x+n then Af l (p-x+y) else if y<=p/\p<y+n then Af l (p-y+x) else Af l p
theorem Lc.nil(x y:Nat)(l:List Ad):Lc x y 0 l l:=⟨List.Perm.refl _,fun p=>by rw[if_neg (by omega),if_neg (by omega)]⟩
theorem Lc.step{x y n:Nat}{l m:List Ad}(h:Lc x y n l m)(g:x+n+1<=y)(d:y+n<m.length):Lc x y (n+1) l (I4 m (x+n) (y+n)):=by
 refine⟨(Xl (by omega) d).trans h.perm,fun p=>?_⟩;rw[I5 p (by omega) d];simp only[h.pt]
 repeat' split
 all_goals first|rfl|(simp at*;done)|(congr 1<;>omega)|(exfalso;omega)
theorem Lc.len{x y n:Nat}{l d:List Ad}(h:Lc x y n l d):d.length=l.length:=h.perm.length_eq
structure Gh(a m b:Nat)(l l':List Ad):Prop where
 perm:l'.Perm l
 pt:∀p,Af l' p=if a<=p/\p<a+(b-m) then Af l (p+(m-a)) else if a+(b-m)<=p/\p<b then Af l (p-(b-m)) else Af l p
theorem Gh.len{a m b:Nat}{l d:List Ad}(h:Gh a m b l d):d.length=l.length:=h.perm.length_eq
theorem Gh.none{a b:Nat}(l:List Ad)(d:a≤b):Gh a a b l l∧Gh a b b l l:=by
 refine⟨⟨List.Perm.refl _,fun p=>?_⟩,⟨List.Perm.refl _,fun p=>?_⟩⟩
 .by_cases h:a<=p/\p<a+(b-a)
  .rw[if_pos h];congr 1;omega
  .rw[if_neg h,if_neg (by omega)]
 .rw[if_neg (by omega)];by_cases h:a+(b-b)<=p/\p<b
  .rw[if_pos h];congr 1;omega
  .rw[if_neg h]
theorem Gh.big{m i j:Nat}{l l1 L:List Ad}(k:i<=m)(g:j<i)(d:Lc (m-i) m j l l1)(h:Gh (m-(i-j)) m (m+j) l1 L):Gh (m-i) m (m+j) l L:=by
 refine⟨h.perm.trans d.perm,fun p=>?_⟩;simp only[h.pt,d.pt]
 repeat' split
 all_goals first|rfl|(simp at*;done)|(congr 1<;>omega)|(exfalso;omega)
theorem Gh.small{m i j:Nat}{l l1 L:List Ad}(k:i<=m)(g:i<j)(d:Lc (m-i) (m+j-i) i l l1)(h:Gh (m-i) m (m+(j-i)) l1 L):Gh (m-i) m (m+j) l L:=by
 refine⟨h.perm.trans d.perm,fun p=>?_⟩;simp only[h.pt,d.pt]
 repeat' split
 all_goals first|rfl|(simp at*;done)|(congr 1<;>omega)|(exfalso;omega)
theorem Gh.even{m i:Nat}{l L:List Ad}(g:i<=m)(d:Lc (m-i) m i l L):Gh (m-i) m (m+i) l L:=by
 refine⟨d.perm,fun p=>?_⟩;rw[d.pt]
 repeat' split
 all_goals first|rfl|(simp at*;done)|(congr 1<;>omega)|(exfalso;omega)
theorem Gh.turned{a m b:Nat}{l l':List Ad}(h:Gh a m b l l')(g:a≤m)(d:m≤b):Dl a b l l':=by
 refine⟨h.perm,fun p q=>?_,fun p k r=>?_⟩
 .rw[h.pt,if_neg (by omega),if_neg (by omega)]
 .by_cases j:p<a+(b-m)
  .exact⟨p+(m-a),by omega,by omega,by rw[h.pt,if_pos ⟨k,j⟩]⟩
  .exact⟨p-(b-m),by omega,by omega,by rw[h.pt,if_neg (by omega),if_pos (by omega)]⟩
def Qg(l:List Ad)(a m b:Nat):Prop:=∀p q,a<=p->p<m->m<=q->q<b->Aw (Af l p) (Af l q)
theorem B5.join{l:List Ad}{a m b:Nat}(r:B5 l a m)(k:B5 l m b)(j:Qg l a m b):B5 l a b:=by
 intro p q h d g;by_cases t:q<m
 .exact r p q h d t
 .by_cases s:m<=p
  .exact k p q s d g
  .exact j p q h (by omega) (by omega) g
theorem Qg.left{l d:List Ad}{a m b:Nat}(h:Qg l a m b)(g:Dl a m l d):Qg d a m b:=by
 intro p q y u t s;obtain⟨r,k,j,e⟩:=g.inn p y u;rw[e,g.o q (by omega)];exact h r q k j t s
theorem Qg.right{l d:List Ad}{a m b:Nat}(h:Qg l a m b)(g:Dl m b l d):Qg d a m b:=by
 intro p q y u t s;obtain⟨r,k,j,e⟩:=g.inn q t s;rw[e,g.o p (by omega)];exact h p r y u k j
structure nT(l:List Ad)(a m b mid n lo hi start:Nat):Prop where
 le0:lo<=start
 le1:start<=hi
 below:start=lo∨Aw (Af l (start-1)) (Af l (n-start))
 above:start=hi∨B8 (Af l (n-1-start)) (Af l start)<0
structure Yf(a m b mid n lo hi:Nat):Prop where
 am:a<m
 mb:m<b
 midE:mid=(a+b)/2
 nE:n=mid+m
 side:(mid<m/\lo=n-b/\hi=mid)∨(m<=mid/\lo=a/\hi=m)
theorem Yf.bounds{a m b mid n d g start:Nat}(h:Yf a m b mid n d g)(t:d<=start)(s:start<=g):a<=start/\start<=m/\start<=mid/\m<=n-start/\mid<=n-start/\n-start<=b/\start+(n-start-m)=mid/\a<mid/\mid<b:=by
 obtain⟨r,q,p,k,j⟩:=h;omega
theorem Acd{l l1:List Ad}{a m b mid n lo hi start:Nat}(d:Be l)(G:Yf a m b mid n lo hi)(h:nT l a m b mid n lo hi start)(t:B5 l a m)(s:B5 l m b)(u:Gh start m (n-start) l l1):
  B5 l1 a start/\B5 l1 start mid/\B5 l1 mid (n-start)/\B5 l1 (n-start) b/\Qg l1 a mid b:=by
 obtain⟨b1,b2,b3,b4,b5,b6,b7,b8,b9⟩:=G.bounds h.le0 h.le1
 have A:∀p,p<start->Af l1 p=Af l p:=fun p E=>by rw[u.pt,if_neg (by omega),if_neg (by omega)]
 have B:∀p,start<=p->p<mid->Af l1 p=Af l (p+(m-start)):=fun p E L=>by rw[u.pt,if_pos (by omega)]
 have C:∀p,mid<=p->p<n-start->Af l1 p=Af l (p-(n-start-m)):=fun p E L=>by rw[u.pt,if_neg (by omega),if_pos (by omega)]
 have D:∀p,n-start<=p->Af l1 p=Af l p:=fun p E=>by rw[u.pt,if_neg (by omega),if_neg (by omega)]
 refine⟨fun p q j r g=>?_,fun p q j r g=>?_,fun p q j r g=>?_,fun p q j r g=>?_,fun p q j r g K=>?_⟩
 .rw[A p (by omega),A q g];exact t p q j r (by omega)
 .rw[B p j (by omega),B q (by omega) g];exact s _ _ (by omega) (by omega) (by omega)
 .rw[C p j (by omega),C q (by omega) g];exact t _ _ (by omega) (by omega) (by omega)
 .rw[D p j,D q (by omega)];exact s _ _ (by omega) r g
 .by_cases V:p<start
  .rw[A p V];by_cases J:q<n-start
   .rw[C q g J];exact t _ _ j (by omega) (by omega)
   .rw[D q (by omega)];have k:start≠lo:=by
     intro e;obtain⟨U,Q,O,N,M⟩:=G;omega
    have I:=h.below.resolve_left k;have z:Aw (Af l p) (Af l (start-1)):=by
     by_cases e:p=start-1
     .rw[e];exact a1u (Oq (d.at _))
     .exact t _ _ j (by omega) (by omega)
    have y:Aw (Af l (n-start)) (Af l q):=by
     by_cases e:q=n-start
     .rw[e];exact a1u (Oq (d.at _))
     .exact s _ _ (by omega) (by omega) K
    exact Aw.trans (d.at _) (d.at _) (d.at _) (Aw.trans (d.at _) (d.at _) (d.at _) z I) y
  .rw[B p (by omega) r];by_cases J:q<n-start
   .rw[C q g J];have k:start≠hi:=by
     intro e;obtain⟨U,Q,O,N,M⟩:=G;omega
    have I:=Aw.lt (h.above.resolve_left k);have z:Aw (Af l (p+(m-start))) (Af l (n-1-start)):=by
     by_cases e:p+(m-start)=n-1-start
     .rw[e];exact a1u (Oq (d.at _))
     .exact s _ _ (by omega) (by omega) (by omega)
    have y:Aw (Af l start) (Af l (q-(n-start-m))):=by
     by_cases e:q-(n-start-m)=start
     .rw[e];exact a1u (Oq (d.at _))
     .exact t _ _ (by omega) (by omega) (by omega)
    exact Aw.trans (d.at _) (d.at _) (d.at _) (Aw.trans (d.at _) (d.at _) (d.at _) z I) y
   .rw[D q (by omega)];exact s _ _ (by omega) (by omega) K
structure Ld(a k:Nat)(l l':List Ad):Prop where
 perm:l'.Perm l
 pt:∀p,Af l' p=if a<=p/\p<k then Af l (p+1) else if p=k then Af l a else Af l p
theorem Ld.nil(a:Nat)(l:List Ad):Ld a a l l:=⟨List.Perm.refl _,fun p=>by
 rw[if_neg (by omega)];by_cases e:p=a
 .rw[if_pos e,e]
 .rw[if_neg e]⟩
theorem Ld.len{a k:Nat}{l d:List Ad}(h:Ld a k l d):d.length=l.length:=h.perm.length_eq
theorem Ld.step{a k:Nat}{l m:List Ad}(h:Ld a k l m)(g:a<=k)(d:k+1<m.length):Ld a (k+1) l (I4 m k (k+1)):=by
 refine⟨(Xl (by omega) d).trans h.perm,fun p=>?_⟩;rw[I5 p (by omega) d];simp only[h.pt]
 repeat' split
 all_goals first|rfl|(simp at*;done)|(congr 1<;>omega)|(exfalso;omega)
theorem Ld.turned{a k b:Nat}{l l':List Ad}(h:Ld a k l l')(r:a≤k)(s:k<b):Dl a b l l':=by
 refine⟨h.perm,fun p q=>by rw[h.pt,if_neg (by omega),if_neg (by omega)],fun p m j=>?_⟩;rw[h.pt];by_cases g:a<=p/\p<k
 .rw[if_pos g];exact⟨p+1,by omega,by omega,rfl⟩
 .rw[if_neg g];by_cases d:p=k
  .rw[if_pos d];exact⟨a,by omega,by omega,rfl⟩
  .rw[if_neg d];exact⟨p,m,j,rfl⟩
theorem Ld.sort{a i b:Nat}{l t:List Ad}(d:Be l)(h:Ld a (i-1) l t)(G:a+1≤i)(j:B5 l (a+1) b)(k:i=a+1∨B8 (Af l (i-1)) (Af l a)<0)(g:i=b∨0≤B8 (Af l i) (Af l a))(A:i≤b):B5 t a b:=by
 intro p q I E r;rw[h.pt p,h.pt q];by_cases K:p<i-1
 .rw[if_pos (by omega)];by_cases J:q<i-1
  .rw[if_pos (by omega)];exact j _ _ (by omega) (by omega) (by omega)
  .rw[if_neg (by omega)];by_cases m:q=i-1
   .rw[if_pos m];have u:=Aw.lt (k.resolve_left (by omega));by_cases s:p+1=i-1
    .rw[s];exact u
    .exact Aw.trans (d.at _) (d.at _) (d.at _) (j (p+1) (i-1) (by omega) (by omega) (by omega)) u
   .rw[if_neg m];exact j _ _ (by omega) (by omega) r
 .rw[if_neg (by omega)];by_cases m:p=i-1
  .rw[if_pos m,if_neg (by omega),if_neg (by omega)];have z:=Aw.not (x:=Af l i) (y:=Af l a) (d.at _) (d.at _) (by have:=g.resolve_left (by omega);omega);by_cases s:q=i
   .rw[s];exact z
   .exact Aw.trans (d.at _) (d.at _) (d.at _) z (j i q (by omega) (by omega) r)
  .rw[if_neg m,if_neg (by omega),if_neg (by omega)];exact j _ _ (by omega) E r
structure Le(m k:Nat)(l l':List Ad):Prop where
 perm:l'.Perm l
 pt:∀p,Af l' p=if p=k then Af l m else if k<p/\p<=m then Af l (p-1) else Af l p
theorem Le.nil(m:Nat)(l:List Ad):Le m m l l:=⟨List.Perm.refl _,fun p=>by
 by_cases e:p=m
 .rw[if_pos e,e]
 .rw[if_neg e,if_neg (by omega)]⟩
theorem Le.len{m k:Nat}{l d:List Ad}(h:Le m k l d):d.length=l.length:=h.perm.length_eq
theorem Le.step{m k:Nat}{l r:List Ad}(h:Le m k l r)(g:k<=m)(j:0<k)(d:k<r.length):Le m (k-1) l (I4 r k (k-1)):=by
 refine⟨(Xl d (by omega)).trans h.perm,fun p=>?_⟩;rw[I5 p d (by omega)];simp only[h.pt]
 repeat' split
 all_goals first|rfl|(simp at*;done)|(congr 1<;>omega)|(exfalso;omega)
theorem Le.turned{a m k:Nat}{l l':List Ad}(h:Le m k l l')(s:a≤k)(t:k≤m):Dl a (m+1) l l':=by
 refine⟨h.perm,fun p r=>by rw[h.pt,if_neg (by omega),if_neg (by omega)],fun p q j=>?_⟩;rw[h.pt];by_cases d:p=k
 .rw[if_pos d];exact⟨m,by omega,by omega,rfl⟩
 .rw[if_neg d];by_cases g:k<p/\p<=m
  .rw[if_pos g];exact⟨p-1,by omega,by omega,rfl⟩
  .rw[if_neg g];exact⟨p,q,j,rfl⟩
theorem Le.sort{a i m:Nat}{l u:List Ad}(d:Be l)(h:Le m i l u)(J:a≤i)(E:i≤m)(j:B5 l a m)(k:i=a∨0≤B8 (Af l m) (Af l (i-1)))(g:i=m∨B8 (Af l m) (Af l i)<0):B5 u a (m+1):=by
 intro p q s G K;rw[h.pt p,h.pt q];by_cases M:p<i
 .rw[if_neg (by omega),if_neg (by omega)];by_cases r:q=i
  .rw[if_pos r];have z:=Aw.not (x:=Af l m) (y:=Af l (i-1)) (d.at _) (d.at _) (by have:=k.resolve_left (by omega);omega);by_cases t:p=i-1
   .rw[t];exact z
   .exact Aw.trans (d.at _) (d.at _) (d.at _) (j p (i-1) s (by omega) (by omega)) z
  .rw[if_neg r];by_cases L:i<q
   .rw[if_pos (by omega)];by_cases I:p=q-1
    .rw[I];exact a1u (Oq (d.at _))
    .exact j _ _ s (by omega) (by omega)
   .rw[if_neg (by omega)];exact j _ _ s G (by omega)
 .by_cases r:p=i
  .rw[if_pos r,if_neg (by omega),if_pos (by omega)];have A:=Aw.lt (g.resolve_left (by omega));by_cases t:q-1=i
   .rw[t];exact A
   .exact Aw.trans (d.at _) (d.at _) (d.at _) A (j i (q-1) (by omega) (by omega) (by omega))
  .rw[if_neg r,if_pos (by omega),if_neg (by omega),if_pos (by omega)];exact j _ _ (by omega) (by omega) (by omega)
section
open Go.RowKit Go.Lib
theorem Ace(w:World)(base g n cap x y m:Nat)(l:List Ad)(L:Ag A8 w base (.slice (some ⟨g,0,none⟩) n cap) l)(aj:x+m≤y)(U:y+m≤l.length)(hn:l.length≤1000000):
  Calls Tryz.prog 300 #[.slice (some ⟨g,0,none⟩) n cap,.int .i64 x,.int .i64 y,.int .i64 m,.func (.func 217) #[] #[]] w fun e w'=>e=.returned (.tuple #[])/\(∃M,Lc x y m l M/\Ag A8 w' base (.slice (some ⟨g,0,none⟩) n cap) M)/\Fp [g] w w':=by
 have HO:=X L;have hm:l.length=n:=by
  obtain⟨a',c',e,-⟩:=L.len;cases e;rfl
 have HM:=X hm;rw[hm] at U hn;clear L hm;go_in;go_wp2_with fail
 go_loopg [10] m (fun gg vk wr=>∃(k:Nat) (M:List Ad),vk=.int .i64 k/\gg+k=m/\Lc x y k l M/\Ag A8 wr base (.slice (some ⟨g,0,none⟩) n cap) M/\Fp [g] w wr)
 case atStart=>exact⟨0,l,by simp,by omega,Lc.nil _ _ _,HO.o,Fp.refl _ _⟩
 case round=>
  obtain⟨k,z,rfl,al,V,L,hf⟩:=hrel;have J:Hid (z.length=n):=V.len.trans HM.o;have HS:=X V;have I:=X L;have O:=X hf;clear V L hf;by_cases hk:k<m
  .have zk:(k:Int)<(m:Int):=(by omega)
   have n1:IntKind.i64.wrap ((x:Int)+(k:Int))=((x+k:Nat):Int):=(by rw[a0x];omega)
   have n2:IntKind.i64.wrap ((y:Int)+(k:Int))=((y+k:Nat):Int):=(by rw[a0x];omega)
   have n3:IntKind.i64.wrap ((k:Int)+1)=((k+1:Nat):Int):=(by rw[a0x];omega)
   have q:=HS.o.step (by omega) (by rw[J.o];omega);obtain⟨i,Q⟩:=Aa (x+k);obtain⟨j,hj⟩:=Aa (y+k);rw[Q] at n1 q;rw[hj] at n2 q;have ab:=X q
   have u:i<z.length:=(by rw[J.o];omega)
   have t:j<z.length:=(by rw[J.o];omega)
   obtain⟨-,-,-,ak,-,-⟩:=I.o.elem t
   have ag:(i:Int)<(n:Int):=(by omega)
   have af:(j:Int)<(n:Int):=(by omega)
   have aa:i≠j:=(by omega)
   obtain⟨xx,hx⟩:=Aa (Af z i);obtain⟨yy,hy⟩:=Aa (Af z j);have HX:=X hx;have HY:=X hy;obtain⟨⟨xr,xc,xt,xs,xd,xv⟩,xp⟩:=xx;obtain⟨⟨yr,yc,yt,ys,yd,yv⟩,yp⟩:=yy;clear Q hj hx hy q;go_wp2_with fail;refine E3 (fun bb w'=>J6 wr base g n cap z i j 21 23 bb w') (fun _ _=>True) (by kernel_rfl) (by kernel_rfl) ⟨I.o.kept (fun k hk=>rfl),(Fp.drew _).mono (by simp)⟩ ?_
   iterate 13
    apply A3 (fun _ _ h=>h.plain (by decide)) rfl rfl rfl
    .intro b a w p d K s;have:=d.f 0;have:=d.f 1;have:=d.f 10;have:=d.f 2;(try have:=d.e 1 17);(try have:=d.e 2 18);(try have:=d.e 5 21);(try have:=d.e 6 22);(try have:=d.e 9 25);(try have:=d.e 10 26);(try have:=d.e 8 24);(try have:=d.e 11 27);simp only[Oper.wp,execOp];go_simp;exact s _ p trivial
   apply A3 (fun _ _ h=>h.plain (by decide)) rfl rfl rfl
   .intro b a w p d K s;have ar:=d.e 12 28;obtain⟨b0,b1,b2,b3,b4,b5,b6⟩:=Qh (p.first (d.post 21 (by kernel_rfl)) (d.post 23 (by kernel_rfl))) t HY.o;simp only at b0 b1 b2 b3 b4 b5 b6;simp only[Oper.wp,execOp];go_simp;exact s _ p trivial
   iterate 5
    apply A3 (fun _ _ h=>h.plain (by decide)) rfl rfl rfl
    .intro b a w p d K s;have:=d.f 0;have:=d.f 1;have:=d.f 10;(try have:=d.e 15 31);(try have:=d.e 16 32);(try have:=d.e 14 30);(try have:=d.e 17 33);simp only[Oper.wp,execOp];go_simp;exact s _ p trivial
   apply A3 (fun _ _ h=>h.plain (by decide)) rfl rfl rfl
   .intro b a w p d K s;have ap:=d.e 18 34;obtain⟨a0,a1,a2,a3,a4,a5,a6⟩:=Qh (p.first (d.post 21 (by kernel_rfl)) (d.post 23 (by kernel_rfl))) u HX.o;simp only at a0 a1 a2 a3 a4 a5 a6;simp only[Oper.wp,execOp];go_simp;exact s _ p trivial
   apply A3 (fun _ _ h=>h.plain (by decide)) rfl rfl rfl
   .intro b a w p d K s;have ax:=d.e 0 16;have aw:=d.e 3 19;simp only[Oper.wp,execOp];go_simp;exact s _ p trivial
   apply F3 (fun _=>True) rfl rfl
   .intro b a w p d K s;have an:=d.e 20 36;have aq:=d.e 13 29;obtain⟨a0,a1,a2,a3,a4,a5,a6⟩:=Gx p.own (i:=i) (by rw[Iq];exact u);obtain⟨-,r,-,-,-,-⟩:=p.own.elem (i:=i) (by rw[Iq];exact u);have z0:=r (i*7);have z1:=r (i*7+1);have z2:=r (i*7+2);have z3:=r (i*7+3);have z4:=r (i*7+4);have z5:=r (i*7+5);have z6:=r (i*7+6);have q:=p.storeP d.self u aa (by decide);rw[HY.o] at q;clear r;simp only[Oper.wp,execOp];go_simp;exact s undef _ q trivial trivial
   apply A3 (fun _ _ h=>h.plain (by decide)) rfl rfl rfl
   .intro b a w p d K s;have av:=d.e 4 20;have au:=d.e 7 23;simp only[Oper.wp,execOp];go_simp;exact s _ p trivial
   apply F3 (fun _=>True) rfl rfl
   .intro b a w p d K s;have am:=d.e 22 37;have ao:=d.e 19 35;obtain⟨a0,a1,a2,a3,a4,a5,a6⟩:=Gx p.own (i:=j) (by rw[Iq];exact t);obtain⟨-,r,-,-,-,-⟩:=p.own.elem (i:=j) (by rw[Iq];exact t);have z0:=r (j*7);have z1:=r (j*7+1);have z2:=r (j*7+2);have z3:=r (j*7+3);have z4:=r (j*7+4);have z5:=r (j*7+5);have z6:=r (j*7+6);have q:=p.storeQ d.self t (by decide);rw[HX.o] at q;clear r;simp only[Oper.wp,execOp];go_simp;exact s undef _ q trivial trivial
   refine⟨?_,?_⟩
   .refine⟨fun _ _ _ _ _=>trivial,?_⟩;refine Cb _ ?_;refine⟨fun _ _ _ _ _=>trivial,?_⟩
    iterate 21 refine Cb _ ?_
    exact trivial
   .intro w' bb p G;simp only[a1x,List.reverse_nil,List.nil_append,List.cons_append]
    iterate 21 (refine A2 ?_)
    refine As ?_;intro ai u21
    iterate 1 (refine A2 ?_)
    refine As ?_;intro ah u23;refine C7 ?_;simp only[Aj,Act.put,Y,Z,a0z];have E:=p.own;rw[Yg (G 21 (by simp)) (G 23 (by simp))] at E;have ad:=X E;have ae:=X (O.o.trans p.fp (by intro i Q;exact Or.inl Q));clear p G E u21 u23;go_wp2_with fail
    go_roundg (m-(k+1))
    case measure=>omega
    case rel=>exact⟨k+1,_,rfl,by omega,ab.o,ad.o,ae.o⟩
  .have zk:¬(k:Int)<(m:Int):=(by omega)
   have N:k=m:=(by omega)
   have A:=HS.o;rw[N] at A;have ac:=X A;clear A N;go_wp2_with fail;go_end0;exact⟨rfl,⟨z,ac.o,I.o⟩,O.o⟩
theorem Acf(w:World)(base g n cap a m b:Nat)(l:List Ad)(K:Ag A8 w base (.slice (some ⟨g,0,none⟩) n cap) l)(ap:a<m)(ao:m<b)(hb:b≤l.length)(hn:l.length≤1000000):
  Calls Tryz.prog 298 #[.slice (some ⟨g,0,none⟩) n cap,.int .i64 a,.int .i64 m,.int .i64 b,.func (.func 217) #[] #[]] w fun e w'=>e=.returned (.tuple #[])/\(∃l',Gh a m b l l'/\Ag A8 w' base (.slice (some ⟨g,0,none⟩) n cap) l')/\Fp [g] w w':=by
 have HO:=X K;have hm:l.length=n:=by
  obtain⟨a',c',e,-⟩:=K.len;cases e;rfl
 have HM:=X hm;rw[hm] at hb hn;clear K hm;have Q:=X (fun w x y m l K ag af hn=>Ace w base g n cap x y m l K ag af hn)
 have n1:IntKind.i64.wrap ((m:Int)-(a:Int))=((m-a:Nat):Int):=by rw[a0x];omega
 have n2:IntKind.i64.wrap ((b:Int)-(m:Int))=((b-m:Nat):Int):=by rw[a0x];omega
 go_in;go_wp2_with fail
 go_loopg [10,11] (b-a) (fun gg vi vj wr=>∃(i j:Nat) (l':List Ad),vi=.int .i64 i/\vj=.int .i64 j/\gg=i+j/\0<i/\0<j/\i<=m/\m+j<=n/\l'.length=n/\(∀L,Gh (m-i) m (m+j) l' L->Gh a m b l L)/\Ag A8 wr base (.slice (some ⟨g,0,none⟩) n cap) l'/\Fp [g] w wr)
 case atStart=>exact⟨m-a,b-m,l,rfl,rfl,by omega,by omega,by omega,by omega,by omega,HM.o,fun L h=>by rw[show m-(m-a)=a by omega,show m+(b-m)=b by omega] at h;exact h,HO.o,Fp.refl _ _⟩
 case round=>
  clear n1 n2;obtain⟨i,j,l2,rfl,rfl,ab,al,aj,I,ai,aa,J,K,hf⟩:=hrel;have u:=X aa;have HR:=X J;have U:=X K;have V:=X hf;have ae:=X ab;clear aa J K hf ab
  have n3:IntKind.i64.wrap ((m:Int)-(i:Int))=((m-i:Nat):Int):=by rw[a0x];omega
  by_cases ak:i=j
  .subst ak;obtain⟨p,A⟩:=Aa (m-i);rw[A] at n3;have HP:=X A;have d:=X (Q.o wr p m i l2 U.o (by omega) (by rw[u.o];omega) (by rw[u.o];omega));clear A;go_wp2_with fail;refine d.o.mono ?_;rintro e w3 ⟨rfl,⟨M,k,s⟩,t⟩;have z:=X k;have E:=X s;have G:=X t;clear k s t;go_wp2_with fail;go_end0;refine⟨rfl,⟨M,HR.o _ (Gh.even I ?_),E.o⟩,V.o.trans G.o (by intro i hi;exact Or.inl hi)⟩;rw[HP.o];exact z.o
  .have ah:¬(i:Int)=(j:Int):=(by omega)
   have an:((i:Int)==(j:Int))=false:=(by simpa using ah)
   by_cases am:j<i
   .have zg:(i:Int)>(j:Int):=(by omega)
    have n4:IntKind.i64.wrap ((i:Int)-(j:Int))=((i-j:Nat):Int):=(by rw[a0x];omega)
    obtain⟨p,A⟩:=Aa (m-i);rw[A] at n3;have HP:=X A;have d:=X (Q.o wr p m j l2 U.o (by omega) (by rw[u.o];omega) (by rw[u.o];omega));obtain⟨i2,O⟩:=Aa (i-j);rw[O] at n4;have ad:=X O;clear A O;go_wp2_with fail;refine d.o.mono ?_;rintro e w3 ⟨rfl,⟨M,k,s⟩,t⟩;have z:=X k;have E:=X s;have G:=X t;clear k s t;go_wp2_with fail
    go_roundg (i2+j)
    case measure=>have:=ae.o;have:=ad.o;omega
    case rel=>
     have h2:=ad.o;refine⟨i2,j,M,rfl,rfl,rfl,by omega,aj,by omega,ai,z.o.len.trans u.o,fun L h=>HR.o L (Gh.big (l1:=M) I am ?_ ?_),E.o,V.o.trans G.o (by intro i hi;exact Or.inl hi)⟩
     .rw[HP.o];exact z.o
     .rw[h2];exact h
   .have zg:¬(i:Int)>(j:Int):=(by omega)
    have n4:IntKind.i64.wrap ((j:Int)-(i:Int))=((j-i:Nat):Int):=(by rw[a0x];omega)
    have n5:IntKind.i64.wrap ((m:Int)+(j:Int))=((m+j:Nat):Int):=(by rw[a0x];omega)
    have n6:IntKind.i64.wrap (((m+j:Nat):Int)-(i:Int))=((m+j-i:Nat):Int):=(by rw[a0x];omega)
    obtain⟨p,A⟩:=Aa (m-i);rw[A] at n3;have HP:=X A;have d:=X (Q.o wr p (m+j-i) i l2 U.o (by omega) (by rw[u.o];omega) (by rw[u.o];omega));obtain⟨q,hq⟩:=Aa (m+j-i);obtain⟨r,hr⟩:=Aa (m+j);obtain⟨j2,N⟩:=Aa (j-i);rw[hq] at n6 d;rw[hr] at n5 n6;rw[N] at n4;have HQ:=X hq;have ac:=X N;clear A hq hr N;go_wp2_with fail;refine d.o.mono ?_;rintro e w3 ⟨rfl,⟨M,k,s⟩,t⟩;have z:=X k;have E:=X s;have G:=X t;clear k s t;go_wp2_with fail
    go_roundg (i+j2)
    case measure=>have:=ae.o;have:=ac.o;omega
    case rel=>
     have h2:=ac.o;refine⟨i,j2,M,rfl,rfl,rfl,al,by omega,I,by omega,z.o.len.trans u.o,fun L h=>HR.o L (Gh.small (l1:=M) I (by omega) ?_ ?_),E.o,V.o.trans G.o (by intro i hi;exact Or.inl hi)⟩
     .rw[HP.o,HQ.o];exact z.o
     .rw[h2];exact h
end
end Go.Proofs.YtkagolpnaicdoaaGreatDoor
