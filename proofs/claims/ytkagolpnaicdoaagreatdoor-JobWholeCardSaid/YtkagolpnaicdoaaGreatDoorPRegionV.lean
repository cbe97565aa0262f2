/-
 A region that draws its order; the class sees which operations are done, and what they have told (two new blocks of one type can be told apart). Over any program. Two new blocks of one type, made and filled in whatever order (for XRegionV). runs: an item's compare, same, Cmp.
-/
import Derived.Test.YtkagolpnaicdoaaGreatDoorPHeapP
set_option maxRecDepth 100000
set_option maxHeartbeats 8000000
open Go.Lib renaming hid->a0z
open List renaming getElem?_eq_getElem->a0x,getElem_of_mem->a0v,setIfInBounds_toArray->a0u,getElem?_map->a1z,reverse_cons->a1x,append_assoc->a1w,mem_of_getElem?->a1v
open Bool renaming and_eq_true->a0w
namespace Go.Proofs.YtkagolpnaicdoaaGreatDoor
section
open Go.RowKit
section
variable {P : Program} {l : List Oper}
def Gk(l:List Oper)(a:Act):Nat->Value:=fun j=>match l[j]? with
 |some o=>A3 o a
 |none=>undef
def C0(vs:Nat->Value)(i:Nat)(v:Value):Nat->Value:=fun k=>if k=i then v else vs k
def told(o:Oper)(v:Value):Value:=match o.dst with
 |some _=>v
 |none=>undef
theorem Y0{o:Oper}{v:Value}(h:o.dst.isSome=true):told o v=v:=by
 unfold told
 cases hd:o.dst with
 |none=>rw[hd] at h;cases h
 |some d=>rfl
theorem dN{a:Act}{k:Nat}{o:Oper}(h:l[k]?=some o):Gk l a k=A3 o a:=by unfold Gk;rw[h]
theorem oT{a:Act}{k:Nat}(h:l[k]?=none):Gk l a k=undef:=by unfold Gk;rw[h]
theorem Aeg{a:Act}{n i:Nat}{o:Oper}{v:Value}(f:Fh l n=true)(m:a.tmps.size=n)(g:l[i]?=some o):Gk l (a.put o.dst v)=C0 (Gk l a) i (told o v):=by
 funext k
 by_cases e:k=i
 ·subst e;rw[dN g];unfold C0 told;rw[if_pos rfl];unfold A3
  cases h:o.dst with
  |none=>rfl
  |some d=>
   simp only;rw[Rw (by rw[m];exact(Gz f g h).1)]
 ·unfold C0;rw[if_neg e]
  cases hk:l[k]? with
  |none=>rw[oT hk,oT hk]
  |some ok=>
   rw[dN hk,dN hk];unfold A3
   cases hdk:ok.dst with
   |none=>rfl
   |some d=>
    simp only
    refine Lm fun h=>?_
    exact(Gz f g h).2 k ok hk e hdk
theorem Aeh(a:Act):(fun j=>(l.map fun o=>A3 o a).getD j undef)=Gk l a:=by
 funext j
 unfold Gk;rw[List.getD_eq_getElem?_getD,a1z]
 cases l[j]?<;>rfl
def dO(P:Program)(l:List Oper)(Ss:List (World→Value→Prop))(C:(Nat→Bool)→(Nat→Value)→World→Prop)(R:World→World→Prop)(a0:Act)(i:Nat):Prop:=
 ∀o S,l[i]?=some o->Ss[i]?=some S->∀(b:Nat->Bool) (a:Act) (w:World),C b (Gk l a) w->b i=false->(∀e∈o.after,Region.binds .any e=true->b e.on=true)->
  (∀j oj,l[j]?=some oj->b j=true->∀e∈oj.after,Region.binds .any e=true->b e.on=true)->a.tmps.size=a0.tmps.size->
  (∀t,(∀j oj,l[j]?=some oj->oj.dst=some t->b j=false)->a.tmps.getD t undef=a0.tmps.getD t undef)->
  (∀e∈o.after,Region.binds .any e=true->∀oe Se,l[e.on]?=some oe->Ss[e.on]?=some Se->Se w (A3 oe a))->
  if Region.wanted o (yielded l.toArray a.tmps)=true then o.wp P a w (fun a2 w2=>∃v,a2=a.put o.dst v/\C (Ah b i) (C0 (Gk l a) i (told o v)) w2/\R w w2/\S w2 (told o v)) (fun _ _ _=>False)
  else S w undef/\C (Ah b i) (C0 (Gk l a) i undef) w
structure oU(l:List Oper)(Ss:List (World->Value->Prop))(C:(Nat->Bool)->(Nat->Value)->World->Prop)(a0:Act)(listed:Array Bool)(a:Act)(w:World):Prop where
 size:listed.size=l.length
 defers:a.defers=a0.defers
 tmps:a.tmps.size=a0.tmps.size
 done:∀j o S,l[j]?=some o->Ss[j]?=some S->listed.getD j false=true->S w (A3 o a)
 same:∀t,(∀j oj,l[j]?=some oj->oj.dst=some t->Ci listed j=false)->a.tmps.getD t undef=a0.tmps.getD t undef
 closed:∀j oj,l[j]?=some oj->Ci listed j=true->∀e∈oj.after,Region.binds .any e=true->Ci listed e.on=true
 cls:C (Ci listed) (Gk l a) w
theorem Aei{Ss:List (World→Value→Prop)}{C:(Nat→Bool)→(Nat→Value)→World→Prop}{R:World→World→Prop}{a0:Act}{Qn:Act→World→Prop}(hl:Ss.length=l.length)(s:Fh l a0.tmps.size=true)
  (stab:∀S∈Ss,∀w w' v,R w w'->S w v->S w' v)(rel:∀i,i<l.length->dO P l Ss C R a0 i)
  (aj:∀a w listed,oU l Ss C a0 listed a w->(∀j,j<l.length->listed.getD j false=true)->Qn a w):
  ∀(m:Nat) (listed:Array Bool) (a:Act) (w:World),F8 listed=m->oU l Ss C a0 listed a w->H8 P l Qn m listed a w:=by
 intro m
 induction m with
 |zero=>
  intro listed a w hu f;have u:=Wi hu;rw[f.size] at u;refine⟨?_,aj a w listed f u⟩;apply List.eq_nil_iff_forall_not_mem.2;intro j g;obtain⟨Z,o,ho,_⟩:=mem_ready.1 g
  have A:j<l.length:=by simpa using(Array.getElem?_eq_some_iff.1 ho).1
  have h2:=u j A
  have I:j<listed.size:=by rw[f.size];exact A
  simp[I] at Z h2;rw[Z] at h2;cases h2
 |succ m ih=>
  intro listed a w hu f;refine⟨fun V=>?_,fun i hi=>?_⟩
  ·--something is ready as long as not all is listed
   exfalso
   have N:∃j,j<l.length∧listed.getD j false=false:=by
    by_cases N:∃j,j<l.length/\listed.getD j false=false
    ·exact N
    ·exfalso
     have u:∀j,j<l.length->listed.getD j false=true:=fun j g=>by
      cases h:listed.getD j false
      ·exact absurd ⟨j,g,h⟩ N
      ·rfl
     have:F8 listed=0:=by
      unfold F8;rw[List.length_eq_zero_iff,List.filter_eq_nil_iff];intro b J;obtain⟨j,g,rfl⟩:=a0v J
      have ab:j<listed.size:=by simpa using g
      have:=u j (by rw[<-f.size];exact ab);simp[ab] at this ⊢;exact this
     omega
   obtain⟨j,g,M⟩:∃j,(j<l.length∧listed.getD j false=false)∧∀k,k<j→¬(k<l.length∧listed.getD k false=false):=by
    obtain⟨j0,h0⟩:=N
    induction j0 using Nat.strongRecOn with
    |_ n ih2=>
     by_cases hk:∃k,k<n/\(k<l.length/\listed.getD k false=false)
     ·obtain⟨k,X,W⟩:=hk;exact ih2 k X W
     ·exact⟨n,h0,fun k X W=>hk ⟨k,X,W⟩⟩
   have af:j<listed.size:=by rw[f.size];exact g.1
   have:j∈Region.ready .any l.toArray listed:=by
    refine mem_ready.2 ⟨by have:=g.2;simp[af] at this ⊢;exact this,l[j],by simp[g.1],fun e U J=>?_⟩;have A:=O8 s (a0x g.1) e U J;cases h:listed.getD e.on false
    ·exact absurd ⟨by omega,h⟩ (M e.on A)
    ·rfl
   rw[V] at this;cases this
  ·obtain⟨Z,o,ho,E⟩:=mem_ready.1 hi
   have r:l[i]?=some o:=by simpa using ho
   have A:i<l.length:=(List.getElem?_eq_some_iff.1 r).1
   have I:i<listed.size:=by rw[f.size];exact A
   obtain⟨S,hS⟩:∃S,Ss[i]?=some S:=⟨Ss[i]'(by omega),a0x (by omega)⟩
   have ai:Ci listed i=false:=by unfold Ci;simp[I] at Z ⊢;exact Z
   have V:=rel i A o S r hS (Ci listed) a w f.cls ai (fun e U J=>E e U J) f.closed f.tmps f.same (fun e U J oe Se ad ag=>f.done e.on oe Se ad ag (E e U J))
   have D:Ci (listed.setIfInBounds i true)=Ah (Ci listed) i:=by
    funext k
    unfold Ci Ah
    by_cases e:k=i
    ·subst e;rw[if_pos rfl];simp[I]
    ·rw[if_neg e,getD_set_ne false (Ne.symm e)]
   have G:∀v w2,C (Ah (Ci listed) i) (C0 (Gk l a) i (told o v)) w2→(∀S'∈Ss,∀v,S' w v→S' w2 v)→S w2 (told o v)→H8 P l Qn m (listed.setIfInBounds i true) (a.put o.dst v) w2:=by
    intro v w2 hC ac L;refine ih _ _ _ (by have:=Wh I Z;omega) ⟨by simp[f.size],by rw[Ud];exact f.defers,by rw[Rx];exact f.tmps,?_,?_,?_,by rw[D,Aeg s f.tmps r];exact hC⟩
    ·intro j K Sj g Q B
     by_cases Y:i=j
     ·subst Y;rw[r] at g;cases g;rw[hS] at Q;cases Q;unfold told at L;unfold A3
      cases O:o.dst with
      |none=>rw[O] at L;exact L
      |some d=>
       rw[O] at L;simp only;rw[Rw (by rw[f.tmps];exact(Gz s r O).1)];exact L
     ·rw[getD_set_ne false Y] at B;have h2:=ac Sj (a1v Q) _ (f.done j K Sj g Q B)
      have:A3 K (a.put o.dst v)=A3 K a:=by
       unfold A3
       cases hdj:K.dst with
       |none=>rfl
       |some d=>
        simp only
        refine Lm fun O=>?_
        exact(Gz s r O).2 j K g (Ne.symm Y) hdj
      rw[this];exact h2
    ·intro t ht
     have ae:o.dst≠some t:=fun O=>by
      have:=ht i o r O;rw[D] at this;unfold Ah at this;rw[if_pos rfl] at this;cases this
     rw[Lm ae]
     refine f.same t fun j K g O=>?_
     have:=ht j K g O;rw[D] at this;unfold Ah at this
     by_cases e:j=i
     ·rw[if_pos e] at this;cases this
     ·rw[if_neg e] at this;exact this
    ·intro j K g B e U J;rw[D] at B ⊢
     have up:∀k,Ci listed k=true->Ah (Ci listed) i k=true:=fun k hk=>by
      unfold Ah
      by_cases e:k=i
      ·rw[if_pos e]
      ·rw[if_neg e];exact hk
     by_cases ej:j=i
     ·subst ej;rw[r] at g;cases g;exact up _ (E e U J)
     ·unfold Ah at B;rw[if_neg ej] at B;exact up _ (f.closed j K g B e U J)
   refine⟨o,r,?_⟩;split
   ·rename_i hw;rw[if_pos hw] at V;refine(Uc (fun a2 w2 h=>?_) (fun _ _ _ h=>h.elim) V);obtain⟨v,rfl,hC,hR,L⟩:=h;exact G v w2 hC (fun S' ah v L=>stab S' ah w w2 v hR L) L
   ·rename_i hw;rw[if_neg hw] at V
    have aa:told o undef=undef:=by unfold told;cases o.dst<;>rfl
    refine G undef w (by rw[aa];exact V.2) (fun _ _ _ h=>h) ?_;rw[aa];exact V.1
theorem oV{Qn:Act→World→Prop}{a0:Act}{w0:World}(Ss:List (World→Value→Prop))(C:(Nat→Bool)→(Nat→Value)→World→Prop)(R:World→World→Prop)
  (hl:Ss.length=l.length)(f:Fh l a0.tmps.size=true)(hC:∀vs,C (fun _=>false) vs {w0 with drawn:=w0.drawn+1})
  (stab:∀S∈Ss,∀w w' v,R w w'->S w v->S w' v)(rel:∀i,i<l.length->dO P l Ss C R a0 i)
  (Z:∀vs w b,C b (fun j=>vs.getD j undef) w->(∀j,j<l.length->b j=true)->F9 w Ss vs->Qn (Aj l vs a0) w):H8 P l Qn l.toArray.size (Array.replicate l.toArray.size false) a0 {w0 with drawn:=w0.drawn+1}:=by
 refine(Aei hl f stab rel ?_ _ _ _ _ (by simp[F8]) ⟨by simp,rfl,rfl,?_,fun _ _=>rfl,?_,by rw[bM];exact hC _⟩)
 ·intro a w s g D
  have J:=Z (l.map (fun o=>A3 o a)) w (Ci s) (by rw[Aeh];exact g.cls) D (Uh (by simp[hl]) (fun i S v M r=>by
   rw[a1z] at r
   cases u:l[i]? with
   |none=>rw[u] at r;cases r
   |some o=>
    rw[u] at r;simp only[Option.map_some,Option.some.injEq] at r;rw[<-r]
    exact g.done i o S u M (D i (List.getElem?_eq_some_iff.1 u).1)))
  have:Aj l (l.map (fun o=>A3 o a)) a0=a:=by
   have m:(Aj l (l.map (fun o=>A3 o a)) a0).defers=a.defers:=by rw[Uf,g.defers]
   have E:(Aj l (l.map (fun o=>A3 o a)) a0).tmps=a.tmps:=by
    have O:(Aj l (l.map (fun o=>A3 o a)) a0).tmps.size=a.tmps.size:=by rw[Ue,g.tmps]
    refine Array.ext O fun t M r=>?_
    have hg:(Aj l (l.map (fun o=>A3 o a)) a0).tmps.getD t undef=a.tmps.getD t undef:=by
     by_cases L:∃o∈l,o.dst=some t
     ·obtain⟨o,u,I⟩:=L;obtain⟨i,X,W⟩:=a0v u
      have A:l[i]?=some o:=by rw[a0x X,W]
      rw[Ug l _ a0 (by simp) (fun i j oi N d X V M r=>by
       by_cases K:i=j
       ·exact K
       ·exact absurd r ((Gz f X M).2 j N V (Ne.symm K))) (fun o' Q d Y=>by
       obtain⟨k,hk,U⟩:=a0v Q
       exact(Gz f (by rw[a0x hk,U]) Y).1) i o (A3 o a) t A (by rw[a1z,A];rfl) I]
      unfold A3;rw[I]
     ·have B:∀o∈l,o.dst≠some t:=fun o u I=>L ⟨o,u,I⟩
      rw[Ry l _ a0 t B,g.same t (fun j N V I=>absurd I (B N (a1v V)))]
    simpa [M,r] using hg
   cases a;cases h:Aj l (l.map (fun o=>A3 o _)) a0;rw[h] at m E;simp only at m E;rw[m,E]
  rw[this] at J;exact J
 ·intro j o S _ _ h;exfalso
  rcases Nat.lt_or_ge j l.length with G|G
  ·simp[G] at h
  ·simp[G] at h
 ·intro j o _ h;exfalso;unfold Ci at h
  rcases Nat.lt_or_ge j l.length with G|G
  ·simp[G] at h
  ·simp[G] at h
def oW(l:List Oper)(i t:Nat):Bool:=(List.range l.length).all fun j=>match l[j]? with
 |some o=>o.dst !=some t||(j==i||o.after.any fun e=>Region.binds .any e&&e.on==i)
 |none=>true
def Y1(l:List Oper)(i j:Nat):Bool:=match l[i]? with
 |some o=>o.after.any fun e=>Region.binds .any e&&e.on==j
 |none=>false
structure O9(l:List Oper)(Ss:List (World->Value->Prop))(a0:Act)(i:Nat)(b:Nat->Bool)(a:Act)(w:World):Prop where
 size:a.tmps.size=a0.tmps.size
 dep:∀(j t:Nat) (S:World->Value->Prop),Jb l i j t=true->Ss[i-1-j]?=some S->S w (a.tmps[t]?.getD undef)
 free:∀(t:Nat) (v:Value),oW l i t=true->a0.tmps.getD t undef=v->a.tmps[t]?.getD undef=v
 pre:∀j,Y1 l i j=true->b j=true
 post:∀j,Y1 l j i=true->b j=false
 self:b i=false
 val:∀(j t:Nat),Jb l i j t=true->a.tmps[t]?.getD undef=Gk l a j
theorem Aej{Ss:List (World→Value→Prop)}{a0:Act}{i:Nat}{b:Nat→Bool}{a:Act}{w:World}{o:Oper}(s:l[i]?=some o)(r:b i=false)(G:∀e∈o.after,Region.binds .any e=true→b e.on=true)
  (J:∀j f,l[j]?=some f->b j=true->∀e∈f.after,Region.binds .any e=true->b e.on=true)(O:a.tmps.size=a0.tmps.size)
  (N:∀t,(∀j f,l[j]?=some f->f.dst=some t->b j=false)->a.tmps.getD t undef=a0.tmps.getD t undef)
  (M:∀e∈o.after,Region.binds .any e=true->∀B Se,l[e.on]?=some B->Ss[i-1-e.on]?=some Se->Se w (A3 B a)):O9 l Ss a0 i b a w:=by
 have later:∀j f,l[j]?=some f→(f.after.any fun e=>Region.binds .any e&&e.on==i)=true→b j=false:=fun j f d K=>by
  obtain⟨e,m,k⟩:=Array.any_eq_true'.1 K;simp only[a0w,beq_iff_eq] at k
  cases hbj:b j with
  |false=>rfl
  |true=>
   have:=J j f d hbj e m k.1;rw[k.2,r] at this;cases this
 refine⟨O,fun j t S g L=>?_,fun t v I E=>?_,fun j d=>?_,fun j d=>?_,r,fun j t g=>?_⟩
 ·unfold Jb at g;rw[s] at g
  cases d:l[j]? with
  |none=>rw[d] at g;cases g
  |some f=>
   rw[d] at g;simp only[a0w,beq_iff_eq] at g;obtain⟨e,m,k⟩:=Array.any_eq_true'.1 g.1;simp only[a0w,beq_iff_eq] at k;obtain⟨A,rfl⟩:=k;have:=M e m A f S d L;unfold A3 at this;rw[g.2] at this
   simpa using this
 ·have D:∀j f,l[j]?=some f→f.dst=some t→b j=false:=fun j f d g=>by
   have u:j<l.length:=(List.getElem?_eq_some_iff.1 d).1;have:=List.all_eq_true.1 I j (List.mem_range.2 u);rw[d] at this;simp only[g,bne_self_eq_false,Bool.false_or,Bool.or_eq_true,beq_iff_eq] at this
   rcases this with rfl|h
   ·exact r
   ·exact later j f d h
  have:=N t D;rw[E] at this
  simpa using this
 ·unfold Y1 at d;rw[s] at d;obtain⟨e,m,k⟩:=Array.any_eq_true'.1 d;simp only[a0w,beq_iff_eq] at k;rw[<-k.2];exact G e m k.1
 ·unfold Y1 at d
  cases hlj:l[j]? with
  |none=>rw[hlj] at d;cases d
  |some f=>rw[hlj] at d;exact later j f hlj d
 ·unfold Jb at g;rw[s] at g
  cases d:l[j]? with
  |none=>rw[d] at g;cases g
  |some f=>
   rw[d] at g;simp only[a0w,beq_iff_eq] at g;unfold Gk;rw[d];simp only;unfold A3;rw[g.2];simp
def Aek(P:Program)(l:List Oper)(done:List (World→Value→Prop))(S:World→Value→Prop)(C:(Nat→Bool)→(Nat→Value)→World→Prop)(R:World→World→Prop)(a0:Act)(i:Nat):Prop:=
 ∀(b:Nat->Bool),∀o,l[i]?=some o->∀(a:Act) (w:World),C b (Gk l a) w->O9 l done a0 i b a w->
  if Region.wanted o (yielded l.toArray a.tmps)=true then o.wp P a w (fun a2 w2=>∃v,a2=a.put o.dst v/\C (Ah b i) (C0 (Gk l a) i (told o v)) w2/\R w w2/\S w2 (told o v)) (fun _ _ _=>False)
  else S w undef/\C (Ah b i) (C0 (Gk l a) i undef) w
def Wj(R:World->World->Prop):List (World->Value->Prop)->Prop
 |[]=>True
 |S::Ss=>(∀w w' v,R w w'->S w v->S w' v)/\Wj R Ss
theorem oY{R:World→World→Prop}:∀{Ss:List (World→Value→Prop)},Wj R Ss→∀S∈Ss,∀w w' v,R w w'→S w v→S w' v
 |[],_,S,a=>by cases a
 |T::Ss,h,S,a=>by
  rcases List.mem_cons.1 a with rfl|a
  ·exact h.1
  ·exact oY h.2 S a
theorem Gl(x:Value){R:World->World->Prop}{Ss:List (World->Value->Prop)}(h:Wj R Ss):Wj R (B6 x::Ss):=⟨fun _ _ _ _ h=>h,h⟩
def N8(P:Program)(l:List Oper)(C:(Nat->Bool)->(Nat->Value)->World->Prop)(R:World->World->Prop)(a0:Act)(F:Act->World->Prop):Nat->List (World->Value->Prop)->Nat->Prop
 |_,done,0=>Wj R done/\∀w b,(∀j,j<l.length->b j=true)->∀vs,F9 w done.reverse vs->C b (fun j=>vs.getD j undef) w->F (Aj l vs a0) w
 |i,done,n+1=>∃S,Aek P l done S C R a0 i/\N8 P l C R a0 F (i+1) (S::done) n
theorem dP{C:(Nat→Bool)→(Nat→Value)→World→Prop}{R:World→World→Prop}{a0:Act}{F:Act→World→Prop}(d:Fh l a0.tmps.size=true):∀(n i:Nat) (done:List (World→Value→Prop)),N8 P l C R a0 F i done n→done.length=i→i+n=l.length→
  ∃Ss,(∃r,Ss=done.reverse++r)/\Ss.length=l.length/\(∀S∈Ss,∀w w' v,R w w'->S w v->S w' v)/\(∀vs w b,C b (fun j=>vs.getD j undef) w->(∀j,j<l.length->b j=true)->F9 w Ss vs->F (Aj l vs a0) w)/\∀k,i<=k->k<l.length->dO P l Ss C R a0 k
 |0,i,done,h,h1,h2=>⟨done.reverse,⟨[],by simp⟩,by simp;omega,fun S D=>oY h.1 S (by simpa using D),fun vs w b E s g=>h.2 w b s vs g E,fun k V I=>by omega⟩
 |n+1,i,done,h,h1,h2=>by
  obtain⟨S,t,f⟩:=h;obtain⟨Ss,⟨r,g⟩,Z,Y,X,W⟩:=dP d n (i+1) (S::done) f (by simp[h1]) (by omega);rw[a1x] at g;refine⟨Ss,⟨[S]++r,by rw[g,a1w]⟩,Z,Y,X,fun k V I=>?_⟩
  by_cases e:k=i
  ·subst e;intro o S' A m b a w E M L K Q O N
   have D:Ss[k]?=some S:=by rw[g,a1w,List.getElem?_append_right (by simp;omega)];simp[h1]
   rw[D] at m;cases m;refine t b o A a w E (Aej A M L K Q O fun e G s J Se u B=>N e G s J Se u ?_);have U:=O8 d A e G s;rw[g,a1w,List.getElem?_append_left (by simp;omega),List.getElem?_reverse (by omega),h1];exact B
  ·exact W k (by omega) I
theorem Uj{id:Nat}{Q:Exit→Act→World→Prop}{a0:Act}{w0:World}(C:(Nat→Bool)→(Nat→Value)→World→Prop)(R:World→World→Prop)
  (f:P.follows .mixedOrders=true)(d:Fh l a0.tmps.size=true)(k:∀vs,C (fun _=>false) vs {w0 with drawn:=w0.drawn+1})
  (h:N8 P l C R a0 (fun a w=>Q .normal a w) 0 [] l.length):(Code.region id l.toArray true).wp P Q a0 w0:=by
 obtain⟨Ss,_,s,r,o,m⟩:=dP d l.length 0 [] h rfl (by omega);exact bL f (oV Ss C R s d k r (fun i g=>m i (Nat.zero_le _) g) o)
theorem Wl{id f n:Nat}{Q:Exit→Act→World→Prop}{a0:Act}{w0:World}(C:(Nat→Bool)→(Nat→Value)→World→Prop)(R:World→World→Prop)
  (g:P.follows .mixedOrders=true)(m:Vt l=true)(d:Fh l a0.tmps.size=true)(o:∀vs,C (fun _=>false) vs {w0 with drawn:=w0.drawn+1})
  (h:N8 P l C R a0 (fun a w=>Q .normal a w) 0 [] l.length):(Code.region id l.toArray true).wpIn (Fence.wide.inRound f) n P Q a0 w0:=by
 obtain⟨Ss,_,u,t,s,r⟩:=dP d l.length 0 [] h rfl (by omega);exact kR g m (oV Ss C R u d o t (fun i k=>r i (Nat.zero_le _) k) s)
variable {C : (Nat -> Bool) -> (Nat -> Value) -> World -> Prop} {R : World -> World -> Prop} {a0 : Act} {F : Act -> World -> Prop} {i n : Nat} {done : List (World -> Value -> Prop)}
theorem Dn{o:Oper}{x:Value}(u:∀b vs w,C b vs w→b i=false→C (Ah b i) (C0 vs i x) w)(m:l[i]?=some o)(t:o.guard=none)(f:o.dst.isSome=true)
  (h:∀b a w,C b (Gk l a) w->O9 l done a0 i b a w->∀K:Act->World->Prop,(∀w2,C b (Gk l a) w2->R w w2->K (a.put o.dst x) w2)->o.wp P a w K (fun _ _ _=>False))
  (s:N8 P l C R a0 F (i+1) (B6 x::done) n):N8 P l C R a0 F i done (n+1):=by
 refine⟨B6 x,?_,s⟩;intro b A d a w v g;rw[m] at d;cases d
 have k:Region.wanted o (yielded l.toArray a.tmps)=true:=by unfold Region.wanted;rw[t]
 rw[if_pos k]
 exact h b a w v g _ fun w2 c r=>⟨x,rfl,by rw[Y0 f];exact u _ _ _ c g.self,r,by rw[Y0 f];rfl⟩
theorem Ee{o:Oper}(S:World→Value→Prop)(k:l[i]?=some o)(t:o.guard=none)(f:o.dst.isSome=true)
  (h:∀b a w,C b (Gk l a) w->O9 l done a0 i b a w->∀K:Act->World->Prop,(∀v w2,C (Ah b i) (C0 (Gk l a) i v) w2->R w w2->S w2 v->K (a.put o.dst v) w2)->o.wp P a w K (fun _ _ _=>False))
  (m:N8 P l C R a0 F (i+1) (S::done) n):N8 P l C R a0 F i done (n+1):=by
 refine⟨S,?_,m⟩;intro b B d a w u A;rw[k] at d;cases d
 have g:Region.wanted o (yielded l.toArray a.tmps)=true:=by unfold Region.wanted;rw[t]
 rw[if_pos g]
 exact h b a w u A _ fun v w2 c r s=>⟨v,rfl,by rw[Y0 f];exact c,r,by rw[Y0 f];exact s⟩
theorem Kv{o:Oper}(S:World→Prop)(g:l[i]?=some o)(m:o.guard=none)(t:o.dst=none)
  (h:∀b a w,C b (Gk l a) w->O9 l done a0 i b a w->∀K:Act->World->Prop,(∀v w2,C (Ah b i) (C0 (Gk l a) i undef) w2->R w w2->S w2->K (a.put o.dst v) w2)->o.wp P a w K (fun _ _ _=>False))
  (k:N8 P l C R a0 F (i+1) ((fun w _=>S w)::done) n):N8 P l C R a0 F i done (n+1):=by
 refine⟨fun w _=>S w,?_,k⟩;intro b B d a w u A;rw[g] at d;cases d
 have f:Region.wanted o (yielded l.toArray a.tmps)=true:=by unfold Region.wanted;rw[m]
 rw[if_pos f]
 exact h b a w u A _ fun v w2 c r s=>⟨v,rfl,by unfold told;rw[t];exact c,r,s⟩
end
section
open Go.RowKit
theorem O9.eq{l:List Oper}{Ss:List (World->Value->Prop)}{a0:Act}{i:Nat}{b:Nat->Bool}{a:Act}{w:World}(h:O9 l Ss a0 i b a w)(j t:Nat){x:Value}(d:Ss[i-1-j]?=some (B6 x))(f:Jb l i j t=true:=by decide+kernel):a.tmps[t]?.getD undef=x:=h.dep j t (B6 x) f d
theorem O9.fr{l:List Oper}{Ss:List (World->Value->Prop)}{a0:Act}{i:Nat}{b:Nat->Bool}{a:Act}{w:World}(h:O9 l Ss a0 i b a w)(t:Nat){v:Value}(d:a0.tmps.getD t undef=v)(f:oW l i t=true:=by decide+kernel):a.tmps[t]?.getD undef=v:=h.free t v f d
end
end
section
open Go.RowKit
theorem Fj(b:Nat->Bool)(i:Nat):Ah b i i=true:=if_pos rfl
theorem Ag{b:Nat->Bool}{i k:Nat}(h:k≠i):Ah b i k=b k:=if_neg h
theorem Hj(vs:Nat->Value)(i:Nat)(v:Value):C0 vs i v i=v:=if_pos rfl
theorem Bi{vs:Nat->Value}{i k:Nat}{v:Value}(h:k≠i):C0 vs i v k=vs k:=if_neg h
structure G0(T:TypeId)(z x y:Array Value)(i j p q:Nat)(w0:World)(b:Nat->Bool)(vs:Nat->Value)(w:World):Prop where
 fp:Fp [] w0 w
 ai:b i=true->∃B,vs i=.pointer (some ⟨B,0,none⟩)/\w0.heap.size<=B/\w.heap[B]?=some (.cells (if b p=true then x else z) T (0,0))
 aj:b j=true->∃B,vs j=.pointer (some ⟨B,0,none⟩)/\w0.heap.size<=B/\w.heap[B]?=some (.cells (if b q=true then y else z) T (0,0))
 ne:b i=true->b j=true->vs i≠vs j
variable {T : TypeId} {z x y : Array Value} {i j p q : Nat} {w0 : World} {b : Nat -> Bool} {vs : Nat -> Value} {w w2 : World}
theorem G0.start{vs:Nat->Value}(h:Fp [] w0 w):G0 T z x y i j p q w0 (fun _=>false) vs w:=⟨h,(fun h=>by cases h),(fun h=>by cases h),(fun h=>by cases h)⟩
theorem G0.plain{k:Nat}{v:Value}(h:G0 T z x y i j p q w0 b vs w)(f:k≠i/\k≠j/\k≠p/\k≠q):G0 T z x y i j p q w0 (Ah b k) (C0 vs k v) w:=by
 obtain⟨d,a,m,g⟩:=f;refine⟨h.fp,?_,?_,?_⟩
 ·rw[Ag d.symm,Ag m.symm,Bi d.symm];exact h.ai
 ·rw[Ag a.symm,Ag g.symm,Bi a.symm];exact h.aj
 ·rw[Ag d.symm,Ag a.symm,Bi d.symm,Bi a.symm];exact h.ne
theorem G0.on(h:G0 T z x y i j p q w0 b vs w)(d:Fp [] w w2):G0 T z x y i j p q w0 b vs w2:=by
 refine⟨h.fp.trans d (by simp),fun f=>?_,fun f=>?_,h.ne⟩
 ·obtain⟨B,k,g,a⟩:=h.ai f;exact⟨B,k,g,(d.block B (Ac a) (by simp)).trans a⟩
 ·obtain⟨B,k,g,a⟩:=h.aj f;exact⟨B,k,g,(d.block B (Ac a) (by simp)).trans a⟩
theorem G0.makeI(h:G0 T z x y i j p q w0 b vs w)(g:b p=false)(a:i≠j∧i≠p∧i≠q):G0 T z x y i j p q w0 (Ah b i) (C0 vs i (.pointer (some ⟨w.heap.size,0,none⟩))) (w.alloc (.cells z T)):=by
 have f:=h.on (Fp.alloc w (.cells z T));refine⟨f.fp,fun _=>⟨w.heap.size,Hj _ _ _,h.fp.size,?_⟩,fun d=>?_,fun _ d=>?_⟩
 ·rw[Ag a.2.1.symm,g];exact Ai rfl _
 ·rw[Ag a.1.symm] at d;rw[Bi a.1.symm,Ag a.2.2.symm];exact f.aj d
 ·rw[Ag a.1.symm] at d;rw[Hj,Bi a.1.symm];obtain⟨B,m,_,k⟩:=h.aj d;rw[m];intro e
  have o:w.heap.size=B:=by injection e with e;injection e with e;injection e
  have:=Ac k;omega
theorem G0.makeJ(h:G0 T z x y i j p q w0 b vs w)(g:b q=false)(a:j≠i∧j≠p∧j≠q):G0 T z x y i j p q w0 (Ah b j) (C0 vs j (.pointer (some ⟨w.heap.size,0,none⟩))) (w.alloc (.cells z T)):=by
 have f:=h.on (Fp.alloc w (.cells z T));refine⟨f.fp,fun d=>?_,fun _=>⟨w.heap.size,Hj _ _ _,h.fp.size,?_⟩,fun d _=>?_⟩
 ·rw[Ag a.1.symm] at d;rw[Bi a.1.symm,Ag a.2.1.symm];exact f.ai d
 ·rw[Ag a.2.2.symm,g];exact Ai rfl _
 ·rw[Ag a.1.symm] at d;rw[Hj,Bi a.1.symm];obtain⟨B,m,_,k⟩:=h.ai d;rw[m];intro e
  have o:w.heap.size=B:=by injection e with e;injection e with e;injection e with e;exact e.symm
  have:=Ac k;omega
theorem G0.fillP(h:G0 T z x y i j p q w0 b vs w)(m:b i=true){B:Nat}(k:vs i=.pointer (some ⟨B,0,none⟩))(o:Fp [B] w w2)(A:w2.heap[B]?=some (.cells x T (0,0)))(a:p≠i/\p≠j/\p≠q):G0 T z x y i j p q w0 (Ah b p) (C0 vs p undef) w2:=by
 obtain⟨B',g,E,I⟩:=h.ai m
 have D:B=B':=by rw[g] at k;injection k with e;injection e with e;injection e with e;exact e.symm
 subst D;refine⟨h.fp.trans o (by simp;omega),fun _=>⟨B,?_,E,?_⟩,fun f=>?_,fun s r=>?_⟩
 ·rw[Bi a.1.symm];exact g
 ·rw[Fj,if_pos rfl];exact A
 ·rw[Ag a.2.1.symm] at f;rw[Bi a.2.1.symm,Ag a.2.2.symm];obtain⟨v,u,G,t⟩:=h.aj f;refine⟨v,u,G,(o.block v (Ac t) ?_).trans t⟩;intro d;have d:=List.mem_singleton.1 d;exact h.ne m f (by rw[g,u,d])
 ·rw[Ag a.1.symm] at s;rw[Ag a.2.1.symm] at r;rw[Bi a.1.symm,Bi a.2.1.symm];exact h.ne s r
theorem G0.fillQ(h:G0 T z x y i j p q w0 b vs w)(m:b j=true){B:Nat}(k:vs j=.pointer (some ⟨B,0,none⟩))(o:Fp [B] w w2)(A:w2.heap[B]?=some (.cells y T (0,0)))(a:q≠i/\q≠j/\q≠p):G0 T z x y i j p q w0 (Ah b q) (C0 vs q undef) w2:=by
 obtain⟨B',g,E,I⟩:=h.aj m
 have D:B=B':=by rw[g] at k;injection k with e;injection e with e;injection e with e;exact e.symm
 subst D;refine⟨h.fp.trans o (by simp;omega),fun f=>?_,fun _=>⟨B,?_,E,?_⟩,fun s r=>?_⟩
 ·rw[Ag a.1.symm] at f;rw[Bi a.1.symm,Ag a.2.2.symm];obtain⟨v,u,G,t⟩:=h.ai f;refine⟨v,u,G,(o.block v (Ac t) ?_).trans t⟩;intro d;have d:=List.mem_singleton.1 d;exact h.ne f m (by rw[g,u,d])
 ·rw[Bi a.2.1.symm];exact g
 ·rw[Fj,if_pos rfl];exact A
 ·rw[Ag a.1.symm] at s;rw[Ag a.2.1.symm] at r;rw[Bi a.1.symm,Bi a.2.1.symm];exact h.ne s r
end
section
open Go.RowKit Go.Lib
def Jo(x:Ad):List Value:=[.string x.c.row,.string x.c.col,.int .u64 x.c.ts,.int .u64 x.c.seq,.bool x.c.del,.string x.c.val,.int .i64 x.pos]
def Ik(x:Ad):Value:=.agg (Jo x).toArray
def Bz:Ho Ad where
 e:=221
 k:=7
 enc:=Jo
 len:=fun _=>rfl
 pos:=by decide
 one:=fun x v hv=>by
  unfold Jo at hv;simp only[List.mem_cons,List.not_mem_nil,or_false] at hv
  rcases hv with rfl|rfl|rfl|rfl|rfl|rfl|rfl<;>rfl
theorem Ael(x y:Ad):Ew [Bt x y,Ds y.pos x.pos]=D2 x y:=by
 rcases Oo x y with⟨d,a⟩|⟨d,a⟩
 ·rw[a];unfold Ew;rw[if_pos d]
 ·rw[a,d];unfold Ew;rw[if_neg (by decide)];unfold Ew;split
  ·rfl
  ·rename_i h;unfold Ew;omega
theorem dQ(a:Int)(w:World):Calls Tryz.prog 290 #[.int .i64 a] w fun e w'=>e=.returned (.bool false)/\w=w':=by
 go_enter Tryz.func290,Tryz.ntmps290;go_wp2;go_ret;exact⟨by simp,rfl⟩
theorem Aem(a b:Nat)(w:World):Calls Tryz.prog 264 #[.int .i64 a,.int .i64 b] w fun e w'=>e=.returned (.int .i64 (Ds a b))∧w=w':=by
 by_cases f:a<b
 ·have H:=a0z (Qk f);go_enter Tryz.func264,Tryz.ntmps264;go_wp2_with (go_at_call 290;refine(dQ _ _).mono ?_;rintro e w' ⟨rfl,rfl⟩);go_ret;exact⟨by rw[H.out];rfl,rfl⟩
 ·by_cases d:b<a
  ·have H:=a0z (Ql d);go_enter Tryz.func264,Tryz.ntmps264;go_wp2_with (go_at_call 290;refine(dQ _ _).mono ?_;rintro e w' ⟨rfl,rfl⟩);go_ret;exact⟨by rw[H.out];rfl,rfl⟩
  ·have H:=a0z (T8 f d);go_enter Tryz.func264,Tryz.ntmps264;go_wp2_with (go_at_call 290;refine(dQ _ _).mono ?_;rintro e w' ⟨rfl,rfl⟩);go_ret;exact⟨by rw[H.out];rfl,rfl⟩
def Aen:Array Value:=#[.string ⟨#[]⟩,.string ⟨#[]⟩,.int .u64 0,.int .u64 0,.bool false,.string ⟨#[]⟩]
def oZ(c:Aa):Array Value:=#[.string c.row,.string c.col,.int .u64 c.ts,.int .u64 c.seq,.bool c.del,.string c.val]
theorem dR(x y:Ad)(w:World):Calls Tryz.prog 217 #[Ik x,Ik y] w fun e w'=>e=.returned (.int .i64 (D2 x y))∧Fp [] w w':=by
 have I:=a0z (Ael x y);have C1:=a0z (fun w=>nF (I2 x) (I2 y) w);have C2:=a0z (fun w=>Aem y.pos x.pos w);rw[show Df (I2 x) (I2 y)=Bt x y from rfl] at C1
 obtain⟨ck,am⟩:∃z,Bt x y=z:=⟨_,rfl⟩
 obtain⟨cn,al⟩:∃z,Ds y.pos x.pos=z:=⟨_,rfl⟩
 rw[am] at C1 I;rw[al] at C2 I;have HO:=a0z (fun w sb (hs:w.heap[sb]?=some (.cells #[.int .i64 ck,.int .i64 cn] 3 (0,0)))=>nE w sb [ck,cn] hs (by show 2<=1000;decide))
 obtain⟨r,hr⟩:∃r,D2 x y=r:=⟨_,rfl⟩
 rw[hr] at I;rw[I.out] at HO;rw[hr];clear am al hr;obtain⟨⟨V,Y,U,xs,X,S⟩,xp⟩:=x;obtain⟨⟨N,Q,M,ys,O,L⟩,yp⟩:=y;have C1':Hid (∀w,Calls Tryz.prog 156 #[.agg #[.string V,.string Y,.int .u64 U,.int .u64 0,.bool X,.string S],.agg #[.string N,.string Q,.int .u64 M,.int .u64 0,.bool O,.string L]] w fun e w'=>e=.returned (.int .i64 ck)/\Fp [] w w'):=C1;clear C1;unfold Ik Jo;simp only;go_enter Tryz.func217,Tryz.ntmps217
 obtain⟨W,hW⟩:∃W,W=(w.alloc (.cells #[.string V,.string Y,.int .u64 U,.int .u64 xs,.bool X,.string S,.int .i64 xp] 221)).alloc (.cells #[.string N,.string Q,.int .u64 M,.int .u64 ys,.bool O,.string L,.int .i64 yp] 221):=⟨_,rfl⟩
 have ak:Fp [] w W:=by rw[hW];exact(Fp.alloc _ _).alloc' _
 have an:W.heap[w.heap.size]?=some (.cells #[.string V,.string Y,.int .u64 U,.int .u64 xs,.bool X,.string S,.int .i64 xp] 221 (0,0)):=by
  rw[hW,Below.heap_alloc _ _ _ (by simp)];exact Ai rfl _
 have o:W.heap[w.heap.size+1]?=some (.cells #[.string N,.string Q,.int .u64 M,.int .u64 ys,.bool O,.string L,.int .i64 yp] 221 (0,0)):=by
  rw[hW];exact Ai (by simp) _
 have aq:=a0z an;have ap:=a0z o;have ax:=a0z ak
 have HX:Hid (∀w',Fp [] W w'->w'.cell? ⟨w.heap.size,0,none⟩=some (.string V)/\w'.cell? ⟨w.heap.size,1,none⟩=some (.string Y)/\w'.cell? ⟨w.heap.size,2,none⟩=some (.int .u64 U)/\w'.cell? ⟨w.heap.size,3,none⟩=some (.int .u64 xs)/\w'.cell? ⟨w.heap.size,4,none⟩=some (.bool X)/\w'.cell? ⟨w.heap.size,5,none⟩=some (.string S)/\w'.cell? ⟨w.heap.size,6,none⟩=some (.int .i64 xp)):=fun w' A=>by
  have m:=(A.block _ (Ac aq.out) (by simp)).trans aq.out;exact⟨Ab m 0,Ab m 1,Ab m 2,Ab m 3,Ab m 4,Ab m 5,Ab m 6⟩
 have HY:Hid (∀w',Fp [] W w'->w'.cell? ⟨w.heap.size+1,0,none⟩=some (.string N)/\w'.cell? ⟨w.heap.size+1,1,none⟩=some (.string Q)/\w'.cell? ⟨w.heap.size+1,2,none⟩=some (.int .u64 M)/\w'.cell? ⟨w.heap.size+1,3,none⟩=some (.int .u64 ys)/\w'.cell? ⟨w.heap.size+1,4,none⟩=some (.bool O)/\w'.cell? ⟨w.heap.size+1,5,none⟩=some (.string L)/\w'.cell? ⟨w.heap.size+1,6,none⟩=some (.int .i64 yp)):=fun w' A=>by
  have m:=(A.block _ (Ac ap.out) (by simp)).trans ap.out;exact⟨Ab m 0,Ab m 1,Ab m 2,Ab m 3,Ab m 4,Ab m 5,Ab m 6⟩
 have aF:W.heap.size=w.heap.size+2:=by rw[hW];simp
 clear an o ak;go_wp2_with (fail);rw[<-hW];clear hW;refine Uj (G0 80 Aen (oZ ⟨V,Y,U,xs,X,S⟩) (oZ ⟨N,Q,M,ys,O,L⟩) 4 5 6 7 W) (fun _ _=>True) (by kernel_rfl) (by kernel_rfl) (fun _=>G0.start (Fp.drew _)) ?_
 iterate 4
  apply Dn (fun _ _ _ h _=>h.plain (by decide)) rfl rfl rfl
  ·intro b a w f d K s
   try have E:=d.fr 2 rfl
   try have h7:=d.eq 0 7 rfl
   try have h3:=d.fr 3 rfl
   try have h9:=d.eq 2 9 rfl
   obtain⟨x0,x1,x2,x3,x4,x5,x6⟩:=HX.out _ f.fp;obtain⟨y0,y1,y2,y3,y4,y5,y6⟩:=HY.out _ f.fp;simp only[Oper.wp,execOp];go_simp;exact s _ f trivial
 apply Ee (fun _ _=>True) rfl rfl rfl
 ·intro b a w f d K s;simp only[Oper.wp,execOp];go_simp;exact s _ _ (f.makeI (d.post 6 (by kernel_rfl)) (by decide)) trivial trivial
 apply Ee (fun _ _=>True) rfl rfl rfl
 ·intro b a w f d K s;simp only[Oper.wp,execOp];go_simp;exact s _ _ (f.makeJ (d.post 7 (by kernel_rfl)) (by decide)) trivial trivial
 apply Kv (fun _=>True) rfl rfl rfl
 ·intro b a w f d K s;have h5:=d.dep 4 5 _ (by kernel_rfl) rfl;have h8:=d.eq 1 8 rfl;obtain⟨B,G,e2,k⟩:=f.ai (d.pre 4 (by kernel_rfl));have h5:a.tmps[5]?.getD undef=.pointer (some ⟨B,0,none⟩):=(d.val 4 5 (by kernel_rfl)).trans G;rw[d.self,if_neg (by decide)] at k;have q0:w.cell? ⟨B,0,none⟩=some (.string ⟨#[]⟩):=Ab k 0;have q1:w.cell? ⟨B,1,none⟩=some (.string ⟨#[]⟩):=Ab k 1;have q2:w.cell? ⟨B,2,none⟩=some (.int .u64 0):=Ab k 2;have q3:w.cell? ⟨B,3,none⟩=some (.int .u64 0):=Ab k 3;have q4:w.cell? ⟨B,4,none⟩=some (.bool false):=Ab k 4;have q5:w.cell? ⟨B,5,none⟩=some (.string ⟨#[]⟩):=Ab k 5;have g0:=Ar k 0;have g1:=Ar k 1;have g2:=Ar k 2;have g3:=Ar k 3;have g4:=Ar k 4;have g5:=Ar k 5;have aa:=f.fillP (w2:=((((((w.setCell ⟨B,0,none⟩ (.string V)).setCell ⟨B,1,none⟩ (.string Y)).setCell ⟨B,2,none⟩ (.int .u64 U)).setCell ⟨B,3,none⟩ (.int .u64 xs)).setCell ⟨B,4,none⟩ (.bool X)).setCell ⟨B,5,none⟩ (.string S))) (d.pre 4 (by kernel_rfl)) G ((((((Fp.setCell w ⟨B,0,none⟩ _).setCell' (Or.inl (by simp)) _).setCell' (Or.inl (by simp)) _).setCell' (Or.inl (by simp)) _).setCell' (Or.inl (by simp)) _).setCell' (Or.inl (by simp)) _) (by rw[Bd (Bd (Bd (Bd (Bd (Bd k _) _) _) _) _) _];rfl) (by decide);simp only[Oper.wp,execOp];go_simp;exact s undef _ aa trivial trivial
 apply Kv (fun _=>True) rfl rfl rfl
 ·intro b a w f d K s;have h6:=d.dep 5 6 _ (by kernel_rfl) rfl;have bf:=d.eq 3 10 rfl;obtain⟨B,G,e2,k⟩:=f.aj (d.pre 5 (by kernel_rfl));have h6:a.tmps[6]?.getD undef=.pointer (some ⟨B,0,none⟩):=(d.val 5 6 (by kernel_rfl)).trans G;rw[d.self,if_neg (by decide)] at k;have q0:w.cell? ⟨B,0,none⟩=some (.string ⟨#[]⟩):=Ab k 0;have q1:w.cell? ⟨B,1,none⟩=some (.string ⟨#[]⟩):=Ab k 1;have q2:w.cell? ⟨B,2,none⟩=some (.int .u64 0):=Ab k 2;have q3:w.cell? ⟨B,3,none⟩=some (.int .u64 0):=Ab k 3;have q4:w.cell? ⟨B,4,none⟩=some (.bool false):=Ab k 4;have q5:w.cell? ⟨B,5,none⟩=some (.string ⟨#[]⟩):=Ab k 5;have g0:=Ar k 0;have g1:=Ar k 1;have g2:=Ar k 2;have g3:=Ar k 3;have g4:=Ar k 4;have g5:=Ar k 5;have aa:=f.fillQ (w2:=((((((w.setCell ⟨B,0,none⟩ (.string N)).setCell ⟨B,1,none⟩ (.string Q)).setCell ⟨B,2,none⟩ (.int .u64 M)).setCell ⟨B,3,none⟩ (.int .u64 ys)).setCell ⟨B,4,none⟩ (.bool O)).setCell ⟨B,5,none⟩ (.string L))) (d.pre 5 (by kernel_rfl)) G ((((((Fp.setCell w ⟨B,0,none⟩ _).setCell' (Or.inl (by simp)) _).setCell' (Or.inl (by simp)) _).setCell' (Or.inl (by simp)) _).setCell' (Or.inl (by simp)) _).setCell' (Or.inl (by simp)) _) (by rw[Bd (Bd (Bd (Bd (Bd (Bd k _) _) _) _) _) _];rfl) (by decide);simp only[Oper.wp,execOp];go_simp;exact s undef _ aa trivial trivial
 refine⟨?_,?_⟩
 ·refine⟨fun _ _ _ _ _=>trivial,?_⟩;refine⟨fun _ _ _ _ _=>trivial,?_⟩;refine⟨fun _ _ _ _ _=>trivial,?_⟩;refine⟨fun _ _ _ _ _=>trivial,?_⟩
  iterate 4 refine Gl _ ?_
  exact trivial
 ·intro w' bb o;simp only[a1x,List.reverse_nil,List.nil_append,List.cons_append]
  iterate 4 (refine Am ?_)
  refine Ap ?_;intro v4 u4;refine Ap ?_;intro v5 u5;refine Ap ?_;intro v6 u6;refine Ap ?_;intro v7 u7;refine A0 ?_;intro f;simp only[Aj,Act.put,a0u,List.set_cons_succ,List.set_cons_zero];obtain⟨t,G,au,D⟩:=f.ai (o 4 (by simp));obtain⟨B2,e2,ar,ab⟩:=f.aj (o 5 (by simp));have ah:=f.ne (o 4 (by simp)) (o 5 (by simp));rw[o 6 (by simp),if_pos rfl] at D;rw[o 7 (by simp),if_pos rfl] at ab;have aw:v4=.pointer (some ⟨t,0,none⟩):=G;have av:v5=.pointer (some ⟨B2,0,none⟩):=e2
  have Z:t≠B2:=fun h=>ah (by rw[G,e2,h])
  have az:=a0z f.fp;subst aw av;have q1:w'.cell? ⟨t,3,none⟩=some (.int .u64 xs):=Ab D 3;have g1:=Ar D 3;have u:(w'.setCell ⟨t,3,none⟩ (.int .u64 0)).heap[B2]?=_ :=(O1 (Ne.symm Z) _).trans ab;have q2:(w'.setCell ⟨t,3,none⟩ (.int .u64 0)).cell? ⟨B2,3,none⟩=some (.int .u64 ys):=Ab u 3;have g2:=Ar u 3;have ag:((w'.setCell ⟨t,3,none⟩ (.int .u64 0)).setCell ⟨B2,3,none⟩ (.int .u64 0)).heap[t]?=some (.cells #[.string V,.string Y,.int .u64 U,.int .u64 0,.bool X,.string S] 80 (0,0)):=((O1 Z _).trans (Bd D _)).trans rfl;have af:((w'.setCell ⟨t,3,none⟩ (.int .u64 0)).setCell ⟨B2,3,none⟩ (.int .u64 0)).heap[B2]?=some (.cells #[.string N,.string Q,.int .u64 M,.int .u64 0,.bool O,.string L] 80 (0,0)):=(Bd u _).trans rfl;have J:=a0z ((az.out.setCell' (p:=⟨t,3,none⟩) (Or.inr au) (.int .u64 0)).setCell' (p:=⟨B2,3,none⟩) (Or.inr ar) (.int .u64 0));have ae:=a0z ag;have ad:=a0z af
  obtain⟨W2,ac⟩:∃x,x=(w'.setCell ⟨t,3,none⟩ (.int .u64 0)).setCell ⟨B2,3,none⟩ (.int .u64 0):=⟨_,rfl⟩
  clear f o ah G e2 D ab u ag af u4 u5 u6 u7;go_wp2_with (fail);rw[<-ac];rw[<-ac] at J ae ad;clear ac q1 g1 q2 g2
  have HL:Hid (∀w',Fp [] W2 w'→(w'.cell? ⟨t,0,none⟩=some (.string V)∧w'.cell? ⟨t,1,none⟩=some (.string Y)∧w'.cell? ⟨t,2,none⟩=some (.int .u64 U)∧w'.cell? ⟨t,3,none⟩=some (.int .u64 0)∧w'.cell? ⟨t,4,none⟩=some (.bool X)∧w'.cell? ⟨t,5,none⟩=some (.string S))∧
    (w'.cell? ⟨B2,0,none⟩=some (.string N)/\w'.cell? ⟨B2,1,none⟩=some (.string Q)/\w'.cell? ⟨B2,2,none⟩=some (.int .u64 M)/\w'.cell? ⟨B2,3,none⟩=some (.int .u64 0)/\w'.cell? ⟨B2,4,none⟩=some (.bool O)/\w'.cell? ⟨B2,5,none⟩=some (.string L))):=fun w' A=>by
   have m:=(A.block _ (Ac ae.out) (by simp)).trans ae.out;have E:=(A.block _ (Ac ad.out) (by simp)).trans ad.out;exact⟨⟨Ab m 0,Ab m 1,Ab m 2,Ab m 3,Ab m 4,Ab m 5⟩,Ab E 0,Ab E 1,Ab E 2,Ab E 3,Ab E 4,Ab E 5⟩
  refine C9 (by kernel_rfl) (by kernel_rfl) ?_
  iterate 8
   apply Aw rfl rfl rfl
   ·intro a w f d K s
    try have h5:=d.fr 5 rfl
    try have h6:=d.fr 6 rfl
    try have be:=d.eq 0 13 rfl
    try have bd:=d.eq 1 14 rfl
    try have h3:=d.fr 3 rfl
    try have ba:=d.eq 3 16 rfl
    try have E:=d.fr 2 rfl
    try have a8:=d.eq 5 18 rfl
    try have a9:=d.eq 4 17 rfl
    try have a7:=d.eq 6 19 rfl
    obtain⟨⟨a0,a1,a2,a3,a4,a5⟩,b0,b1,b2,b3,b4,b5⟩:=HL.out _ f;obtain⟨-,-,-,-,-,-,x6⟩:=HX.out _ (J.out.trans f (by simp));obtain⟨-,-,-,-,-,-,y6⟩:=HY.out _ (J.out.trans f (by simp));simp only[Oper.wp,execOp];go_simp
    first
    |exact s _ f (Fp.refl _ _)
    |first
      |((with_reducible refine(C1'.out _).mono ?_);rintro e w2 ⟨rfl,A⟩;exact s _ (f.trans A (by simp)) A)
      |((with_reducible refine(C2.out _).mono ?_);rintro e w2 ⟨rfl,rfl⟩;exact s _ f (Fp.refl _ _))
  apply Qp (fun w' v=>∃g,v=.slice (some ⟨g,0,none⟩) 2 2/\w'.heap[g]?=some (.cells #[.int .i64 ck,.int .i64 cn] 3 (0,0))) rfl rfl rfl
  ·intro a w f d K s;have bc:=d.eq 2 15 rfl;have a6:=d.eq 7 20 rfl;simp only[Oper.wp,execOp];go_simp;exact s _ _ (f.alloc' _) (Fp.alloc _ _) ⟨_,rfl,Ai rfl _⟩
  apply Aw rfl rfl rfl
  ·intro a w f d K s;have ao:=d.dep 8 21 _ (by kernel_rfl) rfl;obtain⟨g,ao,hg⟩:=ao;simp only[Oper.wp,execOp];go_simp;refine(HO.out _ g hg).mono ?_;rintro e w2 ⟨rfl,rfl⟩;exact s _ f (Fp.refl _ _)
  apply Aw rfl rfl rfl
  ·intro a w f d K s;have aS:=d.eq 9 22 rfl;simp only[Oper.wp,execOp];go_simp;exact s _ f (Fp.refl _ _)
  refine⟨?_,?_⟩
  ·repeat(first|exact trivial|refine B7 _ ?_ |refine⟨fun w1 w2 v _ A ⟨g,m,E⟩=>⟨g,m,(A.block g (Ac E) (by simp)).trans E⟩,?_⟩)
  ·intro w' f;simp only[a1x,List.reverse_nil,List.nil_append,List.cons_append]
   iterate 8 (refine Am ?_)
   refine Ap ?_;intro v8 u8
   iterate 2 (refine Am ?_)
   refine A0 ?_;simp only[Aj,Act.put,a0u,List.set_cons_succ,List.set_cons_zero];have ay:=a0z f;clear f;go_wp2_with (fail);go_ret;exact⟨rfl,(ax.out.trans J.out (by simp)).trans ay.out (by simp)⟩
theorem pA(x y:Ad)(w:World):Calls Tryz.prog 219 #[Ik x,Ik y] w fun e w'=>e=.returned (.bool (Ba x y))/\Fp [] w w':=by
 have C1:=a0z (fun w=>nG x.c y.c w);have f:Hid (Ba x y=I7 x.c y.c):=rfl
 obtain⟨r,a⟩:∃r,I7 x.c y.c=r:=⟨_,rfl⟩
 rw[a] at C1 f;rw[f.out];clear a;obtain⟨⟨u,A,t,xs,v,s⟩,E⟩:=x;obtain⟨⟨k,o,h,ys,m,g⟩,D⟩:=y;have C1':Hid (∀w,Calls Tryz.prog 265 #[.agg #[.string u,.string A,.int .u64 t,.int .u64 xs,.bool v,.string s],.agg #[.string k,.string o,.int .u64 h,.int .u64 ys,.bool m,.string g]] w fun e w'=>e=.returned (.bool r)/\Fp [] w w'):=C1;clear C1;unfold Ik Jo;simp only;go_enter Tryz.func219,Tryz.ntmps219;go_wp2_with (fail);(with_reducible refine(C1'.out _).mono ?_);rintro e G ⟨rfl,d⟩;have B:=a0z (((Fp.alloc w _).alloc' _).trans d (by simp));clear d;go_wp2_with (fail);go_ret;exact⟨rfl,B.out⟩
end
end Go.Proofs.YtkagolpnaicdoaaGreatDoor
