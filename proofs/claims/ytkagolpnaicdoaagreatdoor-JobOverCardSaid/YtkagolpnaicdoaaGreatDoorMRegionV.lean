/-
 A region that draws its order; the class sees which operations are done, and what they have told (two new blocks of one type can be told apart). Over any program. Two new blocks of one type, made and filled in whatever order (for XRegionV). 'x.f = append(x.f, e)': the class of worlds on the way (for XRegionV), for elements of any type, x.f a place of a block known whole.
-/
import Derived.Test.YtkagolpnaicdoaaGreatDoorMRegionG
import Derived.Test.YtkagolpnaicdoaaGreatDoorMWalD
set_option maxRecDepth 100000
set_option maxHeartbeats 8000000
open List renaming getElem?_eq_getElem→a0z,getElem_of_mem→a0w,getElem?_map→a0v,append_assoc→a0u,mem_of_getElem?→a1x
open Bool renaming and_eq_true→a0x
open Nat renaming le_trans→a1z
namespace Go.Proofs.YtkagolpnaicdoaaGreatDoor
section
open Go.RowKit
section
variable {P : Program} {l : List Oper}
def E1(l:List Oper)(a:Act):Nat→Value:=fun j=>match l[j]? with
 |some o=>A5 o a
 |none=>undef
def Bv(vs:Nat→Value)(i:Nat)(v:Value):Nat→Value:=fun k=>if k=i then v else vs k
def told(o:Oper)(v:Value):Value:=match o.dst with
 |some _=>v
 |none=>undef
theorem Us{o:Oper}{v:Value}(h:o.dst.isSome=true):told o v=v:=by
 unfold told
 cases hd:o.dst with
 |none=>rw[hd] at h;cases h
 |some d=>rfl
theorem Xv{a:Act}{k:Nat}{o:Oper}(h:l[k]?=some o):E1 l a k=A5 o a:=by unfold E1;rw[h]
theorem eL{a:Act}{k:Nat}(h:l[k]?=none):E1 l a k=undef:=by unfold E1;rw[h]
theorem tO{a:Act}{n i:Nat}{o:Oper}{v:Value}(hform:Fb l n=true)(hn:a.tmps.size=n)(ho:l[i]?=some o):E1 l (a.put o.dst v)=Bv (E1 l a) i (told o v):=by
 funext k
 by_cases e:k=i
 ·subst e;rw[Xv ho];unfold Bv told;rw[if_pos rfl];unfold A5
  cases hd:o.dst with
  |none=>rfl
  |some d=>
   simp only;rw[P3 (by rw[hn];exact(G4 hform ho hd).1)]
 ·unfold Bv;rw[if_neg e]
  cases hk:l[k]? with
  |none=>rw[eL hk,eL hk]
  |some ok=>
   rw[Xv hk,Xv hk];unfold A5
   cases hdk:ok.dst with
   |none=>rfl
   |some d=>
    simp only
    refine K9 fun hd=>?_
    exact(G4 hform ho hd).2 k ok hk e hdk
theorem tP(a:Act):(fun j=>(l.map fun o=>A5 o a).getD j undef)=E1 l a:=by
 funext j
 unfold E1;rw[List.getD_eq_getElem?_getD,a0v]
 cases l[j]?<;>rfl
def Xw(P:Program)(l:List Oper)(Ss:List (World→Value→Prop))(C:(Nat→Bool)→(Nat→Value)→World→Prop)(R:World→World→Prop)(a0:Act)(i:Nat):Prop:=
 ∀o S,l[i]?=some o→Ss[i]?=some S→∀(b:Nat→Bool) (a:Act) (w:World),C b (E1 l a) w→b i=false→(∀e∈o.after,Region.binds .any e=true→b e.on=true)→
  (∀j oj,l[j]?=some oj→b j=true→∀e∈oj.after,Region.binds .any e=true→b e.on=true)→a.tmps.size=a0.tmps.size→
  (∀t,(∀j oj,l[j]?=some oj→oj.dst=some t→b j=false)→a.tmps.getD t undef=a0.tmps.getD t undef)→
  (∀e∈o.after,Region.binds .any e=true→∀oe Se,l[e.on]?=some oe→Ss[e.on]?=some Se→Se w (A5 oe a))→
  if Region.wanted o (yielded l.toArray a.tmps)=true then o.wp P a w (fun a2 w2=>∃v,a2=a.put o.dst v∧C (Ao b i) (Bv (E1 l a) i (told o v)) w2∧R w w2∧S w2 (told o v)) (fun _ _ _=>False)
  else S w undef∧C (Ao b i) (Bv (E1 l a) i undef) w
structure eM(l:List Oper)(Ss:List (World→Value→Prop))(C:(Nat→Bool)→(Nat→Value)→World→Prop)(a0:Act)(listed:Array Bool)(a:Act)(w:World):Prop where
 size:listed.size=l.length
 defers:a.defers=a0.defers
 tmps:a.tmps.size=a0.tmps.size
 done:∀j o S,l[j]?=some o→Ss[j]?=some S→listed.getD j false=true→S w (A5 o a)
 same:∀t,(∀j oj,l[j]?=some oj→oj.dst=some t→Du listed j=false)→a.tmps.getD t undef=a0.tmps.getD t undef
 closed:∀j oj,l[j]?=some oj→Du listed j=true→∀e∈oj.after,Region.binds .any e=true→Du listed e.on=true
 cls:C (Du listed) (E1 l a) w
theorem tQ{Ss:List (World→Value→Prop)}{C:(Nat→Bool)→(Nat→Value)→World→Prop}{R:World→World→Prop}{a0:Act}{Qn:Act→World→Prop}(hl:Ss.length=l.length)(hform:Fb l a0.tmps.size=true)
  (stab:∀S∈Ss,∀w w' v,R w w'→S w v→S w' v)(rel:∀i,i<l.length→Xw P l Ss C R a0 i)
  (fin:∀a w listed,eM l Ss C a0 listed a w→(∀j,j<l.length→listed.getD j false=true)→Qn a w):
  ∀(fuel:Nat) (listed:Array Bool) (a:Act) (w:World),Gh listed=fuel→eM l Ss C a0 listed a w→Ih P l Qn fuel listed a w:=by
 intro fuel
 induction fuel with
 |zero=>
  intro listed a w hu inv;have hall:=Uo hu;rw[inv.size] at hall;refine⟨?_,fin a w listed inv hall⟩;apply List.eq_nil_iff_forall_not_mem.2;intro j hj;obtain⟨h1,o,ho,_⟩:=mem_ready.1 hj
  have hlt:j<l.length:=by simpa using(Array.getElem?_eq_some_iff.1 ho).1
  have h2:=hall j hlt
  have hls:j<listed.size:=by rw[inv.size];exact hlt
  simp[hls] at h1 h2;rw[h1] at h2;cases h2
 |succ fuel ih=>
  intro listed a w hu inv;refine⟨fun hr=>?_,fun i hi=>?_⟩
  ·--something is ready as long as not all is listed
   exfalso
   have hex:∃j,j<l.length∧listed.getD j false=false:=by
    by_cases hex:∃j,j<l.length∧listed.getD j false=false
    ·exact hex
    ·exfalso
     have hall:∀j,j<l.length→listed.getD j false=true:=fun j hj=>by
      cases h:listed.getD j false
      ·exact absurd ⟨j,hj,h⟩ hex
      ·rfl
     have:Gh listed=0:=by
      unfold Gh;rw[List.length_eq_zero_iff,List.filter_eq_nil_iff];intro b hb;obtain⟨j,hj,rfl⟩:=a0w hb
      have hj':j<listed.size:=by simpa using hj
      have:=hall j (by rw[←inv.size];exact hj');simp[hj'] at this ⊢;exact this
     omega
   obtain⟨j,hj,hleast⟩:∃j,(j<l.length∧listed.getD j false=false)∧∀k,k<j→¬(k<l.length∧listed.getD k false=false):=by
    obtain⟨j0,h0⟩:=hex
    induction j0 using Nat.strongRecOn with
    |_ n ih2=>
     by_cases hk:∃k,k<n∧(k<l.length∧listed.getD k false=false)
     ·obtain⟨k,hk1,hk2⟩:=hk;exact ih2 k hk1 hk2
     ·exact⟨n,h0,fun k hk1 hk2=>hk ⟨k,hk1,hk2⟩⟩
   have hjs:j<listed.size:=by rw[inv.size];exact hj.1
   have:j∈Region.ready .any l.toArray listed:=by
    refine mem_ready.2 ⟨by have:=hj.2;simp[hjs] at this ⊢;exact this,l[j],by simp[hj.1],fun e he hb=>?_⟩;have hlt:=Oh hform (a0z hj.1) e he hb;cases h:listed.getD e.on false
    ·exact absurd ⟨by omega,h⟩ (hleast e.on hlt)
    ·rfl
   rw[hr] at this;cases this
  ·obtain⟨h1,o,ho,hpre⟩:=mem_ready.1 hi
   have ho':l[i]?=some o:=by simpa using ho
   have hlt:i<l.length:=(List.getElem?_eq_some_iff.1 ho').1
   have hls:i<listed.size:=by rw[inv.size];exact hlt
   obtain⟨S,hS⟩:∃S,Ss[i]?=some S:=⟨Ss[i]'(by omega),a0z (by omega)⟩
   have h1':Du listed i=false:=by unfold Du;simp[hls] at h1 ⊢;exact h1
   have hr:=rel i hlt o S ho' hS (Du listed) a w inv.cls h1' (fun e he hb=>hpre e he hb) inv.closed inv.tmps inv.same (fun e he hb oe Se hoe hSe=>inv.done e.on oe Se hoe hSe (hpre e he hb))
   have hbit:Du (listed.setIfInBounds i true)=Ao (Du listed) i:=by
    funext k
    unfold Du Ao
    by_cases e:k=i
    ·subst e;rw[if_pos rfl];simp[hls]
    ·rw[if_neg e,getD_set_ne false (Ne.symm e)]
   have hnext:∀v w2,C (Ao (Du listed) i) (Bv (E1 l a) i (told o v)) w2→(∀S'∈Ss,∀v,S' w v→S' w2 v)→S w2 (told o v)→Ih P l Qn fuel (listed.setIfInBounds i true) (a.put o.dst v) w2:=by
    intro v w2 hC hst hv;refine ih _ _ _ (by have:=Un hls h1;omega) ⟨by simp[inv.size],by rw[Ri];exact inv.defers,by rw[P4];exact inv.tmps,?_,?_,?_,by rw[hbit,tO hform inv.tmps ho'];exact hC⟩
    ·intro j oj Sj hj hSj hlj
     by_cases hij:i=j
     ·subst hij;rw[ho'] at hj;cases hj;rw[hS] at hSj;cases hSj;unfold told at hv;unfold A5
      cases hd:o.dst with
      |none=>rw[hd] at hv;exact hv
      |some d=>
       rw[hd] at hv;simp only;rw[P3 (by rw[inv.tmps];exact(G4 hform ho' hd).1)];exact hv
     ·rw[getD_set_ne false hij] at hlj;have h2:=hst Sj (a1x hSj) _ (inv.done j oj Sj hj hSj hlj)
      have:A5 oj (a.put o.dst v)=A5 oj a:=by
       unfold A5
       cases hdj:oj.dst with
       |none=>rfl
       |some d=>
        simp only
        refine K9 fun hd=>?_
        exact(G4 hform ho' hd).2 j oj hj (Ne.symm hij) hdj
      rw[this];exact h2
    ·intro t ht
     have hne:o.dst≠some t:=fun hd=>by
      have:=ht i o ho' hd;rw[hbit] at this;unfold Ao at this;rw[if_pos rfl] at this;cases this
     rw[K9 hne]
     refine inv.same t fun j oj hj hd=>?_
     have:=ht j oj hj hd;rw[hbit] at this;unfold Ao at this
     by_cases e:j=i
     ·rw[if_pos e] at this;cases this
     ·rw[if_neg e] at this;exact this
    ·intro j oj hj hlj e he hb;rw[hbit] at hlj ⊢
     have up:∀k,Du listed k=true→Ao (Du listed) i k=true:=fun k hk=>by
      unfold Ao
      by_cases e:k=i
      ·rw[if_pos e]
      ·rw[if_neg e];exact hk
     by_cases ej:j=i
     ·subst ej;rw[ho'] at hj;cases hj;exact up _ (hpre e he hb)
     ·unfold Ao at hlj;rw[if_neg ej] at hlj;exact up _ (inv.closed j oj hj hlj e he hb)
   refine⟨o,ho',?_⟩;split
   ·rename_i hw;rw[if_pos hw] at hr;refine(Rf (fun a2 w2 h=>?_) (fun _ _ _ h=>h.elim) hr);obtain⟨v,rfl,hC,hR,hv⟩:=h;exact hnext v w2 hC (fun S' hS' v hv=>stab S' hS' w w2 v hR hv) hv
   ·rename_i hw;rw[if_neg hw] at hr
    have htu:told o undef=undef:=by unfold told;cases o.dst<;>rfl
    refine hnext undef w (by rw[htu];exact hr.2) (fun _ _ _ h=>h) ?_;rw[htu];exact hr.1
theorem eN{Qn:Act→World→Prop}{a0:Act}{w0:World}(Ss:List (World→Value→Prop))(C:(Nat→Bool)→(Nat→Value)→World→Prop)(R:World→World→Prop)
  (hl:Ss.length=l.length)(hform:Fb l a0.tmps.size=true)(hC:∀vs,C (fun _=>false) vs {w0 with drawn:=w0.drawn+1})
  (stab:∀S∈Ss,∀w w' v,R w w'→S w v→S w' v)(rel:∀i,i<l.length→Xw P l Ss C R a0 i)
  (fin:∀vs w b,C b (fun j=>vs.getD j undef) w→(∀j,j<l.length→b j=true)→Fz w Ss vs→Qn (Am l vs a0) w):Ih P l Qn l.toArray.size (Array.replicate l.toArray.size false) a0 {w0 with drawn:=w0.drawn+1}:=by
 refine(tQ hl hform stab rel ?_ _ _ _ _ (by simp[Gh]) ⟨by simp,rfl,rfl,?_,fun _ _=>rfl,?_,by rw[eF];exact hC _⟩)
 ·intro a w listed inv hall
  have hvs:=fin (l.map (fun o=>A5 o a)) w (Du listed) (by rw[tP];exact inv.cls) hall (Rm (by simp[hl]) (fun i S v h1 h2=>by
   rw[a0v] at h2
   cases ho:l[i]? with
   |none=>rw[ho] at h2;cases h2
   |some o=>
    rw[ho] at h2;simp only[Option.map_some,Option.some.injEq] at h2;rw[←h2]
    exact inv.done i o S ho h1 (hall i (List.getElem?_eq_some_iff.1 ho).1)))
  have:Am l (l.map (fun o=>A5 o a)) a0=a:=by
   have hdef:(Am l (l.map (fun o=>A5 o a)) a0).defers=a.defers:=by rw[Rk,inv.defers]
   have htm:(Am l (l.map (fun o=>A5 o a)) a0).tmps=a.tmps:=by
    have hsz:(Am l (l.map (fun o=>A5 o a)) a0).tmps.size=a.tmps.size:=by rw[Rj,inv.tmps]
    refine Array.ext hsz fun t h1 h2=>?_
    have hg:(Am l (l.map (fun o=>A5 o a)) a0).tmps.getD t undef=a.tmps.getD t undef:=by
     by_cases hex:∃o∈l,o.dst=some t
     ·obtain⟨o,ho,hd⟩:=hex;obtain⟨i,hi,hio⟩:=a0w ho
      have hio':l[i]?=some o:=by rw[a0z hi,hio]
      rw[Rl l _ a0 (by simp) (fun i j oi oj d hi hj h1 h2=>by
       by_cases hij:i=j
       ·exact hij
       ·exact absurd h2 ((G4 hform hi h1).2 j oj hj (Ne.symm hij))) (fun o' ho' d hd'=>by
       obtain⟨k,hk,hko⟩:=a0w ho'
       exact(G4 hform (by rw[a0z hk,hko]) hd').1) i o (A5 o a) t hio' (by rw[a0v,hio'];rfl) hd]
      unfold A5;rw[hd]
     ·have hex':∀o∈l,o.dst≠some t:=fun o ho hd=>hex ⟨o,ho,hd⟩
      rw[P5 l _ a0 t hex',inv.same t (fun j oj hj hd=>absurd hd (hex' oj (a1x hj)))]
    simpa [h1,h2] using hg
   cases a;cases h:Am l (l.map (fun o=>A5 o _)) a0;rw[h] at hdef htm;simp only at hdef htm;rw[hdef,htm]
  rw[this] at hvs;exact hvs
 ·intro j o S _ _ h;exfalso
  rcases Nat.lt_or_ge j l.length with h'|h'
  ·simp[h'] at h
  ·simp[h'] at h
 ·intro j o _ h;exfalso;unfold Du at h
  rcases Nat.lt_or_ge j l.length with h'|h'
  ·simp[h'] at h
  ·simp[h'] at h
def eO(l:List Oper)(i t:Nat):Bool:=(List.range l.length).all fun j=>match l[j]? with
 |some o=>o.dst !=some t||(j==i||o.after.any fun e=>Region.binds .any e&&e.on==i)
 |none=>true
def Ut(l:List Oper)(i j:Nat):Bool:=match l[i]? with
 |some o=>o.after.any fun e=>Region.binds .any e&&e.on==j
 |none=>false
structure L3(l:List Oper)(Ss:List (World→Value→Prop))(a0:Act)(i:Nat)(b:Nat→Bool)(a:Act)(w:World):Prop where
 size:a.tmps.size=a0.tmps.size
 dep:∀(j t:Nat) (S:World→Value→Prop),Is l i j t=true→Ss[i-1-j]?=some S→S w (a.tmps[t]?.getD undef)
 free:∀(t:Nat) (v:Value),eO l i t=true→a0.tmps.getD t undef=v→a.tmps[t]?.getD undef=v
 pre:∀j,Ut l i j=true→b j=true
 post:∀j,Ut l j i=true→b j=false
 self:b i=false
 val:∀(j t:Nat),Is l i j t=true→a.tmps[t]?.getD undef=E1 l a j
theorem tR{Ss:List (World→Value→Prop)}{a0:Act}{i:Nat}{b:Nat→Bool}{a:Act}{w:World}{o:Oper}(ho:l[i]?=some o)(hs:b i=false)(hp:∀e∈o.after,Region.binds .any e=true→b e.on=true)
  (hc:∀j oj,l[j]?=some oj→b j=true→∀e∈oj.after,Region.binds .any e=true→b e.on=true)(h1:a.tmps.size=a0.tmps.size)
  (h2:∀t,(∀j oj,l[j]?=some oj→oj.dst=some t→b j=false)→a.tmps.getD t undef=a0.tmps.getD t undef)
  (h3:∀e∈o.after,Region.binds .any e=true→∀oe Se,l[e.on]?=some oe→Ss[i-1-e.on]?=some Se→Se w (A5 oe a)):L3 l Ss a0 i b a w:=by
 have later:∀j oj,l[j]?=some oj→(oj.after.any fun e=>Region.binds .any e&&e.on==i)=true→b j=false:=fun j oj hj ha=>by
  obtain⟨e,he,hb⟩:=Array.any_eq_true'.1 ha;simp only[a0x,beq_iff_eq] at hb
  cases hbj:b j with
  |false=>rfl
  |true=>
   have:=hc j oj hj hbj e he hb.1;rw[hb.2,hs] at this;cases this
 refine⟨h1,fun j t S hd hS=>?_,fun t v hf hv=>?_,fun j hj=>?_,fun j hj=>?_,hs,fun j t hd=>?_⟩
 ·unfold Is at hd;rw[ho] at hd
  cases hj:l[j]? with
  |none=>rw[hj] at hd;cases hd
  |some oj=>
   rw[hj] at hd;simp only[a0x,beq_iff_eq] at hd;obtain⟨e,he,hb⟩:=Array.any_eq_true'.1 hd.1;simp only[a0x,beq_iff_eq] at hb;obtain⟨hb1,rfl⟩:=hb;have:=h3 e he hb1 oj S hj hS;unfold A5 at this;rw[hd.2] at this
   simpa using this
 ·have hw:∀j oj,l[j]?=some oj→oj.dst=some t→b j=false:=fun j oj hj hd=>by
   have hlt:j<l.length:=(List.getElem?_eq_some_iff.1 hj).1;have:=List.all_eq_true.1 hf j (List.mem_range.2 hlt);rw[hj] at this;simp only[hd,bne_self_eq_false,Bool.false_or,Bool.or_eq_true,beq_iff_eq] at this
   rcases this with rfl|h
   ·exact hs
   ·exact later j oj hj h
  have:=h2 t hw;rw[hv] at this
  simpa using this
 ·unfold Ut at hj;rw[ho] at hj;obtain⟨e,he,hb⟩:=Array.any_eq_true'.1 hj;simp only[a0x,beq_iff_eq] at hb;rw[←hb.2];exact hp e he hb.1
 ·unfold Ut at hj
  cases hlj:l[j]? with
  |none=>rw[hlj] at hj;cases hj
  |some oj=>rw[hlj] at hj;exact later j oj hlj hj
 ·unfold Is at hd;rw[ho] at hd
  cases hj:l[j]? with
  |none=>rw[hj] at hd;cases hd
  |some oj=>
   rw[hj] at hd;simp only[a0x,beq_iff_eq] at hd;unfold E1;rw[hj];simp only;unfold A5;rw[hd.2];simp
def tS(P:Program)(l:List Oper)(done:List (World→Value→Prop))(S:World→Value→Prop)(C:(Nat→Bool)→(Nat→Value)→World→Prop)(R:World→World→Prop)(a0:Act)(i:Nat):Prop:=
 ∀(b:Nat→Bool),∀o,l[i]?=some o→∀(a:Act) (w:World),C b (E1 l a) w→L3 l done a0 i b a w→
  if Region.wanted o (yielded l.toArray a.tmps)=true then o.wp P a w (fun a2 w2=>∃v,a2=a.put o.dst v∧C (Ao b i) (Bv (E1 l a) i (told o v)) w2∧R w w2∧S w2 (told o v)) (fun _ _ _=>False)
  else S w undef∧C (Ao b i) (Bv (E1 l a) i undef) w
def Rr(R:World→World→Prop):List (World→Value→Prop)→Prop
 |[]=>True
 |S::Ss=>(∀w w' v,R w w'→S w v→S w' v)∧Rr R Ss
theorem eP{R:World→World→Prop}:∀{Ss:List (World→Value→Prop)},Rr R Ss→∀S∈Ss,∀w w' v,R w w'→S w v→S w' v
 |[],_,S,hS=>by cases hS
 |T::Ss,h,S,hS=>by
  rcases List.mem_cons.1 hS with rfl|hS
  ·exact h.1
  ·exact eP h.2 S hS
theorem E2(x:Value){R:World→World→Prop}{Ss:List (World→Value→Prop)}(h:Rr R Ss):Rr R (Br x::Ss):=⟨fun _ _ _ _ h=>h,h⟩
def La(P:Program)(l:List Oper)(C:(Nat→Bool)→(Nat→Value)→World→Prop)(R:World→World→Prop)(a0:Act)(F:Act→World→Prop):Nat→List (World→Value→Prop)→Nat→Prop
 |_,done,0=>Rr R done∧∀w b,(∀j,j<l.length→b j=true)→∀vs,Fz w done.reverse vs→C b (fun j=>vs.getD j undef) w→F (Am l vs a0) w
 |i,done,n+1=>∃S,tS P l done S C R a0 i∧La P l C R a0 F (i+1) (S::done) n
theorem Xx{C:(Nat→Bool)→(Nat→Value)→World→Prop}{R:World→World→Prop}{a0:Act}{F:Act→World→Prop}(hform:Fb l a0.tmps.size=true):∀(n i:Nat) (done:List (World→Value→Prop)),La P l C R a0 F i done n→done.length=i→i+n=l.length→
  ∃Ss,(∃r,Ss=done.reverse++r)∧Ss.length=l.length∧(∀S∈Ss,∀w w' v,R w w'→S w v→S w' v)∧(∀vs w b,C b (fun j=>vs.getD j undef) w→(∀j,j<l.length→b j=true)→Fz w Ss vs→F (Am l vs a0) w)∧∀k,i≤k→k<l.length→Xw P l Ss C R a0 k
 |0,i,done,h,h1,h2=>⟨done.reverse,⟨[],by simp⟩,by simp;omega,fun S hS=>eP h.1 S (by simpa using hS),fun vs w b hC hb hr=>h.2 w b hb vs hr hC,fun k h3 h4=>by omega⟩
 |n+1,i,done,h,h1,h2=>by
  obtain⟨S,hop,hrest⟩:=h;obtain⟨Ss,⟨r,hr⟩,g1,g2,g3,g4⟩:=Xx hform n (i+1) (S::done) hrest (by simp[h1]) (by omega);rw[List.reverse_cons] at hr;refine⟨Ss,⟨[S]++r,by rw[hr,a0u]⟩,g1,g2,g3,fun k h3 h4=>?_⟩
  by_cases e:k=i
  ·subst e;intro o S' ho hS' b a w hC m1 m2 m3 k1 k2 k3
   have hS:Ss[k]?=some S:=by rw[hr,a0u,List.getElem?_append_right (by simp;omega)];simp[h1]
   rw[hS] at hS';cases hS';refine hop b o ho a w hC (tR ho m1 m2 m3 k1 k2 fun e he hb oe Se hoe hSe=>k3 e he hb oe Se hoe ?_);have hlt:=Oh hform ho e he hb;rw[hr,a0u,List.getElem?_append_left (by simp;omega),List.getElem?_reverse (by omega),h1];exact hSe
  ·exact g4 k (by omega) h4
theorem P7{id:Nat}{Q:Exit→Act→World→Prop}{a0:Act}{w0:World}(C:(Nat→Bool)→(Nat→Value)→World→Prop)(R:World→World→Prop)
  (hm:P.follows .mixedOrders=true)(hform:Fb l a0.tmps.size=true)(hC:∀vs,C (fun _=>false) vs {w0 with drawn:=w0.drawn+1})
  (h:La P l C R a0 (fun a w=>Q .normal a w) 0 [] l.length):(Code.region id l.toArray true).wp P Q a0 w0:=by
 obtain⟨Ss,_,g1,g2,g3,g4⟩:=Xx hform l.length 0 [] h rfl (by omega);exact eD hm (eN Ss C R g1 hform hC g2 (fun i hi=>g4 i (Nat.zero_le _) hi) g3)
theorem Rt{id lo n:Nat}{Q:Exit→Act→World→Prop}{a0:Act}{w0:World}(C:(Nat→Bool)→(Nat→Value)→World→Prop)(R:World→World→Prop)
  (hm:P.follows .mixedOrders=true)(hd:Rn l=true)(hform:Fb l a0.tmps.size=true)(hC:∀vs,C (fun _=>false) vs {w0 with drawn:=w0.drawn+1})
  (h:La P l C R a0 (fun a w=>Q .normal a w) 0 [] l.length):(Code.region id l.toArray true).wpIn (Fence.wide.inRound lo) n P Q a0 w0:=by
 obtain⟨Ss,_,g1,g2,g3,g4⟩:=Xx hform l.length 0 [] h rfl (by omega);exact eE hm hd (eN Ss C R g1 hform hC g2 (fun i hi=>g4 i (Nat.zero_le _) hi) g3)
variable {C : (Nat → Bool) → (Nat → Value) → World → Prop} {R : World → World → Prop} {a0 : Act} {F : Act → World → Prop} {i n : Nat} {done : List (World → Value → Prop)}
theorem Cc{o:Oper}{x:Value}(hc:∀b vs w,C b vs w→b i=false→C (Ao b i) (Bv vs i x) w)(ho:l[i]?=some o)(hg:o.guard=none)(hd:o.dst.isSome=true)
  (h:∀b a w,C b (E1 l a) w→L3 l done a0 i b a w→∀K:Act→World→Prop,(∀w2,C b (E1 l a) w2→R w w2→K (a.put o.dst x) w2)→o.wp P a w K (fun _ _ _=>False))
  (hn:La P l C R a0 F (i+1) (Br x::done) n):La P l C R a0 F i done (n+1):=by
 refine⟨Br x,?_,hn⟩;intro b o' ho' a w hC hA;rw[ho] at ho';cases ho'
 have hw:Region.wanted o (yielded l.toArray a.tmps)=true:=by unfold Region.wanted;rw[hg]
 rw[if_pos hw]
 exact h b a w hC hA _ fun w2 c r=>⟨x,rfl,by rw[Us hd];exact hc _ _ _ c hA.self,r,by rw[Us hd];rfl⟩
theorem Dv{o:Oper}(S:World→Value→Prop)(ho:l[i]?=some o)(hg:o.guard=none)(hd:o.dst.isSome=true)
  (h:∀b a w,C b (E1 l a) w→L3 l done a0 i b a w→∀K:Act→World→Prop,(∀v w2,C (Ao b i) (Bv (E1 l a) i v) w2→R w w2→S w2 v→K (a.put o.dst v) w2)→o.wp P a w K (fun _ _ _=>False))
  (hn:La P l C R a0 F (i+1) (S::done) n):La P l C R a0 F i done (n+1):=by
 refine⟨S,?_,hn⟩;intro b o' ho' a w hC hA;rw[ho] at ho';cases ho'
 have hw:Region.wanted o (yielded l.toArray a.tmps)=true:=by unfold Region.wanted;rw[hg]
 rw[if_pos hw]
 exact h b a w hC hA _ fun v w2 c r s=>⟨v,rfl,by rw[Us hd];exact c,r,by rw[Us hd];exact s⟩
theorem I8{o:Oper}(S:World→Prop)(ho:l[i]?=some o)(hg:o.guard=none)(hd:o.dst=none)
  (h:∀b a w,C b (E1 l a) w→L3 l done a0 i b a w→∀K:Act→World→Prop,(∀v w2,C (Ao b i) (Bv (E1 l a) i undef) w2→R w w2→S w2→K (a.put o.dst v) w2)→o.wp P a w K (fun _ _ _=>False))
  (hn:La P l C R a0 F (i+1) ((fun w _=>S w)::done) n):La P l C R a0 F i done (n+1):=by
 refine⟨fun w _=>S w,?_,hn⟩;intro b o' ho' a w hC hA;rw[ho] at ho';cases ho'
 have hw:Region.wanted o (yielded l.toArray a.tmps)=true:=by unfold Region.wanted;rw[hg]
 rw[if_pos hw]
 exact h b a w hC hA _ fun v w2 c r s=>⟨v,rfl,by unfold told;rw[hd];exact c,r,s⟩
end
section
open Go.RowKit
theorem L3.eq{l:List Oper}{Ss:List (World→Value→Prop)}{a0:Act}{i:Nat}{b:Nat→Bool}{a:Act}{w:World}(h:L3 l Ss a0 i b a w)(j t:Nat){x:Value}(hs:Ss[i-1-j]?=some (Br x))(hd:Is l i j t=true:=by decide+kernel):a.tmps[t]?.getD undef=x:=h.dep j t (Br x) hd hs
theorem L3.fr{l:List Oper}{Ss:List (World→Value→Prop)}{a0:Act}{i:Nat}{b:Nat→Bool}{a:Act}{w:World}(h:L3 l Ss a0 i b a w)(t:Nat){v:Value}(hv:a0.tmps.getD t undef=v)(hd:eO l i t=true:=by decide+kernel):a.tmps[t]?.getD undef=v:=h.free t v hd hv
end
end
section
open Go.RowKit
theorem Ei(b:Nat→Bool)(i:Nat):Ao b i i=true:=if_pos rfl
theorem Af{b:Nat→Bool}{i k:Nat}(h:k≠i):Ao b i k=b k:=if_neg h
theorem Gp(vs:Nat→Value)(i:Nat)(v:Value):Bv vs i v i=v:=if_pos rfl
theorem Be{vs:Nat→Value}{i k:Nat}{v:Value}(h:k≠i):Bv vs i v k=vs k:=if_neg h
structure F2(T:TypeId)(z x y:Array Value)(i j p q:Nat)(w0:World)(b:Nat→Bool)(vs:Nat→Value)(w:World):Prop where
 fp:Fp [] w0 w
 ai:b i=true→∃B,vs i=.pointer (some ⟨B,0,none⟩)∧w0.heap.size≤B∧w.heap[B]?=some (.cells (if b p=true then x else z) T (0,0))
 aj:b j=true→∃B,vs j=.pointer (some ⟨B,0,none⟩)∧w0.heap.size≤B∧w.heap[B]?=some (.cells (if b q=true then y else z) T (0,0))
 ne:b i=true→b j=true→vs i≠vs j
variable {T : TypeId} {z x y : Array Value} {i j p q : Nat} {w0 : World} {b : Nat → Bool} {vs : Nat → Value} {w w2 : World}
theorem F2.start{vs:Nat→Value}(h:Fp [] w0 w):F2 T z x y i j p q w0 (fun _=>false) vs w:=⟨h,(fun h=>by cases h),(fun h=>by cases h),(fun h=>by cases h)⟩
theorem F2.plain{k:Nat}{v:Value}(h:F2 T z x y i j p q w0 b vs w)(hk:k≠i∧k≠j∧k≠p∧k≠q):F2 T z x y i j p q w0 (Ao b k) (Bv vs k v) w:=by
 obtain⟨h1,h2,h3,h4⟩:=hk;refine⟨h.fp,?_,?_,?_⟩
 ·rw[Af h1.symm,Af h3.symm,Be h1.symm];exact h.ai
 ·rw[Af h2.symm,Af h4.symm,Be h2.symm];exact h.aj
 ·rw[Af h1.symm,Af h2.symm,Be h1.symm,Be h2.symm];exact h.ne
theorem F2.on(h:F2 T z x y i j p q w0 b vs w)(hf:Fp [] w w2):F2 T z x y i j p q w0 b vs w2:=by
 refine⟨h.fp.trans hf (by simp),fun hb=>?_,fun hb=>?_,h.ne⟩
 ·obtain⟨B,h1,h2,h3⟩:=h.ai hb;exact⟨B,h1,h2,(hf.block B (Ab h3) (by simp)).trans h3⟩
 ·obtain⟨B,h1,h2,h3⟩:=h.aj hb;exact⟨B,h1,h2,(hf.block B (Ab h3) (by simp)).trans h3⟩
theorem F2.makeI(h:F2 T z x y i j p q w0 b vs w)(hp:b p=false)(hd:i≠j∧i≠p∧i≠q):F2 T z x y i j p q w0 (Ao b i) (Bv vs i (.pointer (some ⟨w.heap.size,0,none⟩))) (w.alloc (.cells z T)):=by
 have h2:=h.on (Fp.alloc w (.cells z T));refine⟨h2.fp,fun _=>⟨w.heap.size,Gp _ _ _,h.fp.size,?_⟩,fun hb=>?_,fun _ hb=>?_⟩
 ·rw[Af hd.2.1.symm,hp];exact Aj rfl _
 ·rw[Af hd.1.symm] at hb;rw[Be hd.1.symm,Af hd.2.2.symm];exact h2.aj hb
 ·rw[Af hd.1.symm] at hb;rw[Gp,Be hd.1.symm];obtain⟨B,h1,_,h3⟩:=h.aj hb;rw[h1];intro e
  have e1:w.heap.size=B:=by injection e with e;injection e with e;injection e
  have:=Ab h3;omega
theorem F2.makeJ(h:F2 T z x y i j p q w0 b vs w)(hq:b q=false)(hd:j≠i∧j≠p∧j≠q):F2 T z x y i j p q w0 (Ao b j) (Bv vs j (.pointer (some ⟨w.heap.size,0,none⟩))) (w.alloc (.cells z T)):=by
 have h2:=h.on (Fp.alloc w (.cells z T));refine⟨h2.fp,fun hb=>?_,fun _=>⟨w.heap.size,Gp _ _ _,h.fp.size,?_⟩,fun hb _=>?_⟩
 ·rw[Af hd.1.symm] at hb;rw[Be hd.1.symm,Af hd.2.1.symm];exact h2.ai hb
 ·rw[Af hd.2.2.symm,hq];exact Aj rfl _
 ·rw[Af hd.1.symm] at hb;rw[Gp,Be hd.1.symm];obtain⟨B,h1,_,h3⟩:=h.ai hb;rw[h1];intro e
  have e1:w.heap.size=B:=by injection e with e;injection e with e;injection e with e;exact e.symm
  have:=Ab h3;omega
theorem F2.fillP(h:F2 T z x y i j p q w0 b vs w)(hi:b i=true){B:Nat}(hv:vs i=.pointer (some ⟨B,0,none⟩))(hf:Fp [B] w w2)(hx:w2.heap[B]?=some (.cells x T (0,0)))(hd:p≠i∧p≠j∧p≠q):F2 T z x y i j p q w0 (Ao b p) (Bv vs p undef) w2:=by
 obtain⟨B',h1,h2,h3⟩:=h.ai hi
 have hB:B=B':=by rw[h1] at hv;injection hv with e;injection e with e;injection e with e;exact e.symm
 subst hB;refine⟨h.fp.trans hf (by simp;omega),fun _=>⟨B,?_,h2,?_⟩,fun hb=>?_,fun h5 h6=>?_⟩
 ·rw[Be hd.1.symm];exact h1
 ·rw[Ei,if_pos rfl];exact hx
 ·rw[Af hd.2.1.symm] at hb;rw[Be hd.2.1.symm,Af hd.2.2.symm];obtain⟨B2,g1,g2,g3⟩:=h.aj hb;refine⟨B2,g1,g2,(hf.block B2 (Ab g3) ?_).trans g3⟩;intro hm;have hm:=List.mem_singleton.1 hm;exact h.ne hi hb (by rw[h1,g1,hm])
 ·rw[Af hd.1.symm] at h5;rw[Af hd.2.1.symm] at h6;rw[Be hd.1.symm,Be hd.2.1.symm];exact h.ne h5 h6
theorem F2.fillQ(h:F2 T z x y i j p q w0 b vs w)(hj:b j=true){B:Nat}(hv:vs j=.pointer (some ⟨B,0,none⟩))(hf:Fp [B] w w2)(hy:w2.heap[B]?=some (.cells y T (0,0)))(hd:q≠i∧q≠j∧q≠p):F2 T z x y i j p q w0 (Ao b q) (Bv vs q undef) w2:=by
 obtain⟨B',h1,h2,h3⟩:=h.aj hj
 have hB:B=B':=by rw[h1] at hv;injection hv with e;injection e with e;injection e with e;exact e.symm
 subst hB;refine⟨h.fp.trans hf (by simp;omega),fun hb=>?_,fun _=>⟨B,?_,h2,?_⟩,fun h5 h6=>?_⟩
 ·rw[Af hd.1.symm] at hb;rw[Be hd.1.symm,Af hd.2.2.symm];obtain⟨B2,g1,g2,g3⟩:=h.ai hb;refine⟨B2,g1,g2,(hf.block B2 (Ab g3) ?_).trans g3⟩;intro hm;have hm:=List.mem_singleton.1 hm;exact h.ne hb hj (by rw[h1,g1,hm])
 ·rw[Be hd.2.1.symm];exact h1
 ·rw[Ei,if_pos rfl];exact hy
 ·rw[Af hd.1.symm] at h5;rw[Af hd.2.1.symm] at h6;rw[Be hd.1.symm,Be hd.2.1.symm];exact h.ne h5 h6
end
section
open Go.RowKit
section
variable {α : Type} {R : G3 α}
theorem eQ(T:TypeId){z:Value}{bytes:Nat}(hu:Tryz.prog.underlying T=some (.slice R.e))(hinfo:(Tryz.prog.info? R.e).map (fun i=>(i.zero,i.size,i.bytes))=some (some z,R.k,bytes))(hzs:z.cells.size=R.k)(hby:bytes≤100000)
  {w:World}{o:Oper}{a:Act}{K:Act→World→Prop}{Q:Exit→Act→World→Prop}(s x:Operand)
  (ho:o.op=.call {callee:=.builtin .append,args:=#[s,x],argTypes:=#[T,T]})(base:Nat)(v:Value)(l:List α)(hs:a.eval s=v)(hown:Ag R w base v l)
  (ad:Addr)(m c:Nat)(ls:List α)(hx:a.eval x=.slice (some ad) m c)(hl:Bz R w (some ad) m ls)(hlen:l.length+ls.length≤1000000000)(hbase:base≤w.heap.size)
  (h:∀v' w',Ag R w' base v' (l++ls)→Below base w w'→w.grownBy w' v.ownBlock→K (a.put o.dst v') w'):o.wp Tryz.prog a w K Q:=by
 obtain⟨i0,hi,hz0,hz1,hz2⟩:=info_parts hinfo;have hm:=hl.len;refine wp_append_own (P:=Tryz.prog) w s x T ho base R.e i0 _ R.k bytes hu hi hz0 hz1 hz2 hzs R.pos v l.length (l.flatMap R.enc) hs hown ad m c (ls.flatMap R.enc) hx (by rw[Oe,hm]) ?_ (dU ls) (by unfold maxLen;omega) (a1z (Nat.mul_le_mul (show l.length+m≤1000000000 by omega) hby) (by decide)) hbase ?_
 ·intro j u hju
  rcases hl.cells with h0|⟨b,o,h0,_,hc⟩
  ·subst h0;simp at hju
  ·obtain rfl:=Option.some.inj h0
   have e1:(⟨b,o,none⟩:Addr).add j=⟨b,o+j,none⟩:=by unfold Addr.add;split<;>simp_all
   rw[e1]
   have hjl:j<ls.length*R.k:=by rw[←Oe (R:=R)];exact(List.getElem?_eq_some_iff.1 hju).1
   obtain⟨h1,h2,h3⟩:=Xk hjl R.pos;rw[h3,Re ls _ _ h2 h1] at hju;have:=hc (j/R.k) h1 (j%R.k) u hju;rw[Nat.add_assoc,←h3] at this;exact this
 ·intro v' w' h1 h2 _;refine h v' w' ?_ ((Below.refl base w).grown h2 hbase (fun k hk=>(hown.lt k hk).1)) h2;unfold Ag;rw[List.length_append,List.flatMap_append,←hm];exact h1
structure F3(R:G3 α)(D:List TypeId)(T:TypeId)(C:Value→Array Value)(base B:Nat)(v:Value)(l:List α)(x:α)(ib ia is:Nat)(W0:World)(b:Nat→Bool)(vs:Nat→Value)(W:World):Prop where
 own0:b ia=false→Ag R W base v l
 own1:b ia=true→Ag R W base (vs ia) (l++[x])
 bld:b ib=true→b ia=false→∃g,vs ib=.slice (some ⟨g,0,none⟩) 1 1∧Bz R W (some ⟨g,0,none⟩) 1 [x]
 cel:W.heap[B]?=some (.cells (C (if b is=true then vs ia else v)) T (0,0))
 tf:Tf base D [B] W0 W
 oa:b is=true→b ia=true
 ob:b ia=true→b ib=true
 sz:base≤W.heap.size
variable {D : List TypeId} {T : TypeId} {C : Value → Array Value} {base B : Nat} {v : Value} {l : List α} {x : α} {ib ia is : Nat} {W0 W W2 : World} {b : Nat → Bool} {vs : Nat → Value}
theorem Uu{a c:Bool}(h:a=true→c=true)(hc:c=false):a=false:=by cases a<;>cases c<;>simp_all
theorem F3.start{vs:Nat→Value}(ho:Ag R W0 base v l)(hc:W0.heap[B]?=some (.cells (C v) T (0,0)))(hb:base≤W0.heap.size):F3 R D T C base B v l x ib ia is W0 (fun _=>false) vs {W0 with drawn:=W0.drawn+1}:=
 ⟨fun _=>ho.fp (Fp.drew W0) (by simp),(fun h=>by cases h),(fun h=>by cases h),hc,(Tf.of (Fp.drew W0)).mono (by simp),(fun h=>by cases h),(fun h=>by cases h),hb⟩
theorem F3.plain{k:Nat}{y:Value}(h:F3 R D T C base B v l x ib ia is W0 b vs W)(hk:k≠ib∧k≠ia∧k≠is):F3 R D T C base B v l x ib ia is W0 (Ao b k) (Bv vs k y) W:=by
 obtain⟨h2,h3,h4⟩:=hk;refine⟨?_,?_,?_,?_,h.tf,?_,?_,h.sz⟩
 ·rw[Af h3.symm];exact h.own0
 ·rw[Af h3.symm,Be h3.symm];exact h.own1
 ·rw[Af h3.symm,Af h2.symm,Be h2.symm];exact h.bld
 ·rw[Af h4.symm,Be h3.symm];exact h.cel
 ·rw[Af h4.symm,Af h3.symm];exact h.oa
 ·rw[Af h3.symm,Af h2.symm];exact h.ob
theorem F3.first(h:F3 R D T C base B v l x ib ia is W0 b vs W)(ha:b ia=false):W.heap[B]?=some (.cells (C v) T (0,0)):=by
 have:=h.cel;rw[Uu h.oa ha] at this;exact this
theorem F3.build(h:F3 R D T C base B v l x ib ia is W0 b vs W)(hb:b ib=false)(hd:ib≠ia∧ib≠is∧ia≠is):
  F3 R D T C base B v l x ib ia is W0 (Ao b ib) (Bv vs ib (.slice (some ⟨W.heap.size,0,none⟩) 1 1)) (W.alloc (.cells (R.enc x).toArray R.e)):=by
 have ha:=Uu h.ob hb;have hf:=Fp.alloc W (.cells (R.enc x).toArray R.e);refine⟨fun _=>(h.own0 ha).fp hf (by simp),fun e=>?_,fun _ _=>⟨W.heap.size,Gp _ _ _,Bz.one (Aj rfl _)⟩,?_,h.tf.trans (Tf.of hf) (by simp),?_,fun _=>Ei _ _,a1z h.sz hf.size⟩
 ·rw[Af hd.1.symm,ha] at e;cases e
 ·rw[Af hd.2.1.symm,Be hd.1.symm];exact C7 h.cel
 ·rw[Af hd.2.1.symm,Af hd.1.symm];exact h.oa
theorem F3.append{v':Value}(h:F3 R D T C base B v l x ib ia is W0 b vs W)(hb:b ib=true)(ha:b ia=false)(ho:Ag R W2 base v' (l++[x]))(hg:W.grownBy W2 v.ownBlock)(hD:R.e∈D)(hT:T∉D)(hd:ib≠ia∧ib≠is∧ia≠is):
  F3 R D T C base B v l x ib ia is W0 (Ao b ia) (Bv vs ia v') W2:=by
 have hs:=Uu h.oa ha;have ht:Tf base D [] W W2:=Tf.grown (h.own0 ha) hg hD;refine⟨fun e=>?_,fun _=>by rw[Gp];exact ho,fun _ e=>?_,?_,h.tf.trans ht (by simp),fun e=>?_,fun _=>?_,a1z h.sz ht.size⟩
 ·rw[Ei] at e;cases e
 ·rw[Ei] at e;cases e
 ·rw[Af hd.2.2.symm,hs];exact ht.cells (h.first ha) (by simp) hT
 ·rw[Af hd.2.2.symm,hs] at e;cases e
 ·rw[Af hd.1];exact hb
theorem F3.store{off:Nat}(h:F3 R D T C base B v l x ib ia is W0 b vs W)(ha:b ia=true)(hs:b is=false)(hC:(C v).setIfInBounds off (vs ia)=C (vs ia))(hT:T≠R.e)(hd:ib≠ia∧ib≠is∧ia≠is):
  F3 R D T C base B v l x ib ia is W0 (Ao b is) (Bv vs is undef) (W.setCell ⟨B,off,none⟩ (vs ia)):=by
 have hf:Fp [B] W (W.setCell ⟨B,off,none⟩ (vs ia)):=Fp.setCell W ⟨B,off,none⟩ (vs ia);have hc:=h.cel;rw[hs] at hc;refine⟨fun e=>?_,fun _=>?_,fun _ e=>?_,?_,h.tf.trans (Tf.of hf) (by simp),fun _=>?_,fun e=>?_,a1z h.sz hf.size⟩
 ·rw[Af hd.2.2,ha] at e;cases e
 ·rw[Be hd.2.2];have ho:=h.own1 ha
  refine ho.kept fun k hk=>hf.block k (ho.lt k hk).2 fun hm=>?_
  obtain rfl:=List.mem_singleton.1 hm
  rcases ho.2 with⟨h1,_⟩|⟨g,cap,cur,h1,_,hh,_⟩
  ·rw[h1] at hk;cases hk
  ·rw[h1] at hk
   obtain rfl:g=k:=by simpa [Value.ownBlock] using hk
   rw[hh] at hc;cases hc;exact hT rfl
 ·rw[Af hd.2.2,ha] at e;cases e
 ·rw[Ei,if_pos rfl,Be hd.2.2,Bt hc];rw[←hC];rfl
 ·rw[Af hd.2.2];exact ha
 ·rw[Af hd.2.2] at e;rw[Af hd.2.1];exact h.ob e
theorem F3.slice(h:F3 R D T C base B v l x ib ia is W0 b vs W)(ha:b ia=true):∃a n c,vs ia=.slice a n c:=by
 obtain⟨a,c,e,_⟩:=(h.own1 ha).len;exact⟨_,_,_,e⟩
end
end
end Go.Proofs.YtkagolpnaicdoaaGreatDoor
