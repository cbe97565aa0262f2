/-
 A region that draws its order, walked once: the same walk serves a function's body and the round of a range over a function. Over any program. A region that draws its order; some of its operations turn the world, in an order that is forced: the class knows which are done. Over any program. The reader of a block's bytes. A range over a function whose iterator turns one block of its own (a reader's). Over any program. The entries of a block: the iterator.
-/
import Derived.Test.YtkagolpnaicdoaaGreatDoorPRegion
import Derived.RangeFuncCalls
import Derived.RegionIn
import Derived.Test.YtkagolpnaicdoaaGreatDoorPCellKey
import Derived.Laws.BitsLemmas
import Derived.Laws.DeepStrings4
import Derived.Test.YtkagolpnaicdoaaGreatDoorPMaps
import Derived.RangeFuncWrites
import Derived.RangeFuncLeaves
import Derived.Deep.Cut
import Derived.TacticsIn
import Derived.BigFrameIn
import Derived.BigGuardIn
set_option maxRecDepth 100000
set_option maxHeartbeats 8000000
open List renaming getElem?_eq_getElem→a0z,mem_of_getElem?→a0w,getElem_of_mem→a0u,append_assoc→a1z
open Bool renaming and_eq_true→a0x
open Array renaming replicate→a0v
open Nat renaming lt_or_ge→a1x
namespace Go.Proofs.YtkagolpnaicdoaaGreatDoor
section
open Go.RowKit
section
variable {P : Program} {l : List Oper}
def Ir(P:Program)(l:List Oper)(Qn:Act→World→Prop):Nat→Array Bool→Act→World→Prop
 |0,listed,a,w=>Region.ready .any l.toArray listed=[]∧Qn a w
 |fuel+1,listed,a,w=>(Region.ready .any l.toArray listed=[]→Qn a w)∧∀i∈Region.ready .any l.toArray listed,∃o,l[i]?=some o∧
   if Region.wanted o (yielded l.toArray a.tmps)=true then o.wp P a w (Ir P l Qn fuel (listed.setIfInBounds i true)) (fun _ _ _=>False) else Ir P l Qn fuel (listed.setIfInBounds i true) (a.put o.dst undef) w
theorem Yr{Q:Exit→Act→World→Prop}:∀(fuel:Nat) (listed:Array Bool) (a:Act) (w:World),Ir P l (Q .normal) fuel listed a w→wpAny P .any l.toArray Q fuel listed a w
 |0,_,_,_,h=>h
 |fuel+1,listed,a,w,h=>by
  refine⟨h.1,fun i hi=>?_⟩;obtain⟨o,ho,hh⟩:=h.2 i hi
  have ho':l.toArray[i]?=some o:=by simpa using ho
  unfold wpOp;simp only[ho'];split
  ·rename_i hw;rw[if_pos hw] at hh;exact Or.inl (Sl (fun a2 w2 h=>Yr fuel _ a2 w2 h) (fun _ _ _ h=>h.elim) hh)
  ·rename_i hw;rw[if_neg hw] at hh;exact Yr fuel _ _ _ hh
def S3(l:List Oper):Bool:=l.all fun o=>match o.op with| .defer _=>false|_=>true
theorem vX{o:Oper}{a:Act}{w:World}{K K':Act→World→Prop}{Q:Exit→Act→World→Prop}{lo n:Nat}(hd:∀c,o.op≠.defer c)(hk:∀a w,K a w→K' a w)
  (h:o.wp P a w K (fun _ _ _=>False)):o.wpIn (Fence.wide.inRound lo) n P a w K' Q:=by
 refine⟨fun _ _=>trivial,?_⟩;rw[show(Fence.wide.inRound lo).round=some lo from rfl,Oper.semAt_some lo _ _ hd];unfold Oper.wp at h;generalize (execOp a.eval o).run P w=r at*
 cases r with
 |ok x w'=>
  cases x<;>simp only[Oper.upon,Oper.uponIn] at h ⊢
  case value=>exact hk _ _ h
  case skip=>exact hk _ _ h
  case defer=>exact hk _ _ h
  case enter=>
   refine⟨fun e=>by simp[Fence.wide] at e,CallsIn.inRound lo (callsIn_wide.2 (Calls.mono h fun e w'' he=>?_))⟩;cases e
   ·exact hk _ _ he
   ·exact he.elim
   ·obtain⟨a0,w0,h0⟩:=he;exact h0.elim
  case row=>
   refine⟨fun e=>by simp[Fence.wide] at e,fun c cs _=>?_⟩;obtain⟨v,w2,hq,hs⟩:=h c cs;exact⟨v,w2,hk _ _ hq,stepsIn_wide.2 hs⟩
 |halt x w'=>cases x<;>simp only[Oper.upon] at h
theorem Ys{Q:Exit→Act→World→Prop}{lo n:Nat}(hd:S3 l=true):∀(fuel:Nat) (listed:Array Bool) (a:Act) (w:World),Ir P l (Q .normal) fuel listed a w→wpAnyIn (Fence.wide.inRound lo) n P .any l.toArray Q fuel listed a w
 |0,_,_,_,h=>h
 |fuel+1,listed,a,w,h=>by
  refine⟨h.1,fun i hi=>?_⟩;obtain⟨o,ho,hh⟩:=h.2 i hi
  have ho':l.toArray[i]?=some o:=by simpa using ho
  have hdo:∀c,o.op≠.defer c:=fun c e=>by
   have:=List.all_eq_true.1 hd o (a0w ho);rw[e] at this;cases this
  unfold wpOpIn;simp only[ho'];split
  ·rename_i hw;rw[if_pos hw] at hh;exact vX hdo (fun a2 w2 h=>Ys hd fuel _ a2 w2 h) hh
  ·rename_i hw;rw[if_neg hw] at hh;exact⟨fun _ _=>trivial,Ys hd fuel _ _ _ hh⟩
theorem gY{id:Nat}{Q:Exit→Act→World→Prop}{a0:Act}{w0:World}(hm:P.follows .mixedOrders=true)
  (h:Ir P l (Q .normal) l.toArray.size (a0v l.toArray.size false) a0 {w0 with drawn:=w0.drawn+1}):(Code.region id l.toArray true).wp P Q a0 w0:=wp_region_any hm (Yr _ _ _ _ h)
theorem gZ{id lo n:Nat}{Q:Exit→Act→World→Prop}{a0:Act}{w0:World}(hm:P.follows .mixedOrders=true)(hd:S3 l=true)
  (h:Ir P l (Q .normal) l.toArray.size (a0v l.toArray.size false) a0 {w0 with drawn:=w0.drawn+1}):(Code.region id l.toArray true).wpIn (Fence.wide.inRound lo) n P Q a0 w0:=wpIn_region_any hm (Ys hd _ _ _ _ h)
end
end
section
open Go.RowKit
section
variable {P : Program} {l : List Oper}
def Ap(b:Nat→Bool)(i:Nat):Nat→Bool:=fun k=>if k=i then true else b k
def Dy(listed:Array Bool):Nat→Bool:=fun k=>listed.getD k false
theorem hO(n:Nat):Dy (a0v n false)=fun _=>false:=by
 funext k
 unfold Dy
 rcases a1x k n with h|h
 ·simp[h]
 ·simp[h]
def Yt(P:Program)(l:List Oper)(Ss:List (World→Value→Prop))(C:(Nat→Bool)→World→Prop)(R:World→World→Prop)(a0:Act)(i:Nat):Prop:=
 ∀o S,l[i]?=some o→Ss[i]?=some S→∀(b:Nat→Bool) (a:Act) (w:World),C b w→b i=false→(∀e∈o.after,Region.binds .any e=true→b e.on=true)→
  (∀j oj,l[j]?=some oj→b j=true→∀e∈oj.after,Region.binds .any e=true→b e.on=true)→a.tmps.size=a0.tmps.size→
  (∀t,(∀j oj,l[j]?=some oj→oj.dst=some t→b j=false)→a.tmps.getD t undef=a0.tmps.getD t undef)→
  (∀e∈o.after,Region.binds .any e=true→∀oe Se,l[e.on]?=some oe→Ss[e.on]?=some Se→Se w (A8 oe a))→
  if Region.wanted o (yielded l.toArray a.tmps)=true then o.wp P a w (fun a2 w2=>∃v,a2=a.put o.dst v∧C (Ap b i) w2∧R w w2∧S w2 (match o.dst with|some _=>v|none=>undef)) (fun _ _ _=>False)
  else S w undef∧C (Ap b i) w
structure hQ(l:List Oper)(Ss:List (World→Value→Prop))(C:(Nat→Bool)→World→Prop)(a0:Act)(listed:Array Bool)(a:Act)(w:World):Prop where
 size:listed.size=l.length
 defers:a.defers=a0.defers
 tmps:a.tmps.size=a0.tmps.size
 done:∀j o S,l[j]?=some o→Ss[j]?=some S→listed.getD j false=true→S w (A8 o a)
 same:∀t,(∀j oj,l[j]?=some oj→oj.dst=some t→Dy listed j=false)→a.tmps.getD t undef=a0.tmps.getD t undef
 closed:∀j oj,l[j]?=some oj→Dy listed j=true→∀e∈oj.after,Region.binds .any e=true→Dy listed e.on=true
 cls:C (Dy listed) w
theorem vY{Ss:List (World→Value→Prop)}{C:(Nat→Bool)→World→Prop}{R:World→World→Prop}{a0:Act}{Qn:Act→World→Prop}(hl:Ss.length=l.length)(hform:Ft l a0.tmps.size=true)
  (stab:∀S∈Ss,∀w w' v,R w w'→S w v→S w' v)(rel:∀i,i<l.length→Yt P l Ss C R a0 i)
  (fin:∀a w listed,hQ l Ss C a0 listed a w→(∀j,j<l.length→listed.getD j false=true)→Qn a w):
  ∀(fuel:Nat) (listed:Array Bool) (a:Act) (w:World),Gn listed=fuel→hQ l Ss C a0 listed a w→Ir P l Qn fuel listed a w:=by
 intro fuel
 induction fuel with
 |zero=>
  intro listed a w hu inv;have hall:=Vm hu;rw[inv.size] at hall;refine⟨?_,fin a w listed inv hall⟩;apply List.eq_nil_iff_forall_not_mem.2;intro j hj;obtain⟨h1,o,ho,_⟩:=mem_ready.1 hj
  have hlt:j<l.length:=by simpa using(Array.getElem?_eq_some_iff.1 ho).1
  have h2:=hall j hlt
  have hls:j<listed.size:=by rw[inv.size];exact hlt
  simp[hls] at h1 h2;rw[h1] at h2;cases h2
 |succ fuel ih=>
  intro listed a w hu inv;refine⟨fun hr=>?_,fun i hi=>?_⟩
  ·--something is ready as long as not all is listed
   exfalso
   have hex:∃j,j<l.length∧listed.getD j false=false:=by
    by_cases hex:∃j,j<l.length∧listed.getD j false=false
    ·exact hex
    ·exfalso
     have hall:∀j,j<l.length→listed.getD j false=true:=fun j hj=>by
      cases h:listed.getD j false
      ·exact absurd ⟨j,hj,h⟩ hex
      ·rfl
     have:Gn listed=0:=by
      unfold Gn;rw[List.length_eq_zero_iff,List.filter_eq_nil_iff];intro b hb;obtain⟨j,hj,rfl⟩:=a0u hb
      have hj':j<listed.size:=by simpa using hj
      have:=hall j (by rw[←inv.size];exact hj');simp[hj'] at this ⊢;exact this
     omega
   obtain⟨j,hj,hleast⟩:∃j,(j<l.length∧listed.getD j false=false)∧∀k,k<j→¬(k<l.length∧listed.getD k false=false):=by
    obtain⟨j0,h0⟩:=hex
    induction j0 using Nat.strongRecOn with
    |_ n ih2=>
     by_cases hk:∃k,k<n∧(k<l.length∧listed.getD k false=false)
     ·obtain⟨k,hk1,hk2⟩:=hk;exact ih2 k hk1 hk2
     ·exact⟨n,h0,fun k hk1 hk2=>hk ⟨k,hk1,hk2⟩⟩
   have hjs:j<listed.size:=by rw[inv.size];exact hj.1
   have:j∈Region.ready .any l.toArray listed:=by
    refine mem_ready.2 ⟨by have:=hj.2;simp[hjs] at this ⊢;exact this,l[j],by simp[hj.1],fun e he hb=>?_⟩;have hlt:=O7 hform (a0z hj.1) e he hb;cases h:listed.getD e.on false
    ·exact absurd ⟨by omega,h⟩ (hleast e.on hlt)
    ·rfl
   rw[hr] at this;cases this
  ·obtain⟨h1,o,ho,hpre⟩:=mem_ready.1 hi
   have ho':l[i]?=some o:=by simpa using ho
   have hlt:i<l.length:=(List.getElem?_eq_some_iff.1 ho').1
   have hls:i<listed.size:=by rw[inv.size];exact hlt
   obtain⟨S,hS⟩:∃S,Ss[i]?=some S:=⟨Ss[i]'(by omega),a0z (by omega)⟩
   have h1':Dy listed i=false:=by unfold Dy;simp[hls] at h1 ⊢;exact h1
   have hr:=rel i hlt o S ho' hS (Dy listed) a w inv.cls h1' (fun e he hb=>hpre e he hb) inv.closed inv.tmps inv.same (fun e he hb oe Se hoe hSe=>inv.done e.on oe Se hoe hSe (hpre e he hb))
   have hbit:Dy (listed.setIfInBounds i true)=Ap (Dy listed) i:=by
    funext k
    unfold Dy Ap
    by_cases e:k=i
    ·subst e;rw[if_pos rfl];simp[hls]
    ·rw[if_neg e,getD_set_ne false (Ne.symm e)]
   have hnext:∀v w2,C (Ap (Dy listed) i) w2→(∀S'∈Ss,∀v,S' w v→S' w2 v)→S w2 (match o.dst with|some _=>v|none=>undef)→Ir P l Qn fuel (listed.setIfInBounds i true) (a.put o.dst v) w2:=by
    intro v w2 hC hst hv;refine ih _ _ _ (by have:=Vl hls h1;omega) ⟨by simp[inv.size],by rw[Sr];exact inv.defers,by rw[Qr];exact inv.tmps,?_,?_,?_,by rw[hbit];exact hC⟩
    ·intro j oj Sj hj hSj hlj
     by_cases hij:i=j
     ·subst hij;rw[ho'] at hj;cases hj;rw[hS] at hSj;cases hSj;unfold A8
      cases hd:o.dst with
      |none=>rw[hd] at hv;exact hv
      |some d=>
       rw[hd] at hv;simp only;rw[Qq (by rw[inv.tmps];exact(Ha hform ho' hd).1)];exact hv
     ·rw[getD_set_ne false hij] at hlj;have h2:=hst Sj (a0w hSj) _ (inv.done j oj Sj hj hSj hlj)
      have:A8 oj (a.put o.dst v)=A8 oj a:=by
       unfold A8
       cases hdj:oj.dst with
       |none=>rfl
       |some d=>
        simp only
        refine Lx fun hd=>?_
        exact(Ha hform ho' hd).2 j oj hj (Ne.symm hij) hdj
      rw[this];exact h2
    ·intro t ht
     have hne:o.dst≠some t:=fun hd=>by
      have:=ht i o ho' hd;rw[hbit] at this;unfold Ap at this;rw[if_pos rfl] at this;cases this
     rw[Lx hne]
     refine inv.same t fun j oj hj hd=>?_
     have:=ht j oj hj hd;rw[hbit] at this;unfold Ap at this
     by_cases e:j=i
     ·rw[if_pos e] at this;cases this
     ·rw[if_neg e] at this;exact this
    ·intro j oj hj hlj e he hb;rw[hbit] at hlj ⊢
     have up:∀k,Dy listed k=true→Ap (Dy listed) i k=true:=fun k hk=>by
      unfold Ap
      by_cases e:k=i
      ·rw[if_pos e]
      ·rw[if_neg e];exact hk
     by_cases ej:j=i
     ·subst ej;rw[ho'] at hj;cases hj;exact up _ (hpre e he hb)
     ·unfold Ap at hlj;rw[if_neg ej] at hlj;exact up _ (inv.closed j oj hj hlj e he hb)
   refine⟨o,ho',?_⟩;split
   ·rename_i hw;rw[if_pos hw] at hr;refine(Sl (fun a2 w2 h=>?_) (fun _ _ _ h=>h.elim) hr);obtain⟨v,rfl,hC,hR,hv⟩:=h;exact hnext v w2 hC (fun S' hS' v hv=>stab S' hS' w w2 v hR hv) hv
   ·rename_i hw;rw[if_neg hw] at hr;refine hnext undef w hr.2 (fun _ _ _ h=>h) ?_
    cases o.dst<;>exact hr.1
theorem vZ{Qn:Act→World→Prop}{a0:Act}{w0:World}(Ss:List (World→Value→Prop))(C:(Nat→Bool)→World→Prop)(R:World→World→Prop)
  (hl:Ss.length=l.length)(hform:Ft l a0.tmps.size=true)(hC:C (fun _=>false) {w0 with drawn:=w0.drawn+1})
  (stab:∀S∈Ss,∀w w' v,R w w'→S w v→S w' v)(rel:∀i,i<l.length→Yt P l Ss C R a0 i)
  (fin:∀vs w b,C b w→(∀j,j<l.length→b j=true)→F8 w Ss vs→Qn (Am l vs a0) w):Ir P l Qn l.toArray.size (a0v l.toArray.size false) a0 {w0 with drawn:=w0.drawn+1}:=by
 refine(vY hl hform stab rel ?_ _ _ _ _ (by simp[Gn]) ⟨by simp,rfl,rfl,?_,fun _ _=>rfl,?_,by rw[hO];exact hC⟩)
 ·intro a w listed inv hall
  have hvs:=fin (l.map (fun o=>A8 o a)) w (Dy listed) inv.cls hall (S1 (by simp[hl]) (fun i S v h1 h2=>by
   rw[List.getElem?_map] at h2
   cases ho:l[i]? with
   |none=>rw[ho] at h2;cases h2
   |some o=>
    rw[ho] at h2;simp only[Option.map_some,Option.some.injEq] at h2;rw[←h2]
    exact inv.done i o S ho h1 (hall i (List.getElem?_eq_some_iff.1 ho).1)))
  have:Am l (l.map (fun o=>A8 o a)) a0=a:=by
   have hdef:(Am l (l.map (fun o=>A8 o a)) a0).defers=a.defers:=by rw[Sv,inv.defers]
   have htm:(Am l (l.map (fun o=>A8 o a)) a0).tmps=a.tmps:=by
    have hsz:(Am l (l.map (fun o=>A8 o a)) a0).tmps.size=a.tmps.size:=by rw[Su,inv.tmps]
    refine Array.ext hsz fun t h1 h2=>?_
    have hg:(Am l (l.map (fun o=>A8 o a)) a0).tmps.getD t undef=a.tmps.getD t undef:=by
     by_cases hex:∃o∈l,o.dst=some t
     ·obtain⟨o,ho,hd⟩:=hex;obtain⟨i,hi,hio⟩:=a0u ho
      have hio':l[i]?=some o:=by rw[a0z hi,hio]
      rw[Sz l _ a0 (by simp) (fun i j oi oj d hi hj h1 h2=>by
       by_cases hij:i=j
       ·exact hij
       ·exact absurd h2 ((Ha hform hi h1).2 j oj hj (Ne.symm hij))) (fun o' ho' d hd'=>by
       obtain⟨k,hk,hko⟩:=a0u ho'
       exact(Ha hform (by rw[a0z hk,hko]) hd').1) i o (A8 o a) t hio' (by rw[List.getElem?_map,hio'];rfl) hd]
      unfold A8;rw[hd]
     ·have hex':∀o∈l,o.dst≠some t:=fun o ho hd=>hex ⟨o,ho,hd⟩
      rw[Qs l _ a0 t hex',inv.same t (fun j oj hj hd=>absurd hd (hex' oj (a0w hj)))]
    simpa [h1,h2] using hg
   cases a;cases h:Am l (l.map (fun o=>A8 o _)) a0;rw[h] at hdef htm;simp only at hdef htm;rw[hdef,htm]
  rw[this] at hvs;exact hvs
 ·intro j o S _ _ h;exfalso
  rcases a1x j l.length with h'|h'
  ·simp[h'] at h
  ·simp[h'] at h
 ·intro j o _ h;exfalso;unfold Dy at h
  rcases a1x j l.length with h'|h'
  ·simp[h'] at h
  ·simp[h'] at h
def hU(l:List Oper)(i t:Nat):Bool:=(List.range l.length).all fun j=>match l[j]? with
 |some o=>o.dst !=some t||(j==i||o.after.any fun e=>Region.binds .any e&&e.on==i)
 |none=>true
def Vn(l:List Oper)(i j:Nat):Bool:=match l[i]? with
 |some o=>o.after.any fun e=>Region.binds .any e&&e.on==j
 |none=>false
structure Na(l:List Oper)(Ss:List (World→Value→Prop))(a0:Act)(i:Nat)(b:Nat→Bool)(a:Act)(w:World):Prop where
 size:a.tmps.size=a0.tmps.size
 dep:∀(j t:Nat) (S:World→Value→Prop),I4 l i j t=true→Ss[i-1-j]?=some S→S w (a.tmps[t]?.getD undef)
 free:∀(t:Nat) (v:Value),hU l i t=true→a0.tmps.getD t undef=v→a.tmps[t]?.getD undef=v
 pre:∀j,Vn l i j=true→b j=true
 post:∀j,Vn l j i=true→b j=false
 self:b i=false
theorem wC{Ss:List (World→Value→Prop)}{a0:Act}{i:Nat}{b:Nat→Bool}{a:Act}{w:World}{o:Oper}(ho:l[i]?=some o)(hs:b i=false)(hp:∀e∈o.after,Region.binds .any e=true→b e.on=true)
  (hc:∀j oj,l[j]?=some oj→b j=true→∀e∈oj.after,Region.binds .any e=true→b e.on=true)(h1:a.tmps.size=a0.tmps.size)
  (h2:∀t,(∀j oj,l[j]?=some oj→oj.dst=some t→b j=false)→a.tmps.getD t undef=a0.tmps.getD t undef)
  (h3:∀e∈o.after,Region.binds .any e=true→∀oe Se,l[e.on]?=some oe→Ss[i-1-e.on]?=some Se→Se w (A8 oe a)):Na l Ss a0 i b a w:=by
 have later:∀j oj,l[j]?=some oj→(oj.after.any fun e=>Region.binds .any e&&e.on==i)=true→b j=false:=fun j oj hj ha=>by
  obtain⟨e,he,hb⟩:=Array.any_eq_true'.1 ha;simp only[a0x,beq_iff_eq] at hb
  cases hbj:b j with
  |false=>rfl
  |true=>
   have:=hc j oj hj hbj e he hb.1;rw[hb.2,hs] at this;cases this
 refine⟨h1,fun j t S hd hS=>?_,fun t v hf hv=>?_,fun j hj=>?_,fun j hj=>?_,hs⟩
 ·unfold I4 at hd;rw[ho] at hd
  cases hj:l[j]? with
  |none=>rw[hj] at hd;cases hd
  |some oj=>
   rw[hj] at hd;simp only[a0x,beq_iff_eq] at hd;obtain⟨e,he,hb⟩:=Array.any_eq_true'.1 hd.1;simp only[a0x,beq_iff_eq] at hb;obtain⟨hb1,rfl⟩:=hb;have:=h3 e he hb1 oj S hj hS;unfold A8 at this;rw[hd.2] at this
   simpa using this
 ·have hw:∀j oj,l[j]?=some oj→oj.dst=some t→b j=false:=fun j oj hj hd=>by
   have hlt:j<l.length:=(List.getElem?_eq_some_iff.1 hj).1;have:=List.all_eq_true.1 hf j (List.mem_range.2 hlt);rw[hj] at this;simp only[hd,bne_self_eq_false,Bool.false_or,Bool.or_eq_true,beq_iff_eq] at this
   rcases this with rfl|h
   ·exact hs
   ·exact later j oj hj h
  have:=h2 t hw;rw[hv] at this
  simpa using this
 ·unfold Vn at hj;rw[ho] at hj;obtain⟨e,he,hb⟩:=Array.any_eq_true'.1 hj;simp only[a0x,beq_iff_eq] at hb;rw[←hb.2];exact hp e he hb.1
 ·unfold Vn at hj
  cases hlj:l[j]? with
  |none=>rw[hlj] at hj;cases hj
  |some oj=>rw[hlj] at hj;exact later j oj hlj hj
def wE(P:Program)(l:List Oper)(done:List (World→Value→Prop))(S:World→Value→Prop)(C:(Nat→Bool)→World→Prop)(R:World→World→Prop)(a0:Act)(i:Nat):Prop:=
 ∀(b:Nat→Bool),∀o,l[i]?=some o→∀(a:Act) (w:World),C b w→Na l done a0 i b a w→
  if Region.wanted o (yielded l.toArray a.tmps)=true then o.wp P a w (fun a2 w2=>∃v,a2=a.put o.dst v∧C (Ap b i) w2∧R w w2∧S w2 (match o.dst with|some _=>v|none=>undef)) (fun _ _ _=>False)
  else S w undef∧C (Ap b i) w
def S4(R:World→World→Prop):List (World→Value→Prop)→Prop
 |[]=>True
 |S::Ss=>(∀w w' v,R w w'→S w v→S w' v)∧S4 R Ss
theorem iA{R:World→World→Prop}:∀{Ss:List (World→Value→Prop)},S4 R Ss→∀S∈Ss,∀w w' v,R w w'→S w v→S w' v
 |[],_,S,hS=>by cases hS
 |T::Ss,h,S,hS=>by
  rcases List.mem_cons.1 hS with rfl|hS
  ·exact h.1
  ·exact iA h.2 S hS
theorem Cc(x:Value){R:World→World→Prop}{Ss:List (World→Value→Prop)}(h:S4 R Ss):S4 R (B0 x::Ss):=⟨fun _ _ _ _ h=>h,h⟩
def Nb(P:Program)(l:List Oper)(C:(Nat→Bool)→World→Prop)(R:World→World→Prop)(a0:Act)(F:Act→World→Prop):Nat→List (World→Value→Prop)→Nat→Prop
 |_,done,0=>S4 R done∧∀w b,C b w→(∀j,j<l.length→b j=true)→∀vs,F8 w done.reverse vs→F (Am l vs a0) w
 |i,done,n+1=>∃S,wE P l done S C R a0 i∧Nb P l C R a0 F (i+1) (S::done) n
theorem iB{C:(Nat→Bool)→World→Prop}{R:World→World→Prop}{a0:Act}{F:Act→World→Prop}(hform:Ft l a0.tmps.size=true):∀(n i:Nat) (done:List (World→Value→Prop)),Nb P l C R a0 F i done n→done.length=i→i+n=l.length→
  ∃Ss,(∃r,Ss=done.reverse++r)∧Ss.length=l.length∧(∀S∈Ss,∀w w' v,R w w'→S w v→S w' v)∧(∀vs w b,C b w→(∀j,j<l.length→b j=true)→F8 w Ss vs→F (Am l vs a0) w)∧∀k,i≤k→k<l.length→Yt P l Ss C R a0 k
 |0,i,done,h,h1,h2=>⟨done.reverse,⟨[],by simp⟩,by simp;omega,fun S hS=>iA h.1 S (by simpa using hS),fun vs w b hC hb=>h.2 w b hC hb vs,fun k h3 h4=>by omega⟩
 |n+1,i,done,h,h1,h2=>by
  obtain⟨S,hop,hrest⟩:=h;obtain⟨Ss,⟨r,hr⟩,g1,g2,g3,g4⟩:=iB hform n (i+1) (S::done) hrest (by simp[h1]) (by omega);rw[List.reverse_cons] at hr;refine⟨Ss,⟨[S]++r,by rw[hr,a1z]⟩,g1,g2,g3,fun k h3 h4=>?_⟩
  by_cases e:k=i
  ·subst e;intro o S' ho hS' b a w hC m1 m2 m3 k1 k2 k3
   have hS:Ss[k]?=some S:=by rw[hr,a1z,List.getElem?_append_right (by simp;omega)];simp[h1]
   rw[hS] at hS';cases hS';refine hop b o ho a w hC (wC ho m1 m2 m3 k1 k2 fun e he hb oe Se hoe hSe=>k3 e he hb oe Se hoe ?_);have hlt:=O7 hform ho e he hb;rw[hr,a1z,List.getElem?_append_left (by simp;omega),List.getElem?_reverse (by omega),h1];exact hSe
  ·exact g4 k (by omega) h4
theorem F9{id:Nat}{Q:Exit→Act→World→Prop}{a0:Act}{w0:World}(C:(Nat→Bool)→World→Prop)(R:World→World→Prop)
  (hm:P.follows .mixedOrders=true)(hform:Ft l a0.tmps.size=true)(hC:C (fun _=>false) {w0 with drawn:=w0.drawn+1})
  (h:Nb P l C R a0 (fun a w=>Q .normal a w) 0 [] l.length):(Code.region id l.toArray true).wp P Q a0 w0:=by
 obtain⟨Ss,_,g1,g2,g3,g4⟩:=iB hform l.length 0 [] h rfl (by omega);exact gY hm (vZ Ss C R g1 hform hC g2 (fun i hi=>g4 i (Nat.zero_le _) hi) g3)
variable {C : (Nat → Bool) → World → Prop} {R : World → World → Prop} {a0 : Act} {F : Act → World → Prop} {i n : Nat} {done : List (World → Value → Prop)}
theorem Bi{o:Oper}{x:Value}(hc:∀b w,C b w→C (Ap b i) w)(ho:l[i]?=some o)(hg:o.guard=none)(hd:o.dst.isSome=true)
  (h:∀b a w,C b w→Na l done a0 i b a w→∀K:Act→World→Prop,(∀w2,C b w2→R w w2→K (a.put o.dst x) w2)→o.wp P a w K (fun _ _ _=>False))
  (hn:Nb P l C R a0 F (i+1) (B0 x::done) n):Nb P l C R a0 F i done (n+1):=by
 refine⟨B0 x,?_,hn⟩;intro b o' ho' a w hC hA;rw[ho] at ho';cases ho'
 have hw:Region.wanted o (yielded l.toArray a.tmps)=true:=by unfold Region.wanted;rw[hg]
 rw[if_pos hw]
 refine h b a w hC hA _ fun w2 c r=>⟨x,rfl,hc _ _ c,r,?_⟩
 cases hd':o.dst with
 |none=>rw[hd'] at hd;cases hd
 |some d=>rfl
theorem He{o:Oper}(S:World→Value→Prop)(ho:l[i]?=some o)(hg:o.guard=none)(hd:o.dst.isSome=true)
  (h:∀b a w,C b w→Na l done a0 i b a w→∀K:Act→World→Prop,(∀v w2,C (Ap b i) w2→R w w2→S w2 v→K (a.put o.dst v) w2)→o.wp P a w K (fun _ _ _=>False))
  (hn:Nb P l C R a0 F (i+1) (S::done) n):Nb P l C R a0 F i done (n+1):=by
 refine⟨S,?_,hn⟩;intro b o' ho' a w hC hA;rw[ho] at ho';cases ho'
 have hw:Region.wanted o (yielded l.toArray a.tmps)=true:=by unfold Region.wanted;rw[hg]
 rw[if_pos hw]
 refine h b a w hC hA _ fun v w2 c r s=>⟨v,rfl,c,r,?_⟩
 cases hd':o.dst with
 |none=>rw[hd'] at hd;cases hd
 |some d=>exact s
theorem Gw{o:Oper}(S:World→Prop)(ho:l[i]?=some o)(hg:o.guard=none)
  (h:∀b a w,C b w→Na l done a0 i b a w→∀K:Act→World→Prop,(∀v w2,C (Ap b i) w2→R w w2→S w2→K (a.put o.dst v) w2)→o.wp P a w K (fun _ _ _=>False))
  (hn:Nb P l C R a0 F (i+1) ((fun w _=>S w)::done) n):Nb P l C R a0 F i done (n+1):=by
 refine⟨fun w _=>S w,?_,hn⟩;intro b o' ho' a w hC hA;rw[ho] at ho';cases ho'
 have hw:Region.wanted o (yielded l.toArray a.tmps)=true:=by unfold Region.wanted;rw[hg]
 rw[if_pos hw]
 exact h b a w hC hA _ fun v w2 c r s=>⟨v,rfl,c,r,s⟩
end
section
open Go.RowKit
theorem Na.eq{l:List Oper}{Ss:List (World→Value→Prop)}{a0:Act}{i:Nat}{b:Nat→Bool}{a:Act}{w:World}(h:Na l Ss a0 i b a w)(j t:Nat){x:Value}(hs:Ss[i-1-j]?=some (B0 x))(hd:I4 l i j t=true:=by decide+kernel):a.tmps[t]?.getD undef=x:=h.dep j t (B0 x) hd hs
theorem Na.fr{l:List Oper}{Ss:List (World→Value→Prop)}{a0:Act}{i:Nat}{b:Nat→Bool}{a:Act}{w:World}(h:Na l Ss a0 i b a w)(t:Nat){v:Value}(hv:a0.tmps.getD t undef=v)(hd:hU l i t=true:=by decide+kernel):a.tmps[t]?.getD undef=v:=h.free t v hd hv
end
end
section
section
open Go.RowKit
structure Rb where
 rest:ByteArray
 ok:Bool
def Rb.take(r:Rb)(n:Nat):ByteArray × Rb:=
 if n≤r.rest.size then(r.rest.extract 0 n,⟨r.rest.extract n r.rest.size,r.ok⟩) else(ByteArray.empty,⟨r.rest,false⟩)
def Ly(w:World)(b:Nat)(r:Rb):Prop:=w.heap[b]?=some (.cells #[.string r.rest,.bool r.ok] 203 (0,0))
theorem Ly.fp{w w':World}{b:Nat}{r:Rb}{S:List Nat}(h:Ly w b r)(hf:Fp S w w')(hb:b∉S):Ly w' b r:=(hf.block b (Ab h) hb).trans h
end
section
open Go.RowKit
theorem Fp.putObj(W:World)(l:Nat)(o:Obj):Fp [l] W (W.putObj l o):=by
 refine⟨rfl,rfl,rfl,by simp,fun k _ hn=>World.putObj_heap_other (by simpa using hn)⟩
structure Av(T:TypeId)(base:Nat)(S:List Nat)(W W':World):Prop where
 size:W.heap.size≤W'.heap.size
 low:∀k,k<base→k<W.heap.size→k∉S→W'.heap[k]?=W.heap[k]?
 high:∀k c fz,base≤k→W.heap[k]?=some (.cells c T fz)→W'.heap[k]?=W.heap[k]?
theorem Av.of{T:TypeId}{base:Nat}{S:List Nat}{W W':World}(h:Fp S W W')(hS:∀k∈S,k<base):Av T base S W W':=
 ⟨h.size,fun k _ h2 h3=>h.block k h2 h3,fun k c fz h1 h2=>h.block k (Array.getElem?_eq_some_iff.1 h2).1 (fun hm=>by have:=hS k hm;omega)⟩
theorem Av.trans{T:TypeId}{base:Nat}{S S':List Nat}{a b c:World}(h:Av T base S a b)(k:Av T base S' b c)(hs:∀i∈S',i∈S):Av T base S a c:=
 ⟨Nat.le_trans h.size k.size,fun i h1 h2 h3=>(k.low i h1 (Nat.lt_of_lt_of_le h2 h.size) (fun hm=>h3 (hs i hm))).trans (h.low i h1 h2 h3),
  fun i x fz h1 h2=>(k.high i x fz h1 ((h.high i x fz h1 h2).trans h2)).trans (h.high i x fz h1 h2)⟩
theorem Av.mono{T:TypeId}{base:Nat}{S S':List Nat}{a b:World}(h:Av T base S a b)(hs:∀i∈S,i∈S'):Av T base S' a b:=
 ⟨h.size,fun i h1 h2 h3=>h.low i h1 h2 (fun hm=>h3 (hs i hm)),h.high⟩
section
variable {P : Program}
theorem S5{α:Type}{g:Operand}{ps:Array Tmp}{assign body:Code}{Q:Exit→Act→World→Prop}{a:Act}{w:World}{n:Nat}{gf:Nat}{lb:Array Value}
  (hg:a.eval g=.func (.func gf) #[] lb)(eg:∀args w,(callFunc gf args).run P w=.ok (.enter gf args) w)
  {encs:α→Array Value}(hps:∀x,(encs x).size=ps.size)(T:TypeId)(S0 Sx:List Nat)(hS0:∀k∈S0,k<w.heap.size)(hSx:∀k∈Sx,k<w.heap.size)(rb:Nat)(hrb:rb<w.heap.size)(cx:Nat)
  (V:List α→α→Prop)(I Ix SS:List α→World→Prop)
  (Z:World→Prop)(hI:∀s A B k,I s A→Fp [k] A B→(k=w.heap.size∨k=w.heap.size+1)→I s B)(hIr:∀s A B,I s A→Fp [rb] A B→Z B→I s B)
  (hIx:∀s A B,Ix s A→Fp [w.heap.size+1] A B→Ix s B)
  (hSS:∀s A B,SS s A→Fp [w.heap.size+1] A B→SS s B)
  (hiter:∀(J Jx:List α→World→Prop) (W1:World),Fp [] w W1→w.heap.size+2≤W1.heap.size→(∀s A B,J s A→Fp [rb] A B→Z B→J s B)→
   (∀pre x W,V pre x→J pre W→YieldAt Fence.wide (n-1-1) P (w.heap.size+1) (encs x) W fun e W'=>(e=.returned (.bool true)∧J (pre++[x]) W'∧Av T (w.heap.size+2) ((w.heap.size+1)::S0) W W')∨(e=.returned (.bool false)∧Jx (pre++[x]) W'))→
   J [] W1→CallsIn Fence.wide (n-1) P gf (#[.func (.yield (w.heap.size+1)) #[] #[]]++lb) W1 fun e W'=>(∃v,e=.returned v)∧((∃xs,SS xs W'∧J xs W')∨(∃pre,Jx pre W')))
  (h0:I [] w)(Ax:α→Act→World→Prop)(hAx:∀x a' A B,Ax x a' A→Fp [w.heap.size+1] A B→Ax x a' B)
  (hassign:∀(l:Nat) (x:α) (W:World) (K:Act→World→Prop),w.heap.size+2≤W.heap.size→(∀a' W',Fp [] W W'→Ax x a' W'→K a' W')→
   assign.wpIn (Fence.wide.inRound l) (n-1-1) P (Exit.then K (fun _ _ _=>False)) {tmps:=(ps.zip (encs x)).foldl (fun t (p,v)=>t.setIfInBounds p v) a.tmps,defers:=[]} W)
  (hbody:∀(l:Nat) (pre:List α) (x:α) (a':Act) (W:World),V pre x→I pre W→w.heap.size+2≤W.heap.size→Ax x a' W→body.wpIn (Fence.wide.inRound l) (n-1-1) P (fun e _ W'=>match e with
    |.normal=>Av T (w.heap.size+2) S0 W W'∧I (pre++[x]) W'
    |.exit id=>id=cx∧Av T (w.heap.size+2) Sx W W'∧Ix (pre++[x]) W'
    |_=>False) a' W)
  (hdone:∀(xs:List α) (W:World),SS xs W→I xs W→W.heap[w.heap.size]?=some (.deferred (some []))→Q .normal {a with defers:={target:=.collected w.heap.size,args:=#[]}::a.defers} W)
  (hstop:∀(pre:List α) (W:World),Ix pre W→W.heap[w.heap.size]?=some (.deferred (some []))→(Code.exit cx).wpIn Fence.wide n P Q {a with defers:={target:=.collected w.heap.size,args:=#[]}::a.defers} W):
  (Code.rangeFunc g ps assign body).wpIn Fence.wide n P Q a w:=by
 refine wpIn_rangeFunc ?_;intro fn hfn
 obtain⟨rec,hrec⟩:∃rec:LoopState→Option Code→Loop,rec=fun st pe=>{state:=st,pending:=pe,fn,tmps:=a.tmps,params:=ps,assign,body,defers:=w.heap.size}:=⟨_,rfl⟩
 obtain⟨W1,hW1⟩:∃W1,(w.alloc (.deferred (some []))).alloc (.loop (rec .ready none))=W1:=⟨_,rfl⟩
 have hL1:W1.heap[w.heap.size+1]?=some (.loop (rec .ready none)):=by
  rw[←hW1];have:=World.alloc_heap_new (w.alloc (.deferred (some []))) (.loop (rec .ready none));rwa [World.size_alloc] at this
 have hK1:W1.heap[w.heap.size]?=some (.deferred (some [])):=by
  rw[←hW1];exact(Below.heap_alloc _ _ _ (by simp)).trans (World.alloc_heap_new w _)
 have hf1:Fp [] w W1:=by rw[←hW1];exact(Fp.alloc w _).alloc' _
 have hI1:I [] W1:=hI [] w W1 w.heap.size h0 (hf1.mono (by simp)) (Or.inl rfl)
 refine⟨w.heap.size+1,[{target:=.collected w.heap.size,args:=#[]}],W1,{target:=.fn (.func gf) lb,args:=#[.func (.yield (w.heap.size+1)) #[] #[]]},W1,gf,
  #[.func (.yield (w.heap.size+1)) #[] #[]]++lb,W1,?_,?_,?_,?_,(fun h=>by cases h),?_⟩
 ·rw[←hW1,hrec];exact run_enterLoop_outer _ _ _ _ _
 ·simp only[resolve,hg];simp[go_sem]
 ·intro f' _;trivial
 ·simp[invoke,go_sem,eg]
 ·refine(hiter
   (fun pre W=>I pre W∧W.heap[w.heap.size+1]?=some (.loop (rec .ready none))∧W.heap[w.heap.size]?=some (.deferred (some [])))
   (fun pre W=>Ix pre W∧W.heap[w.heap.size+1]?=some (.loop (rec .done (some (.exit cx))))∧W.heap[w.heap.size]?=some (.deferred (some [])))
   W1 hf1 (Ab hL1) ?_ ?_ ⟨hI1,hL1,hK1⟩).mono ?_
  ·rintro s A B ⟨h1,h2,h3⟩ hf hz;exact⟨hIr s A B h1 hf hz,(hf.block _ (Ab h2) (by simp;omega)).trans h2,(hf.block _ (Ab h3) (by simp;omega)).trans h3⟩
  ·rintro pre x W hV ⟨hi,hl,hk⟩;have hlt:w.heap.size+1<W.heap.size:=(Array.getElem?_eq_some_iff.1 hl).1;have hy:=run_yield (P:=P) (args:=encs x) hl (by rw[hrec];exact hps x);rw[hrec] at hy;refine⟨fn,_,assign,body,hy,roundIn_of_wpIn hfn (hassign _ x W _ hlt fun a' W2 hf2 ha'=>?_)⟩;have hlA:W2.heap[w.heap.size+1]?=some (.loop (rec .ready none)):=(hf2.block _ (Ab hl) (by simp)).trans hl;have hkA:W2.heap[w.heap.size]?=some (.deferred (some [])):=(hf2.block _ (Ab hk) (by simp)).trans hk;have hiA:I pre W2:=hI pre W W2 w.heap.size hi (hf2.mono (by simp)) (Or.inl rfl);have hltA:w.heap.size+1<W2.heap.size:=Ab hlA;refine⟨_,run_beginRound hlA (by rw[hrec]),?_⟩;have hl2:(W2.putObj (w.heap.size+1) (.loop {rec .ready none with state:=.busy})).heap[w.heap.size+1]?=some (.loop {rec .ready none with state:=.busy}):=World.putObj_heap_same hltA;have hk2:(W2.putObj (w.heap.size+1) (.loop {rec .ready none with state:=.busy})).heap[w.heap.size]?=some (.deferred (some [])):=(World.putObj_heap_other (by omega)).trans hkA;have hfp2:=Fp.putObj W2 (w.heap.size+1) (.loop {rec .ready none with state:=.busy});refine wpIn_mono (hbody _ pre x a' _ hV (hI pre _ _ (w.heap.size+1) hiA hfp2 (Or.inr rfl)) (Nat.le_trans hltA hfp2.size) (hAx _ _ _ _ ha' hfp2)) ?_
   have fin:∀(jump:Option Code) (W3:World) (S:List Nat),(∀k∈S,k<w.heap.size)→Av T (w.heap.size+2) S (W2.putObj (w.heap.size+1) (.loop {rec .ready none with state:=.busy})) W3→
     (Instr.endRound (w.heap.size+1) jump).run P W3=.ok (.bool jump.isNone) (W3.putObj (w.heap.size+1) (.loop (rec (if jump.isNone then .ready else .done) jump)))∧
     (W3.putObj (w.heap.size+1) (.loop (rec (if jump.isNone then .ready else .done) jump))).heap[w.heap.size+1]?=some (.loop (rec (if jump.isNone then .ready else .done) jump))∧
     (W3.putObj (w.heap.size+1) (.loop (rec (if jump.isNone then .ready else .done) jump))).heap[w.heap.size]?=some (.deferred (some [])):=fun jump W3 S hS hk3=>by
    have hl3:=(hk3.low _ (by omega) (Ab hl2) (fun hm=>by have:=hS _ hm;omega)).trans hl2;have hk4:=(hk3.low _ (by omega) (Ab hk2) (fun hm=>by have:=hS _ hm;omega)).trans hk2;have:=run_endRound (P:=P) jump hl3;rw[hrec] at this ⊢;exact⟨this,World.putObj_heap_same (Ab hl3),(World.putObj_heap_other (by omega)).trans hk4⟩
   rintro e a3 W3 hp
   cases e with
   |normal=>
    obtain⟨hk3,hi3⟩:=hp;obtain⟨hr,hl4,hk4⟩:=fin none W3 S0 hS0 hk3;refine⟨_,_,hr,.inl ⟨rfl,⟨hI _ _ _ _ hi3 (Fp.putObj _ _ _) (Or.inr rfl),hl4,hk4⟩,?_⟩⟩;exact((Av.of ((hf2.mono (by simp)).trans hfp2 (by simp):Fp ((w.heap.size+1)::S0) _ _) (by intro k hk;rcases List.mem_cons.1 hk with h|h;omega;have:=hS0 k h;omega)).trans hk3 (fun k hk=>by simp[hk])).trans (Av.of (Fp.putObj _ _ _) (by simp)) (by simp)
   |exit id=>
    obtain⟨rfl,hk3,hi3⟩:=hp;obtain⟨hr,hl4,hk4⟩:=fin (some (.exit id)) W3 Sx hSx hk3;exact⟨_,_,hr,.inr ⟨rfl,hIx _ _ _ hi3 (Fp.putObj _ _ _),hl4,hk4⟩⟩
   |ret=>exact hp.elim
   |goto t=>exact hp.elim
   |panic ch=>exact hp.elim
   |outgrown=>exact hp.elim
  ·rintro e W2 ⟨⟨v,rfl⟩,(⟨xs,hS,hi,hl,hk⟩|⟨pre,hi,hl,hk⟩)⟩
   ·exact⟨none,_,by have:=run_endLoop (P:=P) hl (by rw[hrec];simp);rw[hrec] at this;exact this,hdone xs _ (hSS _ _ _ hS (Fp.putObj _ _ _)) (hI _ _ _ _ hi (Fp.putObj _ _ _) (Or.inr rfl)) ((World.putObj_heap_other (by omega)).trans hk)⟩
   ·exact⟨some (.exit cx),_,by have:=run_endLoop (P:=P) hl (by rw[hrec];simp);rw[hrec] at this;exact this,hstop pre _ (hIx _ _ _ hi (Fp.putObj _ _ _)) ((World.putObj_heap_other (by omega)).trans hk)⟩
end
end
section
open Go.RowKit
def wF:Bool→Bool→Rb→Rb→Rb→Rb
 |false,_,r,_,_=>r
 |true,false,_,r,_=>r
 |true,true,_,_,r=>r
def C2(i j:Nat)(E:List Nat)(w0:World)(rb:Nat)(r r' r'':Rb)(b:Nat→Bool)(w:World):Prop:=Fp (rb::E) w0 w∧Ly w rb (wF (b i) (b j) r r' r'')
section
variable {i j : Nat} {E : List Nat} {w0 w w' : World} {rb : Nat} {r r' r'' : Rb} {b : Nat → Bool}
theorem C2.fp(h:C2 i j E w0 rb r r' r'' b w):Fp (rb::E) w0 w:=h.1
theorem C2.first(h:C2 i j E w0 rb r r' r'' b w)(h1:b i=false):Ly w rb r:=by have:=h.2;rw[h1] at this;exact this
theorem C2.last(h:C2 i j E w0 rb r r' r'' b w)(h1:b i=true)(h2:b j=true):Ly w rb r'':=by have:=h.2;rw[h1,h2] at this;exact this
theorem wG:Ap b i i=true:=if_pos rfl
theorem wH(h:j≠i):Ap b i j=b j:=if_neg h
end
section
variable {w0 w : World} {rb : Nat} {xc : Array Value} {r r' r'' : Rb} {b : Nat → Bool}
end
section
variable {w0 w : World} {rb B d : Nat} {key val : ByteArray} {r r' r'' : Rb} {b : Nat → Bool}
end
end
end
end Go.Proofs.YtkagolpnaicdoaaGreatDoor
