/-
 Heaps of lists of items, by their first ones; merging: plain. A region that draws its order, walked once: the same walk serves a function's body and the round of a range over a function. Over any program. A region that draws its order; some of its operations turn the world, in an order that is forced: the class knows which are done. Over any program.
-/
import Derived.Test.YtkagolpnaicdoaaGreatDoorPCellShown
import Derived.RangeFuncCalls
import Derived.RegionIn
set_option maxRecDepth 100000
set_option maxHeartbeats 8000000
open List renaming getElem?_eq_getElem->a0z,mem_append_left->a0w,mem_of_getElem?->a0v,getElem_of_mem->a1z,getD_eq_getElem?_getD->a1x,append_assoc->a1w,getElem?_append_left->a1v,mem_append_right->a1u
open Bool renaming and_eq_true->a0x
open Array renaming replicate->a0u
open Nat renaming lt_or_ge->a2z
namespace Go.Proofs.YtkagolpnaicdoaaGreatDoor
section
structure Ov(k:List Ad)(n j:Nat):Prop where
 par:∀i,0<i->i<n->i≠j->A9 (Af k ((i-1)/2)) (Af k i)
 grand:∀i,0<i->i<n->0<j->(i-1)/2=j->A9 (Af k ((j-1)/2)) (Af k i)
def G5(k:List Ad)(n:Nat):Prop:=∀i,0<i->i<n->A9 (Af k ((i-1)/2)) (Af k i)
theorem Ov.done{k:List Ad}{n j:Nat}(h:Ov k n j)(b:j=0∨A9 (Af k ((j-1)/2)) (Af k j)):G5 k n:=by
 intro i f d
 by_cases e:i=j
 ·subst e
  rcases b with a|a
  ·omega
  ·exact a
 ·exact h.par i f d e
theorem Ov.step{k:List Ad}{n j:Nat}(g:Ce k)(h:Ov k n j)(z:n≤k.length)(y:0<j)(A:j<n)(f:A9 (Af k j) (Af k ((j-1)/2))):Ov (Jw k ((j-1)/2) j) n ((j-1)/2):=by
 obtain⟨p,r⟩:∃p,(j-1)/2=p:=⟨_,rfl⟩
 rw[r] at f ⊢
 have w:p<j:=by omega
 have a:p<k.length:=by omega
 have b:j<k.length:=by omega
 refine⟨fun i q o s=>?_,fun i q o s x=>?_⟩
 ·rw[Jy _ a b,Jy i a b]
  by_cases d:i=j
  ·subst d;rw[r,if_neg (by omega),if_pos rfl,if_pos rfl];exact f
  ·rw[if_neg d,if_neg s]
   by_cases u:(i-1)/2=j
   ·rw[if_pos u];have:=h.grand i q o y u;rw[r] at this;exact this
   ·rw[if_neg u]
    by_cases t:(i-1)/2=p
    ·rw[if_pos t];have m:=h.par i q o d;rw[t] at m;exact A9.trans (g.at _) (g.at _) (g.at _) f m
    ·rw[if_neg t];exact h.par i q o d
 ·have v:A9 (Af k ((p-1)/2)) (Af k p):=h.par p s (by omega) (by omega);rw[Jy _ a b,Jy i a b,if_neg (by omega),if_neg (by omega)]
  by_cases d:i=j
  ·rw[if_pos d];exact v
  ·rw[if_neg d,if_neg (by omega)];have m:=h.par i q o d;rw[x] at m;exact A9.trans (g.at _) (g.at _) (g.at _) v m
structure Nx(k:List Ad)(n i:Nat):Prop where
 par:∀c,0<c->c<n->(c-1)/2≠i->A9 (Af k ((c-1)/2)) (Af k c)
 grand:∀c,0<c->c<n->(c-1)/2=i->0<i->A9 (Af k ((i-1)/2)) (Af k c)
theorem Nx.done{k:List Ad}{n i:Nat}(h:Nx k n i)(d:∀c,0<c->c<n->(c-1)/2=i->A9 (Af k i) (Af k c)):G5 k n:=by
 intro c b a
 by_cases e:(c-1)/2=i
 ·rw[e];exact d c b a e
 ·exact h.par c b a e
theorem Nx.step{k:List Ad}{n i j:Nat}(h:Nx k n i)(x:n≤k.length)(r:0<j)(v:j<n)(p:(j-1)/2=i)(d:∀c,0<c→c<n→(c-1)/2=i→A9 (Af k j) (Af k c))(q:A9 (Af k j) (Af k i)):Nx (Jw k i j) n j:=by
 have w:i<j:=by omega
 have b:i<k.length:=by omega
 have a:j<k.length:=by omega
 refine⟨fun c o m s=>?_,fun c o m s y=>?_⟩
 ·rw[Jy _ b a,Jy c b a,if_neg s]
  by_cases g:(c-1)/2=i
  ·rw[if_pos g]
   by_cases f:c=j
   ·rw[if_pos f];exact q
   ·rw[if_neg f,if_neg (by omega)];exact d c o m g
  ·rw[if_neg g]
   by_cases f:c=j
   ·subst f;exact absurd p g
   ·rw[if_neg f]
    by_cases t:c=i
    ·rw[if_pos t];have:=h.grand j r v p (by omega);rw[t];exact this
    ·rw[if_neg t];exact h.par c o m g
 ·rw[p,Jy _ b a,Jy c b a,if_neg (by omega),if_pos rfl,if_neg (by omega),if_neg (by omega)];have u:=h.par c o m (by omega);rw[s] at u;exact u
theorem G5.root{k:List Ad}{n:Nat}(a:Ce k)(h:G5 k n):∀i,i<n→A9 (Af k 0) (Af k i):=by
 intro i
 induction i using Nat.strongRecOn with
 |_ i ih=>
  intro b
  by_cases e:i=0
  ·subst e;exact Int.le_of_eq (Xw (a.at _))
  ·exact A9.trans (a.at _) (a.at _) (a.at _) (ih ((i-1)/2) (by omega) (by omega)) (h i (by omega) b)
theorem G5.pop{k:List Ad}{n:Nat}(h:G5 k (n+1))(g:k.length=n+1):Nx (Jw k 0 n) n 0:=by
 refine⟨fun c b f a=>?_,fun c b f a d=>absurd d (Nat.lt_irrefl _)⟩;rw[Jy _ (by omega) (by omega),Jy c (by omega) (by omega),if_neg (by omega),if_neg a,if_neg (by omega),if_neg (by omega)];exact h c b (by omega)
theorem G5.push{k:List Ad}(x:Ad)(h:G5 k k.length):Ov (k++[x]) (k.length+1) k.length:=by
 have A:∀i,i<k.length->Af (k++[x]) i=Af k i:=fun i b=>by unfold Af;rw[a1x,a1v b,a1x]
 refine⟨fun i a f d=>?_,fun i a f d g=>by omega⟩;rw[A _ (by omega),A _ (by omega)];exact h i a (by omega)
theorem G5.frame{k a:List Ad}{n:Nat}(h:G5 k n)(b:∀i,i<n->Af a i=Af k i):G5 a n:=fun i f d=>by
 rw[b _ (by omega),b _ d];exact h i f d
theorem xQ{x y:Ad}(h:A9 x y)(b:Ba x y=true):y.pos<=x.pos:=by
 unfold A9 at h
 rcases Int.lt_or_eq_of_le h with a|a
 ·exact Nat.le_of_lt (iW a b)
 ·rw[(iV a).2];exact Nat.le_refl _
structure Le(done out:List Ad):Prop where
 res:Bv done out
theorem Le.nil:Le [] []:=⟨Bv.nil⟩
theorem kQ{l:List Ad}(h:0<l.length):Af l (l.length-1)∈l:=by
 rw[L2 (by omega)];exact List.getElem_mem _
theorem D3.last{l:List Ad}(h:D3 l){x:Ad}(a:x∈l):x=Af l (l.length-1)∨Bt x (Af l (l.length-1))<0:=by
 obtain⟨i,b,e⟩:=List.mem_iff_getElem.1 a;rw[L2 (by omega)]
 by_cases d:i=l.length-1
 ·left;subst d;exact e.symm
 ·right;rw[<-e];exact List.pairwise_iff_getElem.1 h i (l.length-1) b (by omega) (by omega)
theorem Le.skip{done out:List Ad}{x:Ad}(h:Le done out)(f:∀y∈done,A9 y x)(k:0<out.length)(g:Ba (Af out (out.length-1)) x=true):Le (done++[x]) out:=by
 have j:=kQ k;refine⟨⟨h.res.ris,fun y a=>a0w _ (h.res.sub y a),fun y a z d b=>?_,fun y a=>?_⟩⟩
 ·rcases List.mem_append.1 d with d|d
  ·exact h.res.last y a z d b
  ·rw[List.mem_singleton.1 d] at b ⊢;exact xQ (f y (h.res.sub y a)) b
 ·rcases List.mem_append.1 a with a|a
  ·exact h.res.cov y a
  ·rw[List.mem_singleton.1 a];exact⟨_,j,g⟩
theorem Le.take{done b:List Ad}{x:Ad}(k:Ce done)(r:Cd x)(h:Le done b)(o:∀y∈done,A9 y x)(s:b.length=0∨Ba (Af b (b.length-1)) x=false):Le (done++[x]) (b++[x]):=by
 have j:∀y∈b,Bt y x<0:=fun y a=>by
  have v:0<b.length:=List.length_pos_of_mem a;have q:=kQ v;have g:Ba (Af b (b.length-1)) x=false:=s.resolve_left (by omega);rw[Vk] at g
  have u:Bt (Af b (b.length-1)) x<0:=by
   have:=Xy (o _ (h.res.sub _ q));omega
  rcases h.res.ris.last a with e|e
  ·rw[e];exact u
  ·exact iY (k y (h.res.sub y a)) (k _ (h.res.sub _ q)) r e (by omega)
 refine⟨⟨?_,fun y a=>?_,fun y a z d f=>?_,fun y a=>?_⟩⟩
 ·refine List.pairwise_append.2 ⟨h.res.ris,List.pairwise_singleton _ _,fun y a z d=>?_⟩;rw[List.mem_singleton.1 d];exact j y a
 ·rcases List.mem_append.1 a with a|a
  ·exact a0w _ (h.res.sub y a)
  ·exact a1u _ a
 ·rcases List.mem_append.1 a with a|a
  ·rcases List.mem_append.1 d with d|d
   ·exact h.res.last y a z d f
   ·rw[List.mem_singleton.1 d] at f;have:=j y a;have:=(K9 _ _).1 f;omega
  ·rw[List.mem_singleton.1 a] at f ⊢
   rcases List.mem_append.1 d with d|d
   ·obtain⟨p,m,g⟩:=h.res.cov z d;have:=j p m;have t:Ba p x=true:=Nr g (by rw[Q4];exact f);have:=(K9 _ _).1 t;omega
   ·rw[List.mem_singleton.1 d];exact Nat.le_refl _
 ·rcases List.mem_append.1 a with a|a
  ·obtain⟨z,d,g⟩:=h.res.cov y a;exact⟨z,a0w _ d,g⟩
  ·rw[List.mem_singleton.1 a];exact⟨x,a1u _ (List.mem_singleton.2 rfl),Xx _⟩
theorem Bv.perm{a b r:List Ad}(h:Bv a r)(g:∀x,x∈b↔x∈a):Bv b r:=
 ⟨h.ris,fun x f=>(g x).2 (h.sub x f),fun x f y d=>h.last x f y ((g y).1 d),fun y d=>h.cov y ((g y).1 d)⟩
theorem D3.first{x:Ad}{r:List Ad}(b:Cd x)(h:D3 (x::r)):∀y∈x::r,A9 x y:=by
 intro y a
 rcases List.mem_cons.1 a with e|e
 ·subst e;exact Int.le_of_eq (Xw b)
 ·have f:=(List.pairwise_cons.1 h).1 y e;unfold A9
  rcases Oo x y with⟨_,d⟩|⟨d,_⟩<;>omega
structure J0(all:List Ad)(rs:List (List Ad)):Prop where
 ris:∀r∈rs,D3 r
 sub:∀r∈rs,∀x∈r,x∈all
 cov:∀y∈all,∃r∈rs,∃x∈r,Ba x y=true/\y.pos<=x.pos
theorem D3.same{r:List Ad}(a:Ce r)(h:D3 r){x y:Ad}(k:x∈r)(g:y∈r)(p:Ba x y=true):x=y:=by
 obtain⟨i,o,f⟩:=List.mem_iff_getElem.1 k;obtain⟨j,m,d⟩:=List.mem_iff_getElem.1 g;have s:=(K9 x y).1 p;have q:=Om (a x k) (a y g)
 rcases Nat.lt_trichotomy i j with b|b|b
 ·have:=List.pairwise_iff_getElem.1 h i j o m b;rw[f,d] at this;omega
 ·subst b;rw[<-f,<-d]
 ·have:=List.pairwise_iff_getElem.1 h j i m o b;rw[f,d] at this;omega
theorem J0.one{all r:List Ad}(m:Ce all)(h:J0 all [r]):Bv all r:=by
 have k:Ce r:=fun x j=>m x (h.sub r (List.mem_singleton.2 rfl) x j)
 have o:=h.ris r (List.mem_singleton.2 rfl);refine⟨o,h.sub r (List.mem_singleton.2 rfl),fun x j y g q=>?_,fun y g=>?_⟩
 ·obtain⟨p,b,z,f,a,d⟩:=h.cov y g;rw[List.mem_singleton.1 b] at f;have:z=x:=o.same k f j (Nr a (by rw[Q4];exact q));rw[<-this];exact d
 ·obtain⟨p,b,z,f,a,d⟩:=h.cov y g;rw[List.mem_singleton.1 b] at f;exact⟨z,f,a⟩
theorem J0.none{all:List Ad}(h:J0 all []):all=[]:=by
 cases all with
 |nil=>rfl
 |cons x l=>
  obtain⟨r,a,_⟩:=h.cov x List.mem_cons_self;cases a
end
section
open Go.RowKit
section
variable {P : Program} {l : List Oper}
def H8(P:Program)(l:List Oper)(Qn:Act→World→Prop):Nat→Array Bool→Act→World→Prop
 |0,listed,a,w=>Region.ready .any l.toArray listed=[]/\Qn a w
 |fuel+1,listed,a,w=>(Region.ready .any l.toArray listed=[]→Qn a w)∧∀i∈Region.ready .any l.toArray listed,∃o,l[i]?=some o∧
   if Region.wanted o (yielded l.toArray a.tmps)=true then o.wp P a w (H8 P l Qn fuel (listed.setIfInBounds i true)) (fun _ _ _=>False) else H8 P l Qn fuel (listed.setIfInBounds i true) (a.put o.dst undef) w
theorem bJ{Q:Exit→Act→World→Prop}:∀(d:Nat) (b:Array Bool) (a:Act) (w:World),H8 P l (Q .normal) d b a w→wpAny P .any l.toArray Q d b a w
 |0,_,_,_,h=>h
 |d+1,b,a,w,h=>by
  refine⟨h.1,fun i m=>?_⟩;obtain⟨o,k,f⟩:=h.2 i m
  have j:l.toArray[i]?=some o:=by simpa using k
  unfold wpOp;simp only[j];split
  ·rename_i g;rw[if_pos g] at f;exact Or.inl (Uc (fun p w2 h=>bJ d _ p w2 h) (fun _ _ _ h=>h.elim) f)
  ·rename_i g;rw[if_neg g] at f;exact bJ d _ _ _ f
def Vt(l:List Oper):Bool:=l.all fun o=>match o.op with| .defer _=>false|_=>true
theorem xR{o:Oper}{a:Act}{w:World}{K K':Act→World→Prop}{Q:Exit→Act→World→Prop}{b n:Nat}(m:∀c,o.op≠.defer c)(d:∀a w,K a w→K' a w)
  (h:o.wp P a w K (fun _ _ _=>False)):o.wpIn (Fence.wide.inRound b) n P a w K' Q:=by
 refine⟨fun _ _=>trivial,?_⟩;rw[show(Fence.wide.inRound b).round=some b from rfl,Oper.semAt_some b _ _ m];unfold Oper.wp at h;generalize (execOp a.eval o).run P w=r at*
 cases r with
 |ok x w'=>
  cases x<;>simp only[Oper.upon,Oper.uponIn] at h ⊢
  case value=>exact d _ _ h
  case skip=>exact d _ _ h
  case defer=>exact d _ _ h
  case enter=>
   refine⟨fun e=>by simp[Fence.wide] at e,CallsIn.inRound b (callsIn_wide.2 (Calls.mono h fun e g f=>?_))⟩;cases e
   ·exact d _ _ f
   ·exact f.elim
   ·obtain⟨a0,s,p⟩:=f;exact p.elim
  case row=>
   refine⟨fun e=>by simp[Fence.wide] at e,fun c q _=>?_⟩;obtain⟨v,w2,k,j⟩:=h c q;exact⟨v,w2,d _ _ k,stepsIn_wide.2 j⟩
 |halt x w'=>cases x<;>simp only[Oper.upon] at h
theorem bK{Q:Exit→Act→World→Prop}{q n:Nat}(m:Vt l=true):∀(d:Nat) (b:Array Bool) (a:Act) (w:World),H8 P l (Q .normal) d b a w→wpAnyIn (Fence.wide.inRound q) n P .any l.toArray Q d b a w
 |0,_,_,_,h=>h
 |d+1,b,a,w,h=>by
  refine⟨h.1,fun i r=>?_⟩;obtain⟨o,p,f⟩:=h.2 i r
  have j:l.toArray[i]?=some o:=by simpa using p
  have k:∀c,o.op≠.defer c:=fun c e=>by
   have:=List.all_eq_true.1 m o (a0v p);rw[e] at this;cases this
  unfold wpOpIn;simp only[j];split
  ·rename_i g;rw[if_pos g] at f;exact xR k (fun s w2 h=>bK m d _ s w2 h) f
  ·rename_i g;rw[if_neg g] at f;exact⟨fun _ _=>trivial,bK m d _ _ _ f⟩
theorem bL{id:Nat}{Q:Exit→Act→World→Prop}{a0:Act}{w0:World}(a:P.follows .mixedOrders=true)
  (h:H8 P l (Q .normal) l.toArray.size (a0u l.toArray.size false) a0 {w0 with drawn:=w0.drawn+1}):(Code.region id l.toArray true).wp P Q a0 w0:=wp_region_any a (bJ _ _ _ _ h)
theorem kR{id a n:Nat}{Q:Exit→Act→World→Prop}{a0:Act}{w0:World}(b:P.follows .mixedOrders=true)(d:Vt l=true)
  (h:H8 P l (Q .normal) l.toArray.size (a0u l.toArray.size false) a0 {w0 with drawn:=w0.drawn+1}):(Code.region id l.toArray true).wpIn (Fence.wide.inRound a) n P Q a0 w0:=wpIn_region_any b (bK d _ _ _ _ h)
end
end
section
open Go.RowKit
section
variable {P : Program} {l : List Oper}
def Ah(b:Nat->Bool)(i:Nat):Nat->Bool:=fun k=>if k=i then true else b k
def Ci(listed:Array Bool):Nat->Bool:=fun k=>listed.getD k false
theorem bM(n:Nat):Ci (a0u n false)=fun _=>false:=by
 funext k
 unfold Ci
 rcases a2z k n with h|h
 ·simp[h]
 ·simp[h]
def bN(P:Program)(l:List Oper)(Ss:List (World→Value→Prop))(C:(Nat→Bool)→World→Prop)(R:World→World→Prop)(a0:Act)(i:Nat):Prop:=
 ∀o S,l[i]?=some o->Ss[i]?=some S->∀(b:Nat->Bool) (a:Act) (w:World),C b w->b i=false->(∀e∈o.after,Region.binds .any e=true->b e.on=true)->
  (∀j oj,l[j]?=some oj->b j=true->∀e∈oj.after,Region.binds .any e=true->b e.on=true)->a.tmps.size=a0.tmps.size->
  (∀t,(∀j oj,l[j]?=some oj->oj.dst=some t->b j=false)->a.tmps.getD t undef=a0.tmps.getD t undef)->
  (∀e∈o.after,Region.binds .any e=true->∀oe Se,l[e.on]?=some oe->Ss[e.on]?=some Se->Se w (A3 oe a))->
  if Region.wanted o (yielded l.toArray a.tmps)=true then o.wp P a w (fun a2 w2=>∃v,a2=a.put o.dst v/\C (Ah b i) w2/\R w w2/\S w2 (match o.dst with|some _=>v|none=>undef)) (fun _ _ _=>False)
  else S w undef/\C (Ah b i) w
structure kS(l:List Oper)(Ss:List (World->Value->Prop))(C:(Nat->Bool)->World->Prop)(a0:Act)(listed:Array Bool)(a:Act)(w:World):Prop where
 size:listed.size=l.length
 defers:a.defers=a0.defers
 tmps:a.tmps.size=a0.tmps.size
 done:∀j o S,l[j]?=some o->Ss[j]?=some S->listed.getD j false=true->S w (A3 o a)
 same:∀t,(∀j oj,l[j]?=some oj->oj.dst=some t->Ci listed j=false)->a.tmps.getD t undef=a0.tmps.getD t undef
 closed:∀j oj,l[j]?=some oj->Ci listed j=true->∀e∈oj.after,Region.binds .any e=true->Ci listed e.on=true
 cls:C (Ci listed) w
theorem xT{Ss:List (World→Value→Prop)}{C:(Nat→Bool)→World→Prop}{R:World→World→Prop}{a0:Act}{Qn:Act→World→Prop}(hl:Ss.length=l.length)(u:Fh l a0.tmps.size=true)
  (stab:∀S∈Ss,∀w w' v,R w w'->S w v->S w' v)(rel:∀i,i<l.length->bN P l Ss C R a0 i)
  (af:∀a w listed,kS l Ss C a0 listed a w->(∀j,j<l.length->listed.getD j false=true)->Qn a w):
  ∀(m:Nat) (listed:Array Bool) (a:Act) (w:World),F8 listed=m->kS l Ss C a0 listed a w->H8 P l Qn m listed a w:=by
 intro m
 induction m with
 |zero=>
  intro listed a w hu f;have q:=Wi hu;rw[f.size] at q;refine⟨?_,af a w listed f q⟩;apply List.eq_nil_iff_forall_not_mem.2;intro j g;obtain⟨T,o,ho,_⟩:=mem_ready.1 g
  have r:j<l.length:=by simpa using(Array.getElem?_eq_some_iff.1 ho).1
  have V:=q j r
  have A:j<listed.size:=by rw[f.size];exact r
  simp[A] at T V;rw[T] at V;cases V
 |succ m ih=>
  intro listed a w hu f;refine⟨fun M=>?_,fun i hi=>?_⟩
  ·--something is ready as long as not all is listed
   exfalso
   have G:∃j,j<l.length∧listed.getD j false=false:=by
    by_cases G:∃j,j<l.length/\listed.getD j false=false
    ·exact G
    ·exfalso
     have q:∀j,j<l.length->listed.getD j false=true:=fun j g=>by
      cases h:listed.getD j false
      ·exact absurd ⟨j,g,h⟩ G
      ·rfl
     have:F8 listed=0:=by
      unfold F8;rw[List.length_eq_zero_iff,List.filter_eq_nil_iff];intro b B;obtain⟨j,g,rfl⟩:=a1z B
      have U:j<listed.size:=by simpa using g
      have:=q j (by rw[<-f.size];exact U);simp[U] at this ⊢;exact this
     omega
   obtain⟨j,g,E⟩:∃j,(j<l.length∧listed.getD j false=false)∧∀k,k<j→¬(k<l.length∧listed.getD k false=false):=by
    obtain⟨j0,h0⟩:=G
    induction j0 using Nat.strongRecOn with
    |_ n ih2=>
     by_cases W:∃k,k<n/\(k<l.length/\listed.getD k false=false)
     ·obtain⟨k,O,N⟩:=W;exact ih2 k O N
     ·exact⟨n,h0,fun k O N=>W ⟨k,O,N⟩⟩
   have ab:j<listed.size:=by rw[f.size];exact g.1
   have:j∈Region.ready .any l.toArray listed:=by
    refine mem_ready.2 ⟨by have:=g.2;simp[ab] at this ⊢;exact this,l[j],by simp[g.1],fun e L B=>?_⟩;have r:=O8 u (a0z g.1) e L B;cases h:listed.getD e.on false
    ·exact absurd ⟨by omega,h⟩ (E e.on r)
    ·rfl
   rw[M] at this;cases this
  ·obtain⟨T,o,ho,y⟩:=mem_ready.1 hi
   have p:l[i]?=some o:=by simpa using ho
   have r:i<l.length:=(List.getElem?_eq_some_iff.1 p).1
   have A:i<listed.size:=by rw[f.size];exact r
   obtain⟨S,hS⟩:∃S,Ss[i]?=some S:=⟨Ss[i]'(by omega),a0z (by omega)⟩
   have ae:Ci listed i=false:=by unfold Ci;simp[A] at T ⊢;exact T
   have M:=rel i r o S p hS (Ci listed) a w f.cls ae (fun e L B=>y e L B) f.closed f.tmps f.same (fun e L B oe Se Z ac=>f.done e.on oe Se Z ac (y e L B))
   have x:Ci (listed.setIfInBounds i true)=Ah (Ci listed) i:=by
    funext k
    unfold Ci Ah
    by_cases e:k=i
    ·subst e;rw[if_pos rfl];simp[A]
    ·rw[if_neg e,getD_set_ne false (Ne.symm e)]
   have z:∀v w2,C (Ah (Ci listed) i) w2→(∀S'∈Ss,∀v,S' w v→S' w2 v)→S w2 (match o.dst with|some _=>v|none=>undef)→H8 P l Qn m (listed.setIfInBounds i true) (a.put o.dst v) w2:=by
    intro v w2 hC Y K;refine ih _ _ _ (by have:=Wh A T;omega) ⟨by simp[f.size],by rw[Ud];exact f.defers,by rw[Rx];exact f.tmps,?_,?_,?_,by rw[x];exact hC⟩
    ·intro j D Sj g J s
     by_cases Q:i=j
     ·subst Q;rw[p] at g;cases g;rw[hS] at J;cases J;unfold A3
      cases I:o.dst with
      |none=>rw[I] at K;exact K
      |some d=>
       rw[I] at K;simp only;rw[Rw (by rw[f.tmps];exact(Gz u p I).1)];exact K
     ·rw[getD_set_ne false Q] at s;have V:=Y Sj (a0v J) _ (f.done j D Sj g J s)
      have:A3 D (a.put o.dst v)=A3 D a:=by
       unfold A3
       cases hdj:D.dst with
       |none=>rfl
       |some d=>
        simp only
        refine Lm fun I=>?_
        exact(Gz u p I).2 j D g (Ne.symm Q) hdj
      rw[this];exact V
    ·intro t ht
     have aa:o.dst≠some t:=fun I=>by
      have:=ht i o p I;rw[x] at this;unfold Ah at this;rw[if_pos rfl] at this;cases this
     rw[Lm aa]
     refine f.same t fun j D g I=>?_
     have:=ht j D g I;rw[x] at this;unfold Ah at this
     by_cases e:j=i
     ·rw[if_pos e] at this;cases this
     ·rw[if_neg e] at this;exact this
    ·intro j D g s e L B;rw[x] at s ⊢
     have up:∀k,Ci listed k=true->Ah (Ci listed) i k=true:=fun k W=>by
      unfold Ah
      by_cases e:k=i
      ·rw[if_pos e]
      ·rw[if_neg e];exact W
     by_cases ej:j=i
     ·subst ej;rw[p] at g;cases g;exact up _ (y e L B)
     ·unfold Ah at s;rw[if_neg ej] at s;exact up _ (f.closed j D g s e L B)
   refine⟨o,p,?_⟩;split
   ·rename_i X;rw[if_pos X] at M;refine(Uc (fun a2 w2 h=>?_) (fun _ _ _ h=>h.elim) M);obtain⟨v,rfl,hC,hR,K⟩:=h;exact z v w2 hC (fun S' ad v K=>stab S' ad w w2 v hR K) K
   ·rename_i X;rw[if_neg X] at M;refine z undef w M.2 (fun _ _ _ h=>h) ?_
    cases o.dst<;>exact M.1
theorem xU{Qn:Act→World→Prop}{a0:Act}{I:World}(Ss:List (World→Value→Prop))(C:(Nat→Bool)→World→Prop)(R:World→World→Prop)
  (W:Ss.length=l.length)(f:Fh l a0.tmps.size=true)(Z:C (fun _=>false) {I with drawn:=I.drawn+1})
  (stab:∀S∈Ss,∀w w' v,R w w'->S w v->S w' v)(rel:∀i,i<l.length->bN P l Ss C R a0 i)
  (U:∀V w b,C b w->(∀j,j<l.length->b j=true)->F9 w Ss V->Qn (Aj l V a0) w):H8 P l Qn l.toArray.size (a0u l.toArray.size false) a0 {I with drawn:=I.drawn+1}:=by
 refine(xT W f stab rel ?_ _ _ _ _ (by simp[F8]) ⟨by simp,rfl,rfl,?_,fun _ _=>rfl,?_,by rw[bM];exact Z⟩)
 ·intro a w q g x
  have B:=U (l.map (fun o=>A3 o a)) w (Ci q) g.cls x (Uh (by simp[W]) (fun i S v G p=>by
   rw[List.getElem?_map] at p
   cases r:l[i]? with
   |none=>rw[r] at p;cases p
   |some o=>
    rw[r] at p;simp only[Option.map_some,Option.some.injEq] at p;rw[<-p]
    exact g.done i o S r G (x i (List.getElem?_eq_some_iff.1 r).1)))
  have:Aj l (l.map (fun o=>A3 o a)) a0=a:=by
   have m:(Aj l (l.map (fun o=>A3 o a)) a0).defers=a.defers:=by rw[Uf,g.defers]
   have y:(Aj l (l.map (fun o=>A3 o a)) a0).tmps=a.tmps:=by
    have K:(Aj l (l.map (fun o=>A3 o a)) a0).tmps.size=a.tmps.size:=by rw[Ue,g.tmps]
    refine Array.ext K fun t G p=>?_
    have Y:(Aj l (l.map (fun o=>A3 o a)) a0).tmps.getD t undef=a.tmps.getD t undef:=by
     by_cases E:∃o∈l,o.dst=some t
     ·obtain⟨o,r,A⟩:=E;obtain⟨i,Q,O⟩:=a1z r
      have s:l[i]?=some o:=by rw[a0z Q,O]
      rw[Ug l _ a0 (by simp) (fun i j oi J d Q N G p=>by
       by_cases D:i=j
       ·exact D
       ·exact absurd p ((Gz f Q G).2 j J N (Ne.symm D))) (fun o' L d T=>by
       obtain⟨k,X,M⟩:=a1z L
       exact(Gz f (by rw[a0z X,M]) T).1) i o (A3 o a) t s (by rw[List.getElem?_map,s];rfl) A]
      unfold A3;rw[A]
     ·have u:∀o∈l,o.dst≠some t:=fun o r A=>E ⟨o,r,A⟩
      rw[Ry l _ a0 t u,g.same t (fun j J N A=>absurd A (u J (a0v N)))]
    simpa [G,p] using Y
   cases a;cases h:Aj l (l.map (fun o=>A3 o _)) a0;rw[h] at m y;simp only at m y;rw[m,y]
  rw[this] at B;exact B
 ·intro j o S _ _ h;exfalso
  rcases a2z j l.length with z|z
  ·simp[z] at h
  ·simp[z] at h
 ·intro j o _ h;exfalso;unfold Ci at h
  rcases a2z j l.length with z|z
  ·simp[z] at h
  ·simp[z] at h
def bO(l:List Oper)(i t:Nat):Bool:=(List.range l.length).all fun j=>match l[j]? with
 |some o=>o.dst !=some t||(j==i||o.after.any fun e=>Region.binds .any e&&e.on==i)
 |none=>true
def J1(l:List Oper)(i j:Nat):Bool:=match l[i]? with
 |some o=>o.after.any fun e=>Region.binds .any e&&e.on==j
 |none=>false
structure Ox(l:List Oper)(Ss:List (World->Value->Prop))(a0:Act)(i:Nat)(b:Nat->Bool)(a:Act)(w:World):Prop where
 size:a.tmps.size=a0.tmps.size
 dep:∀(j t:Nat) (S:World->Value->Prop),Jb l i j t=true->Ss[i-1-j]?=some S->S w (a.tmps[t]?.getD undef)
 free:∀(t:Nat) (v:Value),bO l i t=true->a0.tmps.getD t undef=v->a.tmps[t]?.getD undef=v
 pre:∀j,J1 l i j=true->b j=true
 post:∀j,J1 l j i=true->b j=false
 self:b i=false
theorem xW{Ss:List (World→Value→Prop)}{a0:Act}{i:Nat}{b:Nat→Bool}{a:Act}{w:World}{o:Oper}(u:l[i]?=some o)(p:b i=false)(z:∀e∈o.after,Region.binds .any e=true→b e.on=true)
  (B:∀j d,l[j]?=some d->b j=true->∀e∈d.after,Region.binds .any e=true->b e.on=true)(J:a.tmps.size=a0.tmps.size)
  (I:∀t,(∀j d,l[j]?=some d->d.dst=some t->b j=false)->a.tmps.getD t undef=a0.tmps.getD t undef)
  (G:∀e∈o.after,Region.binds .any e=true->∀s Se,l[e.on]?=some s->Ss[i-1-e.on]?=some Se->Se w (A3 s a)):Ox l Ss a0 i b a w:=by
 have later:∀j d,l[j]?=some d→(d.after.any fun e=>Region.binds .any e&&e.on==i)=true→b j=false:=fun j d f D=>by
  obtain⟨e,m,k⟩:=Array.any_eq_true'.1 D;simp only[a0x,beq_iff_eq] at k
  cases hbj:b j with
  |false=>rfl
  |true=>
   have:=B j d f hbj e m k.1;rw[k.2,p] at this;cases this
 refine⟨J,fun j t S g E=>?_,fun t v A y=>?_,fun j f=>?_,fun j f=>?_,p⟩
 ·unfold Jb at g;rw[u] at g
  cases f:l[j]? with
  |none=>rw[f] at g;cases g
  |some d=>
   rw[f] at g;simp only[a0x,beq_iff_eq] at g;obtain⟨e,m,k⟩:=Array.any_eq_true'.1 g.1;simp only[a0x,beq_iff_eq] at k;obtain⟨r,rfl⟩:=k;have:=G e m r d S f E;unfold A3 at this;rw[g.2] at this
   simpa using this
 ·have x:∀j d,l[j]?=some d→d.dst=some t→b j=false:=fun j d f g=>by
   have q:j<l.length:=(List.getElem?_eq_some_iff.1 f).1;have:=List.all_eq_true.1 A j (List.mem_range.2 q);rw[f] at this;simp only[g,bne_self_eq_false,Bool.false_or,Bool.or_eq_true,beq_iff_eq] at this
   rcases this with rfl|h
   ·exact p
   ·exact later j d f h
  have:=I t x;rw[y] at this
  simpa using this
 ·unfold J1 at f;rw[u] at f;obtain⟨e,m,k⟩:=Array.any_eq_true'.1 f;simp only[a0x,beq_iff_eq] at k;rw[<-k.2];exact z e m k.1
 ·unfold J1 at f
  cases hlj:l[j]? with
  |none=>rw[hlj] at f;cases f
  |some d=>rw[hlj] at f;exact later j d hlj f
def xX(P:Program)(l:List Oper)(done:List (World→Value→Prop))(S:World→Value→Prop)(C:(Nat→Bool)→World→Prop)(R:World→World→Prop)(a0:Act)(i:Nat):Prop:=
 ∀(b:Nat->Bool),∀o,l[i]?=some o->∀(a:Act) (w:World),C b w->Ox l done a0 i b a w->
  if Region.wanted o (yielded l.toArray a.tmps)=true then o.wp P a w (fun a2 w2=>∃v,a2=a.put o.dst v/\C (Ah b i) w2/\R w w2/\S w2 (match o.dst with|some _=>v|none=>undef)) (fun _ _ _=>False)
  else S w undef/\C (Ah b i) w
def Vu(R:World->World->Prop):List (World->Value->Prop)->Prop
 |[]=>True
 |S::Ss=>(∀w w' v,R w w'->S w v->S w' v)/\Vu R Ss
theorem kT{R:World→World→Prop}:∀{Ss:List (World→Value→Prop)},Vu R Ss→∀S∈Ss,∀w w' v,R w w'→S w v→S w' v
 |[],_,S,a=>by cases a
 |T::Ss,h,S,a=>by
  rcases List.mem_cons.1 a with rfl|a
  ·exact h.1
  ·exact kT h.2 S a
theorem Cc(x:Value){R:World->World->Prop}{Ss:List (World->Value->Prop)}(h:Vu R Ss):Vu R (B6 x::Ss):=⟨fun _ _ _ _ h=>h,h⟩
def Oy(P:Program)(l:List Oper)(C:(Nat->Bool)->World->Prop)(R:World->World->Prop)(a0:Act)(F:Act->World->Prop):Nat->List (World->Value->Prop)->Nat->Prop
 |_,done,0=>Vu R done/\∀w b,C b w->(∀j,j<l.length->b j=true)->∀vs,F9 w done.reverse vs->F (Aj l vs a0) w
 |i,done,n+1=>∃S,xX P l done S C R a0 i/\Oy P l C R a0 F (i+1) (S::done) n
theorem kU{C:(Nat→Bool)→World→Prop}{R:World→World→Prop}{a0:Act}{F:Act→World→Prop}(d:Fh l a0.tmps.size=true):∀(n i:Nat) (done:List (World→Value→Prop)),Oy P l C R a0 F i done n→done.length=i→i+n=l.length→
  ∃Ss,(∃r,Ss=done.reverse++r)/\Ss.length=l.length/\(∀S∈Ss,∀w w' v,R w w'->S w v->S w' v)/\(∀m w b,C b w->(∀j,j<l.length->b j=true)->F9 w Ss m->F (Aj l m a0) w)/\∀k,i<=k->k<l.length->bN P l Ss C R a0 k
 |0,i,done,h,h1,h2=>⟨done.reverse,⟨[],by simp⟩,by simp;omega,fun S y=>kT h.1 S (by simpa using y),fun m w b z q=>h.2 w b z q m,fun k N B=>by omega⟩
 |n+1,i,done,h,h1,h2=>by
  obtain⟨S,s,f⟩:=h;obtain⟨Ss,⟨r,p⟩,U,T,Q,O⟩:=kU d n (i+1) (S::done) f (by simp[h1]) (by omega);rw[List.reverse_cons] at p;refine⟨Ss,⟨[S]++r,by rw[p,a1w]⟩,U,T,Q,fun k N B=>?_⟩
  by_cases e:k=i
  ·subst e;intro o S' u g b a w z I G E L K J
   have y:Ss[k]?=some S:=by rw[p,a1w,List.getElem?_append_right (by simp;omega)];simp[h1]
   rw[y] at g;cases g;refine s b o u a w z (xW u I G E L K fun e A q D Se t x=>J e A q D Se t ?_);have M:=O8 d u e A q;rw[p,a1w,a1v (by simp;omega),List.getElem?_reverse (by omega),h1];exact x
  ·exact O k (by omega) B
theorem Ft{id:Nat}{Q:Exit→Act→World→Prop}{a0:Act}{w0:World}(C:(Nat→Bool)→World→Prop)(R:World→World→Prop)
  (d:P.follows .mixedOrders=true)(b:Fh l a0.tmps.size=true)(g:C (fun _=>false) {w0 with drawn:=w0.drawn+1})
  (h:Oy P l C R a0 (fun a w=>Q .normal a w) 0 [] l.length):(Code.region id l.toArray true).wp P Q a0 w0:=by
 obtain⟨Ss,_,o,m,k,j⟩:=kU b l.length 0 [] h rfl (by omega);exact bL d (xU Ss C R o b g m (fun i f=>j i (Nat.zero_le _) f) k)
variable {C : (Nat -> Bool) -> World -> Prop} {R : World -> World -> Prop} {a0 : Act} {F : Act -> World -> Prop} {i n : Nat} {done : List (World -> Value -> Prop)}
theorem Be{o:Oper}{x:Value}(q:∀b w,C b w→C (Ah b i) w)(k:l[i]?=some o)(p:o.guard=none)(g:o.dst.isSome=true)
  (h:∀b a w,C b w->Ox l done a0 i b a w->∀K:Act->World->Prop,(∀w2,C b w2->R w w2->K (a.put o.dst x) w2)->o.wp P a w K (fun _ _ _=>False))
  (m:Oy P l C R a0 F (i+1) (B6 x::done) n):Oy P l C R a0 F i done (n+1):=by
 refine⟨B6 x,?_,m⟩;intro b u f a w s t;rw[k] at f;cases f
 have j:Region.wanted o (yielded l.toArray a.tmps)=true:=by unfold Region.wanted;rw[p]
 rw[if_pos j]
 refine h b a w s t _ fun w2 c r=>⟨x,rfl,q _ _ c,r,?_⟩
 cases hd':o.dst with
 |none=>rw[hd'] at g;cases g
 |some d=>rfl
theorem Fb{o:Oper}(S:World→Value→Prop)(k:l[i]?=some o)(p:o.guard=none)(g:o.dst.isSome=true)
  (h:∀b a w,C b w->Ox l done a0 i b a w->∀K:Act->World->Prop,(∀v w2,C (Ah b i) w2->R w w2->S w2 v->K (a.put o.dst v) w2)->o.wp P a w K (fun _ _ _=>False))
  (m:Oy P l C R a0 F (i+1) (S::done) n):Oy P l C R a0 F i done (n+1):=by
 refine⟨S,?_,m⟩;intro b u f a w q t;rw[k] at f;cases f
 have j:Region.wanted o (yielded l.toArray a.tmps)=true:=by unfold Region.wanted;rw[p]
 rw[if_pos j]
 refine h b a w q t _ fun v w2 c r s=>⟨v,rfl,c,r,?_⟩
 cases hd':o.dst with
 |none=>rw[hd'] at g;cases g
 |some d=>exact s
theorem Gs{o:Oper}(S:World→Prop)(g:l[i]?=some o)(k:o.guard=none)
  (h:∀b a w,C b w->Ox l done a0 i b a w->∀K:Act->World->Prop,(∀v w2,C (Ah b i) w2->R w w2->S w2->K (a.put o.dst v) w2)->o.wp P a w K (fun _ _ _=>False))
  (j:Oy P l C R a0 F (i+1) ((fun w _=>S w)::done) n):Oy P l C R a0 F i done (n+1):=by
 refine⟨fun w _=>S w,?_,j⟩;intro b q d a w m p;rw[g] at d;cases d
 have f:Region.wanted o (yielded l.toArray a.tmps)=true:=by unfold Region.wanted;rw[k]
 rw[if_pos f]
 exact h b a w m p _ fun v w2 c r s=>⟨v,rfl,c,r,s⟩
end
section
open Go.RowKit
theorem Ox.eq{l:List Oper}{Ss:List (World->Value->Prop)}{a0:Act}{i:Nat}{b:Nat->Bool}{a:Act}{w:World}(h:Ox l Ss a0 i b a w)(j t:Nat){x:Value}(d:Ss[i-1-j]?=some (B6 x))(f:Jb l i j t=true:=by decide+kernel):a.tmps[t]?.getD undef=x:=h.dep j t (B6 x) f d
theorem Ox.fr{l:List Oper}{Ss:List (World->Value->Prop)}{a0:Act}{i:Nat}{b:Nat->Bool}{a:Act}{w:World}(h:Ox l Ss a0 i b a w)(t:Nat){v:Value}(d:a0.tmps.getD t undef=v)(f:bO l i t=true:=by decide+kernel):a.tmps[t]?.getD undef=v:=h.free t v f d
end
end
end Go.Proofs.YtkagolpnaicdoaaGreatDoor
