/-
 Items: a cell, and where it stands; how they stand; the last one of each coordinate, in order: there is just one such list. Lists of items, sorted on a stretch; an exchange of two; insertion: plain. Heaps of lists of items, by their first ones; merging: plain.
-/
import Derived.Test.YtkagolpnaicdoaaGreatDoorMCellShown
import Derived.Test.YtkagolpnaicdoaaGreatDoorMBuild
set_option maxRecDepth 100000
set_option maxHeartbeats 8000000
open List renaming getD_eq_getElem?_getD→a0z,mem_append_left→a0x,mem_cons_self→a0w,mem_append_right→a0v,not_mem_nil→a0u,mem_cons_of_mem→a1z,getElem?_eq_getElem→a1x,getElem_mem→a1w
open Nat renaming le_refl→a1v
namespace Go.Proofs.YtkagolpnaicdoaaGreatDoor
section
open Go.Lib
structure Ad where
 c:Ac
 pos:Nat
structure B5(x:Ad):Prop where
 c:Dm x.c
 pos:x.pos<9223372036854775808
def S9(x:Ad):Ac:={x.c with seq:=x.pos}
def J8(x:Ad):Ac:={x.c with seq:=0}
def D2(x y:Ad):Int:=Ep (S9 x) (S9 y)
def Dn(x y:Ad):Int:=Ep (J8 x) (J8 y)
def Bj(x y:Ad):Bool:=Md x.c y.c
theorem M6{x:Ad}(h:B5 x):Dm (S9 x):=⟨h.c.ts,by have:=h.pos;show x.pos<_;omega,h.c.row,h.c.col,h.c.val⟩
theorem Ph{x:Ad}(h:B5 x):Dm (J8 x):=⟨h.c.ts,by show 0<_;decide,h.c.row,h.c.col,h.c.val⟩
theorem Ta{x:Ad}(h:B5 x):D2 x x=0:=Zu _ (M6 h)
theorem aO{x y:Ad}(hx:B5 x)(hy:B5 y):D2 y x= -D2 x y:=Zv _ _ (M6 hx) (M6 hy)
theorem mJ{x y z:Ad}(hx:B5 x)(hy:B5 y)(hz:B5 z)(h1:D2 x y≤0)(h2:D2 y z≤0):D2 x z≤0:=Zw _ _ _ (M6 hx) (M6 hy) (M6 hz) h1 h2
theorem mK{x y:Ad}(hx:B5 x)(hy:B5 y):D2 x y= -1∨D2 x y=0∨D2 x y=1:=lB _ _ (M6 hx) (M6 hy)
theorem aP{x:Ad}(h:B5 x):Dn x x=0:=Zu _ (Ph h)
theorem Td{x y:Ad}(hx:B5 x)(hy:B5 y):Dn y x= -Dn x y:=Zv _ _ (Ph hx) (Ph hy)
theorem mL{x y z:Ad}(hx:B5 x)(hy:B5 y)(hz:B5 z)(h1:Dn x y≤0)(h2:Dn y z≤0):Dn x z≤0:=Zw _ _ _ (Ph hx) (Ph hy) (Ph hz) h1 h2
theorem Qy(a b c d:Int):E5 [a,b,c,d]=if a≠0 then a else if b≠0 then b else if c≠0 then c else d:=by
 unfold E5;split
 ·rfl
 ·unfold E5;split
  ·rfl
  ·unfold E5;split
   ·rfl
   ·unfold E5;split
    ·rfl
    ·unfold E5;omega
theorem Pi(x y:Ad):(Dn x y≠0∧D2 x y=Dn x y)∨(Dn x y=0∧D2 x y=Dq y.pos x.pos):=by
 unfold D2 Dn Ep S9 J8;simp only;rw[Qy,Qy,O6 0]
 by_cases h1:Ee x.c.row y.c.row=0
 ·by_cases h2:Ee x.c.col y.c.col=0
  ·by_cases h3:Dq y.c.ts x.c.ts=0
   ·right;simp[h1,h2,h3]
   ·left;simp[h1,h2,h3]
  ·left;simp[h1,h2]
 ·left;simp[h1]
theorem aQ{a b:ByteArray}(h:Ee a b=0):a=b:=by
 have:=Sv h;obtain⟨⟨a⟩⟩:=a;obtain⟨⟨b⟩⟩:=b
 simpa using this
theorem aR(a:ByteArray):Ee a a=0:=Qp _
theorem aS{a b:ByteArray}(h:a.toList=b.toList):a=b:=by
 rw[ByteArray.toList_eq,ByteArray.toList_eq] at h;obtain⟨⟨a⟩⟩:=a;obtain⟨⟨b⟩⟩:=b
 simpa using h
theorem Pj(a b:Ac):Md a b=true↔a.row=b.row∧a.col=b.col∧a.ts=b.ts:=by
 unfold Md;simp only[Bool.and_eq_true,beq_iff_eq];exact⟨fun⟨h1,h2,h3⟩=>⟨aS h1,aS h2,by exact_mod_cast h3⟩,fun⟨h1,h2,h3⟩=>⟨by rw[h1],by rw[h2],by rw[h3]⟩⟩
theorem K4(x y:Ad):Bj x y=true↔Dn x y=0:=by
 unfold Bj;rw[Pj];unfold Dn Ep J8;simp only;rw[Qy,O6 0];constructor
 ·rintro⟨h1,h2,h3⟩;rw[h1,h2,h3,aR,aR,O6]
  decide
 ·intro h
  by_cases h1:Ee x.c.row y.c.row=0
  ·by_cases h2:Ee x.c.col y.c.col=0
   ·by_cases h3:Dq y.c.ts x.c.ts=0
    ·exact⟨aQ h1,aQ h2,(Sz h3).symm⟩
    ·rw[if_neg (by simp[h1]),if_neg (by simp[h2]),if_pos h3] at h;exact absurd h h3
   ·rw[if_neg (by simp[h1]),if_pos h2] at h;exact absurd h h2
  ·rw[if_pos h1] at h;exact absurd h h1
theorem Wa(x y:Ad):Bj x y=false↔Dn x y≠0:=by
 rw[←Bool.not_eq_true,K4]
theorem Qz(x y:Ad):Bj x y=Bj y x:=by
 rw[Bool.eq_iff_iff];unfold Bj;rw[Pj,Pj];exact⟨fun⟨h1,h2,h3⟩=>⟨h1.symm,h2.symm,h3.symm⟩,fun⟨h1,h2,h3⟩=>⟨h1.symm,h2.symm,h3.symm⟩⟩
theorem aT(x:Ad):Bj x x=true:=by unfold Bj;rw[Pj];exact⟨rfl,rfl,rfl⟩
theorem Ti{x y z:Ad}(h1:Bj x y=true)(h2:Bj y z=true):Bj x z=true:=by
 unfold Bj at*;rw[Pj] at*;exact⟨h1.1.trans h2.1,h1.2.1.trans h2.2.1,h1.2.2.trans h2.2.2⟩
theorem aU{x y:Ad}(z:Ad)(h:Bj x y=true):Dn x z=Dn y z:=by
 unfold Bj at h;rw[Pj] at h;unfold Dn Ep J8;simp only;rw[h.1,h.2.1,h.2.2]
theorem aV{x y:Ad}(h:D2 x y=0):Bj x y=true∧x.pos=y.pos:=by
 rcases Pi x y with⟨h1,h2⟩|⟨h1,h2⟩
 ·exact absurd (h2.symm.trans h) h1
 ·exact⟨(K4 x y).2 h1,(Sz (h2.symm.trans h)).symm⟩
theorem Tj{x y:Ad}(h:D2 x y≤0):Dn x y≤0:=by
 rcases Pi x y with⟨_,h2⟩|⟨h1,_⟩<;>omega
theorem aW{x y:Ad}(h:D2 x y<0)(hs:Bj x y=true):y.pos<x.pos:=by
 rcases Pi x y with⟨h1,_⟩|⟨_,h2⟩
 ·exact absurd ((K4 x y).1 hs) h1
 ·rw[h2] at h;unfold Dq at h;split at h
  ·assumption
  ·split at h<;>omega
theorem mM{x y z:Ad}(hx:B5 x)(hy:B5 y)(hz:B5 z)(h1:Dn x y<0)(h2:Dn y z≤0):Dn x z<0:=by
 have h3:=mL hx hy hz (by omega) h2
 by_cases h:Dn x z=0
 ·have hs:=(K4 x z).2 h;have:=aU y hs;have:=Td hy hz;omega
 ·omega
def Ds(l:List Ad):Prop:=l.Pairwise fun x y=>Dn x y<0
def Pl(l:List Ad):Prop:=l.Pairwise fun x y=>D2 x y<0
def Wb(l:List Ad):Prop:=∀x∈l,∀y∈l,Bj x y=true→x.pos=y.pos→x=y
structure B7(all r:List Ad):Prop where
 ris:Ds r
 sub:∀x∈r,x∈all
 last:∀x∈r,∀y∈all,Bj x y=true→y.pos≤x.pos
 cov:∀y∈all,∃x∈r,Bj x y=true
theorem B7.mem{all r r':List Ad}(h:B7 all r)(h':B7 all r')(ho:Wb all){x:Ad}(hx:x∈r):x∈r':=by
 obtain⟨z,hz,hs⟩:=h'.cov x (h.sub x hx);have h1:=h'.last z hz x (h.sub x hx) hs;have h2:=h.last x hx z (h'.sub z hz) (by rw[Qz];exact hs);have:=ho z (h'.sub z hz) x (h.sub x hx) hs (by omega);rw[←this];exact hz
theorem Ds.irr{l:List Ad}{x:Ad}(h:Ds (x::l))(hx:B5 x):x∉l:=fun hm=>by
 have:=(List.pairwise_cons.1 h).1 x hm;rw[aP hx] at this;omega
theorem Ds.unique:∀{l m:List Ad},(∀x∈l,B5 x)→(∀x∈m,B5 x)→Ds l→Ds m→(∀x,x∈l↔x∈m)→l=m
 |[],[],_,_,_,_,_=>rfl
 |[],y::m,_,_,_,_,h=>absurd ((h y).2 a0w) a0u
 |x::l,[],_,_,_,_,h=>absurd ((h x).1 a0w) a0u
 |x::l,y::m,ol,om,hl,hm,h=>by
  have ox:=ol x a0w;have oy:=om y a0w
  have hxy:x=y:=by
   rcases List.mem_cons.1 ((h x).1 a0w) with e|e
   ·exact e
   ·rcases List.mem_cons.1 ((h y).2 a0w) with e2|e2
    ·exact e2.symm
    ·have h1:=(List.pairwise_cons.1 hm).1 x e;have h2:=(List.pairwise_cons.1 hl).1 y e2;rw[Td oy ox] at h2;omega
  subst hxy;congr 1
  refine Ds.unique (fun z hz=>ol z (a1z _ hz)) (fun z hz=>om z (a1z _ hz)) (List.pairwise_cons.1 hl).2 (List.pairwise_cons.1 hm).2 fun z=>?_
  constructor
  ·intro hz
   rcases List.mem_cons.1 ((h z).1 (a1z _ hz)) with e|e
   ·rw[e] at hz;exact absurd hz (Ds.irr hl ox)
   ·exact e
  ·intro hz
   rcases List.mem_cons.1 ((h z).2 (a1z _ hz)) with e|e
   ·rw[e] at hz;exact absurd hz (Ds.irr hm ox)
   ·exact e
theorem B7.unique{all r r':List Ad}(hok:∀x∈all,B5 x)(ho:Wb all)(h:B7 all r)(h':B7 all r'):r=r':=
 Ds.unique (fun x hx=>hok x (h.sub x hx)) (fun x hx=>hok x (h'.sub x hx)) h.ris h'.ris fun _=>⟨fun hx=>h.mem h' ho hx,fun hx=>h'.mem h ho hx⟩
theorem B7.nil:B7 [] []:=⟨List.Pairwise.nil,fun _ h=>absurd h a0u,fun _ h=>absurd h a0u,fun _ h=>absurd h a0u⟩
theorem B7.cover{all r:List Ad}(h:B7 all r):∀y∈all,∃x∈r,Bj x y=true∧y.pos≤x.pos:=fun y hy=>by
 obtain⟨x,hx,hs⟩:=h.cov y hy;exact⟨x,hx,hs,h.last x hx y hy hs⟩
def Hq:Ad:=⟨Bo,0⟩
def M7(l:List Ad)(j:Nat):Bool:=decide (j=0∨Bj (l.getD j Hq) (l.getD (j-1) Hq)=false)
def Jh(l:List Ad)(m:Nat):List Ad:=((List.range m).filter (M7 l)).map fun j=>l.getD j Hq
theorem Q0(l:List Ad)(m:Nat):Jh l (m+1)=Jh l m++(if M7 l m=true then[l.getD m Hq] else[]):=by
 unfold Jh;rw[List.range_succ,List.filter_append,List.map_append];congr 1
 by_cases h:M7 l m=true<;>simp[h]
theorem Nx(l:List Ad){k:Nat}(h:k<l.length):l.getD k Hq=l[k]:=by
 rw[a0z,a1x h];rfl
theorem Pl.before{l:List Ad}(h:Pl l){i j:Nat}(hij:i<j)(hj:j<l.length):D2 (l[i]'(by omega)) l[j]<0:=by
 have:=List.pairwise_iff_getElem.1 h i j (by omega) hj hij;exact this
theorem aX{l:List Ad}{m:Nat}{x:Ad}(h:x∈l.take m)(hm:m≤l.length):∃i,∃(hi:i<l.length),i<m∧l[i]=x:=by
 obtain⟨i,hi,e⟩:=List.mem_iff_getElem.1 h;rw[List.length_take] at hi;exact⟨i,by omega,by omega,by rw[←e,List.getElem_take]⟩
theorem aY{l:List Ad}(hok:∀x∈l,B5 x)(h:Pl l):∀m,m≤l.length→B7 (l.take m) (Jh l m)
 |0,_=>by
  rw[List.take_zero];exact B7.nil
 |m+1,hm=>by
  have ih:=aY hok h m (by omega)
  have hml:m<l.length:=by omega
  rw[Q0,Nx l hml];have ox:=hok l[m] (a1w hml)
  have before:∀y∈l.take m,D2 y l[m]<0:=fun y hy=>by
   obtain⟨i,hi,him,e⟩:=aX hy (by omega);rw[←e];exact h.before him hml
  have oky:∀y∈l.take m,B5 y:=fun y hy=>hok y (List.mem_of_mem_take hy)
  have htk:l.take (m+1)=l.take m++[l[m]]:=by rw[List.take_add_one,a1x hml];rfl
  by_cases hk:M7 l m=true
  ·rw[if_pos hk]
   have hno:∀y∈l.take m,Dn y l[m]<0:=fun y hy=>by
    obtain⟨i,hi,him,e⟩:=aX hy (by omega)
    have hpl:m-1<l.length:=by omega
    have op:=hok l[m-1] (a1w hpl);have h1:=Tj (Int.le_of_lt (before y hy))
    rcases Int.lt_or_eq_of_le h1 with h2|h2
    ·exact h2
    ·exfalso;have hk2:=of_decide_eq_true hk
     rcases hk2 with hk2|hk2
     ·omega
     ·rw[Nx l hml,Nx l hpl,Wa] at hk2
      have hyp:Dn y l[m-1]≤0:=by
       by_cases e2:i=m-1
       ·subst e2;rw[←e,aP op];omega
       ·have:=h.before (i:=i) (j:=m-1) (by omega) hpl;rw[e] at this;exact Tj (Int.le_of_lt this)
      have hpx:Dn l[m-1] l[m]≤0:=Tj (Int.le_of_lt (h.before (by omega) hml));have hs:=(K4 y l[m]).2 h2;have h3:=aU l[m-1] hs;have h4:=Td ox op;omega
   rw[htk];refine⟨?_,fun x hx=>?_,fun x hx y hy hs=>?_,fun y hy=>?_⟩
   ·refine List.pairwise_append.2 ⟨ih.ris,List.pairwise_singleton _ _,fun x hx y hy=>?_⟩;rw[List.mem_singleton.1 hy];exact hno x (ih.sub x hx)
   ·rcases List.mem_append.1 hx with hx|hx
    ·exact a0x _ (ih.sub x hx)
    ·exact a0v _ hx
   ·rcases List.mem_append.1 hx with hx|hx
    ·rcases List.mem_append.1 hy with hy|hy
     ·exact ih.last x hx y hy hs
     ·rw[List.mem_singleton.1 hy] at hs;have:=hno x (ih.sub x hx);have:=(K4 _ _).1 hs;omega
    ·rw[List.mem_singleton.1 hx] at hs ⊢
     rcases List.mem_append.1 hy with hy|hy
     ·have:=hno y hy;have:=(K4 _ _).1 ((Qz _ _).trans hs);omega
     ·rw[List.mem_singleton.1 hy];exact a1v _
   ·rcases List.mem_append.1 hy with hy|hy
    ·obtain⟨x,hx,hs⟩:=ih.cov y hy;exact⟨x,a0x _ hx,hs⟩
    ·rw[List.mem_singleton.1 hy];exact⟨l[m],a0v _ (List.mem_singleton.2 rfl),aT _⟩
  ·rw[if_neg hk,List.append_nil,htk]
   have hk1:¬(m=0∨Bj (l.getD m Hq) (l.getD (m-1) Hq)=false):=fun e=>hk (decide_eq_true e)
   have hm0:m≠0:=fun e=>hk1 (Or.inl e)
   have hpl:m-1<l.length:=by omega
   have hs:Bj l[m] l[m-1]=true:=by
    have:¬Bj (l.getD m Hq) (l.getD (m-1) Hq)=false:=fun e=>hk1 (Or.inr e)
    rw[Nx l hml,Nx l hpl] at this
    simpa using this
   have hpm:l[m-1]∈l.take m:=by
    refine List.mem_iff_getElem.2 ⟨m-1,by rw[List.length_take];omega,by rw[List.getElem_take]⟩
   refine⟨ih.ris,fun x hx=>a0x _ (ih.sub x hx),fun x hx y hy hs2=>?_,fun y hy=>?_⟩
   ·rcases List.mem_append.1 hy with hy|hy
    ·exact ih.last x hx y hy hs2
    ·rw[List.mem_singleton.1 hy] at hs2 ⊢;exact Nat.le_of_lt (aW (before x (ih.sub x hx)) hs2)
   ·rcases List.mem_append.1 hy with hy|hy
    ·exact ih.cov y hy
    ·obtain⟨x,hx,hs3⟩:=ih.cov l[m-1] hpm;rw[List.mem_singleton.1 hy];exact⟨x,hx,Ti hs3 (by rw[Qz];exact hs)⟩
theorem mN{l:List Ad}(hok:∀x∈l,B5 x)(h:Pl l):B7 l (Jh l l.length):=by
 have:=aY hok h l.length (a1v _);rw[List.take_length] at this;exact this
end
section
def Ae(l:List Ad)(k:Nat):Ad:=l.getD k Hq
theorem J9{l:List Ad}{k:Nat}(h:k<l.length):Ae l k=l[k]:=Nx l h
def A7(x y:Ad):Prop:=D2 x y≤0
def G8(l:List Ad)(a b:Nat):Prop:=∀p q,a≤p→p<q→q<b→A7 (Ae l p) (Ae l q)
def B8(l:List Ad):Prop:=∀x∈l,B5 x
theorem Wc:B5 Hq:=⟨⟨by decide,by decide,by decide,by decide,by decide⟩,by decide⟩
theorem B8.at{l:List Ad}(h:B8 l)(k:Nat):B5 (Ae l k):=by
 unfold Ae;rw[a0z]
 cases e:l[k]? with
 |none=>exact Wc
 |some x=>exact h x (List.mem_of_getElem? e)
theorem A7.trans{x y z:Ad}(hx:B5 x)(hy:B5 y)(hz:B5 z)(h1:A7 x y)(h2:A7 y z):A7 x z:=mJ hx hy hz h1 h2
theorem A7.not{x y:Ad}(hx:B5 x)(hy:B5 y)(h:¬D2 x y<0):A7 y x:=by
 unfold A7;have:=aO hx hy;omega
theorem A7.lt{x y:Ad}(h:D2 x y<0):A7 x y:=by unfold A7;omega
def Im(l:List Ad)(i j:Nat):List Ad:=(l.set i (Ae l j)).set j (Ae l i)
theorem We(l:List Ad)(i k:Nat)(x:Ad)(h:i<l.length):Ae (l.set i x) k=if k=i then x else Ae l k:=by
 unfold Ae;rw[a0z,List.getElem?_set,a0z]
 by_cases e:i=k
 ·subst e;rw[if_pos rfl,if_pos h,if_pos rfl];rfl
 ·rw[if_neg e,if_neg (Ne.symm e)]
theorem Io{l:List Ad}{i j:Nat}(k:Nat)(hi:i<l.length)(hj:j<l.length):Ae (Im l i j) k=if k=j then Ae l i else if k=i then Ae l j else Ae l k:=by
 unfold Im;rw[We _ _ _ _ (by rw[List.length_set];exact hj),We _ _ _ _ hi]
theorem mO{l:List Ad}{i j:Nat}(hi:i<l.length)(hj:j<l.length):(Im l i j).Perm l:=by
 have h:=Array.swap_perm (xs:=l.toArray) (i:=i) (j:=j) (by simpa using hi) (by simpa using hj);have h2:=Array.perm_iff_toList_perm.1 h
 have e:(l.toArray.swap i j (by simpa using hi) (by simpa using hj)).toList=Im l i j:=by
  unfold Im;rw[J9 hi,J9 hj];simp[Array.swap]
 rw[e] at h2;exact h2
structure Fq(a b:Nat)(l l':List Ad):Prop where
 perm:l'.Perm l
 out:∀p,p<a∨b≤p→Ae l' p=Ae l p
 inn:∀p,a≤p→p<b→∃q,a≤q∧q<b∧Ae l' p=Ae l q
theorem Fq.refl(a b:Nat)(l:List Ad):Fq a b l l:=⟨List.Perm.refl _,fun _ _=>rfl,fun p h1 h2=>⟨p,h1,h2,rfl⟩⟩
theorem Fq.len{a b:Nat}{l l':List Ad}(h:Fq a b l l'):l'.length=l.length:=h.perm.length_eq
theorem Fq.ok{a b:Nat}{l l':List Ad}(h:Fq a b l l')(ho:B8 l):B8 l':=fun x hx=>ho x (h.perm.mem_iff.1 hx)
theorem Fq.trans{a b:Nat}{l m r:List Ad}(h1:Fq a b l m)(h2:Fq a b m r):Fq a b l r:=by
 refine⟨h2.perm.trans h1.perm,fun p hp=>(h2.out p hp).trans (h1.out p hp),fun p ha hb=>?_⟩;obtain⟨q,q1,q2,e⟩:=h2.inn p ha hb;obtain⟨r,r1,r2,e2⟩:=h1.inn q q1 q2;exact⟨r,r1,r2,e.trans e2⟩
theorem Fq.wide{a b a' b':Nat}{l m:List Ad}(h:Fq a b l m)(ha:a'≤a)(hb:b≤b'):Fq a' b' l m:=by
 refine⟨h.perm,fun p hp=>h.out p (by omega),fun p hp1 hp2=>?_⟩
 by_cases hp:a≤p∧p<b
 ·obtain⟨q,q1,q2,e⟩:=h.inn p hp.1 hp.2;exact⟨q,by omega,by omega,e⟩
 ·exact⟨p,hp1,hp2,h.out p (by omega)⟩
theorem Fq.swap{a b i j:Nat}{l:List Ad}(hi:i<l.length)(hj:j<l.length)(h1:a≤i)(h2:i<b)(h3:a≤j)(h4:j<b):Fq a b l (Im l i j):=by
 refine⟨mO hi hj,fun p hp=>?_,fun p ha hb=>?_⟩
 ·rw[Io p hi hj,if_neg (by omega),if_neg (by omega)]
 ·rw[Io p hi hj]
  by_cases e:p=j
  ·rw[if_pos e];exact⟨i,h1,h2,rfl⟩
  ·rw[if_neg e]
   by_cases e2:p=i
   ·rw[if_pos e2];exact⟨j,h3,h4,rfl⟩
   ·rw[if_neg e2];exact⟨p,ha,hb,rfl⟩
def Ny(l:List Ad)(a b j:Nat):Prop:=∀p q,a≤p→p<q→q<b→q≠j→A7 (Ae l p) (Ae l q)
theorem G8.but{l:List Ad}{a i:Nat}(h:G8 l a i):Ny l a (i+1) i:=fun p q h1 h2 h3 h4=>h p q h1 h2 (by omega)
theorem Ny.done{l:List Ad}{a b j:Nat}(ho:B8 l)(h:Ny l a b j)(hj:j=a∨A7 (Ae l (j-1)) (Ae l j))(ha:a≤j):G8 l a b:=by
 intro p q h1 h2 h3
 by_cases e:q=j
 ·subst e
  rcases hj with rfl|hj
  ·omega
  ·by_cases e2:p=q-1
   ·subst e2;exact hj
   ·exact A7.trans (ho.at _) (ho.at _) (ho.at _) (h p (q-1) h1 (by omega) (by omega) (by omega)) hj
 ·exact h p q h1 h2 h3 e
theorem Ny.step{l:List Ad}{a b j:Nat}(h:Ny l a b j)(hb:b≤l.length)(hj:a<j)(hjb:j<b)(hlt:A7 (Ae l j) (Ae l (j-1))):Ny (Im l j (j-1)) a b (j-1):=by
 intro p q h1 h2 h3 h4
 have hjl:j<l.length:=by omega
 have hjl1:j-1<l.length:=by omega
 rw[Io p hjl hjl1,Io q hjl hjl1];rw[if_neg h4]
 by_cases e:q=j
 ·rw[if_pos e]
  by_cases e2:p=j-1
  ·rw[if_pos e2];exact hlt
  ·rw[if_neg e2,if_neg (by omega)];exact h p (j-1) h1 (by omega) (by omega) (by omega)
 ·rw[if_neg e]
  by_cases e2:p=j-1
  ·rw[if_pos e2];exact h j q (by omega) (by omega) h3 e
  ·rw[if_neg e2]
   by_cases e3:p=j
   ·rw[if_pos e3];exact h (j-1) q (by omega) (by omega) h3 e
   ·rw[if_neg e3];exact h p q h1 h2 h3 e
theorem G8.one(l:List Ad)(a:Nat):G8 l a (a+1):=fun p q h1 h2 h3=>by omega
theorem G8.frame{l l':List Ad}{a b:Nat}(h:G8 l a b)(he:∀p,a≤p→p<b→Ae l' p=Ae l p):G8 l' a b:=fun p q h1 h2 h3=>by
 rw[he p h1 (by omega),he q (by omega) h3];exact h p q h1 h2 h3
theorem G8.rising{l:List Ad}(h:G8 l 0 l.length)(hn:(l.map (·.pos)).Nodup):Pl l:=by
 refine List.pairwise_iff_getElem.2 fun i j hi hj hij=>?_
 have h1:=h i j (Nat.zero_le _) hij hj;rw[J9 hi,J9 hj] at h1;unfold A7 at h1
 rcases Int.lt_or_eq_of_le h1 with h2|h2
 ·exact h2
 ·exfalso;have hp:=(aV h2).2;have:=(List.pairwise_iff_getElem.1 hn) i j (by simpa using hi) (by simpa using hj) hij;rw[List.getElem_map,List.getElem_map] at this;exact this hp
end
section
structure Ls(k:List Ad)(n j:Nat):Prop where
 par:∀i,0<i→i<n→i≠j→A7 (Ae k ((i-1)/2)) (Ae k i)
 grand:∀i,0<i→i<n→0<j→(i-1)/2=j→A7 (Ae k ((j-1)/2)) (Ae k i)
def F9(k:List Ad)(n:Nat):Prop:=∀i,0<i→i<n→A7 (Ae k ((i-1)/2)) (Ae k i)
theorem Ls.done{k:List Ad}{n j:Nat}(h:Ls k n j)(hj:j=0∨A7 (Ae k ((j-1)/2)) (Ae k j)):F9 k n:=by
 intro i h1 h2
 by_cases e:i=j
 ·subst e
  rcases hj with h3|h3
  ·omega
  ·exact h3
 ·exact h.par i h1 h2 e
theorem Ls.step{k:List Ad}{n j:Nat}(ho:B8 k)(h:Ls k n j)(hn:n≤k.length)(h0:0<j)(hj:j<n)(hlt:A7 (Ae k j) (Ae k ((j-1)/2))):Ls (Im k ((j-1)/2) j) n ((j-1)/2):=by
 obtain⟨p,hp⟩:∃p,(j-1)/2=p:=⟨_,rfl⟩
 rw[hp] at hlt ⊢
 have hpj:p<j:=by omega
 have hpl:p<k.length:=by omega
 have hjl:j<k.length:=by omega
 refine⟨fun i h1 h2 h3=>?_,fun i h1 h2 h3 h4=>?_⟩
 ·rw[Io _ hpl hjl,Io i hpl hjl]
  by_cases e1:i=j
  ·subst e1;rw[hp,if_neg (by omega),if_pos rfl,if_pos rfl];exact hlt
  ·rw[if_neg e1,if_neg h3]
   by_cases e2:(i-1)/2=j
   ·rw[if_pos e2];have:=h.grand i h1 h2 h0 e2;rw[hp] at this;exact this
   ·rw[if_neg e2]
    by_cases e3:(i-1)/2=p
    ·rw[if_pos e3];have h5:=h.par i h1 h2 e1;rw[e3] at h5;exact A7.trans (ho.at _) (ho.at _) (ho.at _) hlt h5
    ·rw[if_neg e3];exact h.par i h1 h2 e1
 ·have h6:A7 (Ae k ((p-1)/2)) (Ae k p):=h.par p h3 (by omega) (by omega);rw[Io _ hpl hjl,Io i hpl hjl,if_neg (by omega),if_neg (by omega)]
  by_cases e1:i=j
  ·rw[if_pos e1];exact h6
  ·rw[if_neg e1,if_neg (by omega)];have h5:=h.par i h1 h2 e1;rw[h4] at h5;exact A7.trans (ho.at _) (ho.at _) (ho.at _) h6 h5
structure K5(k:List Ad)(n i:Nat):Prop where
 par:∀c,0<c→c<n→(c-1)/2≠i→A7 (Ae k ((c-1)/2)) (Ae k c)
 grand:∀c,0<c→c<n→(c-1)/2=i→0<i→A7 (Ae k ((i-1)/2)) (Ae k c)
theorem K5.done{k:List Ad}{n i:Nat}(h:K5 k n i)(hc:∀c,0<c→c<n→(c-1)/2=i→A7 (Ae k i) (Ae k c)):F9 k n:=by
 intro c h1 h2
 by_cases e:(c-1)/2=i
 ·rw[e];exact hc c h1 h2 e
 ·exact h.par c h1 h2 e
theorem K5.step{k:List Ad}{n i j:Nat}(h:K5 k n i)(hn:n≤k.length)(hj0:0<j)(hj:j<n)(hp:(j-1)/2=i)(hmin:∀c,0<c→c<n→(c-1)/2=i→A7 (Ae k j) (Ae k c))(hlt:A7 (Ae k j) (Ae k i)):K5 (Im k i j) n j:=by
 have hij:i<j:=by omega
 have hil:i<k.length:=by omega
 have hjl:j<k.length:=by omega
 refine⟨fun c h1 h2 h3=>?_,fun c h1 h2 h3 h4=>?_⟩
 ·rw[Io _ hil hjl,Io c hil hjl,if_neg h3]
  by_cases e1:(c-1)/2=i
  ·rw[if_pos e1]
   by_cases e2:c=j
   ·rw[if_pos e2];exact hlt
   ·rw[if_neg e2,if_neg (by omega)];exact hmin c h1 h2 e1
  ·rw[if_neg e1]
   by_cases e2:c=j
   ·subst e2;exact absurd hp e1
   ·rw[if_neg e2]
    by_cases e3:c=i
    ·rw[if_pos e3];have:=h.grand j hj0 hj hp (by omega);rw[e3];exact this
    ·rw[if_neg e3];exact h.par c h1 h2 e1
 ·rw[hp,Io _ hil hjl,Io c hil hjl,if_neg (by omega),if_pos rfl,if_neg (by omega),if_neg (by omega)];have h5:=h.par c h1 h2 (by omega);rw[h3] at h5;exact h5
theorem F9.root{k:List Ad}{n:Nat}(ho:B8 k)(h:F9 k n):∀i,i<n→A7 (Ae k 0) (Ae k i):=by
 intro i
 induction i using Nat.strongRecOn with
 |_ i ih=>
  intro hi
  by_cases e:i=0
  ·subst e;exact Int.le_of_eq (Ta (ho.at _))
  ·exact A7.trans (ho.at _) (ho.at _) (ho.at _) (ih ((i-1)/2) (by omega) (by omega)) (h i (by omega) hi)
theorem F9.pop{k:List Ad}{n:Nat}(h:F9 k (n+1))(hn:k.length=n+1):K5 (Im k 0 n) n 0:=by
 refine⟨fun c h1 h2 h3=>?_,fun c h1 h2 h3 h4=>absurd h4 (Nat.lt_irrefl _)⟩;rw[Io _ (by omega) (by omega),Io c (by omega) (by omega),if_neg (by omega),if_neg h3,if_neg (by omega),if_neg (by omega)];exact h c h1 (by omega)
theorem F9.push{k:List Ad}(x:Ad)(h:F9 k k.length):Ls (k++[x]) (k.length+1) k.length:=by
 have A:∀i,i<k.length→Ae (k++[x]) i=Ae k i:=fun i hi=>by unfold Ae;rw[a0z,List.getElem?_append_left hi,a0z]
 refine⟨fun i h1 h2 h3=>?_,fun i h1 h2 h3 h4=>by omega⟩;rw[A _ (by omega),A _ (by omega)];exact h i h1 (by omega)
theorem F9.frame{k k':List Ad}{n:Nat}(h:F9 k n)(he:∀i,i<n→Ae k' i=Ae k i):F9 k' n:=fun i h1 h2=>by
 rw[he _ (by omega),he _ h2];exact h i h1 h2
theorem mP{x y:Ad}(h:A7 x y)(hs:Bj x y=true):y.pos≤x.pos:=by
 unfold A7 at h
 rcases Int.lt_or_eq_of_le h with h1|h1
 ·exact Nat.le_of_lt (aW h1 hs)
 ·rw[(aV h1).2];exact a1v _
structure Ji(done out:List Ad):Prop where
 res:B7 done out
theorem Ji.nil:Ji [] []:=⟨B7.nil⟩
theorem aZ{l:List Ad}(h:0<l.length):Ae l (l.length-1)∈l:=by
 rw[J9 (by omega)];exact a1w _
theorem Ds.last{l:List Ad}(h:Ds l){x:Ad}(hx:x∈l):x=Ae l (l.length-1)∨Dn x (Ae l (l.length-1))<0:=by
 obtain⟨i,hi,e⟩:=List.mem_iff_getElem.1 hx;rw[J9 (by omega)]
 by_cases h1:i=l.length-1
 ·left;subst h1;exact e.symm
 ·right;rw[←e];exact List.pairwise_iff_getElem.1 h i (l.length-1) hi (by omega) (by omega)
theorem Ji.skip{done out:List Ad}{x:Ad}(h:Ji done out)(hle:∀y∈done,A7 y x)(h0:0<out.length)(hs:Bj (Ae out (out.length-1)) x=true):Ji (done++[x]) out:=by
 have hl:=aZ h0;refine⟨⟨h.res.ris,fun y hy=>a0x _ (h.res.sub y hy),fun y hy z hz hyz=>?_,fun y hy=>?_⟩⟩
 ·rcases List.mem_append.1 hz with hz|hz
  ·exact h.res.last y hy z hz hyz
  ·rw[List.mem_singleton.1 hz] at hyz ⊢;exact mP (hle y (h.res.sub y hy)) hyz
 ·rcases List.mem_append.1 hy with hy|hy
  ·exact h.res.cov y hy
  ·rw[List.mem_singleton.1 hy];exact⟨_,hl,hs⟩
theorem Ji.take{done out:List Ad}{x:Ad}(hok:B8 done)(hx:B5 x)(h:Ji done out)(hle:∀y∈done,A7 y x)(hs:out.length=0∨Bj (Ae out (out.length-1)) x=false):Ji (done++[x]) (out++[x]):=by
 have hlt:∀y∈out,Dn y x<0:=fun y hy=>by
  have h0:0<out.length:=List.length_pos_of_mem hy;have hl:=aZ h0;have hs2:Bj (Ae out (out.length-1)) x=false:=hs.resolve_left (by omega);rw[Wa] at hs2
  have h1:Dn (Ae out (out.length-1)) x<0:=by
   have:=Tj (hle _ (h.res.sub _ hl));omega
  rcases h.res.ris.last hy with e|e
  ·rw[e];exact h1
  ·exact mM (hok y (h.res.sub y hy)) (hok _ (h.res.sub _ hl)) hx e (by omega)
 refine⟨⟨?_,fun y hy=>?_,fun y hy z hz hyz=>?_,fun y hy=>?_⟩⟩
 ·refine List.pairwise_append.2 ⟨h.res.ris,List.pairwise_singleton _ _,fun y hy z hz=>?_⟩;rw[List.mem_singleton.1 hz];exact hlt y hy
 ·rcases List.mem_append.1 hy with hy|hy
  ·exact a0x _ (h.res.sub y hy)
  ·exact a0v _ hy
 ·rcases List.mem_append.1 hy with hy|hy
  ·rcases List.mem_append.1 hz with hz|hz
   ·exact h.res.last y hy z hz hyz
   ·rw[List.mem_singleton.1 hz] at hyz;have:=hlt y hy;have:=(K4 _ _).1 hyz;omega
  ·rw[List.mem_singleton.1 hy] at hyz ⊢
   rcases List.mem_append.1 hz with hz|hz
   ·obtain⟨y2,hy2,hs2⟩:=h.res.cov z hz;have:=hlt y2 hy2;have h2:Bj y2 x=true:=Ti hs2 (by rw[Qz];exact hyz);have:=(K4 _ _).1 h2;omega
   ·rw[List.mem_singleton.1 hz];exact a1v _
 ·rcases List.mem_append.1 hy with hy|hy
  ·obtain⟨z,hz,hs2⟩:=h.res.cov y hy;exact⟨z,a0x _ hz,hs2⟩
  ·rw[List.mem_singleton.1 hy];exact⟨x,a0v _ (List.mem_singleton.2 rfl),aT _⟩
theorem B7.perm{a b r:List Ad}(h:B7 a r)(hp:∀x,x∈b↔x∈a):B7 b r:=
 ⟨h.ris,fun x hx=>(hp x).2 (h.sub x hx),fun x hx y hy=>h.last x hx y ((hp y).1 hy),fun y hy=>h.cov y ((hp y).1 hy)⟩
theorem Ds.first{x:Ad}{r:List Ad}(hx:B5 x)(h:Ds (x::r)):∀y∈x::r,A7 x y:=by
 intro y hy
 rcases List.mem_cons.1 hy with e|e
 ·subst e;exact Int.le_of_eq (Ta hx)
 ·have h1:=(List.pairwise_cons.1 h).1 y e;unfold A7
  rcases Pi x y with⟨_,h2⟩|⟨h2,_⟩<;>omega
structure Jj(all:List Ad)(rs:List (List Ad)):Prop where
 ris:∀r∈rs,Ds r
 sub:∀r∈rs,∀x∈r,x∈all
 cov:∀y∈all,∃r∈rs,∃x∈r,Bj x y=true∧y.pos≤x.pos
theorem Ds.same{r:List Ad}(hok:B8 r)(h:Ds r){x y:Ad}(hx:x∈r)(hy:y∈r)(hs:Bj x y=true):x=y:=by
 obtain⟨i,hi,ei⟩:=List.mem_iff_getElem.1 hx;obtain⟨j,hj,ej⟩:=List.mem_iff_getElem.1 hy;have h0:=(K4 x y).1 hs;have h00:=Td (hok x hx) (hok y hy)
 rcases Nat.lt_trichotomy i j with h1|h1|h1
 ·have:=List.pairwise_iff_getElem.1 h i j hi hj h1;rw[ei,ej] at this;omega
 ·subst h1;rw[←ei,←ej]
 ·have:=List.pairwise_iff_getElem.1 h j i hj hi h1;rw[ei,ej] at this;omega
theorem Jj.one{all r:List Ad}(hok:B8 all)(h:Jj all [r]):B7 all r:=by
 have hor:B8 r:=fun x hx=>hok x (h.sub r (List.mem_singleton.2 rfl) x hx)
 have hr:=h.ris r (List.mem_singleton.2 rfl);refine⟨hr,h.sub r (List.mem_singleton.2 rfl),fun x hx y hy hs=>?_,fun y hy=>?_⟩
 ·obtain⟨r',hr',z,hz,hzs,hzp⟩:=h.cov y hy;rw[List.mem_singleton.1 hr'] at hz;have:z=x:=hr.same hor hz hx (Ti hzs (by rw[Qz];exact hs));rw[←this];exact hzp
 ·obtain⟨r',hr',z,hz,hzs,hzp⟩:=h.cov y hy;rw[List.mem_singleton.1 hr'] at hz;exact⟨z,hz,hzs⟩
end
end Go.Proofs.YtkagolpnaicdoaaGreatDoor
