/- Lemmas. -/
import Derived.Test.YtkagolpnaicdoaaGreatDoorQCellA
import Derived.RangeFuncCalls
import Derived.RegionIn
set_option maxRecDepth 100000
set_option maxHeartbeats 8000000
open List renaming getElem?_eq_getElem->X,getD_eq_getElem?_getD->Z,mem_of_getElem?->a0z,getElem_of_mem->a0x,mem_cons_self->a0w,append_assoc->a0v,getElem?_map->a1x,not_mem_nil->a1v,mem_cons_of_mem->a1u,length_take->a2z,getElem?_append_right->a2x,getElem?_append_left->a2v,getElem_take->a3z,mem_append_left->a3x,length_set->a3w,getElem?_take->a3v,flatMap_cons->a3u,length_eq_zero_iff->a4z,filter_eq_nil_iff->a4v,mem_append_right->a4u
open Bool renaming and_eq_true->Y
open Nat renaming mul_le_mul_right->a0u,succ_mul->a1z,lt_or_ge->a2u,not_lt_zero->a4x,zero_le->a4w,zero_add->a5x
open Array renaming getElem?_setIfInBounds->a1w,replicate->a2w,getElem?_toList->a5z
namespace Go.Proofs.YtkagolpnaicdoaaGreatDoor
section
open Go.Lib
structure Ad where
 c:Ac
 pos:Nat
structure B9(x:Ad):Prop where
 c:Di x.c
 pos:x.pos<9223372036854775808
def Xh(x:Ad):Ac:={x.c with seq:=x.pos}
def Jj(x:Ad):Ac:={x.c with seq:=0}
def B8(x y:Ad):Int:=Db (Xh x) (Xh y)
def Bv(x y:Ad):Int:=Db (Jj x) (Jj y)
def Bc(x y:Ad):Bool:=I2 x.c y.c
theorem P9{x:Ad}(h:B9 x):Di (Xh x):=⟨h.c.ts,by have:=h.pos;show x.pos<_;omega,h.c.row,h.c.col,h.c.val⟩
theorem Su{x:Ad}(h:B9 x):Di (Jj x):=⟨h.c.ts,by show 0<_;decide,h.c.row,h.c.col,h.c.val⟩
theorem Oq{x:Ad}(h:B9 x):B8 x x=0:=iE _ (P9 h)
theorem aE{x y:Ad}(c:B9 x)(a:B9 y):B8 y x= -B8 x y:=iF _ _ (P9 c) (P9 a)
theorem uY{x y z:Ad}(d:B9 x)(c:B9 y)(a:B9 z)(h:B8 x y<=0)(g:B8 y z<=0):B8 x z<=0:=iG _ _ _ (P9 d) (P9 c) (P9 a) h g
theorem uZ{x y:Ad}(c:B9 x)(a:B9 y):B8 x y= -1∨B8 x y=0∨B8 x y=1:=uC _ _ (P9 c) (P9 a)
theorem jD{x:Ad}(h:B9 x):Bv x x=0:=iE _ (Su h)
theorem Ot{x y:Ad}(c:B9 x)(a:B9 y):Bv y x= -Bv x y:=iF _ _ (Su c) (Su a)
theorem vA{x y z:Ad}(d:B9 x)(c:B9 y)(a:B9 z)(h:Bv x y<=0)(g:Bv y z<=0):Bv x z<=0:=iG _ _ _ (Su d) (Su c) (Su a) h g
theorem U1(a b c d:Int):E2 [a,b,c,d]=if a≠0 then a else if b≠0 then b else if c≠0 then c else d:=by
 unfold E2;split
 .rfl
 .unfold E2;split
  .rfl
  .unfold E2;split
   .rfl
   .unfold E2;split
    .rfl
    .unfold E2;omega
theorem Nu(x y:Ad):(Bv x y≠0∧B8 x y=Bv x y)∨(Bv x y=0∧B8 x y=Du y.pos x.pos):=by
 unfold B8 Bv Db Xh Jj;simp only;rw[U1,U1,R9 0];by_cases a:Bq x.c.row y.c.row=0
 .by_cases d:Bq x.c.col y.c.col=0
  .by_cases g:Du y.c.ts x.c.ts=0
   .right;simp[a,d,g]
   .left;simp[a,d,g]
  .left;simp[a,d]
 .left;simp[a]
theorem aF{a b:ByteArray}(h:Bq a b=0):a=b:=by
 have:=Ux h;obtain⟨⟨a⟩⟩:=a;obtain⟨⟨b⟩⟩:=b
 simpa using this
theorem jE(a:ByteArray):Bq a a=0:=P2 _
theorem Xi{a b:ByteArray}(h:a.toList=b.toList):a=b:=by
 rw[ByteArray.toList_eq,ByteArray.toList_eq] at h;obtain⟨⟨a⟩⟩:=a;obtain⟨⟨b⟩⟩:=b
 simpa using h
theorem Sv(a b:Ac):I2 a b=true↔a.row=b.row/\a.col=b.col/\a.ts=b.ts:=by
 unfold I2;simp only[Y,beq_iff_eq];exact⟨fun⟨g,d,c⟩=>⟨Xi g,Xi d,by exact_mod_cast c⟩,fun⟨g,d,c⟩=>⟨by rw[g],by rw[d],by rw[c]⟩⟩
theorem K5(x y:Ad):Bc x y=true↔Bv x y=0:=by
 unfold Bc;rw[Sv];unfold Bv Db Jj;simp only;rw[U1,R9 0];constructor
 .rintro⟨a,d,g⟩;rw[a,d,g,jE,jE,R9]
  decide
 .intro h;by_cases a:Bq x.c.row y.c.row=0
  .by_cases d:Bq x.c.col y.c.col=0
   .by_cases g:Du y.c.ts x.c.ts=0
    .exact⟨aF a,aF d,(W5 g).symm⟩
    .rw[if_neg (by simp[a]),if_neg (by simp[d]),if_pos g] at h;exact absurd h g
   .rw[if_neg (by simp[a]),if_pos d] at h;exact absurd h d
  .rw[if_pos a] at h;exact absurd h a
theorem U2(x y:Ad):Bc x y=false↔Bv x y≠0:=by
 rw[<-Bool.not_eq_true,K5]
theorem Qx(x y:Ad):Bc x y=Bc y x:=by
 rw[Bool.eq_iff_iff];unfold Bc;rw[Sv,Sv];exact⟨fun⟨d,c,a⟩=>⟨d.symm,c.symm,a.symm⟩,fun⟨d,c,a⟩=>⟨d.symm,c.symm,a.symm⟩⟩
theorem Xj(x:Ad):Bc x x=true:=by unfold Bc;rw[Sv];exact⟨rfl,rfl,rfl⟩
theorem Mc{x y z:Ad}(c:Bc x y=true)(a:Bc y z=true):Bc x z=true:=by
 unfold Bc at*;rw[Sv] at*;exact⟨c.1.trans a.1,c.2.1.trans a.2.1,c.2.2.trans a.2.2⟩
theorem U3{x y:Ad}(z:Ad)(h:Bc x y=true):Bv x z=Bv y z:=by
 unfold Bc at h;rw[Sv] at h;unfold Bv Db Jj;simp only;rw[h.1,h.2.1,h.2.2]
theorem jF{x y:Ad}(h:B8 x y=0):Bc x y=true/\x.pos=y.pos:=by
 rcases Nu x y with⟨c,a⟩|⟨c,a⟩
 .exact absurd (a.symm.trans h) c
 .exact⟨(K5 x y).2 c,(W5 (a.symm.trans h)).symm⟩
theorem Xk{x y:Ad}(h:B8 x y<=0):Bv x y<=0:=by
 rcases Nu x y with⟨_,a⟩|⟨c,_⟩<;>omega
theorem jG{x y:Ad}(h:B8 x y<0)(a:Bc x y=true):y.pos<x.pos:=by
 rcases Nu x y with⟨d,_⟩|⟨_,c⟩
 .exact absurd ((K5 x y).1 a) d
 .rw[c] at h;unfold Du at h;split at h
  .assumption
  .split at h<;>omega
theorem jH{x y z:Ad}(d:B9 x)(c:B9 y)(a:B9 z)(r:Bv x y<0)(k:Bv y z<=0):Bv x z<0:=by
 have m:=vA d c a (by omega) k;by_cases h:Bv x z=0
 .have g:=(K5 x z).2 h;have:=U3 y g;have:=Ot c a;omega
 .omega
def Dv(l:List Ad):Prop:=l.Pairwise fun x y=>Bv x y<0
def Sz(l:List Ad):Prop:=l.Pairwise fun x y=>B8 x y<0
def aG(l:List Ad):Prop:=∀x∈l,∀y∈l,Bc x y=true->x.pos=y.pos->x=y
structure Bf(all r:List Ad):Prop where
 ris:Dv r
 sub:∀x∈r,x∈all
 last:∀x∈r,∀y∈all,Bc x y=true->y.pos<=x.pos
 cov:∀y∈all,∃x∈r,Bc x y=true
theorem Bf.mem{all r r':List Ad}(h:Bf all r)(d:Bf all r')(k:aG all){x:Ad}(c:x∈r):x∈r':=by
 obtain⟨z,a,g⟩:=d.cov x (h.sub x c);have s:=d.last z a x (h.sub x c) g;have m:=h.last x c z (d.sub z a) (by rw[Qx];exact g);have:=k z (d.sub z a) x (h.sub x c) g (by omega);rw[<-this];exact a
theorem Dv.irr{l:List Ad}{x:Ad}(h:Dv (x::l))(a:B9 x):x∉l:=fun c=>by
 have:=(List.pairwise_cons.1 h).1 x c;rw[jD a] at this;omega
theorem Dv.unique:∀{l m:List Ad},(∀x∈l,B9 x)→(∀x∈m,B9 x)→Dv l→Dv m→(∀x,x∈l↔x∈m)→l=m
 |[],[],_,_,_,_,_=>rfl
 |[],y::m,_,_,_,_,h=>absurd ((h y).2 a0w) a1v
 |x::l,[],_,_,_,_,h=>absurd ((h x).1 a0w) a1v
 |x::l,y::m,ol,om,hl,hm,h=>by
  have c:=ol x a0w;have k:=om y a0w;have d:x=y:=by
   rcases List.mem_cons.1 ((h x).1 a0w) with e|e
   .exact e
   .rcases List.mem_cons.1 ((h y).2 a0w) with g|g
    .exact g.symm
    .have s:=(List.pairwise_cons.1 hm).1 x e;have r:=(List.pairwise_cons.1 hl).1 y g;rw[Ot k c] at r;omega
  subst d;congr 1;refine Dv.unique (fun z a=>ol z (a1u _ a)) (fun z a=>om z (a1u _ a)) (List.pairwise_cons.1 hl).2 (List.pairwise_cons.1 hm).2 fun z=>?_;constructor
  .intro a;rcases List.mem_cons.1 ((h z).1 (a1u _ a)) with e|e
   .rw[e] at a;exact absurd a (Dv.irr hl c)
   .exact e
  .intro a;rcases List.mem_cons.1 ((h z).2 (a1u _ a)) with e|e
   .rw[e] at a;exact absurd a (Dv.irr hm c)
   .exact e
theorem Bf.unique{all r r':List Ad}(c:∀x∈all,B9 x)(g:aG all)(h:Bf all r)(d:Bf all r'):r=r':=
 Dv.unique (fun x a=>c x (h.sub x a)) (fun x a=>c x (d.sub x a)) h.ris d.ris fun _=>⟨fun a=>h.mem d g a,fun a=>d.mem h g a⟩
theorem Bf.nil:Bf [] []:=⟨List.Pairwise.nil,fun _ h=>absurd h a1v,fun _ h=>absurd h a1v,fun _ h=>absurd h a1v⟩
theorem Bf.comp{all mid r:List Ad}(g:∀x∈mid,x∈all)(a:∀y∈all,∃x∈mid,Bc x y=true/\y.pos<=x.pos)(h:Bf mid r):Bf all r:=by
 refine⟨h.ris,fun x d=>g x (h.sub x d),fun x d y m u=>?_,fun y m=>?_⟩
 .obtain⟨z,k,c,t⟩:=a y m;have:=h.last x d z k (Mc u (by rw[Qx];exact c));omega
 .obtain⟨z,k,c,_⟩:=a y m;obtain⟨x,d,s⟩:=h.cov z k;exact⟨x,d,Mc s c⟩
theorem Bf.cover{all r:List Ad}(h:Bf all r):∀y∈all,∃x∈r,Bc x y=true/\y.pos<=x.pos:=fun y a=>by
 obtain⟨x,c,d⟩:=h.cov y a;exact⟨x,c,d,h.last x c y a d⟩
def Jk:Ad:=⟨Aq,0⟩
def Qa(l:List Ad)(j:Nat):Bool:=decide (j=0∨Bc (l.getD j Jk) (l.getD (j-1) Jk)=false)
def Lr(l:List Ad)(m:Nat):List Ad:=((List.range m).filter (Qa l)).map fun j=>l.getD j Jk
theorem U4(l:List Ad)(m:Nat):Lr l (m+1)=Lr l m++(if Qa l m=true then[l.getD m Jk] else[]):=by
 unfold Lr;rw[List.range_succ,List.filter_append,List.map_append];congr 1
 by_cases h:Qa l m=true<;>simp[h]
theorem Qy(l:List Ad){k:Nat}(h:k<l.length):l.getD k Jk=l[k]:=by
 rw[Z,X h];rfl
theorem Sz.before{l:List Ad}(h:Sz l){i j:Nat}(a:i<j)(c:j<l.length):B8 (l[i]'(by omega)) l[j]<0:=by
 have:=List.pairwise_iff_getElem.1 h i j (by omega) c a;exact this
theorem jI{l:List Ad}{m:Nat}{x:Ad}(h:x∈l.take m)(c:m<=l.length):∃i,∃(a:i<l.length),i<m/\l[i]=x:=by
 obtain⟨i,a,e⟩:=List.mem_iff_getElem.1 h;rw[a2z] at a;exact⟨i,by omega,by omega,by rw[<-e,a3z]⟩
theorem jJ{l:List Ad}(s:∀x∈l,B9 x)(h:Sz l):∀m,m≤l.length→Bf (l.take m) (Lr l m)
 |0,_=>by
  rw[List.take_zero];exact Bf.nil
 |m+1,hm=>by
  have g:=jJ s h m (by omega)
  have d:m<l.length:=by omega
  rw[U4,Qy l d];have L:=s l[m] (List.getElem_mem d);have before:∀y∈l.take m,B8 y l[m]<0:=fun y a=>by
   obtain⟨i,S,D,e⟩:=jI a (by omega);rw[<-e];exact h.before D d
  have M:∀y∈l.take m,B9 y:=fun y a=>s y (List.mem_of_mem_take a)
  have A:l.take (m+1)=l.take m++[l[m]]:=by rw[List.take_add_one,X d];rfl
  by_cases E:Qa l m=true
  .rw[if_pos E];have v:∀y∈l.take m,Bv y l[m]<0:=fun y a=>by
    obtain⟨i,S,D,e⟩:=jI a (by omega)
    have r:m-1<l.length:=(by omega)
    have K:=s l[m-1] (List.getElem_mem r);have U:=Xk (Int.le_of_lt (before y a));rcases Int.lt_or_eq_of_le U with J|J
    .exact J
    .exfalso;have t:=of_decide_eq_true E;rcases t with t|t
     .omega
     .rw[Qy l d,Qy l r,U2] at t;have N:Bv y l[m-1]≤0:=by
       by_cases V:i=m-1
       .subst V;rw[<-e,jD K];omega
       .have:=h.before (i:=i) (j:=m-1) (by omega) r;rw[e] at this;exact Xk (Int.le_of_lt this)
      have O:Bv l[m-1] l[m]<=0:=Xk (Int.le_of_lt (h.before (by omega) d));have k:=(K5 y l[m]).2 J;have h3:=U3 l[m-1] k;have W:=Ot L K;omega
   rw[A];refine⟨?_,fun x c=>?_,fun x c y a k=>?_,fun y a=>?_⟩
   .refine List.pairwise_append.2 ⟨g.ris,List.pairwise_singleton _ _,fun x c y a=>?_⟩;rw[List.mem_singleton.1 a];exact v x (g.sub x c)
   .rcases List.mem_append.1 c with c|c
    .exact a3x _ (g.sub x c)
    .exact a4u _ c
   .rcases List.mem_append.1 c with c|c
    .rcases List.mem_append.1 a with a|a
     .exact g.last x c y a k
     .rw[List.mem_singleton.1 a] at k;have:=v x (g.sub x c);have:=(K5 _ _).1 k;omega
    .rw[List.mem_singleton.1 c] at k ⊢;rcases List.mem_append.1 a with a|a
     .have:=v y a;have:=(K5 _ _).1 ((Qx _ _).trans k);omega
     .rw[List.mem_singleton.1 a];exact Nat.le_refl _
   .rcases List.mem_append.1 a with a|a
    .obtain⟨x,c,k⟩:=g.cov y a;exact⟨x,a3x _ c,k⟩
    .rw[List.mem_singleton.1 a];exact⟨l[m],a4u _ (List.mem_singleton.2 rfl),Xj _⟩
  .rw[if_neg E,List.append_nil,A];have B:¬(m=0∨Bc (l.getD m Jk) (l.getD (m-1) Jk)=false):=fun e=>E (decide_eq_true e);have Q:m≠0:=fun e=>B (Or.inl e)
   have r:m-1<l.length:=(by omega)
   have k:Bc l[m] l[m-1]=true:=by
    have:¬Bc (l.getD m Jk) (l.getD (m-1) Jk)=false:=fun e=>B (Or.inr e);rw[Qy l d,Qy l r] at this
    simpa using this
   have I:l[m-1]∈l.take m:=by
    refine List.mem_iff_getElem.2 ⟨m-1,by rw[a2z];omega,by rw[a3z]⟩
   refine⟨g.ris,fun x c=>a3x _ (g.sub x c),fun x c y a u=>?_,fun y a=>?_⟩
   .rcases List.mem_append.1 a with a|a
    .exact g.last x c y a u
    .rw[List.mem_singleton.1 a] at u ⊢;exact Nat.le_of_lt (jG (before x (g.sub x c)) u)
   .rcases List.mem_append.1 a with a|a
    .exact g.cov y a
    .obtain⟨x,c,G⟩:=g.cov l[m-1] I;rw[List.mem_singleton.1 a];exact⟨x,c,Mc G (by rw[Qx];exact k)⟩
theorem vB{l:List Ad}(a:∀x∈l,B9 x)(h:Sz l):Bf l (Lr l l.length):=by
 have:=jJ a h l.length (Nat.le_refl _);rw[List.take_length] at this;exact this
end
def Af(l:List Ad)(k:Nat):Ad:=l.getD k Jk
theorem Md{l:List Ad}{k:Nat}(h:k<l.length):Af l k=l[k]:=Qy l h
def Aw(x y:Ad):Prop:=B8 x y<=0
def B5(l:List Ad)(a b:Nat):Prop:=∀p q,a<=p->p<q->q<b->Aw (Af l p) (Af l q)
def Be(l:List Ad):Prop:=∀x∈l,B9 x
theorem aH:B9 Jk:=⟨⟨by decide,by decide,by decide,by decide,by decide⟩,by decide⟩
theorem Be.at{l:List Ad}(h:Be l)(k:Nat):B9 (Af l k):=by
 unfold Af;rw[Z]
 cases e:l[k]? with
 |none=>exact aH
 |some x=>exact h x (a0z e)
theorem Aw.trans{x y z:Ad}(d:B9 x)(c:B9 y)(a:B9 z)(h:Aw x y)(g:Aw y z):Aw x z:=uY d c a h g
theorem Aw.total{x y:Ad}(c:B9 x)(a:B9 y):Aw x y∨Aw y x:=by
 unfold Aw;have:=aE c a;omega
theorem Aw.not{x y:Ad}(c:B9 x)(a:B9 y)(h:¬B8 x y<0):Aw y x:=by
 unfold Aw;have:=aE c a;omega
theorem Aw.lt{x y:Ad}(h:B8 x y<0):Aw x y:=by unfold Aw;omega
def I4(l:List Ad)(i j:Nat):List Ad:=(l.set i (Af l j)).set j (Af l i)
theorem aI(l:List Ad)(i k:Nat)(x:Ad)(h:i<l.length):Af (l.set i x) k=if k=i then x else Af l k:=by
 unfold Af;rw[Z,List.getElem?_set,Z];by_cases e:i=k
 .subst e;rw[if_pos rfl,if_pos h,if_pos rfl];rfl
 .rw[if_neg e,if_neg (Ne.symm e)]
theorem I5{l:List Ad}{i j:Nat}(k:Nat)(c:i<l.length)(a:j<l.length):Af (I4 l i j) k=if k=j then Af l i else if k=i then Af l j else Af l k:=by
 unfold I4;rw[aI _ _ _ _ (by rw[a3w];exact a),aI _ _ _ _ c]
theorem Xl{l:List Ad}{i j:Nat}(c:i<l.length)(a:j<l.length):(I4 l i j).Perm l:=by
 have h:=Array.swap_perm (xs:=l.toArray) (i:=i) (j:=j) (by simpa using c) (by simpa using a);have d:=Array.perm_iff_toList_perm.1 h;have e:(l.toArray.swap i j (by simpa using c) (by simpa using a)).toList=I4 l i j:=by
  unfold I4;rw[Md c,Md a];simp[Array.swap]
 rw[e] at d;exact d
structure Dl(a b:Nat)(l l':List Ad):Prop where
 perm:l'.Perm l
 o:∀p,p<a∨b<=p->Af l' p=Af l p
 inn:∀p,a<=p->p<b->∃q,a<=q/\q<b/\Af l' p=Af l q
theorem Dl.refl(a b:Nat)(l:List Ad):Dl a b l l:=⟨List.Perm.refl _,fun _ _=>rfl,fun p d c=>⟨p,d,c,rfl⟩⟩
theorem Dl.len{a b:Nat}{l c:List Ad}(h:Dl a b l c):c.length=l.length:=h.perm.length_eq
theorem Dl.ok{a b:Nat}{l l':List Ad}(h:Dl a b l l')(d:Be l):Be l':=fun x c=>d x (h.perm.mem_iff.1 c)
theorem Dl.trans{a b:Nat}{l m r:List Ad}(d:Dl a b l m)(c:Dl a b m r):Dl a b l r:=by
 refine⟨c.perm.trans d.perm,fun p g=>(c.o p g).trans (d.o p g),fun p u t=>?_⟩;obtain⟨q,q1,s,e⟩:=c.inn p u t;obtain⟨r,k,h,v⟩:=d.inn q q1 s;exact⟨r,k,h,e.trans v⟩
theorem Dl.wide{a b r k:Nat}{l m:List Ad}(h:Dl a b l m)(u:r<=a)(t:b<=k):Dl r k l m:=by
 refine⟨h.perm,fun p g=>h.o p (by omega),fun p d c=>?_⟩;by_cases g:a<=p/\p<b
 .obtain⟨q,q1,s,e⟩:=h.inn p g.1 g.2;exact⟨q,by omega,by omega,e⟩
 .exact⟨p,d,c,h.o p (by omega)⟩
theorem Dl.swap{a b i j:Nat}{l:List Ad}(d:i<l.length)(c:j<l.length)(t:a≤i)(s:i<b)(r:a≤j)(m:j<b):Dl a b l (I4 l i j):=by
 refine⟨Xl d c,fun p u=>?_,fun p k h=>?_⟩
 .rw[I5 p d c,if_neg (by omega),if_neg (by omega)]
 .rw[I5 p d c];by_cases e:p=j
  .rw[if_pos e];exact⟨i,t,s,rfl⟩
  .rw[if_neg e];by_cases g:p=i
   .rw[if_pos g];exact⟨j,r,m,rfl⟩
   .rw[if_neg g];exact⟨p,k,h,rfl⟩
def Qz(l:List Ad)(a b j:Nat):Prop:=∀p q,a<=p->p<q->q<b->q≠j->Aw (Af l p) (Af l q)
theorem B5.but{l:List Ad}{a i:Nat}(h:B5 l a i):Qz l a (i+1) i:=fun p q d c k g=>h p q d c (by omega)
theorem Qz.done{l:List Ad}{a b j:Nat}(d:Be l)(h:Qz l a b j)(c:j=a∨Aw (Af l (j-1)) (Af l j))(s:a≤j):B5 l a b:=by
 intro p q g m k;by_cases e:q=j
 .subst e;rcases c with rfl|c
  .omega
  .by_cases r:p=q-1
   .subst r;exact c
   .exact Aw.trans (d.at _) (d.at _) (d.at _) (h p (q-1) g (by omega) (by omega) (by omega)) c
 .exact h p q g m k e
theorem Qz.step{l:List Ad}{a b j:Nat}(h:Qz l a b j)(B:b≤l.length)(A:a<j)(t:j<b)(k:Aw (Af l j) (Af l (j-1))):Qz (I4 l j (j-1)) a b (j-1):=by
 intro p q r v m u
 have d:j<l.length:=by omega
 have c:j-1<l.length:=by omega
 rw[I5 p d c,I5 q d c];rw[if_neg u];by_cases e:q=j
 .rw[if_pos e];by_cases g:p=j-1
  .rw[if_pos g];exact k
  .rw[if_neg g,if_neg (by omega)];exact h p (j-1) r (by omega) (by omega) (by omega)
 .rw[if_neg e];by_cases g:p=j-1
  .rw[if_pos g];exact h j q (by omega) (by omega) m e
  .rw[if_neg g];by_cases s:p=j
   .rw[if_pos s];exact h (j-1) q (by omega) (by omega) m e
   .rw[if_neg s];exact h p q r v m e
theorem B5.one(l:List Ad)(a:Nat):B5 l a (a+1):=fun p q g d c=>by omega
theorem B5.frame{l c:List Ad}{a b:Nat}(h:B5 l a b)(d:∀p,a<=p->p<b->Af c p=Af l p):B5 c a b:=fun p q k m g=>by
 rw[d p k (by omega),d q (by omega) g];exact h p q k m g
theorem B5.rising{l:List Ad}(h:B5 l 0 l.length)(r:(l.map (·.pos)).Nodup):Sz l:=by
 refine List.pairwise_iff_getElem.2 fun i j k c a=>?_;have g:=h i j (a4w _) a c;rw[Md k,Md c] at g;unfold Aw at g;rcases Int.lt_or_eq_of_le g with d|d
 .exact d
 .exfalso;have m:=(jF d).2;have:=(List.pairwise_iff_getElem.1 r) i j (by simpa using k) (by simpa using c) a;rw[List.getElem_map,List.getElem_map] at this;exact this m
section
open Go.RowKit
section
variable {P : Program} {l : List Oper}
def Ij(P:Program)(l:List Oper)(Qn:Act→World→Prop):Nat→Array Bool→Act→World→Prop
 |0,listed,a,w=>Region.ready .any l.toArray listed=[]/\Qn a w
 |fuel+1,listed,a,w=>(Region.ready .any l.toArray listed=[]→Qn a w)∧∀i∈Region.ready .any l.toArray listed,∃o,l[i]?=some o∧
   if Region.wanted o (yielded l.toArray a.tmps)=true then o.wp P a w (Ij P l Qn fuel (listed.setIfInBounds i true)) (fun _ _ _=>False) else Ij P l Qn fuel (listed.setIfInBounds i true) (a.put o.dst undef) w
theorem aJ{Q:Exit→Act→World→Prop}:∀(d:Nat) (c:Array Bool) (a:Act) (w:World),Ij P l (Q .normal) d c a w→wpAny P .any l.toArray Q d c a w
 |0,_,_,_,h=>h
 |d+1,c,a,w,h=>by
  refine⟨h.1,fun i s=>?_⟩;obtain⟨o,r,g⟩:=h.2 i s
  have m:l.toArray[i]?=some o:=by simpa using r
  unfold wpOp;simp only[m];split
  .rename_i k;rw[if_pos k] at g;exact Or.inl (Tn (fun t w2 h=>aJ d _ t w2 h) (fun _ _ _ h=>h.elim) g)
  .rename_i k;rw[if_neg k] at g;exact aJ d _ _ _ g
def U5(l:List Oper):Bool:=l.all fun o=>match o.op with| .defer _=>false|_=>true
theorem vC{o:Oper}{a:Act}{w:World}{K K':Act→World→Prop}{Q:Exit→Act→World→Prop}{d n:Nat}(u:∀c,o.op≠.defer c)(g:∀a w,K a w→K' a w)
  (h:o.wp P a w K (fun _ _ _=>False)):o.wpIn (Fence.wide.inRound d) n P a w K' Q:=by
 refine⟨fun _ _=>trivial,?_⟩;rw[show(Fence.wide.inRound d).round=some d from rfl,Oper.semAt_some d _ _ u];unfold Oper.wp at h;generalize (execOp a.eval o).run P w=r at*
 cases r with
 |ok x w'=>
  cases x<;>simp only[Oper.upon,Oper.uponIn] at h ⊢
  case value=>exact g _ _ h
  case skip=>exact g _ _ h
  case defer=>exact g _ _ h
  case enter=>
   refine⟨fun e=>by simp[Fence.wide] at e,CallsIn.inRound d (callsIn_wide.2 (Calls.mono h fun e m k=>?_))⟩;cases e
   .exact g _ _ k
   .exact k.elim
   .obtain⟨a0,w0,A⟩:=k;exact A.elim
  case row=>
   refine⟨fun e=>by simp[Fence.wide] at e,fun c B _=>?_⟩;obtain⟨v,w2,t,s⟩:=h c B;exact⟨v,w2,g _ _ t,stepsIn_wide.2 s⟩
 |halt x w'=>cases x<;>simp only[Oper.upon] at h
theorem aK{Q:Exit→Act→World→Prop}{v n:Nat}(t:U5 l=true):∀(g:Nat) (d:Array Bool) (a:Act) (w:World),Ij P l (Q .normal) g d a w→wpAnyIn (Fence.wide.inRound v) n P .any l.toArray Q g d a w
 |0,_,_,_,h=>h
 |g+1,d,a,w,h=>by
  refine⟨h.1,fun i A=>?_⟩;obtain⟨o,u,k⟩:=h.2 i A
  have r:l.toArray[i]?=some o:=by simpa using u
  have s:∀c,o.op≠.defer c:=fun c e=>by
   have:=List.all_eq_true.1 t o (a0z u);rw[e] at this;cases this
  unfold wpOpIn;simp only[r];split
  .rename_i m;rw[if_pos m] at k;exact vC s (fun B w2 h=>aK t g _ B w2 h) k
  .rename_i m;rw[if_neg m] at k;exact⟨fun _ _=>trivial,aK t g _ _ _ k⟩
theorem aL{id:Nat}{Q:Exit→Act→World→Prop}{a0:Act}{w0:World}(a:P.follows .mixedOrders=true)
  (h:Ij P l (Q .normal) l.toArray.size (a2w l.toArray.size false) a0 {w0 with drawn:=w0.drawn+1}):(Code.region id l.toArray true).wp P Q a0 w0:=wp_region_any a (aJ _ _ _ _ h)
theorem jK{id a n:Nat}{Q:Exit→Act→World→Prop}{a0:Act}{w0:World}(c:P.follows .mixedOrders=true)(d:U5 l=true)
  (h:Ij P l (Q .normal) l.toArray.size (a2w l.toArray.size false) a0 {w0 with drawn:=w0.drawn+1}):(Code.region id l.toArray true).wpIn (Fence.wide.inRound a) n P Q a0 w0:=wpIn_region_any c (aK d _ _ _ _ h)
end
section
variable {P : Program} {l : List Oper}
def Ak(b:Nat->Bool)(i:Nat):Nat->Bool:=fun k=>if k=i then true else b k
def Cd(listed:Array Bool):Nat->Bool:=fun k=>listed.getD k false
theorem aM(n:Nat):Cd (a2w n false)=fun _=>false:=by
 funext k
 unfold Cd;rcases a2u k n with h|h
 .simp[h]
 .simp[h]
def aN(P:Program)(l:List Oper)(Ss:List (World→Value→Prop))(C:(Nat→Bool)→World→Prop)(R:World→World→Prop)(a0:Act)(i:Nat):Prop:=
 ∀o S,l[i]?=some o->Ss[i]?=some S->∀(b:Nat->Bool) (a:Act) (w:World),C b w->b i=false->(∀e∈o.after,Region.binds .any e=true->b e.on=true)->
  (∀j oj,l[j]?=some oj->b j=true->∀e∈oj.after,Region.binds .any e=true->b e.on=true)->a.tmps.size=a0.tmps.size->
  (∀t,(∀j oj,l[j]?=some oj->oj.dst=some t->b j=false)->a.tmps.getD t undef=a0.tmps.getD t undef)->
  (∀e∈o.after,Region.binds .any e=true->∀oe Se,l[e.on]?=some oe->Ss[e.on]?=some Se->Se w (Az oe a))->
  if Region.wanted o (yielded l.toArray a.tmps)=true then o.wp P a w (fun a2 w2=>∃v,a2=a.put o.dst v/\C (Ak b i) w2/\R w w2/\S w2 (match o.dst with|some _=>v|none=>undef)) (fun _ _ _=>False)
  else S w undef/\C (Ak b i) w
structure jL(l:List Oper)(Ss:List (World->Value->Prop))(C:(Nat->Bool)->World->Prop)(a0:Act)(listed:Array Bool)(a:Act)(w:World):Prop where
 size:listed.size=l.length
 defers:a.defers=a0.defers
 tmps:a.tmps.size=a0.tmps.size
 done:∀j o S,l[j]?=some o->Ss[j]?=some S->listed.getD j false=true->S w (Az o a)
 same:∀t,(∀j oj,l[j]?=some oj->oj.dst=some t->Cd listed j=false)->a.tmps.getD t undef=a0.tmps.getD t undef
 closed:∀j oj,l[j]?=some oj->Cd listed j=true->∀e∈oj.after,Region.binds .any e=true->Cd listed e.on=true
 cls:C (Cd listed) w
theorem vD{Ss:List (World→Value→Prop)}{C:(Nat→Bool)→World→Prop}{R:World→World→Prop}{a0:Act}{Qn:Act→World→Prop}(hl:Ss.length=l.length)(B:Fv l a0.tmps.size=true)
  (stab:∀S∈Ss,∀w w' v,R w w'->S w v->S w' v)(rel:∀i,i<l.length->aN P l Ss C R a0 i)
  (ak:∀a w listed,jL l Ss C a0 listed a w->(∀j,j<l.length->listed.getD j false=true)->Qn a w):
  ∀(m:Nat) (listed:Array Bool) (a:Act) (w:World),Gf listed=m->jL l Ss C a0 listed a w->Ij P l Qn m listed a w:=by
 intro m
 induction m with
 |zero=>
  intro listed a w hu c;have s:=Vr hu;rw[c.size] at s;refine⟨?_,ak a w listed c s⟩;apply List.eq_nil_iff_forall_not_mem.2;intro j g;obtain⟨h1,o,ho,_⟩:=mem_ready.1 g
  have u:j<l.length:=by simpa using(Array.getElem?_eq_some_iff.1 ho).1
  have h2:=s j u
  have I:j<listed.size:=by rw[c.size];exact u
  simp[I] at h1 h2;rw[h1] at h2;cases h2
 |succ m ih=>
  intro listed a w hu c;refine⟨fun V=>?_,fun i hi=>?_⟩
  ·--something is ready as long as not all is listed
   exfalso;have M:∃j,j<l.length∧listed.getD j false=false:=by
    by_cases M:∃j,j<l.length/\listed.getD j false=false
    .exact M
    .exfalso;have s:∀j,j<l.length→listed.getD j false=true:=fun j g=>by
      cases h:listed.getD j false
      .exact absurd ⟨j,g,h⟩ M
      .rfl
     have:Gf listed=0:=by
      unfold Gf;rw[a4z,a4v];intro b J;obtain⟨j,g,rfl⟩:=a0x J
      have ac:j<listed.size:=(by simpa using g)
      have:=s j (by rw[<-c.size];exact ac);simp[ac] at this ⊢;exact this
     omega
   obtain⟨j,g,L⟩:∃j,(j<l.length∧listed.getD j false=false)∧∀k,k<j→¬(k<l.length∧listed.getD k false=false):=by
    obtain⟨j0,h0⟩:=M
    induction j0 using Nat.strongRecOn with
    |_ n ih2=>
     by_cases hk:∃k,k<n/\(k<l.length/\listed.getD k false=false)
     .obtain⟨k,aa,W⟩:=hk;exact ih2 k aa W
     .exact⟨n,h0,fun k aa W=>hk ⟨k,aa,W⟩⟩
   have ag:j<listed.size:=(by rw[c.size];exact g.1)
   have:j∈Region.ready .any l.toArray listed:=by
    refine mem_ready.2 ⟨by have:=g.2;simp[ag] at this ⊢;exact this,l[j],by simp[g.1],fun e U J=>?_⟩;have u:=O7 B (X g.1) e U J;cases h:listed.getD e.on false
    .exact absurd ⟨by omega,h⟩ (L e.on u)
    .rfl
   rw[V] at this;cases this
  .obtain⟨h1,o,ho,E⟩:=mem_ready.1 hi
   have r:l[i]?=some o:=(by simpa using ho)
   have u:i<l.length:=(List.getElem?_eq_some_iff.1 r).1
   have I:i<listed.size:=(by rw[c.size];exact u)
   obtain⟨S,hS⟩:∃S,Ss[i]?=some S:=⟨Ss[i]'(by omega),X (by omega)⟩
   have aj:Cd listed i=false:=(by unfold Cd;simp[I] at h1 ⊢;exact h1)
   have V:=rel i u o S r hS (Cd listed) a w c.cls aj (fun e U J=>E e U J) c.closed c.tmps c.same (fun e U J oe Se ae ah=>c.done e.on oe Se ae ah (E e U J));have D:Cd (listed.setIfInBounds i true)=Ak (Cd listed) i:=by
    funext k
    unfold Cd Ak;by_cases e:k=i
    .subst e;rw[if_pos rfl];simp[I]
    .rw[if_neg e,getD_set_ne false (Ne.symm e)]
   have G:∀v w2,C (Ak (Cd listed) i) w2→(∀S'∈Ss,∀v,S' w v→S' w2 v)→S w2 (match o.dst with|some _=>v|none=>undef)→Ij P l Qn m (listed.setIfInBounds i true) (a.put o.dst v) w2:=by
    intro v w2 hC ad Q;refine ih _ _ _ (by have:=Vq I h1;omega) ⟨by simp[c.size],by rw[To];exact c.defers,by rw[Re];exact c.tmps,?_,?_,?_,by rw[D];exact hC⟩
    .intro j K Sj g O A;by_cases ab:i=j
     .subst ab;rw[r] at g;cases g;rw[hS] at O;cases O;unfold Az
      cases N:o.dst with
      |none=>rw[N] at Q;exact Q
      |some d=>
       rw[N] at Q;simp only;rw[Q9 (by rw[c.tmps];exact(He B r N).1)];exact Q
     .rw[getD_set_ne false ab] at A;have h2:=ad Sj (a0z O) _ (c.done j K Sj g O A);have:Az K (a.put o.dst v)=Az K a:=by
       unfold Az
       cases hdj:K.dst with
       |none=>rfl
       |some d=>
        simp only;refine L0 fun N=>?_;exact(He B r N).2 j K g (Ne.symm ab) hdj
      rw[this];exact h2
    .intro t ht;have af:o.dst≠some t:=fun N=>by
      have:=ht i o r N;rw[D] at this;unfold Ak at this;rw[if_pos rfl] at this;cases this
     rw[L0 af];refine c.same t fun j K g N=>?_;have:=ht j K g N;rw[D] at this;unfold Ak at this;by_cases e:j=i
     .rw[if_pos e] at this;cases this
     .rw[if_neg e] at this;exact this
    .intro j K g A e U J;rw[D] at A ⊢;have up:∀k,Cd listed k=true→Ak (Cd listed) i k=true:=fun k hk=>by
      unfold Ak;by_cases e:k=i
      .rw[if_pos e]
      .rw[if_neg e];exact hk
     by_cases ej:j=i
     .subst ej;rw[r] at g;cases g;exact up _ (E e U J)
     .unfold Ak at A;rw[if_neg ej] at A;exact up _ (c.closed j K g A e U J)
   refine⟨o,r,?_⟩;split
   .rename_i hw;rw[if_pos hw] at V;refine(Tn (fun a2 w2 h=>?_) (fun _ _ _ h=>h.elim) V);obtain⟨v,rfl,hC,hR,Q⟩:=h;exact G v w2 hC (fun S' ai v Q=>stab S' ai w w2 v hR Q) Q
   .rename_i hw;rw[if_neg hw] at V;refine G undef w V.2 (fun _ _ _ h=>h) ?_
    cases o.dst<;>exact V.1
theorem vE{Qn:Act→World→Prop}{a0:Act}{w0:World}(Ss:List (World→Value→Prop))(C:(Nat→Bool)→World→Prop)(R:World→World→Prop)
  (hl:Ss.length=l.length)(c:Fv l a0.tmps.size=true)(hC:C (fun _=>false) {w0 with drawn:=w0.drawn+1})
  (stab:∀S∈Ss,∀w w' v,R w w'->S w v->S w' v)(rel:∀i,i<l.length->aN P l Ss C R a0 i)
  (ab:∀vs w b,C b w->(∀j,j<l.length->b j=true)->E8 w Ss vs->Qn (Aj l vs a0) w):Ij P l Qn l.toArray.size (a2w l.toArray.size false) a0 {w0 with drawn:=w0.drawn+1}:=by
 refine(vD hl c stab rel ?_ _ _ _ _ (by simp[Gf]) ⟨by simp,rfl,rfl,?_,fun _ _=>rfl,?_,by rw[aM];exact hC⟩)
 .intro a w s g D;have J:=ab (l.map (fun o=>Az o a)) w (Cd s) g.cls D (Tv (by simp[hl]) (fun i S v M r=>by
   rw[a1x] at r
   cases u:l[i]? with
   |none=>rw[u] at r;cases r
   |some o=>
    rw[u] at r;simp only[Option.map_some,Option.some.injEq] at r;rw[<-r]
    exact g.done i o S u M (D i (List.getElem?_eq_some_iff.1 u).1)))
  have:Aj l (l.map (fun o=>Az o a)) a0=a:=by
   have m:(Aj l (l.map (fun o=>Az o a)) a0).defers=a.defers:=(by rw[Tt,g.defers])
   have E:(Aj l (l.map (fun o=>Az o a)) a0).tmps=a.tmps:=by
    have O:(Aj l (l.map (fun o=>Az o a)) a0).tmps.size=a.tmps.size:=(by rw[Tq,g.tmps])
    refine Array.ext O fun t M r=>?_;have hg:(Aj l (l.map (fun o=>Az o a)) a0).tmps.getD t undef=a.tmps.getD t undef:=by
     by_cases L:∃o∈l,o.dst=some t
     .obtain⟨o,u,I⟩:=L;obtain⟨i,hi,W⟩:=a0x u
      have A:l[i]?=some o:=(by rw[X hi,W])
      rw[Tu l _ a0 (by simp) (fun i j oi N d hi V M r=>by
       by_cases K:i=j
       .exact K
       .exact absurd r ((He c hi M).2 j N V (Ne.symm K))) (fun o' Q d aa=>by
       obtain⟨k,hk,U⟩:=a0x Q
       exact(He c (by rw[X hk,U]) aa).1) i o (Az o a) t A (by rw[a1x,A];rfl) I]
      unfold Az;rw[I]
     .have B:∀o∈l,o.dst≠some t:=fun o u I=>L ⟨o,u,I⟩;rw[Rf l _ a0 t B,g.same t (fun j N V I=>absurd I (B N (a0z V)))]
    simpa [M,r] using hg
   cases a;cases h:Aj l (l.map (fun o=>Az o _)) a0;rw[h] at m E;simp only at m E;rw[m,E]
  rw[this] at J;exact J
 .intro j o S _ _ h;exfalso;rcases a2u j l.length with G|G
  .simp[G] at h
  .simp[G] at h
 .intro j o _ h;exfalso;unfold Cd at h;rcases a2u j l.length with G|G
  .simp[G] at h
  .simp[G] at h
def aO(l:List Oper)(i t:Nat):Bool:=(List.range l.length).all fun j=>match l[j]? with
 |some o=>o.dst !=some t||(j==i||o.after.any fun e=>Region.binds .any e&&e.on==i)
 |none=>true
def Kv(l:List Oper)(i j:Nat):Bool:=match l[i]? with
 |some o=>o.after.any fun e=>Region.binds .any e&&e.on==j
 |none=>false
structure Ou(l:List Oper)(Ss:List (World->Value->Prop))(a0:Act)(i:Nat)(b:Nat->Bool)(a:Act)(w:World):Prop where
 size:a.tmps.size=a0.tmps.size
 dep:∀(j t:Nat) (S:World->Value->Prop),Jp l i j t=true->Ss[i-1-j]?=some S->S w (a.tmps[t]?.getD undef)
 free:∀(t:Nat) (v:Value),aO l i t=true->a0.tmps.getD t undef=v->a.tmps[t]?.getD undef=v
 pre:∀j,Kv l i j=true->b j=true
 post:∀j,Kv l j i=true->b j=false
 self:b i=false
theorem vG{Ss:List (World→Value→Prop)}{a0:Act}{i:Nat}{b:Nat→Bool}{a:Act}{w:World}{o:Oper}(B:l[i]?=some o)(r:b i=false)(G:∀e∈o.after,Region.binds .any e=true→b e.on=true)
  (J:∀j c,l[j]?=some c->b j=true->∀e∈c.after,Region.binds .any e=true->b e.on=true)(O:a.tmps.size=a0.tmps.size)
  (N:∀t,(∀j c,l[j]?=some c->c.dst=some t->b j=false)->a.tmps.getD t undef=a0.tmps.getD t undef)
  (M:∀e∈o.after,Region.binds .any e=true->∀A Se,l[e.on]?=some A->Ss[i-1-e.on]?=some Se->Se w (Az A a)):Ou l Ss a0 i b a w:=by
 have later:∀j c,l[j]?=some c→(c.after.any fun e=>Region.binds .any e&&e.on==i)=true→b j=false:=fun j c d K=>by
  obtain⟨e,m,k⟩:=Array.any_eq_true'.1 K;simp only[Y,beq_iff_eq] at k
  cases hbj:b j with
  |false=>rfl
  |true=>
   have:=J j c d hbj e m k.1;rw[k.2,r] at this;cases this
 refine⟨O,fun j t S g L=>?_,fun t v I E=>?_,fun j d=>?_,fun j d=>?_,r⟩
 .unfold Jp at g;rw[B] at g
  cases d:l[j]? with
  |none=>rw[d] at g;cases g
  |some c=>
   rw[d] at g;simp only[Y,beq_iff_eq] at g;obtain⟨e,m,k⟩:=Array.any_eq_true'.1 g.1;simp only[Y,beq_iff_eq] at k;obtain⟨u,rfl⟩:=k;have:=M e m u c S d L;unfold Az at this;rw[g.2] at this
   simpa using this
 .have D:∀j c,l[j]?=some c→c.dst=some t→b j=false:=fun j c d g=>by
   have s:j<l.length:=(List.getElem?_eq_some_iff.1 d).1;have:=List.all_eq_true.1 I j (List.mem_range.2 s);rw[d] at this;simp only[g,bne_self_eq_false,Bool.false_or,Bool.or_eq_true,beq_iff_eq] at this;rcases this with rfl|h
   .exact r
   .exact later j c d h
  have:=N t D;rw[E] at this
  simpa using this
 .unfold Kv at d;rw[B] at d;obtain⟨e,m,k⟩:=Array.any_eq_true'.1 d;simp only[Y,beq_iff_eq] at k;rw[<-k.2];exact G e m k.1
 .unfold Kv at d
  cases hlj:l[j]? with
  |none=>rw[hlj] at d;cases d
  |some c=>rw[hlj] at d;exact later j c hlj d
def vH(P:Program)(l:List Oper)(done:List (World→Value→Prop))(S:World→Value→Prop)(C:(Nat→Bool)→World→Prop)(R:World→World→Prop)(a0:Act)(i:Nat):Prop:=
 ∀(b:Nat->Bool),∀o,l[i]?=some o->∀(a:Act) (w:World),C b w->Ou l done a0 i b a w->
  if Region.wanted o (yielded l.toArray a.tmps)=true then o.wp P a w (fun a2 w2=>∃v,a2=a.put o.dst v/\C (Ak b i) w2/\R w w2/\S w2 (match o.dst with|some _=>v|none=>undef)) (fun _ _ _=>False)
  else S w undef/\C (Ak b i) w
def U6(R:World->World->Prop):List (World->Value->Prop)->Prop
 |[]=>True
 |S::Ss=>(∀w w' v,R w w'->S w v->S w' v)/\U6 R Ss
theorem jM{R:World→World→Prop}:∀{Ss:List (World→Value→Prop)},U6 R Ss→∀S∈Ss,∀w w' v,R w w'→S w v→S w' v
 |[],_,S,a=>by cases a
 |T::Ss,h,S,a=>by
  rcases List.mem_cons.1 a with rfl|a
  .exact h.1
  .exact jM h.2 S a
theorem Cb(x:Value){R:World->World->Prop}{Ss:List (World->Value->Prop)}(h:U6 R Ss):U6 R (Cc x::Ss):=⟨fun _ _ _ _ h=>h,h⟩
def Ov(P:Program)(l:List Oper)(C:(Nat->Bool)->World->Prop)(R:World->World->Prop)(a0:Act)(F:Act->World->Prop):Nat->List (World->Value->Prop)->Nat->Prop
 |_,done,0=>U6 R done/\∀w b,C b w->(∀j,j<l.length->b j=true)->∀vs,E8 w done.reverse vs->F (Aj l vs a0) w
 |i,done,n+1=>∃S,vH P l done S C R a0 i/\Ov P l C R a0 F (i+1) (S::done) n
theorem jN{C:(Nat→Bool)→World→Prop}{R:World→World→Prop}{a0:Act}{F:Act→World→Prop}(c:Fv l a0.tmps.size=true):∀(n i:Nat) (done:List (World→Value→Prop)),Ov P l C R a0 F i done n→done.length=i→i+n=l.length→
  ∃Ss,(∃r,Ss=done.reverse++r)/\Ss.length=l.length/\(∀S∈Ss,∀w w' v,R w w'->S w v->S w' v)/\(∀vs w b,C b w->(∀j,j<l.length->b j=true)->E8 w Ss vs->F (Aj l vs a0) w)/\∀k,i<=k->k<l.length->aN P l Ss C R a0 k
 |0,i,done,h,h1,h2=>⟨done.reverse,⟨[],by simp⟩,by simp;omega,fun S D=>jM h.1 S (by simpa using D),fun vs w b E s=>h.2 w b E s vs,fun k V I=>by omega⟩
 |n+1,i,done,h,h1,h2=>by
  obtain⟨S,t,d⟩:=h;obtain⟨Ss,⟨r,m⟩,g1,g2,g3,W⟩:=jN c n (i+1) (S::done) d (by simp[h1]) (by omega);rw[List.reverse_cons] at m;refine⟨Ss,⟨[S]++r,by rw[m,a0v]⟩,g1,g2,g3,fun k V I=>?_⟩;by_cases e:k=i
  .subst e;intro o S' A g b a w E M L K Q O N
   have D:Ss[k]?=some S:=(by rw[m,a0v,a2x (by simp;omega)];simp[h1])
   rw[D] at g;cases g;refine t b o A a w E (vG A M L K Q O fun e G s J Se u B=>N e G s J Se u ?_);have U:=O7 c A e G s;rw[m,a0v,a2v (by simp;omega),List.getElem?_reverse (by omega),h1];exact B
  .exact W k (by omega) I
theorem E3{id:Nat}{Q:Exit→Act→World→Prop}{a0:Act}{w0:World}(C:(Nat→Bool)→World→Prop)(R:World→World→Prop)
  (d:P.follows .mixedOrders=true)(c:Fv l a0.tmps.size=true)(k:C (fun _=>false) {w0 with drawn:=w0.drawn+1})
  (h:Ov P l C R a0 (fun a w=>Q .normal a w) 0 [] l.length):(Code.region id l.toArray true).wp P Q a0 w0:=by
 obtain⟨Ss,_,t,s,r,m⟩:=jN c l.length 0 [] h rfl (by omega);exact aL d (vE Ss C R t c k s (fun i g=>m i (a4w _) g) r)
variable {C : (Nat -> Bool) -> World -> Prop} {R : World -> World -> Prop} {a0 : Act} {F : Act -> World -> Prop} {i n : Nat} {done : List (World -> Value -> Prop)}
theorem A3{o:Oper}{x:Value}(v:∀b w,C b w→C (Ak b i) w)(s:l[i]?=some o)(u:o.guard=none)(k:o.dst.isSome=true)
  (h:∀b a w,C b w->Ou l done a0 i b a w->∀K:Act->World->Prop,(∀w2,C b w2->R w w2->K (a.put o.dst x) w2)->o.wp P a w K (fun _ _ _=>False))
  (t:Ov P l C R a0 F (i+1) (Cc x::done) n):Ov P l C R a0 F i done (n+1):=by
 refine⟨Cc x,?_,t⟩;intro b D g a w A B;rw[s] at g;cases g
 have m:Region.wanted o (yielded l.toArray a.tmps)=true:=by unfold Region.wanted;rw[u]
 rw[if_pos m]
 refine h b a w A B _ fun w2 c r=>⟨x,rfl,v _ _ c,r,?_⟩
 cases hd':o.dst with
 |none=>rw[hd'] at k;cases k
 |some d=>rfl
theorem Hi{o:Oper}(S:World→Value→Prop)(t:l[i]?=some o)(A:o.guard=none)(k:o.dst.isSome=true)
  (h:∀b a w,C b w->Ou l done a0 i b a w->∀K:Act->World->Prop,(∀v w2,C (Ak b i) w2->R w w2->S w2 v->K (a.put o.dst v) w2)->o.wp P a w K (fun _ _ _=>False))
  (u:Ov P l C R a0 F (i+1) (S::done) n):Ov P l C R a0 F i done (n+1):=by
 refine⟨S,?_,u⟩;intro b E g a w B D;rw[t] at g;cases g
 have m:Region.wanted o (yielded l.toArray a.tmps)=true:=by unfold Region.wanted;rw[A]
 rw[if_pos m]
 refine h b a w B D _ fun v w2 c r s=>⟨v,rfl,c,r,?_⟩
 cases hd':o.dst with
 |none=>rw[hd'] at k;cases k
 |some d=>exact s
theorem F3{o:Oper}(S:World→Prop)(k:l[i]?=some o)(t:o.guard=none)
  (h:∀b a w,C b w->Ou l done a0 i b a w->∀K:Act->World->Prop,(∀v w2,C (Ak b i) w2->R w w2->S w2->K (a.put o.dst v) w2)->o.wp P a w K (fun _ _ _=>False))
  (m:Ov P l C R a0 F (i+1) ((fun w _=>S w)::done) n):Ov P l C R a0 F i done (n+1):=by
 refine⟨fun w _=>S w,?_,m⟩;intro b B d a w u A;rw[k] at d;cases d
 have g:Region.wanted o (yielded l.toArray a.tmps)=true:=by unfold Region.wanted;rw[t]
 rw[if_pos g]
 exact h b a w u A _ fun v w2 c r s=>⟨v,rfl,c,r,s⟩
end
section
open Go.RowKit
theorem Ou.e{l:List Oper}{Ss:List (World->Value->Prop)}{a0:Act}{i:Nat}{b:Nat->Bool}{a:Act}{w:World}(h:Ou l Ss a0 i b a w)(j t:Nat){x:Value}(c:Ss[i-1-j]?=some (Cc x):=by rfl)(d:Jp l i j t=true:=by decide+kernel):a.tmps[t]?.getD undef=x:=h.dep j t (Cc x) d c
theorem Ou.f{l:List Oper}{Ss:List (World->Value->Prop)}{a0:Act}{i:Nat}{b:Nat->Bool}{a:Act}{w:World}(h:Ou l Ss a0 i b a w)(t:Nat){v:Value}(c:a0.tmps.getD t undef=v:=by rfl)(d:aO l i t=true:=by decide+kernel):a.tmps[t]?.getD undef=v:=h.free t v d c
end
section
variable {P : Program} {l : List Oper}
def Gl(l:List Oper)(a:Act):Nat->Value:=fun j=>match l[j]? with
 |some o=>Az o a
 |none=>undef
def B6(vs:Nat->Value)(i:Nat)(v:Value):Nat->Value:=fun k=>if k=i then v else vs k
def told(o:Oper)(v:Value):Value:=match o.dst with
 |some _=>v
 |none=>undef
theorem Xm{o:Oper}{v:Value}(h:o.dst.isSome=true):told o v=v:=by
 unfold told
 cases hd:o.dst with
 |none=>rw[hd] at h;cases h
 |some d=>rfl
theorem aP{a:Act}{k:Nat}{o:Oper}(h:l[k]?=some o):Gl l a k=Az o a:=by unfold Gl;rw[h]
theorem jO{a:Act}{k:Nat}(h:l[k]?=none):Gl l a k=undef:=by unfold Gl;rw[h]
theorem vI{a:Act}{n i:Nat}{o:Oper}{v:Value}(c:Fv l n=true)(m:a.tmps.size=n)(g:l[i]?=some o):Gl l (a.put o.dst v)=B6 (Gl l a) i (told o v):=by
 funext k
 by_cases e:k=i
 .subst e;rw[aP g];unfold B6 told;rw[if_pos rfl];unfold Az
  cases h:o.dst with
  |none=>rfl
  |some d=>
   simp only;rw[Q9 (by rw[m];exact(He c g h).1)]
 .unfold B6;rw[if_neg e]
  cases hk:l[k]? with
  |none=>rw[jO hk,jO hk]
  |some ok=>
   rw[aP hk,aP hk];unfold Az
   cases hdk:ok.dst with
   |none=>rfl
   |some d=>
    simp only;refine L0 fun h=>?_;exact(He c g h).2 k ok hk e hdk
theorem vJ(a:Act):(fun j=>(l.map fun o=>Az o a).getD j undef)=Gl l a:=by
 funext j
 unfold Gl;rw[Z,a1x]
 cases l[j]?<;>rfl
def aQ(P:Program)(l:List Oper)(Ss:List (World→Value→Prop))(C:(Nat→Bool)→(Nat→Value)→World→Prop)(R:World→World→Prop)(a0:Act)(i:Nat):Prop:=
 ∀o S,l[i]?=some o->Ss[i]?=some S->∀(b:Nat->Bool) (a:Act) (w:World),C b (Gl l a) w->b i=false->(∀e∈o.after,Region.binds .any e=true->b e.on=true)->
  (∀j oj,l[j]?=some oj->b j=true->∀e∈oj.after,Region.binds .any e=true->b e.on=true)->a.tmps.size=a0.tmps.size->
  (∀t,(∀j oj,l[j]?=some oj->oj.dst=some t->b j=false)->a.tmps.getD t undef=a0.tmps.getD t undef)->
  (∀e∈o.after,Region.binds .any e=true->∀oe Se,l[e.on]?=some oe->Ss[e.on]?=some Se->Se w (Az oe a))->
  if Region.wanted o (yielded l.toArray a.tmps)=true then o.wp P a w (fun a2 w2=>∃v,a2=a.put o.dst v/\C (Ak b i) (B6 (Gl l a) i (told o v)) w2/\R w w2/\S w2 (told o v)) (fun _ _ _=>False)
  else S w undef/\C (Ak b i) (B6 (Gl l a) i undef) w
structure jP(l:List Oper)(Ss:List (World->Value->Prop))(C:(Nat->Bool)->(Nat->Value)->World->Prop)(a0:Act)(listed:Array Bool)(a:Act)(w:World):Prop where
 size:listed.size=l.length
 defers:a.defers=a0.defers
 tmps:a.tmps.size=a0.tmps.size
 done:∀j o S,l[j]?=some o->Ss[j]?=some S->listed.getD j false=true->S w (Az o a)
 same:∀t,(∀j oj,l[j]?=some oj->oj.dst=some t->Cd listed j=false)->a.tmps.getD t undef=a0.tmps.getD t undef
 closed:∀j oj,l[j]?=some oj->Cd listed j=true->∀e∈oj.after,Region.binds .any e=true->Cd listed e.on=true
 cls:C (Cd listed) (Gl l a) w
theorem vK{Ss:List (World→Value→Prop)}{C:(Nat→Bool)→(Nat→Value)→World→Prop}{R:World→World→Prop}{a0:Act}{Qn:Act→World→Prop}(hl:Ss.length=l.length)(s:Fv l a0.tmps.size=true)
  (stab:∀S∈Ss,∀w w' v,R w w'->S w v->S w' v)(rel:∀i,i<l.length->aQ P l Ss C R a0 i)
  (al:∀a w listed,jP l Ss C a0 listed a w->(∀j,j<l.length->listed.getD j false=true)->Qn a w):
  ∀(m:Nat) (listed:Array Bool) (a:Act) (w:World),Gf listed=m->jP l Ss C a0 listed a w->Ij P l Qn m listed a w:=by
 intro m
 induction m with
 |zero=>
  intro listed a w hu c;have u:=Vr hu;rw[c.size] at u;refine⟨?_,al a w listed c u⟩;apply List.eq_nil_iff_forall_not_mem.2;intro j g;obtain⟨h1,o,ho,_⟩:=mem_ready.1 g
  have A:j<l.length:=by simpa using(Array.getElem?_eq_some_iff.1 ho).1
  have h2:=u j A
  have I:j<listed.size:=by rw[c.size];exact A
  simp[I] at h1 h2;rw[h1] at h2;cases h2
 |succ m ih=>
  intro listed a w hu c;refine⟨fun V=>?_,fun i hi=>?_⟩
  ·--something is ready as long as not all is listed
   exfalso;have N:∃j,j<l.length∧listed.getD j false=false:=by
    by_cases N:∃j,j<l.length/\listed.getD j false=false
    .exact N
    .exfalso;have u:∀j,j<l.length→listed.getD j false=true:=fun j g=>by
      cases h:listed.getD j false
      .exact absurd ⟨j,g,h⟩ N
      .rfl
     have:Gf listed=0:=by
      unfold Gf;rw[a4z,a4v];intro b J;obtain⟨j,g,rfl⟩:=a0x J
      have ad:j<listed.size:=(by simpa using g)
      have:=u j (by rw[<-c.size];exact ad);simp[ad] at this ⊢;exact this
     omega
   obtain⟨j,g,M⟩:∃j,(j<l.length∧listed.getD j false=false)∧∀k,k<j→¬(k<l.length∧listed.getD k false=false):=by
    obtain⟨j0,h0⟩:=N
    induction j0 using Nat.strongRecOn with
    |_ n ih2=>
     by_cases hk:∃k,k<n/\(k<l.length/\listed.getD k false=false)
     .obtain⟨k,aa,W⟩:=hk;exact ih2 k aa W
     .exact⟨n,h0,fun k aa W=>hk ⟨k,aa,W⟩⟩
   have ah:j<listed.size:=(by rw[c.size];exact g.1)
   have:j∈Region.ready .any l.toArray listed:=by
    refine mem_ready.2 ⟨by have:=g.2;simp[ah] at this ⊢;exact this,l[j],by simp[g.1],fun e U J=>?_⟩;have A:=O7 s (X g.1) e U J;cases h:listed.getD e.on false
    .exact absurd ⟨by omega,h⟩ (M e.on A)
    .rfl
   rw[V] at this;cases this
  .obtain⟨h1,o,ho,E⟩:=mem_ready.1 hi
   have r:l[i]?=some o:=(by simpa using ho)
   have A:i<l.length:=(List.getElem?_eq_some_iff.1 r).1
   have I:i<listed.size:=(by rw[c.size];exact A)
   obtain⟨S,hS⟩:∃S,Ss[i]?=some S:=⟨Ss[i]'(by omega),X (by omega)⟩
   have ak:Cd listed i=false:=(by unfold Cd;simp[I] at h1 ⊢;exact h1)
   have V:=rel i A o S r hS (Cd listed) a w c.cls ak (fun e U J=>E e U J) c.closed c.tmps c.same (fun e U J oe Se af ai=>c.done e.on oe Se af ai (E e U J));have D:Cd (listed.setIfInBounds i true)=Ak (Cd listed) i:=by
    funext k
    unfold Cd Ak;by_cases e:k=i
    .subst e;rw[if_pos rfl];simp[I]
    .rw[if_neg e,getD_set_ne false (Ne.symm e)]
   have G:∀v w2,C (Ak (Cd listed) i) (B6 (Gl l a) i (told o v)) w2→(∀S'∈Ss,∀v,S' w v→S' w2 v)→S w2 (told o v)→Ij P l Qn m (listed.setIfInBounds i true) (a.put o.dst v) w2:=by
    intro v w2 hC ae L;refine ih _ _ _ (by have:=Vq I h1;omega) ⟨by simp[c.size],by rw[To];exact c.defers,by rw[Re];exact c.tmps,?_,?_,?_,by rw[D,vI s c.tmps r];exact hC⟩
    .intro j K Sj g Q B;by_cases ab:i=j
     .subst ab;rw[r] at g;cases g;rw[hS] at Q;cases Q;unfold told at L;unfold Az
      cases O:o.dst with
      |none=>rw[O] at L;exact L
      |some d=>
       rw[O] at L;simp only;rw[Q9 (by rw[c.tmps];exact(He s r O).1)];exact L
     .rw[getD_set_ne false ab] at B;have h2:=ae Sj (a0z Q) _ (c.done j K Sj g Q B);have:Az K (a.put o.dst v)=Az K a:=by
       unfold Az
       cases hdj:K.dst with
       |none=>rfl
       |some d=>
        simp only;refine L0 fun O=>?_;exact(He s r O).2 j K g (Ne.symm ab) hdj
      rw[this];exact h2
    .intro t ht;have ag:o.dst≠some t:=fun O=>by
      have:=ht i o r O;rw[D] at this;unfold Ak at this;rw[if_pos rfl] at this;cases this
     rw[L0 ag];refine c.same t fun j K g O=>?_;have:=ht j K g O;rw[D] at this;unfold Ak at this;by_cases e:j=i
     .rw[if_pos e] at this;cases this
     .rw[if_neg e] at this;exact this
    .intro j K g B e U J;rw[D] at B ⊢;have up:∀k,Cd listed k=true→Ak (Cd listed) i k=true:=fun k hk=>by
      unfold Ak;by_cases e:k=i
      .rw[if_pos e]
      .rw[if_neg e];exact hk
     by_cases ej:j=i
     .subst ej;rw[r] at g;cases g;exact up _ (E e U J)
     .unfold Ak at B;rw[if_neg ej] at B;exact up _ (c.closed j K g B e U J)
   refine⟨o,r,?_⟩;split
   .rename_i hw;rw[if_pos hw] at V;refine(Tn (fun a2 w2 h=>?_) (fun _ _ _ h=>h.elim) V);obtain⟨v,rfl,hC,hR,L⟩:=h;exact G v w2 hC (fun S' aj v L=>stab S' aj w w2 v hR L) L
   .rename_i hw;rw[if_neg hw] at V
    have ac:told o undef=undef:=(by unfold told;cases o.dst<;>rfl)
    refine G undef w (by rw[ac];exact V.2) (fun _ _ _ h=>h) ?_;rw[ac];exact V.1
theorem jQ{Qn:Act→World→Prop}{a0:Act}{w0:World}(Ss:List (World→Value→Prop))(C:(Nat→Bool)→(Nat→Value)→World→Prop)(R:World→World→Prop)
  (hl:Ss.length=l.length)(c:Fv l a0.tmps.size=true)(hC:∀vs,C (fun _=>false) vs {w0 with drawn:=w0.drawn+1})
  (stab:∀S∈Ss,∀w w' v,R w w'->S w v->S w' v)(rel:∀i,i<l.length->aQ P l Ss C R a0 i)
  (ab:∀vs w b,C b (fun j=>vs.getD j undef) w->(∀j,j<l.length->b j=true)->E8 w Ss vs->Qn (Aj l vs a0) w):Ij P l Qn l.toArray.size (a2w l.toArray.size false) a0 {w0 with drawn:=w0.drawn+1}:=by
 refine(vK hl c stab rel ?_ _ _ _ _ (by simp[Gf]) ⟨by simp,rfl,rfl,?_,fun _ _=>rfl,?_,by rw[aM];exact hC _⟩)
 .intro a w s g D;have J:=ab (l.map (fun o=>Az o a)) w (Cd s) (by rw[vJ];exact g.cls) D (Tv (by simp[hl]) (fun i S v M r=>by
   rw[a1x] at r
   cases u:l[i]? with
   |none=>rw[u] at r;cases r
   |some o=>
    rw[u] at r;simp only[Option.map_some,Option.some.injEq] at r;rw[<-r]
    exact g.done i o S u M (D i (List.getElem?_eq_some_iff.1 u).1)))
  have:Aj l (l.map (fun o=>Az o a)) a0=a:=by
   have m:(Aj l (l.map (fun o=>Az o a)) a0).defers=a.defers:=(by rw[Tt,g.defers])
   have E:(Aj l (l.map (fun o=>Az o a)) a0).tmps=a.tmps:=by
    have O:(Aj l (l.map (fun o=>Az o a)) a0).tmps.size=a.tmps.size:=(by rw[Tq,g.tmps])
    refine Array.ext O fun t M r=>?_;have hg:(Aj l (l.map (fun o=>Az o a)) a0).tmps.getD t undef=a.tmps.getD t undef:=by
     by_cases L:∃o∈l,o.dst=some t
     .obtain⟨o,u,I⟩:=L;obtain⟨i,hi,W⟩:=a0x u
      have A:l[i]?=some o:=(by rw[X hi,W])
      rw[Tu l _ a0 (by simp) (fun i j oi N d hi V M r=>by
       by_cases K:i=j
       .exact K
       .exact absurd r ((He c hi M).2 j N V (Ne.symm K))) (fun o' Q d aa=>by
       obtain⟨k,hk,U⟩:=a0x Q
       exact(He c (by rw[X hk,U]) aa).1) i o (Az o a) t A (by rw[a1x,A];rfl) I]
      unfold Az;rw[I]
     .have B:∀o∈l,o.dst≠some t:=fun o u I=>L ⟨o,u,I⟩;rw[Rf l _ a0 t B,g.same t (fun j N V I=>absurd I (B N (a0z V)))]
    simpa [M,r] using hg
   cases a;cases h:Aj l (l.map (fun o=>Az o _)) a0;rw[h] at m E;simp only at m E;rw[m,E]
  rw[this] at J;exact J
 .intro j o S _ _ h;exfalso;rcases a2u j l.length with G|G
  .simp[G] at h
  .simp[G] at h
 .intro j o _ h;exfalso;unfold Cd at h;rcases a2u j l.length with G|G
  .simp[G] at h
  .simp[G] at h
def jR(l:List Oper)(i t:Nat):Bool:=(List.range l.length).all fun j=>match l[j]? with
 |some o=>o.dst !=some t||(j==i||o.after.any fun e=>Region.binds .any e&&e.on==i)
 |none=>true
def Xn(l:List Oper)(i j:Nat):Bool:=match l[i]? with
 |some o=>o.after.any fun e=>Region.binds .any e&&e.on==j
 |none=>false
structure Ox(l:List Oper)(Ss:List (World->Value->Prop))(a0:Act)(i:Nat)(b:Nat->Bool)(a:Act)(w:World):Prop where
 size:a.tmps.size=a0.tmps.size
 dep:∀(j t:Nat) (S:World->Value->Prop),Jp l i j t=true->Ss[i-1-j]?=some S->S w (a.tmps[t]?.getD undef)
 free:∀(t:Nat) (v:Value),jR l i t=true->a0.tmps.getD t undef=v->a.tmps[t]?.getD undef=v
 pre:∀j,Xn l i j=true->b j=true
 post:∀j,Xn l j i=true->b j=false
 self:b i=false
 val:∀(j t:Nat),Jp l i j t=true->a.tmps[t]?.getD undef=Gl l a j
theorem vL{Ss:List (World→Value→Prop)}{a0:Act}{i:Nat}{b:Nat→Bool}{a:Act}{w:World}{o:Oper}(s:l[i]?=some o)(r:b i=false)(G:∀e∈o.after,Region.binds .any e=true→b e.on=true)
  (J:∀j d,l[j]?=some d->b j=true->∀e∈d.after,Region.binds .any e=true->b e.on=true)(O:a.tmps.size=a0.tmps.size)
  (N:∀t,(∀j d,l[j]?=some d->d.dst=some t->b j=false)->a.tmps.getD t undef=a0.tmps.getD t undef)
  (M:∀e∈o.after,Region.binds .any e=true->∀B Se,l[e.on]?=some B->Ss[i-1-e.on]?=some Se->Se w (Az B a)):Ox l Ss a0 i b a w:=by
 have later:∀j d,l[j]?=some d→(d.after.any fun e=>Region.binds .any e&&e.on==i)=true→b j=false:=fun j d c K=>by
  obtain⟨e,m,k⟩:=Array.any_eq_true'.1 K;simp only[Y,beq_iff_eq] at k
  cases hbj:b j with
  |false=>rfl
  |true=>
   have:=J j d c hbj e m k.1;rw[k.2,r] at this;cases this
 refine⟨O,fun j t S g L=>?_,fun t v I E=>?_,fun j c=>?_,fun j c=>?_,r,fun j t g=>?_⟩
 .unfold Jp at g;rw[s] at g
  cases c:l[j]? with
  |none=>rw[c] at g;cases g
  |some d=>
   rw[c] at g;simp only[Y,beq_iff_eq] at g;obtain⟨e,m,k⟩:=Array.any_eq_true'.1 g.1;simp only[Y,beq_iff_eq] at k;obtain⟨A,rfl⟩:=k;have:=M e m A d S c L;unfold Az at this;rw[g.2] at this
   simpa using this
 .have D:∀j d,l[j]?=some d→d.dst=some t→b j=false:=fun j d c g=>by
   have u:j<l.length:=(List.getElem?_eq_some_iff.1 c).1;have:=List.all_eq_true.1 I j (List.mem_range.2 u);rw[c] at this;simp only[g,bne_self_eq_false,Bool.false_or,Bool.or_eq_true,beq_iff_eq] at this;rcases this with rfl|h
   .exact r
   .exact later j d c h
  have:=N t D;rw[E] at this
  simpa using this
 .unfold Xn at c;rw[s] at c;obtain⟨e,m,k⟩:=Array.any_eq_true'.1 c;simp only[Y,beq_iff_eq] at k;rw[<-k.2];exact G e m k.1
 .unfold Xn at c
  cases hlj:l[j]? with
  |none=>rw[hlj] at c;cases c
  |some d=>rw[hlj] at c;exact later j d hlj c
 .unfold Jp at g;rw[s] at g
  cases c:l[j]? with
  |none=>rw[c] at g;cases g
  |some d=>
   rw[c] at g;simp only[Y,beq_iff_eq] at g;unfold Gl;rw[c];simp only;unfold Az;rw[g.2];simp
def vM(P:Program)(l:List Oper)(done:List (World→Value→Prop))(S:World→Value→Prop)(C:(Nat→Bool)→(Nat→Value)→World→Prop)(R:World→World→Prop)(a0:Act)(i:Nat):Prop:=
 ∀(b:Nat->Bool),∀o,l[i]?=some o->∀(a:Act) (w:World),C b (Gl l a) w->Ox l done a0 i b a w->
  if Region.wanted o (yielded l.toArray a.tmps)=true then o.wp P a w (fun a2 w2=>∃v,a2=a.put o.dst v/\C (Ak b i) (B6 (Gl l a) i (told o v)) w2/\R w w2/\S w2 (told o v)) (fun _ _ _=>False)
  else S w undef/\C (Ak b i) (B6 (Gl l a) i undef) w
def U7(R:World->World->Prop):List (World->Value->Prop)->Prop
 |[]=>True
 |S::Ss=>(∀w w' v,R w w'->S w v->S w' v)/\U7 R Ss
theorem jS{R:World→World→Prop}:∀{Ss:List (World→Value→Prop)},U7 R Ss→∀S∈Ss,∀w w' v,R w w'→S w v→S w' v
 |[],_,S,a=>by cases a
 |T::Ss,h,S,a=>by
  rcases List.mem_cons.1 a with rfl|a
  .exact h.1
  .exact jS h.2 S a
theorem E4(x:Value){R:World->World->Prop}{Ss:List (World->Value->Prop)}(h:U7 R Ss):U7 R (Cc x::Ss):=⟨fun _ _ _ _ h=>h,h⟩
def Nv(P:Program)(l:List Oper)(C:(Nat->Bool)->(Nat->Value)->World->Prop)(R:World->World->Prop)(a0:Act)(F:Act->World->Prop):Nat->List (World->Value->Prop)->Nat->Prop
 |_,done,0=>U7 R done/\∀w b,(∀j,j<l.length->b j=true)->∀vs,E8 w done.reverse vs->C b (fun j=>vs.getD j undef) w->F (Aj l vs a0) w
 |i,done,n+1=>∃S,vM P l done S C R a0 i/\Nv P l C R a0 F (i+1) (S::done) n
theorem aR{C:(Nat→Bool)→(Nat→Value)→World→Prop}{R:World→World→Prop}{a0:Act}{F:Act→World→Prop}(c:Fv l a0.tmps.size=true):∀(n i:Nat) (done:List (World→Value→Prop)),Nv P l C R a0 F i done n→done.length=i→i+n=l.length→
  ∃Ss,(∃r,Ss=done.reverse++r)/\Ss.length=l.length/\(∀S∈Ss,∀w w' v,R w w'->S w v->S w' v)/\(∀vs w b,C b (fun j=>vs.getD j undef) w->(∀j,j<l.length->b j=true)->E8 w Ss vs->F (Aj l vs a0) w)/\∀k,i<=k->k<l.length->aQ P l Ss C R a0 k
 |0,i,done,h,h1,h2=>⟨done.reverse,⟨[],by simp⟩,by simp;omega,fun S D=>jS h.1 S (by simpa using D),fun vs w b E s g=>h.2 w b s vs g E,fun k V I=>by omega⟩
 |n+1,i,done,h,h1,h2=>by
  obtain⟨S,t,d⟩:=h;obtain⟨Ss,⟨r,g⟩,g1,g2,g3,W⟩:=aR c n (i+1) (S::done) d (by simp[h1]) (by omega);rw[List.reverse_cons] at g;refine⟨Ss,⟨[S]++r,by rw[g,a0v]⟩,g1,g2,g3,fun k V I=>?_⟩;by_cases e:k=i
  .subst e;intro o S' A m b a w E M L K Q O N
   have D:Ss[k]?=some S:=(by rw[g,a0v,a2x (by simp;omega)];simp[h1])
   rw[D] at m;cases m;refine t b o A a w E (vL A M L K Q O fun e G s J Se u B=>N e G s J Se u ?_);have U:=O7 c A e G s;rw[g,a0v,a2v (by simp;omega),List.getElem?_reverse (by omega),h1];exact B
  .exact W k (by omega) I
theorem Qb{id:Nat}{Q:Exit→Act→World→Prop}{a0:Act}{w0:World}(C:(Nat→Bool)→(Nat→Value)→World→Prop)(R:World→World→Prop)
  (d:P.follows .mixedOrders=true)(c:Fv l a0.tmps.size=true)(k:∀vs,C (fun _=>false) vs {w0 with drawn:=w0.drawn+1})
  (h:Nv P l C R a0 (fun a w=>Q .normal a w) 0 [] l.length):(Code.region id l.toArray true).wp P Q a0 w0:=by
 obtain⟨Ss,_,t,s,r,m⟩:=aR c l.length 0 [] h rfl (by omega);exact aL d (jQ Ss C R t c k s (fun i g=>m i (a4w _) g) r)
theorem U8{id d n:Nat}{Q:Exit→Act→World→Prop}{a0:Act}{w0:World}(C:(Nat→Bool)→(Nat→Value)→World→Prop)(R:World→World→Prop)
  (g:P.follows .mixedOrders=true)(m:U5 l=true)(c:Fv l a0.tmps.size=true)(r:∀vs,C (fun _=>false) vs {w0 with drawn:=w0.drawn+1})
  (h:Nv P l C R a0 (fun a w=>Q .normal a w) 0 [] l.length):(Code.region id l.toArray true).wpIn (Fence.wide.inRound d) n P Q a0 w0:=by
 obtain⟨Ss,_,v,u,t,s⟩:=aR c l.length 0 [] h rfl (by omega);exact jK g m (jQ Ss C R v c r u (fun i k=>s i (a4w _) k) t)
variable {C : (Nat -> Bool) -> (Nat -> Value) -> World -> Prop} {R : World -> World -> Prop} {a0 : Act} {F : Act -> World -> Prop} {i n : Nat} {done : List (World -> Value -> Prop)}
theorem Cm{o:Oper}{x:Value}(v:∀b vs w,C b vs w→b i=false→C (Ak b i) (B6 vs i x) w)(s:l[i]?=some o)(u:o.guard=none)(g:o.dst.isSome=true)
  (h:∀b a w,C b (Gl l a) w->Ox l done a0 i b a w->∀K:Act->World->Prop,(∀w2,C b (Gl l a) w2->R w w2->K (a.put o.dst x) w2)->o.wp P a w K (fun _ _ _=>False))
  (t:Nv P l C R a0 F (i+1) (Cc x::done) n):Nv P l C R a0 F i done (n+1):=by
 refine⟨Cc x,?_,t⟩;intro b B d a w A k;rw[s] at d;cases d
 have m:Region.wanted o (yielded l.toArray a.tmps)=true:=by unfold Region.wanted;rw[u]
 rw[if_pos m]
 exact h b a w A k _ fun w2 c r=>⟨x,rfl,by rw[Xm g];exact v _ _ _ c k.self,r,by rw[Xm g];rfl⟩
theorem Dw{o:Oper}(S:World→Value→Prop)(m:l[i]?=some o)(u:o.guard=none)(g:o.dst.isSome=true)
  (h:∀b a w,C b (Gl l a) w->Ox l done a0 i b a w->∀K:Act->World->Prop,(∀v w2,C (Ak b i) (B6 (Gl l a) i v) w2->R w w2->S w2 v->K (a.put o.dst v) w2)->o.wp P a w K (fun _ _ _=>False))
  (t:Nv P l C R a0 F (i+1) (S::done) n):Nv P l C R a0 F i done (n+1):=by
 refine⟨S,?_,t⟩;intro b D d a w A B;rw[m] at d;cases d
 have k:Region.wanted o (yielded l.toArray a.tmps)=true:=by unfold Region.wanted;rw[u]
 rw[if_pos k]
 exact h b a w A B _ fun v w2 c r s=>⟨v,rfl,by rw[Xm g];exact c,r,by rw[Xm g];exact s⟩
theorem J3{o:Oper}(S:World→Prop)(k:l[i]?=some o)(t:o.guard=none)(u:o.dst=none)
  (h:∀b a w,C b (Gl l a) w->Ox l done a0 i b a w->∀K:Act->World->Prop,(∀v w2,C (Ak b i) (B6 (Gl l a) i undef) w2->R w w2->S w2->K (a.put o.dst v) w2)->o.wp P a w K (fun _ _ _=>False))
  (m:Nv P l C R a0 F (i+1) ((fun w _=>S w)::done) n):Nv P l C R a0 F i done (n+1):=by
 refine⟨fun w _=>S w,?_,m⟩;intro b D d a w A B;rw[k] at d;cases d
 have g:Region.wanted o (yielded l.toArray a.tmps)=true:=by unfold Region.wanted;rw[t]
 rw[if_pos g]
 exact h b a w A B _ fun v w2 c r s=>⟨v,rfl,by unfold told;rw[u];exact c,r,s⟩
end
section
open Go.RowKit
theorem Ox.e{l:List Oper}{Ss:List (World->Value->Prop)}{a0:Act}{i:Nat}{b:Nat->Bool}{a:Act}{w:World}(h:Ox l Ss a0 i b a w)(j t:Nat){x:Value}(c:Ss[i-1-j]?=some (Cc x):=by rfl)(d:Jp l i j t=true:=by decide+kernel):a.tmps[t]?.getD undef=x:=h.dep j t (Cc x) d c
theorem Ox.f{l:List Oper}{Ss:List (World->Value->Prop)}{a0:Act}{i:Nat}{b:Nat->Bool}{a:Act}{w:World}(h:Ox l Ss a0 i b a w)(t:Nat){v:Value}(c:a0.tmps.getD t undef=v:=by rfl)(d:jR l i t=true:=by decide+kernel):a.tmps[t]?.getD undef=v:=h.free t v d c
end
end
section
open Go.RowKit
theorem Eg(b:Nat->Bool)(i:Nat):Ak b i i=true:=if_pos rfl
theorem Ah{b:Nat->Bool}{i k:Nat}(h:k≠i):Ak b i k=b k:=if_neg h
theorem Gu(vs:Nat->Value)(i:Nat)(v:Value):B6 vs i v i=v:=if_pos rfl
theorem Bd{vs:Nat->Value}{i k:Nat}{v:Value}(h:k≠i):B6 vs i v k=vs k:=if_neg h
structure G8(T:TypeId)(z x y:Array Value)(i j p q:Nat)(w0:World)(b:Nat->Bool)(vs:Nat->Value)(w:World):Prop where
 fp:Fp [] w0 w
 ai:b i=true->∃B,vs i=.pointer (some ⟨B,0,none⟩)/\w0.heap.size<=B/\w.heap[B]?=some (.cells (if b p=true then x else z) T (0,0))
 aj:b j=true->∃B,vs j=.pointer (some ⟨B,0,none⟩)/\w0.heap.size<=B/\w.heap[B]?=some (.cells (if b q=true then y else z) T (0,0))
 ne:b i=true->b j=true->vs i≠vs j
variable {T : TypeId} {z x y : Array Value} {i j p q : Nat} {w0 : World} {b : Nat -> Bool} {vs : Nat -> Value} {w w2 : World}
theorem G8.start{vs:Nat->Value}(h:Fp [] w0 w):G8 T z x y i j p q w0 (fun _=>false) vs w:=⟨h,(fun h=>by cases h),(fun h=>by cases h),(fun h=>by cases h)⟩
theorem G8.plain{k:Nat}{v:Value}(h:G8 T z x y i j p q w0 b vs w)(d:k≠i/\k≠j/\k≠p/\k≠q):G8 T z x y i j p q w0 (Ak b k) (B6 vs k v) w:=by
 obtain⟨c,a,m,g⟩:=d;refine⟨h.fp,?_,?_,?_⟩
 .rw[Ah c.symm,Ah m.symm,Bd c.symm];exact h.ai
 .rw[Ah a.symm,Ah g.symm,Bd a.symm];exact h.aj
 .rw[Ah c.symm,Ah a.symm,Bd c.symm,Bd a.symm];exact h.ne
theorem G8.on(h:G8 T z x y i j p q w0 b vs w)(c:Fp [] w w2):G8 T z x y i j p q w0 b vs w2:=by
 refine⟨h.fp.trans c,fun d=>?_,fun d=>?_,h.ne⟩
 .obtain⟨B,k,g,a⟩:=h.ai d;exact⟨B,k,g,(c.block B (Ae a) (by simp)).trans a⟩
 .obtain⟨B,k,g,a⟩:=h.aj d;exact⟨B,k,g,(c.block B (Ae a) (by simp)).trans a⟩
theorem G8.makeI(h:G8 T z x y i j p q w0 b vs w)(g:b p=false)(a:i≠j∧i≠p∧i≠q):G8 T z x y i j p q w0 (Ak b i) (B6 vs i (.pointer (some ⟨w.heap.size,0,none⟩))) (w.alloc (.cells z T)):=by
 have d:=h.on (Fp.alloc w (.cells z T));refine⟨d.fp,fun _=>⟨w.heap.size,Gu _ _ _,h.fp.size,?_⟩,fun c=>?_,fun _ c=>?_⟩
 .rw[Ah a.2.1.symm,g];exact Ai rfl _
 .rw[Ah a.1.symm] at c;rw[Bd a.1.symm,Ah a.2.2.symm];exact d.aj c
 .rw[Ah a.1.symm] at c;rw[Gu,Bd a.1.symm];obtain⟨B,m,_,k⟩:=h.aj c;rw[m];intro e
  have r:w.heap.size=B:=by injection e with e;injection e with e;injection e
  have:=Ae k;omega
theorem G8.makeJ(h:G8 T z x y i j p q w0 b vs w)(g:b q=false)(a:j≠i∧j≠p∧j≠q):G8 T z x y i j p q w0 (Ak b j) (B6 vs j (.pointer (some ⟨w.heap.size,0,none⟩))) (w.alloc (.cells z T)):=by
 have d:=h.on (Fp.alloc w (.cells z T));refine⟨d.fp,fun c=>?_,fun _=>⟨w.heap.size,Gu _ _ _,h.fp.size,?_⟩,fun c _=>?_⟩
 .rw[Ah a.1.symm] at c;rw[Bd a.1.symm,Ah a.2.1.symm];exact d.ai c
 .rw[Ah a.2.2.symm,g];exact Ai rfl _
 .rw[Ah a.1.symm] at c;rw[Gu,Bd a.1.symm];obtain⟨B,m,_,k⟩:=h.ai c;rw[m];intro e
  have r:w.heap.size=B:=by injection e with e;injection e with e;injection e with e;exact e.symm
  have:=Ae k;omega
theorem G8.fillP(h:G8 T z x y i j p q w0 b vs w)(m:b i=true){B:Nat}(k:vs i=.pointer (some ⟨B,0,none⟩))(r:Fp [B] w w2)(D:w2.heap[B]?=some (.cells x T (0,0)))(a:p≠i/\p≠j/\p≠q):G8 T z x y i j p q w0 (Ak b p) (B6 vs p undef) w2:=by
 obtain⟨B',g,G,J⟩:=h.ai m
 have E:B=B':=by rw[g] at k;injection k with e;injection e with e;injection e with e;exact e.symm
 subst E;refine⟨h.fp.trans r (by simp;omega),fun _=>⟨B,?_,G,?_⟩,fun d=>?_,fun t s=>?_⟩
 .rw[Bd a.1.symm];exact g
 .rw[Eg,if_pos rfl];exact D
 .rw[Ah a.2.1.symm] at d;rw[Bd a.2.1.symm,Ah a.2.2.symm];obtain⟨A,v,I,u⟩:=h.aj d;refine⟨A,v,I,(r.block A (Ae u) ?_).trans u⟩;intro c;have c:=List.mem_singleton.1 c;exact h.ne m d (by rw[g,v,c])
 .rw[Ah a.1.symm] at t;rw[Ah a.2.1.symm] at s;rw[Bd a.1.symm,Bd a.2.1.symm];exact h.ne t s
theorem G8.fillQ(h:G8 T z x y i j p q w0 b vs w)(m:b j=true){B:Nat}(k:vs j=.pointer (some ⟨B,0,none⟩))(r:Fp [B] w w2)(D:w2.heap[B]?=some (.cells y T (0,0)))(a:q≠i/\q≠j/\q≠p):G8 T z x y i j p q w0 (Ak b q) (B6 vs q undef) w2:=by
 obtain⟨B',g,G,J⟩:=h.aj m
 have E:B=B':=by rw[g] at k;injection k with e;injection e with e;injection e with e;exact e.symm
 subst E;refine⟨h.fp.trans r (by simp;omega),fun d=>?_,fun _=>⟨B,?_,G,?_⟩,fun t s=>?_⟩
 .rw[Ah a.1.symm] at d;rw[Bd a.1.symm,Ah a.2.2.symm];obtain⟨A,v,I,u⟩:=h.ai d;refine⟨A,v,I,(r.block A (Ae u) ?_).trans u⟩;intro c;have c:=List.mem_singleton.1 c;exact h.ne d m (by rw[g,v,c])
 .rw[Bd a.2.1.symm];exact g
 .rw[Eg,if_pos rfl];exact D
 .rw[Ah a.1.symm] at t;rw[Ah a.2.1.symm] at s;rw[Bd a.1.symm,Bd a.2.1.symm];exact h.ne t s
end
section
open Go.RowKit
structure Hv(α:Type) where
 e:TypeId
 k:Nat
 enc:α->List Value
 len:∀x,(enc x).length=k
 pos:0<k
 one:∀x,∀v∈enc x,v.oneCell'=true
variable {α : Type} {R : Hv α}
theorem Q0(l:List α):(l.flatMap R.enc).length=l.length*R.k:=by
 induction l with
 |nil=>simp
 |cons x r ih=>rw[a3u,List.length_append,ih,R.len,List.length_cons,a1z,Nat.add_comm]
theorem U9:∀(l:List α) (i j:Nat),j<R.k→(a:i<l.length)→(l.flatMap R.enc)[i*R.k+j]?=(R.enc l[i])[j]?
 |[],_,_,_,a=>absurd a (a4x _)
 |x::r,0,j,hj,_=>by
  rw[a3u,Nat.zero_mul,a5x,a2v (by rw[R.len];exact hj)];rfl
 |x::r,i+1,j,hj,a=>by
  rw[a3u,a2x (by rw[R.len,a1z];omega),R.len,show(i+1)*R.k+j-R.k=i*R.k+j by rw[a1z];omega];exact U9 r i j hj _
theorem jT(l:List α):∀u∈l.flatMap R.enc,u.oneCell'=true:=by
 intro u c;obtain⟨x,_,a⟩:=List.mem_flatMap.1 c;exact R.one x u a
theorem aS{k x n:Nat}(h:x<n*k)(a:0<k):x/k<n/\x%k<k/\x=x/k*k+x%k:=
 ⟨Nat.div_lt_of_lt_mul (by rw[Nat.mul_comm];exact h),Nat.mod_lt _ a,(Nat.div_add_mod' x k).symm⟩
def Oy(R:Hv α)(w:World)(b o:Nat)(x:α):Prop:=∀j u,(R.enc x)[j]?=some u->w.cell? ⟨b,o+j,none⟩=some u
theorem Oy.fp{w w':World}{b o:Nat}{x:α}{S:List Nat}(h:Oy R w b o x)(c:Fp S w w')(d:b<w.heap.size)(g:b∉S:=by simp):Oy R w' b o x:=fun j u a=>(c.cell (p:=⟨b,o+j,none⟩) d g).trans (h j u a)
structure Bj(R:Hv α)(w:World)(a:Option Addr)(n:Nat)(l:List α):Prop where
 len:n=l.length
 cells:l=[]∨∃b o,a=some ⟨b,o,none⟩/\b<w.heap.size/\∀i (h:i<l.length),Oy R w b (o+i*R.k) l[i]
theorem Bj.fp{w w':World}{a:Option Addr}{n:Nat}{l:List α}(h:Bj R w a n l)(c:Fp [] w w'):Bj R w' a n l:=by
 refine⟨h.len,?_⟩;rcases h.cells with m|⟨b,o,e,d,k⟩
 .exact Or.inl m
 .exact Or.inr ⟨b,o,e,Nat.lt_of_lt_of_le d c.size,fun i g=>(k i g).fp c d (by simp)⟩
theorem Bj.get{w:World}{a:Option Addr}{n i:Nat}{l:List α}(h:Bj R w a n l)(c:i<l.length):∃b o,a=some ⟨b,o,none⟩/\b<w.heap.size/\∀w',Fp [] w w'->Oy R w' b (o+i*R.k) l[i]:=by
 rcases h.cells with r|⟨b,o,e,d,m⟩
 .rw[r] at c;exact absurd c (a4x _)
 .exact⟨b,o,e,d,fun w' g=>(m i c).fp g d (by simp)⟩
theorem Bj.nil(w:World)(a:Option Addr):Bj R w a 0 []:=⟨rfl,Or.inl rfl⟩
theorem Bj.take{w:World}{a:Option Addr}{n:Nat}{l:List α}(h:Bj R w a n l)(m:Nat)(r:m<=n):Bj R w a m (l.take m):=by
 have s:=h.len;refine⟨by rw[a2z];omega,?_⟩;rcases h.cells with k|⟨b,o,e,g,d⟩
 .left;rw[k];simp
 .exact Or.inr ⟨b,o,e,g,fun i c=>by rw[a3z];exact d i (by rw[a2z] at c;omega)⟩
theorem Bj.drop{w:World}{b o n:Nat}{l:List α}(h:Bj R w (some ⟨b,o,none⟩) n l)(m r:Nat)(t:m+r=n):Bj R w (some ⟨b,o+m*R.k,none⟩) r (l.drop m):=by
 have u:=h.len;refine⟨by rw[List.length_drop];omega,?_⟩;rcases h.cells with g|⟨s,o',e,d,c⟩
 .left;rw[g];simp
 .obtain⟨rfl,rfl⟩:b=s/\o=o':=by cases e;exact⟨rfl,rfl⟩
  refine Or.inr ⟨b,o+m*R.k,rfl,d,fun i a=>?_⟩;rw[List.length_drop] at a;have:=c (m+i) (by omega);rw[Nat.add_mul,<-Nat.add_assoc] at this;rw[List.getElem_drop];exact this
theorem Bj.one{w:World}{g:Nat}{x:α}{e:TypeId}(h:w.heap[g]?=some (.cells (R.enc x).toArray e (0,0))):Bj R w (some ⟨g,0,none⟩) 1 [x]:=by
 refine⟨rfl,Or.inr ⟨g,0,rfl,Ae h,fun i c=>?_⟩⟩
 have:i=0:=by simpa using c
 subst this;intro j u a;simp only[Nat.zero_mul,a5x];rw[Ab h,List.getElem?_toArray];exact a
def Ag(R:Hv α)(w:World)(base:Nat)(v:Value)(l:List α):Prop:=w.ownsRow base R.e R.k v l.length (l.flatMap R.enc)
theorem Ag.nil(w:World)(base:Nat):Ag R w base (.slice none 0 0) []:=World.ownsRow_nil w base _ _
theorem Ag.mono{w:World}{base base':Nat}{v:Value}{l:List α}(h:Ag R w base v l)(m:base'<=base):Ag R w base' v l:=by
 obtain⟨s,a⟩:=h;refine⟨s,?_⟩;rcases a with a|⟨g,cap,c,d,k,r⟩
 .exact Or.inl a
 .exact Or.inr ⟨g,cap,c,d,Nat.le_trans m k,r⟩
theorem Ag.lt{w:World}{base:Nat}{v:Value}{l:List α}(h:Ag R w base v l):∀k,v.ownBlock=some k->base<=k/\k<w.heap.size:=World.ownsRow.lt h
theorem Ag.kept{w w':World}{base:Nat}{v:Value}{l:List α}(h:Ag R w base v l)(t:∀k,v.ownBlock=some k->w'.heap[k]?=w.heap[k]?):Ag R w' base v l:=by
 obtain⟨u,a⟩:=h;refine⟨u,?_⟩;rcases a with a|⟨g,cap,c,d,s,m,r⟩
 .exact Or.inl a
 .exact Or.inr ⟨g,cap,c,d,s,(t g (by rw[d];rfl)).trans m,r⟩
theorem Ag.fp{w w':World}{base:Nat}{v:Value}{l:List α}{S:List Nat}(h:Ag R w base v l)(d:Fp S w w')(g:∀i∈S,i<base:=by simp):Ag R w' base v l:=
 h.kept fun k a=>d.block k (h.lt k a).2 (fun c=>by have:=g k c;have:=(h.lt k a).1;omega)
theorem Ag.made(w:World)(base:Nat)(a:base<=w.heap.size):Ag R (w.alloc (.cells #[] R.e)) base (.slice (some ⟨w.heap.size,0,none⟩) 0 0) []:=
 World.ownsRow_made w #[] 0 a (by decide) (by simp)
theorem Ag.open{w:World}{base:Nat}{v:Value}{l:List α}(h:Ag R w base v l)(m:0<l.length):
  ∃g cap a,v=.slice (some ⟨g,0,none⟩) l.length cap/\base<=g/\w.heap[g]?=some (.cells a R.e (0,0))/\l.length<=cap/\cap<=maxLen/\a.size=cap*R.k/\a.toList.take (l.length*R.k)=l.flatMap R.enc:=by
 rcases h.2 with⟨rfl,d⟩|c
 .omega
 .exact c
theorem Ag.len{w:World}{base:Nat}{v:Value}{l:List α}(h:Ag R w base v l):∃a cap,v=.slice a l.length cap/\(a=none->cap=0)/\l.length<=cap:=by
 rcases h.2 with⟨rfl,d⟩|⟨g,cap,k,rfl,_,_,c,_⟩
 .exact⟨none,0,by rw[d],fun _=>rfl,by omega⟩
 .exact⟨_,_,rfl,(fun h=>by cases h),c⟩
theorem Xo{a:Array Value}{l:List α}(h:a.toList.take (l.length*R.k)=l.flatMap R.enc)(i:Nat)(c:i<l.length)(j:Nat)(d:j<R.k):a[i*R.k+j]?=(R.enc l[i])[j]?:=by
 have:i*R.k+j<l.length*R.k:=Nat.lt_of_lt_of_le (by rw[a1z];omega) (a0u _ (show i+1<=l.length from c));rw[<-U9 l i j d c,<-h,a3v,if_pos this,a5z]
theorem jU{a:Array Value}{l:List α}(h:∀i (r:i<l.length),∀j,j<R.k->a[i*R.k+j]?=(R.enc l[i])[j]?):a.toList.take (l.length*R.k)=l.flatMap R.enc:=by
 apply List.ext_getElem?;intro x;by_cases c:x<l.length*R.k
 .obtain⟨g,d,m⟩:=aS c R.pos;rw[a3v,if_pos c,a5z];rw[m,U9 l (x/R.k) (x%R.k) d g];exact h (x/R.k) g (x%R.k) d
 .rw[a3v,if_neg c,List.getElem?_eq_none (by rw[Q0];omega)]
theorem Ag.at{w:World}{base:Nat}{v:Value}{l:List α}(h:Ag R w base v l):∃a cap,v=.slice a l.length cap∧(a=none→cap=0)∧l.length≤cap∧Bj R w a l.length l:=by
 by_cases D:0<l.length
 .obtain⟨g,cap,E,rfl,J,d,r,I,G,m⟩:=h.open D;refine⟨_,_,rfl,(fun h=>by cases h),r,rfl,Or.inr ⟨g,0,rfl,Ae d,fun i t j u c=>?_⟩⟩
  have s:j<R.k:=by rw[<-R.len l[i]];exact(List.getElem?_eq_some_iff.1 c).1
  rw[a5x,Ab d,Xo m i t j s];exact c
 .obtain⟨a,cap,e,B,A⟩:=h.len;exact⟨a,cap,e,B,A,rfl,Or.inl (List.eq_nil_of_length_eq_zero (by omega))⟩
theorem Va(T:TypeId){z:Value}{d:Nat}(hu:Tryz.prog.underlying T=some (.slice R.e))(D:(Tryz.prog.info? R.e).map (fun i=>(i.zero,i.size,i.bytes))=some (some z,R.k,d))(N:z.cells.size=R.k)(ab:d≤100000)
  {w:World}{I:Array Oper}{rest:List Oper}{o:Oper}{a:Act}{Q:Exit->Act->World->Prop}(J:o.guard=none)(s x:Operand)
  (ho:o.op=.call {callee:=.builtin .append,args:=#[s,x],argTypes:=#[T,T]})(base:Nat)(v:Value)(l:List α)(hs:a.eval s=v)(g:Ag R w base v l)
  (G:Option Addr)(m c:Nat)(A:List α)(hx:a.eval x=.slice G m c)(hl:Bj R w G m A)(B:G=none->c=0)(ac:l.length+A.length<=1000000000)(r:base<=w.heap.size)
  (h:∀K w',Ag R w' base K (l++A)->Below base w w'->w.grownBy w' v.ownBlock->wpList Tryz.prog I Q rest (a.put o.dst K) w'):wpList Tryz.prog I Q (o::rest) a w:=by
 obtain⟨i0,hi,U,S,O⟩:=info_parts D;have W:=hl.len
 cases G with
 |none=>
  have:A=[]:=by
   rcases hl.cells with E|⟨b,o,E,_⟩
   .exact E
   .cases E
  subst this;obtain rfl:=B rfl;have V:m=0:=W;subst V;refine wpList_append_own_none J s x T ho base R.e i0 R.k hu hi v l.length (l.flatMap R.enc) hs g hx ?_;exact h v w (by rw[List.append_nil];exact g) (Below.refl _ _) ⟨rfl,rfl,rfl,Nat.le_refl _,fun _ _ _=>rfl⟩
 |some G=>
  refine wpList_append_own w J s x T ho base R.e i0 _ R.k d hu hi U S O N R.pos v l.length (l.flatMap R.enc) hs g G m c (A.flatMap R.enc) hx (by rw[Q0,W]) ?_ (jT A) (by unfold maxLen;omega) (Nat.le_trans (Nat.mul_le_mul (show l.length+m<=1000000000 by omega) ab) (by decide)) r ?_
  .intro j u t;rcases hl.cells with E|⟨b,o,E,_,hc⟩
   .subst E;simp at t
   .obtain rfl:=Option.some.inj E
    have e1:(⟨b,o,none⟩:Addr).add j=⟨b,o+j,none⟩:=(by unfold Addr.add;split<;>simp_all)
    rw[e1]
    have aa:j<A.length*R.k:=(by rw[<-Q0 (R:=R)];exact(List.getElem?_eq_some_iff.1 t).1)
    obtain⟨M,L,h3⟩:=aS aa R.pos;rw[h3,U9 A _ _ L M] at t;have:=hc (j/R.k) M (j%R.k) u t;rw[Nat.add_assoc,<-h3] at this;exact this
  .intro K w' M L _;refine h K w' ?_ ((Below.refl base w).grown L r (fun k hk=>(g.lt k hk).1)) L;unfold Ag;rw[List.length_append,List.flatMap_append,<-W];exact M
theorem aT{g:Nat}{e:TypeId}:∀(vs:List Value) (o:Nat) (w:World) (c:Array Value),w.heap[g]?=some (.cells c e (0,0))→∃a:Array Value,(w.setCells g o vs).heap[g]?=some (.cells a e (0,0))∧a.size=c.size∧
  (∀j,j<o->a[j]?=c[j]?)/\(∀j,j<vs.length->o+j<c.size->a[o+j]?=vs[j]?)/\(∀j,o+vs.length<=j->a[j]?=c[j]?)/\Fp [g] w (w.setCells g o vs)
 |[],o,w,c,h=>⟨c,h,rfl,fun _ _=>rfl,fun j d=>absurd d (a4x _),fun _ _=>rfl,Fp.refl _ _⟩
 |v::vs,o,w,c,h=>by
  have s:(w.setCell ⟨g,o,none⟩ v).heap[g]?=some (.cells (c.setIfInBounds o v) e (0,0)):=Cf h v;obtain⟨a,D,B,k,A,u,t⟩:=aT vs (o+1) (w.setCell ⟨g,o,none⟩ v) _ s;refine⟨a,D,by rw[B,Array.size_setIfInBounds],fun j d=>?_,fun j d m=>?_,fun j d=>?_,(Fp.setCell w ⟨g,o,none⟩ v).trans t (by intro i r;exact Or.inl r)⟩
  .rw[k j (by omega),a1w,if_neg (by omega)]
  .cases j with
   |zero=>
    rw[Nat.add_zero,k o (by omega),a1w,if_pos rfl,if_pos (by omega)];rfl
   |succ j=>
    rw[show o+(j+1)=o+1+j from by omega,A j (by simpa using d) (by rw[Array.size_setIfInBounds];omega)];rfl
  .rw[u j (by simp at d;omega),a1w,if_neg (by simp at d;omega)]
theorem Ag.setQ{w:World}{base g i n cap:Nat}{l:List α}(x:α)(h:Ag R w base (.slice (some ⟨g,0,none⟩) n cap) l)(M:i<l.length):
  Ag R (w.setCells g (i*R.k) (R.enc x)) base (.slice (some ⟨g,0,none⟩) n cap) (l.set i x)/\Fp [g] w (w.setCells g (i*R.k) (R.enc x)):=by
 obtain⟨t,u,d,e,E,D,A,B,r,v⟩:=h.open (by omega);cases e;obtain⟨a,L,t,K,J,I,G⟩:=aT (R.enc x) (i*R.k) w d D;have c:(i+1)*R.k<=cap*R.k:=a0u _ (by omega);rw[a1z] at c;refine⟨⟨by rw[Q0],Or.inr ⟨g,cap,a,by rw[a3w],E,L,by rw[a3w];exact A,B,by rw[t];exact r,?_⟩⟩,G⟩;refine jU fun y m j s=>?_;rw[a3w] at m;by_cases e:y=i
 .subst e;rw[List.getElem_set_self,J j (by rw[R.len];exact s) (by rw[r];omega)]
 .rw[List.getElem_set_ne (Ne.symm e),<-Xo v y m j s];rcases a2u y i with h|h
  .have:(y+1)*R.k<=i*R.k:=a0u _ (by omega);rw[a1z] at this;exact K _ (by omega)
  .have:(i+1)*R.k<=y*R.k:=a0u _ (by omega);rw[a1z] at this;exact I _ (by rw[R.len];omega)
theorem Ag.elem{w:World}{base g n cap i:Nat}{l:List α}(h:Ag R w base (.slice (some ⟨g,0,none⟩) n cap) l)(t:i<l.length):Oy R w g (i*R.k) l[i]/\(∀o,w.frozen? ⟨g,o,none⟩=false)/\base<=g/\g<w.heap.size/\n=l.length/\n<=cap:=by
 obtain⟨E,d,A,e,v,a,r,D,B,m⟩:=h.open (by omega);cases e;refine⟨fun j u c=>?_,fun o=>Av a o,v,Ae a,rfl,r⟩
 have s:j<R.k:=by rw[<-R.len l[i]];exact(List.getElem?_eq_some_iff.1 c).1
 rw[Ab a,Xo m i t j s];exact c
theorem Ag.cut{w:World}{base g n cap m p:Nat}{l:List α}(vs:List Value)(h:Ag R w base (.slice (some ⟨g,0,none⟩) n cap) l)(M:m≤l.length)(B:0<l.length)(d:p=m*R.k):
  Ag R (w.setCells g p vs) base (.slice (some ⟨g,0,none⟩) m cap) (l.take m)/\Fp [g] w (w.setCells g p vs):=by
 subst d;obtain⟨s,t,r,e,G,E,L,d,A,v⟩:=h.open B;cases e;obtain⟨c,K,s,J,O,N,I⟩:=aT vs (m*R.k) w r E
 have a:(l.take m).length=m:=by rw[a2z];omega
 refine⟨⟨by rw[Q0],Or.inr ⟨g,cap,c,by rw[a],G,K,by rw[a];omega,d,by rw[s];exact A,?_⟩⟩,I⟩;refine jU fun y u j D=>?_;rw[a] at u;rw[a3z,<-Xo v y (by omega) j D];have:(y+1)*R.k<=m*R.k:=a0u _ (by omega);rw[a1z] at this;exact J _ (by omega)
theorem Ag.less{w:World}{base g n cap m:Nat}{l:List α}(h:Ag R w base (.slice (some ⟨g,0,none⟩) n cap) l)(c:m<=l.length)(a:0<l.length):Ag R w base (.slice (some ⟨g,0,none⟩) m cap) (l.take m):=(h.cut [] c a rfl).1
end
end Go.Proofs.YtkagolpnaicdoaaGreatDoor
