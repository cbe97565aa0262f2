/-
 What is printed is told (plain). job: sure, tried. Slices whose elements are of k cells each, of any type: as they lie; of the call's own; append; an element stored. Frames by type: what may be turned are the blocks of some types, from a base on, and a few others. Cells: name, May, Cmp and what they call. Cells: Cmp and Same. Same: one coordinate.
-/
import Derived.Test.YtkagolpnaicdoaaGreatDoorPParWord
import Derived.WalkSmall
import Derived.Deep.RegionHeld3
import Derived.Deep.DrawnRows
set_option maxRecDepth 100000
set_option maxHeartbeats 8000000
open Go.Lib renaming hid->a0z
open Nat renaming mul_le_mul_right->a0x,succ_mul->a0v,lt_of_lt_of_le->a0u,pos_of_ne_zero->a1v,le_trans->a2w,not_lt_zero->a2v,zero_add->a3w
open Bool renaming and_eq_true->a0w
open Array renaming getElem?_setIfInBounds->a1z,getElem?_toList->a3z
open List renaming mem_cons_of_mem->a1x,mem_cons_self->a1w,getElem?_take->a1u,flatMap_cons->a2z,length_take->a2x,length_set->a2u,map_cons->a3x
namespace Go.Proofs.YtkagolpnaicdoaaGreatDoor
section
open Go.RowKit Go.Lib
theorem cN(c:UInt8):∀(l:List UInt8) (b:UInt8),b∈l→b=c∨∃p∈Hh c l,b∈p
 |[],b,h=>by cases h
 |x::l,b,h=>by
  unfold Hh
  by_cases g:x=c
  ·rw[if_pos g]
   rcases List.mem_cons.1 h with rfl|h
   ·exact Or.inl g
   ·rcases cN c l b h with h|⟨p,d,f⟩
    ·exact Or.inl h
    ·exact Or.inr ⟨p,a1x _ d,f⟩
  ·rw[if_neg g];obtain⟨j,i,e⟩:=nS c l
   rcases List.mem_cons.1 h with rfl|h
   ·right;rw[e];exact⟨_,a1w ..,a1w ..⟩
   ·rcases cN c l b h with h|⟨p,d,f⟩
    ·exact Or.inl h
    ·right;rw[e] at d ⊢
     rcases List.mem_cons.1 d with rfl|d
     ·exact⟨_,a1w ..,a1x _ f⟩
     ·exact⟨p,a1x _ d,f⟩
theorem cO{s:ByteArray}(h:J6 s=true):∀b∈s.data.toList,b≠10:=by
 unfold J6 at h;rw[a0w] at h;intro b d e;have:=List.all_eq_true.1 h.2 b d;subst e;exact absurd this (by decide)
theorem Ab7{s:ByteArray}{u:Nat}(h:J7 s=some u):∀b∈s.data.toList,b≠10:=by
 intro b d e;subst e;unfold J7 parseUintB at h
 by_cases f:s.data.toList=[]
 ·rw[f] at d;cases d
 ·rw[if_neg f] at h;split at h
  ·rename_i v g;exact absurd g (oL _ _ _ ⟨_,d,by decide⟩ v)
  ·cases h
theorem Ab8{d:ByteArray}(h:Ii d=true):d=⟨#[45]⟩:=by
 have e:d.toList=[45]:=by simpa [Ii] using h
 rw[ByteArray.toList_eq] at e;exact Qm e
theorem Ab9{d:ByteArray}(h:(Ii d||Qo d)=true):∀b∈d.data.toList,b≠10:=by
 rcases Bool.or_eq_true_iff.1 h with h|h
 ·rw[Ab8 h];intro b f;simp at f;rw[f];decide
 ·unfold Qo at h;simp only[a0w] at h;exact cO h.2.1
theorem Aca{t:ByteArray}{c:Aa}(h:D5 t=some c):∀b∈t.data.toList,b≠10:=by
 intro b m;unfold D5 at h;split at h
 ·rename_i x y z d e;unfold I9 at h;split at h
  ·rename_i i;obtain⟨u,l,_⟩:=Option.map_eq_some_iff.1 h;have j:=dA 32 t;rw[e] at j
   rcases cN 32 t.data.toList b m with n|⟨p,g,f⟩
   ·rw[n];decide
   ·rw[<-j] at g
    have k:J6 x=true:=by have:=i.1;unfold Ku at this;rw[a0w] at this;exact this.1
    have w2:J6 y=true:=by have:=i.2.1;unfold Ku at this;rw[a0w] at this;exact this.1
    simp only[a3x,List.map_nil,List.mem_cons,List.not_mem_nil,or_false] at g
    rcases g with rfl|rfl|rfl|rfl
    ·exact cO k b f
    ·exact cO w2 b f
    ·exact Ab7 l b f
    ·exact Ab9 i.2.2 b f
  ·cases h
 ·cases h
theorem Acb{t:ByteArray}{c:Aa}(h:D5 t=some c):0<c.row.size:=by
 unfold D5 at h;split at h
 ·unfold I9 at h;split at h
  ·rename_i f;obtain⟨u,_,e⟩:=Option.map_eq_some_iff.1 h;have d:=f.1;unfold Ku J6 at d;simp only[a0w,decide_eq_true_eq] at d;have g:=d.1.1;have i:=congrArg Aa.row e;rw[<-i];exact a1v g
  ·cases h
 ·cases h
theorem cP{c:Aa}(h:Hq c=true):D5 (E1 c)=some c∧Ja (E1 c)=false:=by
 unfold Hq at h;split at h
 ·cases h
 ·rename_i x d;rw[a0w] at h;obtain rfl:=(Yw _ _).1 h.1;refine⟨d,?_⟩;have f:=Acb d
  have i:(E1 x).data.toList.head?=x.row.data.toList.head?:=by
   unfold E1;simp only[Rq]
   have:x.row.data.toList≠[]:=fun e=>by rw[size_eq,e] at f;exact absurd f (by decide)
   obtain⟨y,r,e⟩:=List.exists_cons_of_ne_nil this;rw[e];rfl
  have g:((E1 x).size==0)=false:=by
   rw[beq_eq_false_iff_ne];unfold E1;simp only[ByteArray.size_append];omega
  unfold Ja;rw[g,i,Bool.false_or]
  simpa using h.2
theorem mT:∀(l:List ByteArray),(∀t∈l,∀b∈t.data.toList,b≠10)→Hh 10 (Jn l).data.toList=l.map (fun t=>t.data.toList)++[[]]
 |[],_=>rfl
 |t::r,h=>by
  unfold Jn;rw[Rq,Rq,List.append_assoc];show Hh 10 (t.data.toList++10::(Jn r).data.toList)=_;rw[nT 10 _ _ (h t (by simp)),mT r (fun x d=>h x (by simp[d]))];rfl
theorem Acd(l:List ByteArray)(h:∀t∈l,∀b∈t.data.toList,b≠10):Ih 10 (Jn l)=l++[⟨#[]⟩]:=by
 apply nX;rw[dA,mT l h,List.map_append];rfl
theorem mU:∀(l:List Aa) (d:ByteArray),(Ll d l=(d++Jn (l.map E1),0)∧∀c∈l,Hq c=true)∨Ll d l=(⟨#[]⟩,1)
 |[],d=>Or.inl ⟨by show(d,0)=(d++Jn [],0);congr 1;apply Qm;simp[Jn],by simp⟩
 |c::r,d=>by
  cases h:Hq c
  ·exact Or.inr (It h)
  ·rw[dI h]
   rcases mU r (d++(E1 c++⟨#[10]⟩)) with⟨g,i⟩|g
   ·refine Or.inl ⟨?_,?_⟩
    ·rw[g,a3x];congr 1;apply Qm
     conv=>rhs;unfold Jn
     simp only[Rq,List.append_assoc]
    ·intro x f
     rcases List.mem_cons.1 f with rfl|f
     ·exact h
     ·exact i x f
   ·exact Or.inr g
theorem mV:∀(l:List Aa) (i:Nat) (d:List Aa),(∀c∈l,Hq c=true)→Hi i d (l.map E1++[⟨#[]⟩])=(d++l,0,0)
 |[],i,d,_=>by
  show Hi i d [⟨#[]⟩]=_;rw[Yv (oH rfl),List.append_nil];rfl
 |c::r,i,d,h=>by
  obtain⟨j,g⟩:=cP (h c (by simp));rw[a3x,List.cons_append,dG g j,mV r _ _ (fun x f=>h x (by simp[f]))];simp
theorem Ace{l:List Aa}(h:∀c∈l,Hq c=true):∀t∈l.map E1,∀b∈t.data.toList,b≠10:=by
 intro t d;obtain⟨c,f,rfl⟩:=List.mem_map.1 d;exact Aca (cP (h c f)).1
theorem Acf(l:List Aa):(Wb l=(Jn (l.map E1),0)/\∀c∈l,Hq c=true)∨Wb l=(⟨#[]⟩,1):=by
 have e:∀x:ByteArray,(⟨#[]⟩:ByteArray)++x=x:=fun x=>by apply Qm;simp
 have:=mU l ⟨#[]⟩;rw[e] at this;exact this
theorem Acg{l:List Aa}(h:∀c∈l,Hq c=true)(d:(Jn (l.map E1)).size<=4000):Et (Jn (l.map E1))=(l,0,0):=by
 unfold Et;rw[if_neg (by omega),Acd _ (Ace h),mV l 0 [] h,List.nil_append]
end
section
open Go.RowKit Go.Lib
def Tz(e:Int):List PanicEntry:=[{v:=.iface 30 (.int .i64 e),recovered:=false}]
theorem mW(w:World):Calls Tryz.prog 48 #[.int .i64 0] w fun e w'=>(∃v,e=.returned v)/\w'=w:=by
 go_enter Tryz.func48,Tryz.ntmps48;go_wp2_with (fail);go_end0;exact⟨⟨_,rfl⟩,rfl⟩
theorem mX(w:World)(x:Int)(d:¬x=0):Calls Tryz.prog 48 #[.int .i64 x] w fun e w'=>e=.panicked (Tz x)/\w'=w:=by
 have f:(x !=0)=true:=by simpa using d
 go_enter Tryz.func48,Tryz.ntmps48;go_wp2_with (fail);exact⟨rfl,rfl,rfl⟩
attribute [local go_sem] wpOpsS recoverD
theorem Ach(p:Addr)(w:World):CallsD Tryz.prog 83 #[.pointer (some p)] .returning w fun e f w'=>(∃v,e=.returned v)/\f=.returning/\w'=w:=by
 refine callsD_of_wpS Tryz.func83 rfl fun g h d=>?_
 apply wpS_seq;apply wpS_region;simp[wpOpsS,go_sem,recoverD,d,Tryz.ntmps83,Exit.thenS];refine wpS_of_wp ?_;go_wp2_with (fail);cases g;simp only at d;subst d;exact⟨rfl,_,rfl,_,results_none rfl _ _ _,⟨_,rfl⟩,rfl,rfl⟩
theorem Aci(p:Addr)(x:Int)(w:World)(f:Value)(k:w.cell? p=some f)(j:w.frozen? p=false)(d:List PanicEntry):CallsD Tryz.prog 83 #[.pointer (some p)] (.panicking (Tz x++d)) w fun e h w'=>
  (∃v,e=.returned v)/\h=.panicking ({v:=.iface 30 (.int .i64 x),recovered:=true}::d)/\w'=w.setCell p (.int .i64 x):=by
 refine callsD_of_wpS Tryz.func83 rfl fun l m g=>?_
 unfold Tz at g
 have i:∀w,(Instr.typeAssert (.iface 30 (.int .i64 x)) 20 30 true).run Tryz.prog w=.ok (.tuple #[.int .i64 x,.bool true]) w:=fun _=>by kernel_rfl
 apply wpS_seq;apply wpS_region;simp[wpOpsS,go_sem,recoverD,g,Tryz.ntmps83,Exit.thenS];refine wpS_of_wp ?_;go_wp2_with (fail);exact⟨rfl,_,rfl,_,results_none rfl _ _ _,⟨_,rfl⟩,rfl,rfl⟩
theorem mY(w:World)(F:Nat)(cap:Array Value)(r:∀args w,(callFunc F args).run Tryz.prog w=.ok (.enter F args) w)(Post:World→Prop)(PostE:Int→World→Prop)
  (g:∀W,Fp [] w W->w.heap.size+1<=W.heap.size->W.heap[w.heap.size]?=some (.cells #[.int .i64 0] 30 (0,0))->Calls Tryz.prog F cap W fun e W'=>W'.heap[w.heap.size]?=some (.cells #[.int .i64 0] 30 (0,0))/\(((∃v,e=.returned v)/\Post W')∨∃x,¬x=0/\e=.panicked (Tz x)/\PostE x W'))
  (s:∀A B,Post A->Fp [w.heap.size] A B->Post B)(k:∀x A B,PostE x A->Fp [w.heap.size] A B->PostE x B):
  Calls Tryz.prog 45 #[.func (.func F) #[] cap] w fun e w'=>(e=.returned (.int .i64 0)/\Post w')∨∃x,¬x=0/\e=.returned (.int .i64 x)/\PostE x w':=by
 have q:∀(n:Fn) (first cap:Array Value) (w:World),(Instr.makeFunc n first cap).run Tryz.prog w=.ok (.func n first cap) w:=fun _ _ _ _=>rfl
 have m:=a0z g;clear g
 go_enter_defers Tryz.func45,Tryz.ntmps45
 go_wp2_with (fail);(with_reducible refine(m.out _ (Fp.alloc _ _) (by simp) (Ai rfl _)).mono ?_);rintro e i ⟨d,(⟨⟨v,rfl⟩,hp⟩|⟨x,hx,rfl,hp⟩)⟩
 ·have q0:i.cell? ⟨w.heap.size,0,none⟩=some (.int .i64 0):=Ab d 0;have t:i.frozen? ⟨w.heap.size,0,none⟩=false:=Ar d 0;have h:=a0z d;have l:=a0z hp;clear d hp;go_wp2_with (fail);refine leaves_cons (f:=83) (args:=#[.pointer (some ⟨w.heap.size,0,none⟩)]) (by simp) (by simp[go_sem]) ?_;refine(Ach ⟨w.heap.size,0,none⟩ _).mono ?_;rintro e p j ⟨⟨o,rfl⟩,rfl,rfl⟩;have q1:(i.setCell ⟨w.heap.size,0,none⟩ (.int .i64 0)).cell? ⟨w.heap.size,0,none⟩=some (.int .i64 0):=Ab ((Bd h.out _).trans rfl) 0;exact⟨.int .i64 0,by simp[results,Tryz.results45,go_sem,q1],Or.inl ⟨rfl,s _ _ l.out (Fp.setCell _ ⟨w.heap.size,0,none⟩ _)⟩⟩
 ·have h:=a0z d;have l:=a0z hp;clear d hp;go_wp2_with (fail);refine leaves_cons (f:=83) (args:=#[.pointer (some ⟨w.heap.size,0,none⟩)]) (by simp) (by simp[go_sem]) ?_;refine(Aci ⟨w.heap.size,0,none⟩ x _ (.int .i64 0) (Ab h.out 0) (Ar h.out 0) []).mono ?_;rintro e p j ⟨⟨o,rfl⟩,rfl,rfl⟩;have q1:(i.setCell ⟨w.heap.size,0,none⟩ (.int .i64 x)).cell? ⟨w.heap.size,0,none⟩=some (.int .i64 x):=Ab ((Bd h.out _).trans rfl) 0;exact⟨.int .i64 x,by simp[results,Tryz.results45,go_sem,q1],Or.inr ⟨x,hx,rfl,k x _ _ l.out (Fp.setCell _ ⟨w.heap.size,0,none⟩ _)⟩⟩
end
section
open Go.RowKit
structure Ho(α:Type) where
 e:TypeId
 k:Nat
 enc:α->List Value
 len:∀x,(enc x).length=k
 pos:0<k
 one:∀x,∀v∈enc x,v.oneCell'=true
variable {α : Type} {R : Ho α}
theorem Rn(l:List α):(l.flatMap R.enc).length=l.length*R.k:=by
 induction l with
 |nil=>simp
 |cons x r ih=>rw[a2z,List.length_append,ih,R.len,List.length_cons,a0v,Nat.add_comm]
theorem V8:∀(l:List α) (i j:Nat),j<R.k→(d:i<l.length)→(l.flatMap R.enc)[i*R.k+j]?=(R.enc l[i])[j]?
 |[],_,_,_,d=>absurd d (a2v _)
 |x::r,0,j,hj,_=>by
  rw[a2z,Nat.zero_mul,a3w,List.getElem?_append_left (by rw[R.len];exact hj)];rfl
 |x::r,i+1,j,hj,d=>by
  rw[a2z,List.getElem?_append_right (by rw[R.len,a0v];omega),R.len,show(i+1)*R.k+j-R.k=i*R.k+j by rw[a0v];omega];exact V8 r i j hj _
theorem mZ(l:List α):∀u∈l.flatMap R.enc,u.oneCell'=true:=by
 intro u f;obtain⟨x,_,d⟩:=List.mem_flatMap.1 f;exact R.one x u d
theorem cQ{k x n:Nat}(h:x<n*k)(d:0<k):x/k<n/\x%k<k/\x=x/k*k+x%k:=
 ⟨Nat.div_lt_of_lt_mul (by rw[Nat.mul_comm];exact h),Nat.mod_lt _ d,(Nat.div_add_mod' x k).symm⟩
def O4(R:Ho α)(w:World)(b o:Nat)(x:α):Prop:=∀j u,(R.enc x)[j]?=some u->w.cell? ⟨b,o+j,none⟩=some u
theorem O4.fp{w w':World}{b o:Nat}{x:α}{S:List Nat}(h:O4 R w b o x)(f:Fp S w w')(g:b<w.heap.size)(i:b∉S):O4 R w' b o x:=fun j u d=>(f.cell (p:=⟨b,o+j,none⟩) g i).trans (h j u d)
structure Cf(R:Ho α)(w:World)(a:Option Addr)(n:Nat)(l:List α):Prop where
 len:n=l.length
 cells:l=[]∨∃b o,a=some ⟨b,o,none⟩/\b<w.heap.size/\∀i (h:i<l.length),O4 R w b (o+i*R.k) l[i]
theorem Cf.fp{w w':World}{a:Option Addr}{n:Nat}{l:List α}(h:Cf R w a n l)(d:Fp [] w w'):Cf R w' a n l:=by
 refine⟨h.len,?_⟩
 rcases h.cells with k|⟨b,o,e,f,j⟩
 ·exact Or.inl k
 ·exact Or.inr ⟨b,o,e,a0u f d.size,fun i g=>(j i g).fp d f (by simp)⟩
theorem Cf.get{w:World}{a:Option Addr}{n i:Nat}{l:List α}(h:Cf R w a n l)(d:i<l.length):∃b o,a=some ⟨b,o,none⟩/\b<w.heap.size/\∀w',Fp [] w w'->O4 R w' b (o+i*R.k) l[i]:=by
 rcases h.cells with m|⟨b,o,e,f,j⟩
 ·rw[m] at d;exact absurd d (a2v _)
 ·exact⟨b,o,e,f,fun w' g=>(j i d).fp g f (by simp)⟩
theorem Cf.nil(w:World)(a:Option Addr):Cf R w a 0 []:=⟨rfl,Or.inl rfl⟩
theorem Cf.take{w:World}{a:Option Addr}{n:Nat}{l:List α}(h:Cf R w a n l)(m:Nat)(k:m<=n):Cf R w a m (l.take m):=by
 have p:=h.len;refine⟨by rw[a2x];omega,?_⟩
 rcases h.cells with j|⟨b,o,e,g,f⟩
 ·left;rw[j];simp
 ·exact Or.inr ⟨b,o,e,g,fun i d=>by rw[List.getElem_take];exact f i (by rw[a2x] at d;omega)⟩
theorem Cf.drop{w:World}{b o n:Nat}{l:List α}(h:Cf R w (some ⟨b,o,none⟩) n l)(m r:Nat)(q:m+r=n):Cf R w (some ⟨b,o+m*R.k,none⟩) r (l.drop m):=by
 have s:=h.len;refine⟨by rw[List.length_drop];omega,?_⟩
 rcases h.cells with j|⟨p,o',e,g,f⟩
 ·left;rw[j];simp
 ·obtain⟨rfl,rfl⟩:b=p/\o=o':=by cases e;exact⟨rfl,rfl⟩
  refine Or.inr ⟨b,o+m*R.k,rfl,g,fun i d=>?_⟩;rw[List.length_drop] at d;have:=f (m+i) (by omega);rw[Nat.add_mul,<-Nat.add_assoc] at this;rw[List.getElem_drop];exact this
theorem Cf.one{w:World}{g:Nat}{x:α}{e:TypeId}(h:w.heap[g]?=some (.cells (R.enc x).toArray e (0,0))):Cf R w (some ⟨g,0,none⟩) 1 [x]:=by
 refine⟨rfl,Or.inr ⟨g,0,rfl,Ac h,fun i f=>?_⟩⟩
 have:i=0:=by simpa using f
 subst this;intro j u d;simp only[Nat.zero_mul,a3w];rw[Ab h,List.getElem?_toArray];exact d
def Ae(R:Ho α)(w:World)(base:Nat)(v:Value)(l:List α):Prop:=w.ownsRow base R.e R.k v l.length (l.flatMap R.enc)
theorem Ae.nil(w:World)(base:Nat):Ae R w base (.slice none 0 0) []:=World.ownsRow_nil w base _ _
theorem Ae.mono{w:World}{base d:Nat}{v:Value}{l:List α}(h:Ae R w base v l)(m:d<=base):Ae R w d v l:=by
 obtain⟨n,f⟩:=h;refine⟨n,?_⟩
 rcases f with f|⟨g,cap,i,j,k,r⟩
 ·exact Or.inl f
 ·exact Or.inr ⟨g,cap,i,j,a2w m k,r⟩
theorem Ae.lt{w:World}{base:Nat}{v:Value}{l:List α}(h:Ae R w base v l):∀k,v.ownBlock=some k->base<=k/\k<w.heap.size:=World.ownsRow.lt h
theorem Ae.kept{w w':World}{base:Nat}{v:Value}{l:List α}(h:Ae R w base v l)(n:∀k,v.ownBlock=some k->w'.heap[k]?=w.heap[k]?):Ae R w' base v l:=by
 obtain⟨o,d⟩:=h;refine⟨o,?_⟩
 rcases d with d|⟨g,cap,f,i,m,j,r⟩
 ·exact Or.inl d
 ·exact Or.inr ⟨g,cap,f,i,m,(n g (by rw[i];rfl)).trans j,r⟩
theorem Ae.fp{w w':World}{base:Nat}{v:Value}{l:List α}{S:List Nat}(h:Ae R w base v l)(g:Fp S w w')(j:∀i∈S,i<base):Ae R w' base v l:=
 h.kept fun k d=>g.block k (h.lt k d).2 (fun f=>by have:=j k f;have:=(h.lt k d).1;omega)
theorem Ae.made(w:World)(base:Nat)(d:base<=w.heap.size):Ae R (w.alloc (.cells #[] R.e)) base (.slice (some ⟨w.heap.size,0,none⟩) 0 0) []:=
 World.ownsRow_made w #[] 0 d (by decide) (by simp)
theorem Ae.open{w:World}{base:Nat}{v:Value}{l:List α}(h:Ae R w base v l)(j:0<l.length):
  ∃g cap d,v=.slice (some ⟨g,0,none⟩) l.length cap/\base<=g/\w.heap[g]?=some (.cells d R.e (0,0))/\l.length<=cap/\cap<=maxLen/\d.size=cap*R.k/\d.toList.take (l.length*R.k)=l.flatMap R.enc:=by
 rcases h.2 with⟨rfl,i⟩|f
 ·omega
 ·exact f
theorem Ae.len{w:World}{base:Nat}{v:Value}{l:List α}(h:Ae R w base v l):∃a cap,v=.slice a l.length cap/\(a=none->cap=0)/\l.length<=cap:=by
 rcases h.2 with⟨rfl,f⟩|⟨g,cap,i,rfl,_,_,d,_⟩
 ·exact⟨none,0,by rw[f],fun _=>rfl,by omega⟩
 ·exact⟨_,_,rfl,(fun h=>by cases h),d⟩
theorem Yk{d:Array Value}{l:List α}(h:d.toList.take (l.length*R.k)=l.flatMap R.enc)(i:Nat)(f:i<l.length)(j:Nat)(g:j<R.k):d[i*R.k+j]?=(R.enc l[i])[j]?:=by
 have:i*R.k+j<l.length*R.k:=a0u (by rw[a0v];omega) (a0x _ (show i+1<=l.length from f));rw[<-V8 l i j g f,<-h,a1u,if_pos this,a3z]
theorem nA{d:Array Value}{l:List α}(h:∀i (o:i<l.length),∀j,j<R.k->d[i*R.k+j]?=(R.enc l[i])[j]?):d.toList.take (l.length*R.k)=l.flatMap R.enc:=by
 apply List.ext_getElem?;intro x
 by_cases f:x<l.length*R.k
 ·obtain⟨m,g,n⟩:=cQ f R.pos;rw[a1u,if_pos f,a3z];rw[n,V8 l (x/R.k) (x%R.k) g m];exact h (x/R.k) m (x%R.k) g
 ·rw[a1u,if_neg f,List.getElem?_eq_none (by rw[Rn];omega)]
theorem Ae.at{w:World}{base:Nat}{v:Value}{l:List α}(h:Ae R w base v l):∃a cap,v=.slice a l.length cap∧(a=none→cap=0)∧l.length≤cap∧Cf R w a l.length l:=by
 by_cases s:0<l.length
 ·obtain⟨g,cap,t,rfl,z,f,n,y,x,m⟩:=h.open s;refine⟨_,_,rfl,(fun h=>by cases h),n,rfl,Or.inr ⟨g,0,rfl,Ac f,fun i p j u d=>?_⟩⟩
  have o:j<R.k:=by rw[<-R.len l[i]];exact(List.getElem?_eq_some_iff.1 d).1
  rw[a3w,Ab f,Yk m i p j o];exact d
 ·obtain⟨a,cap,e,r,q⟩:=h.len;exact⟨a,cap,e,r,q,rfl,Or.inl (List.eq_nil_of_length_eq_zero (by omega))⟩
theorem Yl(T:TypeId){z:Value}{d:Nat}(X:Tryz.prog.underlying T=some (.slice R.e))(r:(Tryz.prog.info? R.e).map (fun i=>(i.zero,i.size,i.bytes))=some (some z,R.k,d))(G:z.cells.size=R.k)(P:d≤100000)
  {w:World}{A:Array Oper}{rest:List Oper}{o:Oper}{a:Act}{Q:Exit->Act->World->Prop}(B:o.guard=none)(s x:Operand)
  (Z:o.op=.call {callee:=.builtin .append,args:=#[s,x],argTypes:=#[T,T]})(base:Nat)(v:Value)(l:List α)(Y:a.eval s=v)(f:Ae R w base v l)
  (y:Option Addr)(m c:Nat)(p:List α)(V:a.eval x=.slice y m c)(N:Cf R w y m p)(q:y=none->c=0)(aa:l.length+p.length<=1000000000)(g:base<=w.heap.size)
  (h:∀C w',Ae R w' base C (l++p)->Below base w w'->w.grownBy w' v.ownBlock->wpList Tryz.prog A Q rest (a.put o.dst C) w'):wpList Tryz.prog A Q (o::rest) a w:=by
 obtain⟨U,hi,K,J,I⟩:=info_parts r;have M:=N.len
 cases y with
 |none=>
  have:p=[]:=by
   rcases N.cells with t|⟨b,o,t,_⟩
   ·exact t
   ·cases t
  subst this;obtain rfl:=q rfl;have L:m=0:=M;subst L;refine wpList_append_own_none B s x T Z base R.e U R.k X hi v l.length (l.flatMap R.enc) Y f V ?_;exact h v w (by rw[List.append_nil];exact f) (Below.refl _ _) ⟨rfl,rfl,rfl,Nat.le_refl _,fun _ _ _=>rfl⟩
 |some y=>
  refine wpList_append_own w B s x T Z base R.e U _ R.k d X hi K J I G R.pos v l.length (l.flatMap R.enc) Y f y m c (p.flatMap R.enc) V (by rw[Rn,M]) ?_ (mZ p) (by unfold maxLen;omega) (a2w (Nat.mul_le_mul (show l.length+m<=1000000000 by omega) P) (by decide)) g ?_
  ·intro j u n
   rcases N.cells with t|⟨b,o,t,_,hc⟩
   ·subst t;simp at n
   ·obtain rfl:=Option.some.inj t
    have e1:(⟨b,o,none⟩:Addr).add j=⟨b,o+j,none⟩:=by unfold Addr.add;split<;>simp_all
    rw[e1]
    have O:j<p.length*R.k:=by rw[<-Rn (R:=R)];exact(List.getElem?_eq_some_iff.1 n).1
    obtain⟨F,E,h3⟩:=cQ O R.pos;rw[h3,V8 p _ _ E F] at n;have:=hc (j/R.k) F (j%R.k) u n;rw[Nat.add_assoc,<-h3] at this;exact this
  ·intro C w' F E _;refine h C w' ?_ ((Below.refl base w).grown E g (fun k hk=>(f.lt k hk).1)) E;unfold Ae;rw[List.length_append,List.flatMap_append,<-M];exact F
theorem cR{g:Nat}{e:TypeId}:∀(k:List Value) (o:Nat) (w:World) (f:Array Value),w.heap[g]?=some (.cells f e (0,0))→∃d:Array Value,(w.setCells g o k).heap[g]?=some (.cells d e (0,0))∧d.size=f.size∧
  (∀j,j<o->d[j]?=f[j]?)/\(∀j,j<k.length->o+j<f.size->d[o+j]?=k[j]?)/\(∀j,o+k.length<=j->d[j]?=f[j]?)/\Fp [g] w (w.setCells g o k)
 |[],o,w,f,h=>⟨f,h,rfl,fun _ _=>rfl,fun j l=>absurd l (a2v _),fun _ _=>rfl,Fp.refl _ _⟩
 |v::k,o,w,f,h=>by
  have q:(w.setCell ⟨g,o,none⟩ v).heap[g]?=some (.cells (f.setIfInBounds o v) e (0,0)):=Bd h v;obtain⟨d,x,u,m,t,s,r⟩:=cR k (o+1) (w.setCell ⟨g,o,none⟩ v) _ q;refine⟨d,x,by rw[u,Array.size_setIfInBounds],fun j l=>?_,fun j l n=>?_,fun j l=>?_,(Fp.setCell w ⟨g,o,none⟩ v).trans r (by intro i p;exact Or.inl p)⟩
  ·rw[m j (by omega),a1z,if_neg (by omega)]
  ·cases j with
   |zero=>
    rw[Nat.add_zero,m o (by omega),a1z,if_pos rfl,if_pos (by omega)];rfl
   |succ j=>
    rw[show o+(j+1)=o+1+j from by omega,t j (by simpa using l) (by rw[Array.size_setIfInBounds];omega)];rfl
  ·rw[s j (by simp at l;omega),a1z,if_neg (by simp at l;omega)]
theorem Ae.setQ{w:World}{base g i n cap:Nat}{l:List α}(x:α)(h:Ae R w base (.slice (some ⟨g,0,none⟩) n cap) l)(I:i<l.length):
  Ae R (w.setCells g (i*R.k) (R.enc x)) base (.slice (some ⟨g,0,none⟩) n cap) (l.set i x)/\Fp [g] w (w.setCells g (i*R.k) (R.enc x)):=by
 obtain⟨r,s,m,e,A,z,u,v,p,t⟩:=h.open (by omega);cases e;obtain⟨d,G,r,F,E,C,B⟩:=cR (R.enc x) (i*R.k) w m z;have f:(i+1)*R.k<=cap*R.k:=a0x _ (by omega);rw[a0v] at f;refine⟨⟨by rw[Rn],Or.inr ⟨g,cap,d,by rw[a2u],A,G,by rw[a2u];exact u,v,by rw[r];exact p,?_⟩⟩,B⟩
 refine nA fun y o j q=>?_
 rw[a2u] at o
 by_cases e:y=i
 ·subst e;rw[List.getElem_set_self,E j (by rw[R.len];exact q) (by rw[p];omega)]
 ·rw[List.getElem_set_ne (Ne.symm e),<-Yk t y o j q]
  rcases Nat.lt_or_ge y i with h|h
  ·have:(y+1)*R.k<=i*R.k:=a0x _ (by omega);rw[a0v] at this;exact F _ (by omega)
  ·have:(i+1)*R.k<=y*R.k:=a0x _ (by omega);rw[a0v] at this;exact C _ (by rw[R.len];omega)
theorem Ae.elem{w:World}{base g n cap i:Nat}{l:List α}(h:Ae R w base (.slice (some ⟨g,0,none⟩) n cap) l)(s:i<l.length):O4 R w g (i*R.k) l[i]/\(∀o,w.frozen? ⟨g,o,none⟩=false)/\base<=g/\g<w.heap.size/\n=l.length/\n<=cap:=by
 obtain⟨z,m,v,e,t,d,q,y,x,p⟩:=h.open (by omega);cases e;refine⟨fun j u f=>?_,fun o=>Ar d o,t,Ac d,rfl,q⟩
 have r:j<R.k:=by rw[<-R.len l[i]];exact(List.getElem?_eq_some_iff.1 f).1
 rw[Ab d,Yk p i s j r];exact f
theorem Ae.cut{w:World}{base g n cap m p:Nat}{l:List α}(i:List Value)(h:Ae R w base (.slice (some ⟨g,0,none⟩) n cap) l)(I:m≤l.length)(x:0<l.length)(o:p=m*R.k):
  Ae R (w.setCells g p i) base (.slice (some ⟨g,0,none⟩) m cap) (l.take m)/\Fp [g] w (w.setCells g p i):=by
 subst o;obtain⟨r,s,q,e,B,A,G,o,v,u⟩:=h.open x;cases e;obtain⟨f,F,r,E,K,J,C⟩:=cR i (m*R.k) w q A
 have d:(l.take m).length=m:=by rw[a2x];omega
 refine⟨⟨by rw[Rn],Or.inr ⟨g,cap,f,by rw[d],B,F,by rw[d];omega,o,by rw[r];exact v,?_⟩⟩,C⟩
 refine nA fun y t j z=>?_
 rw[d] at t;rw[List.getElem_take,<-Yk u y (by omega) j z];have:(y+1)*R.k<=m*R.k:=a0x _ (by omega);rw[a0v] at this;exact E _ (by omega)
theorem Ae.less{w:World}{base g n cap m:Nat}{l:List α}(h:Ae R w base (.slice (some ⟨g,0,none⟩) n cap) l)(f:m<=l.length)(d:0<l.length):Ae R w base (.slice (some ⟨g,0,none⟩) m cap) (l.take m):=(h.cut [] f d rfl).1
end
section
open Go.RowKit
structure Tf(base:Nat)(D:List TypeId)(S:List Nat)(W W':World):Prop where
 os:W'.os=W.os
 tape:W'.tape=W.tape
 output:W'.output=W.output
 size:W.heap.size<=W'.heap.size
 block:∀k,k<W.heap.size->k∉S->(base<=k->∀c T fz,W.heap[k]?=some (.cells c T fz)->T∉D)->W'.heap[k]?=W.heap[k]?
variable {base : Nat} {D : List TypeId} {S S' : List Nat} {a b c W W' : World}
theorem Tf.of(h:Fp S W W'):Tf base D S W W':=⟨h.os,h.tape,h.output,h.size,fun k f d _=>h.block k f d⟩
theorem Tf.refl(W:World):Tf base D S W W:=Tf.of (Fp.refl _ _)
theorem Tf.trans(h:Tf base D S a b)(k:Tf base D S' b c)(l:∀i∈S',i∈S∨a.heap.size<=i):Tf base D S a c:=by
 refine⟨k.os.trans h.os,k.tape.trans h.tape,k.output.trans h.output,a2w h.size k.size,fun i j g f=>?_⟩;have e:=h.block i j g f;refine(k.block i (a0u j h.size) (fun m=>?_) (fun o c T p n=>f o c T p (e▸n))).trans e
 rcases l i m with d|d
 ·exact g d
 ·omega
theorem Tf.mono(h:Tf base D S a b)(d:∀i∈S,i∈S'):Tf base D S' a b:=⟨h.os,h.tape,h.output,h.size,fun i k j g=>h.block i k (fun f=>j (d i f)) g⟩
theorem Tf.low(h:Tf base D S W W'){k:Nat}(d:k<W.heap.size)(g:k<base)(f:k∉S):W'.heap[k]?=W.heap[k]?:=h.block k d f fun i=>by omega
theorem Tf.cells(h:Tf base D S W W'){k:Nat}{c:Array Value}{T:TypeId}{g:Nat × Nat}(d:W.heap[k]?=some (.cells c T g))(j:k∉S)(i:T∉D):W'.heap[k]?=some (.cells c T g):=
 (h.block k (Array.getElem?_eq_some_iff.1 d).1 j fun _ c' T' l f=>by rw[d] at f;cases f;exact i).trans d
theorem Tf.toFp(h:Tf W.heap.size D S W W'):Fp S W W':=⟨h.os,h.tape,h.output,h.size,fun k f d=>h.block k f d fun g=>by omega⟩
theorem Tf.onto(h:Tf base D S b c)(k:Fp S' a b)(m:a.heap.size<=base)(j:∀i∈S,i∈S'∨a.heap.size<=i):Fp S' a c:=by
 refine⟨h.os.trans k.os,h.tape.trans k.tape,h.output.trans k.output,a2w k.size h.size,fun i g f=>?_⟩;refine(h.block i (a0u g k.size) (fun l=>?_) (fun n=>by omega)).trans (k.block i g f)
 rcases j i l with d|d
 ·exact f d
 ·omega
theorem Tf.grown{e:TypeId}{d n:Nat}{v:Value}{l:List Value}(h:W.ownsRow base e d v n l)(f:W.grownBy W' v.ownBlock)(o:e∈D):Tf base D S W W':=by
 refine⟨f.os,f.tape,f.output,f.size,fun k q _ p=>f.block k q fun j=>?_⟩
 rcases h.2 with⟨rfl,_⟩|⟨g,cap,r,rfl,i,m,_⟩
 ·cases j
 ·obtain rfl:k=g:=by simpa [Value.ownBlock] using j
  exact p i _ _ _ m o
section
variable {α : Type} {R : Ho α}
theorem Ae.tf{d:Nat}{v:Value}{l:List α}(h:Ae R W d v l)(j:Tf base D S W W')(n:R.e∉D)(m:∀k,v.ownBlock=some k→k∉S):Ae R W' d v l:=by
 refine h.kept fun k f=>?_
 rcases h.2 with⟨rfl,_⟩|⟨g,cap,o,rfl,_,i,_⟩
 ·cases f
 ·obtain rfl:g=k:=by simpa [Value.ownBlock] using f
  rw[i];exact j.cells i (m _ f) n
theorem Cf.tf{b o n:Nat}{l:List α}(h:Cf R W (some ⟨b,o,none⟩) n l)(f:Tf base D S W W')(p:b<base)(q:b∉S):Cf R W' (some ⟨b,o,none⟩) n l:=by
 refine⟨h.len,?_⟩
 rcases h.cells with r|⟨t,s,e,d,m⟩
 ·exact Or.inl r
 ·cases e;exact Or.inr ⟨b,o,rfl,a0u d f.size,fun i k j u g=>(World.cell?_of_block (w:=W) (f.low d p q)).trans (m i k j u g)⟩
end
end
section
section
open Go.RowKit
theorem nB{s:ByteArray}(h:s.size=0):s=⟨#[]⟩:=by
 obtain⟨⟨l⟩⟩:=s
 cases l with
 |nil=>rfl
 |cons a r=>cases h
theorem nC(s:ByteArray)(w:World)(g:s.size≤9223372036854775807):Calls Tryz.prog 224 #[.string s] w fun e w'=>e=.returned (.bool (Im s))∧w=w':=by
 by_cases d:s.size=0
 ·have H:=a0z (vA d);obtain rfl:=nB d;clear d;go_enter Tryz.func224,Tryz.ntmps224;go_wp2;go_ret;exact⟨by rw[H.out];rfl,rfl⟩
 ·have h:=Rl (a1v d)
  by_cases f:s.size<=40
  ·have H:=a0z (vB d f);clear d;go_enter Tryz.func224,Tryz.ntmps224;go_wp2;go_ret;exact⟨Ks (by rw[H.out];simp;omega),rfl⟩
  ·have H:=a0z (vC f);clear d;go_enter Tryz.func224,Tryz.ntmps224;go_wp2;go_ret;exact⟨Ks (by rw[H.out];simp;omega),rfl⟩
theorem cT(c:Aa)(w:World)(u:B3 c):Calls Tryz.prog 149 #[Bm c] w fun e w'=>e=.returned (.bool (B8 c))∧Fp [] w w':=by
 obtain⟨A,z,y,x,v⟩:=u;unfold Bm;have g:=a0z (Fp.alloc w (.cells #[.string c.row,.string c.col,.int .u64 c.ts,.int .u64 c.seq,.bool c.del,.string c.val] 80));have f:Hid (B8 c=(Im c.row&&Im c.col&&decide (c.val.size<=100)&&(!c.del||decide (c.val.size=0)))):=rfl
 obtain⟨r,s⟩:∃r,r=Im c.row:=⟨_,rfl⟩
 obtain⟨k,t⟩:∃k,k=Im c.col:=⟨_,rfl⟩
 have o:=fun w=>nC c.row w y
 have n:=fun w=>nC c.col w x
 rw[<-s] at f o;rw[<-t] at f n;have i:=a0z o;have m:=a0z n;clear o n s t
 obtain⟨q,l⟩:∃q,q=c.del:=⟨_,rfl⟩
 rw[<-l] at f g ⊢;clear l;cases r
 ·have d:Hid (B8 c=false):=f.out;go_enter Tryz.func149,Tryz.ntmps149;go_wp2_with (go_at_call 224;refine(i.out _).mono ?_;rintro e w' ⟨rfl,rfl⟩);go_ret;exact⟨by rw[d.out];rfl,g.out⟩
 cases k
 ·have d:Hid (B8 c=false):=f.out;go_enter Tryz.func149,Tryz.ntmps149;go_wp2_with (fail);refine(i.out _).mono ?_;rintro e w' ⟨rfl,rfl⟩;go_wp2_with (fail);refine(m.out _).mono ?_;rintro e w' ⟨rfl,rfl⟩;go_wp2_with (fail);go_ret;exact⟨by rw[d.out];rfl,g.out⟩
 by_cases j:c.val.size<=100
 case neg=>
  have d:Hid (B8 c=false):=by unfold Hid;rw[f.out,decide_eq_false j];rfl
  go_enter Tryz.func149,Tryz.ntmps149;go_wp2_with (fail);refine(i.out _).mono ?_;rintro e w' ⟨rfl,rfl⟩;go_wp2_with (fail);refine(m.out _).mono ?_;rintro e w' ⟨rfl,rfl⟩;go_wp2_with (fail);go_ret;exact⟨by rw[d.out];rfl,g.out⟩
 cases q
 ·have d:Hid (B8 c=true):=by unfold Hid;rw[f.out,decide_eq_true j];rfl
  go_enter Tryz.func149,Tryz.ntmps149;go_wp2_with (fail);refine(i.out _).mono ?_;rintro e w' ⟨rfl,rfl⟩;go_wp2_with (fail);refine(m.out _).mono ?_;rintro e w' ⟨rfl,rfl⟩;go_wp2_with (fail);go_ret;exact⟨by rw[d.out];rfl,g.out⟩
 by_cases h:c.val.size=0
 ·have d:Hid (B8 c=true):=by unfold Hid;rw[f.out,decide_eq_true j,decide_eq_true h];rfl
  have p:=nB h;rw[p] at g ⊢;clear h p j v;go_enter Tryz.func149,Tryz.ntmps149;go_wp2_with (fail);refine(i.out _).mono ?_;rintro e w' ⟨rfl,rfl⟩;go_wp2_with (fail);refine(m.out _).mono ?_;rintro e w' ⟨rfl,rfl⟩;go_wp2_with (fail);go_ret;exact⟨by rw[d.out];rfl,g.out⟩
 ·have d:Hid (B8 c=false):=by unfold Hid;rw[f.out,decide_eq_true j,decide_eq_false h];rfl
  have p:=Rl (a1v h);clear h;go_enter Tryz.func149,Tryz.ntmps149;go_wp2_with (fail);refine(i.out _).mono ?_;rintro e w' ⟨rfl,rfl⟩;go_wp2_with (fail);refine(m.out _).mono ?_;rintro e w' ⟨rfl,rfl⟩;go_wp2_with (fail);go_ret;exact⟨by rw[d.out];rfl,g.out⟩
theorem cU(a:Int)(w:World):Calls Tryz.prog 276 #[.int .u64 a] w fun e w'=>e=.returned (.bool false)/\w=w':=by
 go_enter Tryz.func276,Tryz.ntmps276;go_wp2;go_ret;exact⟨by simp,rfl⟩
theorem Qk{a b:Nat}(h:a<b):Ds a b= -1:=if_pos h
theorem Ql{a b:Nat}(h:b<a):Ds a b=1:=by unfold Ds;rw[if_neg (by omega),if_pos h]
theorem T8{a b:Nat}(h:¬a<b)(d:¬b<a):Ds a b=0:=by unfold Ds;rw[if_neg h,if_neg d]
theorem nD(a b:Nat)(w:World):Calls Tryz.prog 229 #[.int .u64 a,.int .u64 b] w fun e w'=>e=.returned (.int .i64 (Ds a b))∧w=w':=by
 by_cases f:a<b
 ·have H:=a0z (Qk f);go_enter Tryz.func229,Tryz.ntmps229;go_wp2_with (go_at_call 276;refine(cU _ _).mono ?_;rintro e w' ⟨rfl,rfl⟩);go_ret;exact⟨by rw[H.out];rfl,rfl⟩
 ·by_cases d:b<a
  ·have H:=a0z (Ql d);go_enter Tryz.func229,Tryz.ntmps229;go_wp2_with (go_at_call 276;refine(cU _ _).mono ?_;rintro e w' ⟨rfl,rfl⟩);go_ret;exact⟨by rw[H.out];rfl,rfl⟩
  ·have H:=a0z (T8 f d);go_enter Tryz.func229,Tryz.ntmps229;go_wp2_with (go_at_call 276;refine(cU _ _).mono ?_;rintro e w' ⟨rfl,rfl⟩);go_ret;exact⟨by rw[H.out];rfl,rfl⟩
end
section
open Go.RowKit
theorem Acj{l:List Int}{k:Nat}(h:∀x∈l.take k,x=0)(f:k<l.length)(d:l[k]≠0):Ew l=l[k]:=by
 induction l generalizing k with
 |nil=>simp at f
 |cons y r ih=>
  unfold Ew
  cases k with
  |zero=>exact if_pos d
  |succ k=>
   have:y=0:=h y (by simp);rw[if_neg (by simp[this])];exact ih (fun x d=>h x (by simp[d])) (by simpa using f) d
theorem Ack{l:List Int}(h:∀x∈l,x=0):Ew l=0:=by
 induction l with
 |nil=>rfl
 |cons y r ih=>
  unfold Ew;rw[if_neg (by simp[h y (by simp)])];exact ih (fun x d=>h x (by simp[d]))
theorem nE(w:World)(m:Nat)(l:List Int)(o:w.heap[m]?=some (.cells (l.map (Value.int .i64)).toArray 3 (0,0)))(t:l.length≤1000):
  Calls Tryz.prog 227 #[.slice (some ⟨m,0,none⟩) l.length l.length] w fun e w'=>e=.returned (.int .i64 (Ew l))/\w=w':=by
 have s:=a0z o;have r:=Ac o;clear o;go_enter Tryz.func227,Tryz.ntmps227;go_wp2
 go_loop [8] (fun i=>∃k:Nat,k<=l.length/\i=.int .i64 k/\∀x∈l.take k,x=0) (fun i=>l.length-(intOf i).toNat)
 case atStart=>exact⟨0,by omega,rfl,by simp⟩
 case round=>
  obtain⟨k,u,rfl,f⟩:=hrel;have q:=a0z f;clear f
  by_cases d:k<l.length
  ·have g:w.cell? ⟨m,k,none⟩=some (.int .i64 l[k]):=by rw[Ab s.out];simp[d]
   obtain⟨x,n⟩:∃x,x=l[k]:=⟨_,rfl⟩
   rw[<-n] at g;have p:=a0z n;clear n
   by_cases j:x=0
   ·subst j;go_wp2
    go_round
    case rel=>
     refine⟨k+1,by omega,by go_num,?_⟩;rw[List.take_succ_eq_append_getElem d];intro y h
     rcases List.mem_append.1 h with h|h
     ·exact q.out y h
     ·rw[List.mem_singleton] at h;rw[h,<-p.out]
    case measure=>simp[intOf];omega
   ·have v:(x !=0)=true:=by simpa using j
    have H:=a0z (Acj q.out d (by rw[<-p.out];exact j));clear j;go_wp2;go_ret;exact⟨by rw[H.out,<-p.out];rfl,rfl⟩
  ·have H:=a0z (Ack (l:=l) (by have:=q.out;rwa [List.take_of_length_le (by omega)] at this));go_wp2;go_ret;exact⟨by rw[H.out];rfl,rfl⟩
theorem nF(a b:Aa)(w:World):Calls Tryz.prog 156 #[Bm a,Bm b] w fun e w'=>e=.returned (.int .i64 (Df a b))∧Fp [] w w':=by
 unfold Bm;have V:Hid (Df a b=Ew [Bo a.row b.row,Bo a.col b.col,Ds b.ts a.ts,Ds b.seq a.seq]):=rfl
 obtain⟨J,o⟩:∃x,x=Bo a.row b.row:=⟨_,rfl⟩
 obtain⟨I,n⟩:∃x,x=Bo a.col b.col:=⟨_,rfl⟩
 obtain⟨Q,m⟩:∃x,x=Ds b.ts a.ts:=⟨_,rfl⟩
 obtain⟨P,l⟩:∃x,x=Ds b.seq a.seq:=⟨_,rfl⟩
 have U:∀w,Calls Tryz.prog 228 #[.string a.row,.string b.row] w fun e w'=>e=.returned (.int .i64 J)/\w'=w:=fun w=>by rw[o];exact Tryz.strings_Compare _ _ w
 have T:∀w,Calls Tryz.prog 228 #[.string a.col,.string b.col] w fun e w'=>e=.returned (.int .i64 I)/\w'=w:=fun w=>by rw[n];exact Tryz.strings_Compare _ _ w
 have M:=fun w=>nD b.ts a.ts w
 have L:=fun w=>nD b.seq a.seq w
 rw[<-o,<-n,<-m,<-l] at V;rw[<-m] at M;rw[<-l] at L;have N1:=a0z U;have N2:=a0z T;have N3:=a0z M;have N4:=a0z L;clear U T M L o n m l
 obtain⟨W,F⟩:∃W,W=(w.alloc (.cells #[.string a.row,.string a.col,.int .u64 a.ts,.int .u64 a.seq,.bool a.del,.string a.val] 80)).alloc (.cells #[.string b.row,.string b.col,.int .u64 b.ts,.int .u64 b.seq,.bool b.del,.string b.val] 80):=⟨_,rfl⟩
 have E:Fp [] w W:=by rw[F];exact(Fp.alloc _ _).alloc' _
 have q:W.heap[w.heap.size]?=some (.cells #[.string a.row,.string a.col,.int .u64 a.ts,.int .u64 a.seq,.bool a.del,.string a.val] 80 (0,0)):=by
  rw[F,Below.heap_alloc _ _ _ (by simp)];exact Ai rfl _
 have p:W.heap[w.heap.size+1]?=some (.cells #[.string b.row,.string b.col,.int .u64 b.ts,.int .u64 b.seq,.bool b.del,.string b.val] 80 (0,0)):=by
  rw[F];exact Ai (by simp) _
 have j:∀w',Fp [] W w'->w'.cell? ⟨w.heap.size,0,none⟩=some (.string a.row)/\w'.cell? ⟨w.heap.size,1,none⟩=some (.string a.col)/\w'.cell? ⟨w.heap.size,2,none⟩=some (.int .u64 a.ts)/\w'.cell? ⟨w.heap.size,3,none⟩=some (.int .u64 a.seq)/\w'.cell? ⟨w.heap.size+1,0,none⟩=some (.string b.row)/\w'.cell? ⟨w.heap.size+1,1,none⟩=some (.string b.col)/\w'.cell? ⟨w.heap.size+1,2,none⟩=some (.int .u64 b.ts)/\w'.cell? ⟨w.heap.size+1,3,none⟩=some (.int .u64 b.seq):=by
  intro w' G;have C:=(G.block _ (Ac q) (by simp)).trans q;have k:=(G.block _ (Ac p) (by simp)).trans p;exact⟨Ab C 0,Ab C 1,Ab C 2,Ab C 3,Ab k 0,Ab k 1,Ab k 2,Ab k 3⟩
 have i:=a0z j;have O:=a0z E;have HW:=a0z F;clear j E q p F;go_enter Tryz.func156,Tryz.ntmps156;go_wp2_with (fail);rw[<-HW.out];refine C9 (by kernel_rfl) (by kernel_rfl) ?_;apply Aw rfl rfl rfl
 ·intro a w d f K h;have k:=f.free 2 _ (by kernel_rfl) rfl;simp only[Oper.wp,execOp];go_simp;exact h _ d (Fp.refl _ _)
 apply Aw rfl rfl rfl
 ·intro a w d f K h;have h5:a.tmps[5]?.getD undef=_ :=f.dep 0 5 _ (by kernel_rfl) rfl;obtain⟨B,A,z,y,u,t,s,r⟩:=i.out _ d;simp only[Oper.wp,execOp];go_simp;exact h _ d (Fp.refl _ _)
 apply Aw rfl rfl rfl
 ·intro a w d f K h;have N:=f.free 3 _ (by kernel_rfl) rfl;simp only[Oper.wp,execOp];go_simp;exact h _ d (Fp.refl _ _)
 apply Aw rfl rfl rfl
 ·intro a w d f K h;have h7:a.tmps[7]?.getD undef=_ :=f.dep 2 7 _ (by kernel_rfl) rfl;obtain⟨B,A,z,y,u,t,s,r⟩:=i.out _ d;simp only[Oper.wp,execOp];go_simp;exact h _ d (Fp.refl _ _)
 apply Aw rfl rfl rfl
 ·intro a w d f K h;have h6:a.tmps[6]?.getD undef=_ :=f.dep 1 6 _ (by kernel_rfl) rfl;have h8:a.tmps[8]?.getD undef=_ :=f.dep 3 8 _ (by kernel_rfl) rfl;simp only[Oper.wp,execOp];go_simp;refine(N1.out _).mono ?_;rintro e w2 ⟨rfl,rfl⟩;exact h _ d (Fp.refl _ _)
 apply Aw rfl rfl rfl
 ·intro a w d f K h;have k:=f.free 2 _ (by kernel_rfl) rfl;simp only[Oper.wp,execOp];go_simp;exact h _ d (Fp.refl _ _)
 apply Aw rfl rfl rfl
 ·intro a w d f K h;have ap:a.tmps[10]?.getD undef=_ :=f.dep 5 10 _ (by kernel_rfl) rfl;obtain⟨B,A,z,y,u,t,s,r⟩:=i.out _ d;simp only[Oper.wp,execOp];go_simp;exact h _ d (Fp.refl _ _)
 apply Aw rfl rfl rfl
 ·intro a w d f K h;have N:=f.free 3 _ (by kernel_rfl) rfl;simp only[Oper.wp,execOp];go_simp;exact h _ d (Fp.refl _ _)
 apply Aw rfl rfl rfl
 ·intro a w d f K h;have an:a.tmps[12]?.getD undef=_ :=f.dep 7 12 _ (by kernel_rfl) rfl;obtain⟨B,A,z,y,u,t,s,r⟩:=i.out _ d;simp only[Oper.wp,execOp];go_simp;exact h _ d (Fp.refl _ _)
 apply Aw rfl rfl rfl
 ·intro a w d f K h;have ao:a.tmps[11]?.getD undef=_ :=f.dep 6 11 _ (by kernel_rfl) rfl;have am:a.tmps[13]?.getD undef=_ :=f.dep 8 13 _ (by kernel_rfl) rfl;simp only[Oper.wp,execOp];go_simp;refine(N2.out _).mono ?_;rintro e w2 ⟨rfl,rfl⟩;exact h _ d (Fp.refl _ _)
 apply Aw rfl rfl rfl
 ·intro a w d f K h;have N:=f.free 3 _ (by kernel_rfl) rfl;simp only[Oper.wp,execOp];go_simp;exact h _ d (Fp.refl _ _)
 apply Aw rfl rfl rfl
 ·intro a w d f K h;have ak:a.tmps[15]?.getD undef=_ :=f.dep 10 15 _ (by kernel_rfl) rfl;obtain⟨B,A,z,y,u,t,s,r⟩:=i.out _ d;simp only[Oper.wp,execOp];go_simp;exact h _ d (Fp.refl _ _)
 apply Aw rfl rfl rfl
 ·intro a w d f K h;have k:=f.free 2 _ (by kernel_rfl) rfl;simp only[Oper.wp,execOp];go_simp;exact h _ d (Fp.refl _ _)
 apply Aw rfl rfl rfl
 ·intro a w d f K h;have ai:a.tmps[17]?.getD undef=_ :=f.dep 12 17 _ (by kernel_rfl) rfl;obtain⟨B,A,z,y,u,t,s,r⟩:=i.out _ d;simp only[Oper.wp,execOp];go_simp;exact h _ d (Fp.refl _ _)
 apply Aw rfl rfl rfl
 ·intro a w d f K h;have aj:a.tmps[16]?.getD undef=_ :=f.dep 11 16 _ (by kernel_rfl) rfl;have ah:a.tmps[18]?.getD undef=_ :=f.dep 13 18 _ (by kernel_rfl) rfl;simp only[Oper.wp,execOp];go_simp;refine(N3.out _).mono ?_;rintro e w2 ⟨rfl,rfl⟩;exact h _ d (Fp.refl _ _)
 apply Aw rfl rfl rfl
 ·intro a w d f K h;have N:=f.free 3 _ (by kernel_rfl) rfl;simp only[Oper.wp,execOp];go_simp;exact h _ d (Fp.refl _ _)
 apply Aw rfl rfl rfl
 ·intro a w d f K h;have af:a.tmps[20]?.getD undef=_ :=f.dep 15 20 _ (by kernel_rfl) rfl;obtain⟨B,A,z,y,u,t,s,r⟩:=i.out _ d;simp only[Oper.wp,execOp];go_simp;exact h _ d (Fp.refl _ _)
 apply Aw rfl rfl rfl
 ·intro a w d f K h;have k:=f.free 2 _ (by kernel_rfl) rfl;simp only[Oper.wp,execOp];go_simp;exact h _ d (Fp.refl _ _)
 apply Aw rfl rfl rfl
 ·intro a w d f K h;have ad:a.tmps[22]?.getD undef=_ :=f.dep 17 22 _ (by kernel_rfl) rfl;obtain⟨B,A,z,y,u,t,s,r⟩:=i.out _ d;simp only[Oper.wp,execOp];go_simp;exact h _ d (Fp.refl _ _)
 apply Aw rfl rfl rfl
 ·intro a w d f K h;have ae:a.tmps[21]?.getD undef=_ :=f.dep 16 21 _ (by kernel_rfl) rfl;have ac:a.tmps[23]?.getD undef=_ :=f.dep 18 23 _ (by kernel_rfl) rfl;simp only[Oper.wp,execOp];go_simp;refine(N4.out _).mono ?_;rintro e w2 ⟨rfl,rfl⟩;exact h _ d (Fp.refl _ _)
 apply Qp (fun w' v=>∃g,v=.slice (some ⟨g,0,none⟩) 4 4/\w'.heap[g]?=some (.cells #[.int .i64 J,.int .i64 I,.int .i64 Q,.int .i64 P] 3 (0,0))) rfl rfl rfl
 ·intro a w d f K h;have h9:a.tmps[9]?.getD undef=_ :=f.dep 4 9 _ (by kernel_rfl) rfl;have al:a.tmps[14]?.getD undef=_ :=f.dep 9 14 _ (by kernel_rfl) rfl;have ag:a.tmps[19]?.getD undef=_ :=f.dep 14 19 _ (by kernel_rfl) rfl;have ab:a.tmps[24]?.getD undef=_ :=f.dep 19 24 _ (by kernel_rfl) rfl;simp only[Oper.wp,execOp];go_simp;exact h _ _ (d.alloc' _) (Fp.alloc _ _) ⟨_,rfl,Ai rfl _⟩
 apply Aw rfl rfl rfl
 ·intro a w d f K h;obtain⟨g,aa,Y⟩:=f.dep 20 25 _ (by kernel_rfl) rfl;simp only[Oper.wp,execOp];go_simp;refine(nE w g [J,I,Q,P] Y (by simp)).mono ?_;rintro e w2 ⟨rfl,rfl⟩;exact h _ d (Fp.refl _ _)
 apply Aw rfl rfl rfl
 ·intro a w d f K h;have Z:a.tmps[26]?.getD undef=_ :=f.dep 21 26 _ (by kernel_rfl) rfl;simp only[Oper.wp,execOp];go_simp;exact h _ d (Fp.refl _ _)
 refine⟨?_,?_⟩
 ·repeat(first|exact trivial|refine B7 _ ?_ |refine⟨fun w1 w2 v _ G ⟨g,C,k⟩=>⟨g,C,(G.block g (Ac k) (by simp)).trans k⟩,?_⟩)
 ·intro w' d;simp only[List.reverse_cons,List.reverse_nil,List.nil_append,List.cons_append]
  repeat(refine Am ?_)
  refine Ap ?_;intro X _
  repeat(refine Am ?_)
  refine A0 ?_;simp only[Aj,Act.put,List.setIfInBounds_toArray,List.set_cons_succ,List.set_cons_zero];have HF:=a0z (O.out.trans d (by simp));clear d;go_wp2;go_ret;exact⟨Aa3 V.out.symm,HF.out⟩
end
section
open Go.RowKit
def I7(a b:Aa):Bool:=(a.row.toList==b.row.toList)&&((a.col.toList==b.col.toList)&&(a.ts==b.ts))
theorem nG(a b:Aa)(w:World):Calls Tryz.prog 265 #[Bm a,Bm b] w fun e w'=>e=.returned (.bool (I7 a b))∧Fp [] w w':=by
 unfold Bm;go_enter Tryz.func265,Tryz.ntmps265;go_wp2_with (fail)
 go_region
 go_wp2_with (fail)
 all_goals
  go_ret;refine⟨Ks (by simp[I7, *]<;>omega),?_⟩;exact((Fp.alloc _ _).alloc' _).drew'
end
end
end Go.Proofs.YtkagolpnaicdoaaGreatDoor
