/-
 cut.Place; the laws' bound on borders. The document's Resolve, one item by one: each goes to its place (plain). The document's layer 8: Items, Cmp. The reference's Rows. Files, pure: unlike cells have unlike files; a part of a file is none; the rows of a file, one by one. The reference of layer 2: Four, Put, Get, All: what they compute is the program's. The reference of layer 3: Bits, bit, May, Make: what they compute is the program's. The reference of layer 3: Make: what it computes is the program's filter. The reference of layer 5: Parts, put, Build: what they compute is the program's. The r
-/
import Derived.Test.YtkagolpnaicdoaaGreatDoorPTabN
import Derived.Lib.SmallJoins
set_option maxRecDepth 100000
set_option maxHeartbeats 8000000
open Go.Lib renaming hid->a0z
open List renaming getElem_mem->a0x,getD_eq_getElem?_getD->a0v,length_set->a0u,getElem?_eq_getElem->a1z,take_append_drop->a1w,mem_append->a1v,mem_append_left->a1u,setIfInBounds_toArray->a2z,mem_append_right->a2x
open Go.IntKind renaming wrap_i64->a0w
open Nat renaming le_refl->a1x
namespace Go.Proofs.YtkagolpnaicdoaaGreatDoor
section
open Go.RowKit Go.Lib
def L9(bs:List ByteArray)(r:ByteArray)(k:Nat):Nat:=((bs.take k).filter fun b=>Pj b r).length
theorem Adq{bs:List ByteArray}{r:ByteArray}{k:Nat}(h:k<bs.length):L9 bs r (k+1)=L9 bs r k+(if Pj (Es bs k) r=true then 1 else 0):=by
 unfold L9;rw[List.take_succ_eq_append_getElem h,List.filter_append,List.length_append,Qj h]
 cases e:Pj bs[k] r<;>simp[e]
theorem Adr(bs:List ByteArray)(r:ByteArray)(k:Nat):L9 bs r k<=k:=by
 unfold L9;refine Nat.le_trans (List.length_filter_le _ _) ?_;rw[List.length_take];omega
theorem Ads(bs:List ByteArray)(r:ByteArray):L9 bs r bs.length=Qx bs r:=by unfold L9 Qx;rw[List.take_length]
theorem oM(w:World)(a:Option Addr)(n cap:Nat)(l:List ByteArray)(r:ByteArray)(h:Eq w a n l)(L:n≤1000000):
  Calls Tryz.prog 39 #[.slice a n cap,.string r] w fun e w'=>e=.returned (.int .i64 (Qx l r:Nat))/\Fp [] w w':=by
 have I:=a0z h;have j:=a0z h.len;clear h;go_enter Tryz.func39,Tryz.ntmps39;go_wp2_with (fail)
 go_loopg [4,9] n (fun F D C wr=>∃k:Nat,C=.int .i64 k/\D=.int .i64 (L9 l r k:Nat)/\F+k=n/\Fp [] w wr)
 case atStart=>exact⟨0,rfl,rfl,by omega,Fp.refl _ _⟩
 case round=>
  obtain⟨k,rfl,rfl,N,z⟩:=hrel;have q:=a0z z;clear z;have t:=Adr l r k
  by_cases M:k<n
  ·have B:(k:Int)<(n:Int):=by omega
   have K:IntKind.i64.wrap ((k:Int)+1)=((k+1:Nat):Int):=by rw[a0w];omega
   have f:k<l.length:=by have:=j.out;omega
   obtain⟨b,o,e,A⟩:=V6 I.out f;subst e;have q0:=A k f wr q.out;have i:=a0z (Adq (r:=r) f)
   obtain⟨s,y⟩:∃s,Es l k=s:=⟨_,rfl⟩
   obtain⟨p,u⟩:∃p,L9 l r k=p:=⟨_,rfl⟩
   rw[y] at q0 i;rw[u] at i t;rw[u]
   have J:IntKind.i64.wrap ((p:Int)+1)=((p+1:Nat):Int):=by rw[a0w];omega
   obtain⟨bl,v⟩:∃bl,(Op.bytesLess s.toList r.toList||s.toList==r.toList)=bl:=⟨_,rfl⟩
   have d:Pj s r=bl:=v;rw[d] at i;clear A y d u;cases bl
   ·have g:Hid (L9 l r (k+1)=p):=i.out;go_wp2_with (fail)
    go_roundg (gk-1)
    case measure=>omega
    case rel=>exact⟨k+1,by simp,by rw[g.out],by omega,q.out⟩
   ·have g:Hid (L9 l r (k+1)=p+1):=i.out;go_wp2_with (fail)
    go_roundg (gk-1)
    case measure=>omega
    case rel=>exact⟨k+1,by simp,by rw[g.out];simp,by omega,q.out⟩
  ·have B:¬(k:Int)<(n:Int):=by omega
   have E:k=l.length:=by have:=j.out;omega
   have G:=a0z (Ads l r);go_wp2_with (fail);go_ret;exact⟨by rw[G.out];rfl,q.out⟩
def O7(l:List ByteArray):Bool:=l.all (fun s=>decide (s.size<=100))&&decide (l.length<=20)
theorem Adt{l:List ByteArray}{k:Nat}(a:k<l.length)(h:100<(Es l k).size):O7 l=false:=by
 unfold O7;rw[Bool.and_eq_false_iff];left;rw[List.all_eq_false];refine⟨l[k],a0x a,?_⟩;rw[<-Qj a];simp;omega
theorem Adu{l:List ByteArray}(h:∀j,j<l.length->(Es l j).size<=100):O7 l=decide (l.length<=20):=by
 unfold O7;rw[show l.all (fun s=>decide (s.size<=100))=true from ?_,Bool.true_and];rw[List.all_eq_true];intro s b;obtain⟨i,a,rfl⟩:=List.getElem_of_mem b;rw[<-Qj a];exact decide_eq_true (h i a)
theorem Adv(w:World)(a:Option Addr)(n cap:Nat)(l:List ByteArray)(h:Eq w a n l)(M:n≤9223372036854775807):
  Calls Tryz.prog 9 #[.slice a n cap] w fun e w'=>e=.returned (.bool (O7 l))/\Fp [] w w':=by
 have K:=a0z h;have g:=a0z h.len
 obtain⟨R,v⟩:∃R,O7 l=R:=⟨_,rfl⟩
 rw[v];have i:=a0z v;clear h v;go_enter Tryz.func9,Tryz.ntmps9;go_wp2_with (fail)
 go_loopg [3] n (fun J F wr=>∃k:Nat,F=.int .i64 k/\J+k=n/\(∀j,j<k->(Es l j).size<=100)/\Fp [] w wr)
 case atStart=>exact⟨0,rfl,by omega,(fun j h=>absurd h (Nat.not_lt_zero _)),Fp.refl _ _⟩
 case round=>
  obtain⟨k,rfl,O,B,z⟩:=hrel;have u:=a0z z;have D:=a0z B;clear z B
  by_cases N:k<n
  ·have E:(k:Int)<(n:Int):=by omega
   have L:IntKind.i64.wrap ((k:Int)+1)=((k+1:Nat):Int):=by rw[a0w];omega
   have p:k<l.length:=by have:=g.out;omega
   obtain⟨b,o,e,A⟩:=V6 K.out p;subst e;have q0:=A k p wr u.out
   have f:Hid ((Es l k).size<=100->∀j,j<k+1->(Es l j).size<=100):=a0z fun h j G=>by
    by_cases e:j=k
    ·rw[e];exact h
    ·exact D.out j (by omega)
   have d:Hid (100<(Es l k).size->R=false):=a0z fun h=>i.out.symm.trans (Adt p h)
   obtain⟨s,y⟩:∃s,Es l k=s:=⟨_,rfl⟩
   rw[y] at q0 f d;clear A y
   by_cases t:s.size<=100
   ·have z1:¬(100:Int)<(s.size:Int):=by omega
    have r:=a0z (f.out t);go_wp2_with (fail)
    go_roundg (gk-1)
    case measure=>omega
    case rel=>exact⟨k+1,by simp,by omega,r.out,u.out⟩
   ·have z1:(100:Int)<(s.size:Int):=by omega
    have r:=a0z (d.out (by omega));go_wp2_with (fail);go_ret;exact⟨by rw[r.out];rfl,u.out⟩
  ·have E:¬(k:Int)<(n:Int):=by omega
   have C:Hid (R=decide (l.length<=20)):=a0z (i.out.symm.trans (Adu fun j G=>D.out j (by have:=g.out;omega)))
   by_cases I:n<=20
   ·have z2:(n:Int)<=(20:Int):=by omega
    have q:Hid (R=true):=a0z (C.out.trans (decide_eq_true (by have:=g.out;omega)));go_wp2_with (fail);go_ret;exact⟨by rw[q.out];rfl,u.out⟩
   ·have z2:¬(n:Int)<=(20:Int):=by omega
    have q:Hid (R=false):=a0z (C.out.trans (decide_eq_false (by have:=g.out;omega)));go_wp2_with (fail);go_ret;exact⟨by rw[q.out];rfl,u.out⟩
end
section
theorem dJ{x y:Ad}(h:Ba x y=true):Ba y x=true:=by rw[Q4];exact h
theorem oN{x y:Ad}(z:Ad)(a:Cd z)(d:Cd x)(b:Cd y)(h:Ba x y=true):Bt z x=Bt z y:=by
 have i:=Vl z h;have g:=Om a d;have f:=Om a b;omega
theorem Yx{r:List Ad}(h:D3 r){i j:Nat}(a:i<j)(b:j<r.length):Bt (r[i]'(by omega)) r[j]<0:=List.pairwise_iff_getElem.1 h i j (by omega) b a
section
variable {pre out : List Ad} {x : Ad} {m : Nat}
theorem dK(h:Bv pre out){y:Ad}(b:y∈pre++[x]):(∃z∈out,Ba z y=true)∨y=x:=by
 rcases List.mem_append.1 b with a|a
 ·exact Or.inl (h.cov y a)
 ·exact Or.inr (List.mem_singleton.1 a)
theorem Adw(v:Ce pre)(t:Cd x)(h:Bv pre out)(F:m≤out.length)(w:∀i (r:i<out.length),i<m→Bt out[i] x<0)(A:∀F:m<out.length,0<Bt out[m] x):Bv (pre++[x]) (out.take m++[x]++out.drop m):=by
 have j:Ce out:=fun y g=>v y (h.sub y g)
 have D:∀y∈out.take m,Bt y x<0:=by
  intro y g;obtain⟨i,r,rfl⟩:=List.mem_iff_getElem.1 g;rw[List.length_take] at r;rw[List.getElem_take];exact w i (by omega) (by omega)
 have C:∀y∈out.drop m,Bt x y<0:=by
  intro y g;obtain⟨i,r,rfl⟩:=List.mem_iff_getElem.1 g;rw[List.length_drop] at r;rw[List.getElem_drop];have d:=A (by omega);have k:=Om (j _ (a0x (show m<out.length by omega))) t
  rcases Nat.eq_zero_or_pos i with rfl|I
  ·have:Bt x (out[m+0]'(by omega))=Bt x (out[m]'(by omega)):=rfl;omega
  ·exact iY t (j _ (a0x (show m<out.length by omega))) (j _ (a0x _)) (by omega) (Int.le_of_lt (Yx h.ris (show m<m+i by omega) (by omega)))
 have f:∀z,z∈out.take m++[x]++out.drop m↔z∈out∨z=x:=by
  intro z
  have e:z∈out↔z∈out.take m∨z∈out.drop m:=by
   rw[<-a1v,a1w]
  rw[a1v,a1v,List.mem_singleton,e];constructor
  ·rintro((d|d)|d)
   ·exact Or.inl (Or.inl d)
   ·exact Or.inr d
   ·exact Or.inl (Or.inr d)
  ·rintro((d|d)|d)
   ·exact Or.inl (Or.inl d)
   ·exact Or.inr d
   ·exact Or.inl (Or.inr d)
 have p:∀z∈out,Ba z x=false:=by
  intro z l;rw[Vk];rw[<-a1w m out,a1v] at l
  rcases l with d|d
  ·have:=D z d;omega
  ·have k:=C z d;have G:=Om (j z (List.mem_of_mem_drop d)) t;omega
 have n:=List.pairwise_append.1 (show D3 (out.take m++out.drop m) by rw[a1w];exact h.ris);refine⟨?_,fun z l=>?_,fun z l y g o=>?_,fun y g=>?_⟩
 ·refine List.pairwise_append.2 ⟨List.pairwise_append.2 ⟨n.1,List.pairwise_singleton _ _,fun a B b s=>?_⟩,n.2.1,fun a B b s=>?_⟩
  ·rw[List.mem_singleton.1 s];exact D a B
  ·rcases List.mem_append.1 B with d|d
   ·exact n.2.2 a d b s
   ·rw[List.mem_singleton.1 d];exact C b s
 ·rcases(f z).1 l with d|d
  ·exact a1u _ (h.sub z d)
  ·rw[d];exact a2x _ (List.mem_singleton.2 rfl)
 ·rcases(f z).1 l with d|d
  ·rcases List.mem_append.1 g with k|k
   ·exact h.last z d y k o
   ·rw[List.mem_singleton.1 k] at o;rw[p z d] at o;cases o
  ·subst d
   rcases List.mem_append.1 g with k|k
   ·obtain⟨q,E,u⟩:=h.cov y k;have:=p q E;rw[Nr u (dJ o)] at this;cases this
   ·rw[List.mem_singleton.1 k];exact a1x _
 ·rcases dK h g with⟨z,l,o⟩|rfl
  ·exact⟨z,(f z).2 (Or.inl l),o⟩
  ·exact⟨y,(f y).2 (Or.inr rfl),Xx _⟩
theorem Adx(h:Bv pre out)(k:m<out.length)(j:Ba out[m] x=true)(l:x.pos≤out[m].pos)(g:Ce out):Bv (pre++[x]) out:=by
 refine⟨h.ris,fun z b=>a1u _ (h.sub z b),fun z b y f a=>?_,fun y f=>?_⟩
 ·rcases List.mem_append.1 f with i|i
  ·exact h.last z b y i a
  ·rw[List.mem_singleton.1 i] at a ⊢;have e:=h.ris.same g b (a0x k) (Nr a (dJ j));rw[e];exact l
 ·rcases dK h f with⟨z,b,d⟩|rfl
  ·exact⟨z,b,d⟩
  ·exact⟨_,a0x k,j⟩
theorem Ady(w:Ce pre)(v:Cd x)(h:Bv pre out)(u:m<out.length)(p:Ba out[m] x=true)(F:out[m].pos≤x.pos):Bv (pre++[x]) (out.set m x):=by
 have g:Ce out:=fun y o=>w y (h.sub y o)
 have s:=g _ (a0x u)
 have b:∀i (a:i<out.length),(out.set m x)[i]'(by rw[a0u];exact a)=if m=i then x else out[i]:=fun i a=>by rw[List.getElem_set]
 have n:∀i (a:i<out.length),i≠m->Ba out[i] x=false:=by
  intro i a n;rw[Vk]
  rcases Nat.lt_or_gt_of_ne n with C|C
  ·have d:=Yx h.ris C u;rw[oN _ (g _ (a0x a)) s v p] at d;omega
  ·have d:=Yx h.ris C a;rw[Vl _ p] at d;have G:=Om (g _ (a0x a)) v;omega
 have k:∀z∈out.set m x,z=x∨∃i,∃a:i<out.length,i≠m/\z=out[i]:=by
  intro z l;obtain⟨i,a,rfl⟩:=List.mem_iff_getElem.1 l;rw[a0u] at a;rw[b i a]
  by_cases e:m=i
  ·exact Or.inl (if_pos e)
  ·exact Or.inr ⟨i,a,fun h=>e h.symm,if_neg e⟩
 have r:x∈out.set m x:=List.mem_iff_getElem.2 ⟨m,by rw[a0u];exact u,by rw[b m u,if_pos rfl]⟩;refine⟨List.pairwise_iff_getElem.2 fun i j a A B=>?_,fun z l=>?_,fun z l y o f=>?_,fun y o=>?_⟩
 ·rw[a0u] at a A;rw[b i a,b j A];have d:=Yx h.ris B A
  by_cases E:m=i
  ·rw[if_pos E,if_neg (by omega)];subst E;rw[<-Vl _ p];exact d
  ·rw[if_neg E]
   by_cases D:m=j
   ·rw[if_pos D];subst D;rw[<-oN _ (g _ (a0x a)) s v p];exact d
   ·rw[if_neg D];exact d
 ·rcases k z l with rfl|⟨i,a,-,rfl⟩
  ·exact a2x _ (List.mem_singleton.2 rfl)
  ·exact a1u _ (h.sub _ (a0x a))
 ·rcases k z l with rfl|⟨i,a,t,rfl⟩
  ·rcases List.mem_append.1 o with d|d
   ·have:=h.last _ (a0x u) y d (Nr p f);omega
   ·rw[List.mem_singleton.1 d];exact a1x _
  ·rcases List.mem_append.1 o with d|d
   ·exact h.last _ (a0x a) y d f
   ·rw[List.mem_singleton.1 d,n i a t] at f;cases f
 ·rcases dK h o with⟨z,l,q⟩|rfl
  ·obtain⟨i,a,rfl⟩:=List.mem_iff_getElem.1 l
   by_cases e:i=m
   ·subst e;exact⟨x,r,Nr (dJ p) q⟩
   ·exact⟨out[i],List.mem_iff_getElem.2 ⟨i,by rw[a0u];exact a,by rw[b i a,if_neg (fun h=>e h.symm)]⟩,q⟩
  ·exact⟨y,r,Xx _⟩
end
end
section
open Go.RowKit Go.Lib
def Fg:Ho Ad:={Bz with e:=94}
theorem Tryz.infoRi:(Tryz.prog.info? 94).map (fun i=>(i.zero,i.size,i.bytes))=some (some (.agg #[.string ⟨#[]⟩,.string ⟨#[]⟩,.int .u64 0,.int .u64 0,.bool false,.string ⟨#[]⟩,.int .i64 0]),7,80):=by kernel_rfl
theorem Adz{w:World}{f:Array Oper}{rest:List Oper}{o:Oper}{a:Act}{Q:Exit→Act→World→Prop}(n:o.guard=none)(s x:Operand)
  (t:o.op=.call {callee:=.builtin .append,args:=#[s,x],argTypes:=#[89,89]})(base:Nat)(v:Value)(l:List Ad)(r:a.eval s=v)(g:Ae Fg w base v l)
  (k:Option Addr)(m c:Nat)(j:List Ad)(q:a.eval x=.slice k m c)(u:Cf Fg w k m j)(b:k=none->c=0)(i:l.length+j.length<=1000000000)(d:base<=w.heap.size)
  (h:∀p w',Ae Fg w' base p (l++j)->Below base w w'->w.grownBy w' v.ownBlock->wpList Tryz.prog f Q rest (a.put o.dst p) w'):wpList Tryz.prog f Q (o::rest) a w:=
 Yl (R:=Fg) 89 Tryz.underlying89 Tryz.infoRi rfl (by decide) n s x t base v l r g k m c j q u b i d h
theorem Ad0(w:World)(a:Option Addr)(n cap:Nat)(l:List Aa)(z:Bh w a n l)(Z:n≤1000000):
  Calls Tryz.prog 42 #[.slice a n cap] w fun e w'=>∃v,e=.returned v/\Ae Fg w' w.heap.size v (Dj l)/\Fp [] w w':=by
 have W:=a0z z;have q:=a0z z.len;clear z;go_enter Tryz.func42,Tryz.ntmps42;go_wp2_with (fail)
 go_loopg [3,4] n (fun g E L wr=>∃(k:Nat) (v:Value),g+k=n/\v=E/\L=.int .i64 k/\Ae Fg wr w.heap.size v (Jp l k)/\Fp [] w wr)
 case atStart=>exact⟨0,_,by omega,rfl,rfl,Ae.made _ _ (a1x _),Fp.alloc _ _⟩
 case round=>
  obtain⟨k,E,hg,rfl,rfl,F,G⟩:=hrel;have J:=a0z F;have u:=a0z G;clear F G;have T:w.heap.size<=wr.heap.size:=u.out.size
  by_cases S:k<n
  ·have K:(k:Int)<(n:Int):=by omega
   have o:k<l.length:=by rw[<-q.out];exact S
   have f:=pH l k;have j:=Qq l k;have C:=a0z j;rw[show l.getD k Az=l[k] by rw[a0v,a1z o];rfl] at f;obtain⟨b1,t,rfl,_,b⟩:=Lj W.out o
   obtain⟨c,I⟩:∃c,l[k]=c:=⟨_,rfl⟩
   rw[I] at b f;obtain⟨r,V,M,N,U,y⟩:=c;have B:=a0z f;obtain⟨q0,q1,R,Q,P,O⟩:=b wr u.out;simp only at q0 q1 R Q P O
   have Y:IntKind.i64.wrap ((k:Int)+1)=((k+1:Nat):Int):=by rw[a0w];omega
   have s:Hid (∀t,Fp [] wr (wr.alloc t)):=fun t=>Fp.alloc wr t
   clear b I f j;go_wp2_with (at_builtin;(refine Adz rfl _ _ rfl w.heap.size _ (Jp l k) rfl (J.out.fp (s.out _) (by simp)) _ _ _ [⟨⟨r,V,M,N,U,y⟩,k⟩] rfl (Cf.one (Ai (by simp) _)) (fun h=>by cases h) (by have:=C.out;simp;omega) (by simp;omega) ?_);intro X w2 d p _;have i:=a0z d;have D:=a0z p;clear d p)
   go_roundg (gk-1)
   case measure=>omega
   case rel=>exact⟨k+1,_,by omega,rfl,by simp,by rw[B.out];exact i.out,(u.out.trans (s.out _) (by simp)).belowTrans D.out⟩
  ·have K:¬(k:Int)<(n:Int):=by omega
   have A:k=l.length:=by have:=q.out;omega
   have d:=J.out;rw[A] at d;have i:=a0z d;clear d;go_wp2_with (fail);go_ret;exact⟨_,rfl,i.out,u.out⟩
theorem oO(x y:Ad)(w:World):Calls Tryz.prog 80 #[Ik x,Ik y] w fun e w'=>e=.returned (.int .i64 (D2 x y))∧Fp [] w w':=by
 have p:=a0z (fun w=>iQ (I2 x) (I2 y) w);have d:=Oo x y;rw[show Df (I2 x) (I2 y)=Bt x y from rfl] at p
 obtain⟨u,s⟩:∃z,Bt x y=z:=⟨_,rfl⟩
 obtain⟨r,L⟩:∃z,D2 x y=z:=⟨_,rfl⟩
 rw[s] at p d;rw[L] at d ⊢;clear s L;obtain⟨⟨I,K,G,xs,J,F⟩,b⟩:=x;obtain⟨⟨C,E,B,ys,D,A⟩,a⟩:=y;unfold Ik Jo;unfold Bm I2 at p;simp only at p d ⊢
 have f:Hid ((¬u=0∧r=u)∨(u=0∧b<a∧r=1)∨(u=0∧a<b∧r= -1)∨(u=0∧b=a∧r=0)):=by
  rcases d with h|⟨g,o⟩
  ·exact Or.inl h
  ·right
   rcases Nat.lt_trichotomy b a with k|k|k
   ·exact Or.inl ⟨g,k,by rw[o,Ql k]⟩
   ·exact Or.inr (Or.inr ⟨g,k,by rw[o,T8 (by omega) (by omega)]⟩)
   ·exact Or.inr (Or.inl ⟨g,k,by rw[o,Qk k]⟩)
 clear d
 obtain⟨W,t⟩:∃W,W=(w.alloc (.cells #[.string I,.string K,.int .u64 G,.int .u64 xs,.bool J,.string F,.int .i64 b] 94)).alloc (.cells #[.string C,.string E,.int .u64 B,.int .u64 ys,.bool D,.string A,.int .i64 a] 94):=⟨_,rfl⟩
 have v:Hid (Fp [] w W):=by rw[t];exact(Fp.alloc _ _).alloc' _
 have n:Hid (W.heap[w.heap.size]?=some (.cells #[.string I,.string K,.int .u64 G,.int .u64 xs,.bool J,.string F,.int .i64 b] 94 (0,0))):=by
  rw[t];exact Bw (Ai rfl _)
 have l:Hid (W.heap[w.heap.size+1]?=some (.cells #[.string C,.string E,.int .u64 B,.int .u64 ys,.bool D,.string A,.int .i64 a] 94 (0,0))):=by
  rw[t];exact Ai (by simp) _
 go_enter Tryz.func80,Tryz.ntmps80;go_wp2_with (fail);refine(p.out _).mono ?_;rintro e w2 ⟨rfl,q⟩
 have i:Fp [] W w2:=by rw[t];exact((Fp.alloc _ _).alloc' _).trans q (by simp)
 have N:w2.cell? ⟨w.heap.size,6,none⟩=some (.int .i64 b):=by rw[i.cell (Ac n.out) (by simp)];exact Ab n.out 6
 have M:w2.cell? ⟨w.heap.size+1,6,none⟩=some (.int .i64 a):=by rw[i.cell (Ac l.out) (by simp)];exact Ab l.out 6
 have j:=a0z (v.out.trans i (by simp));clear i q t v n l p
 rcases f.out with⟨g,rfl⟩|⟨g,o,rfl⟩|⟨g,o,rfl⟩|⟨g,o,rfl⟩
 ·clear f;go_wp2_with (fail);go_ret;exact⟨rfl,j.out⟩
 ·subst g
  have z1:¬(b:Int)>(a:Int):=by omega
  have z2:(b:Int)<(a:Int):=by omega
  clear f;go_wp2_with (fail);go_ret;exact⟨rfl,j.out⟩
 ·subst g
  have z1:(b:Int)>(a:Int):=by omega
  clear f;go_wp2_with (fail);go_ret;exact⟨rfl,j.out⟩
 ·subst g
  have z1:¬(b:Int)>(a:Int):=by omega
  have z2:¬(b:Int)<(a:Int):=by omega
  clear f;go_wp2_with (fail);go_ret;exact⟨rfl,j.out⟩
end
section
open Go.RowKit
end
section
open Go.RowKit
end
section
section
open Go.RowKit Go.Lib
end
section
open Go.RowKit Go.Lib
end
section
open Go.RowKit Go.Lib
end
section
open Go.RowKit Go.Lib
end
section
open Go.RowKit Go.Lib
theorem Ad1(w:World)(bt:Nat)(F:M9)(f:Na w bt F)(B:0<F.l.length)(hn:F.l.length≤1000000):
  Calls Tryz.prog 38 #[.pointer (some ⟨bt,0,none⟩)] w fun e w'=>e=.returned (.tuple #[.string (Qu F.l),.string (Qv F.l)])/\Fp [] w w':=by
 obtain⟨pv,b,o,J,u,Y⟩:=f.ex;obtain⟨pa,pn,pc,rfl⟩:=Y.slice;obtain⟨M,L⟩:=qL u Y;have HB:=a0z J;have D:=a0z L;have I:=a0z u
 obtain⟨l,V⟩:∃x,F.l=x:=⟨_,rfl⟩
 rw[V] at M D I B hn;rw[V];have U:Bl l=(l.length+7)/8:=rfl
 have af:1<=pn:=by omega
 obtain⟨n,T⟩:∃x,pn-1=x:=⟨_,rfl⟩
 have z:n<(Lp b o l).length:=by rw[Ur];omega
 have A:0<(Lp b o l).length:=by rw[Ur];omega
 obtain⟨R,rfl,q⟩:=D.out.get z;obtain⟨g1',eg,j⟩:=D.out.get A
 obtain rfl:R=g1':=by cases eg;rfl
 have X:8*n<l.length:=by omega
 obtain⟨m0,O⟩:∃x,min 8 (l.length-8*0)=x:=⟨_,rfl⟩
 obtain⟨m1,N⟩:∃x,min 8 (l.length-8*n)=x:=⟨_,rfl⟩
 have ah:1<=m0:=by omega
 have ag:1<=m1:=by omega
 obtain⟨y,S⟩:∃x,m1-1=x:=⟨_,rfl⟩
 have p:8*n+y=l.length-1:=by omega
 have aa:Hid (∀w',Fp [] w w'->w'.cell? ⟨R,n,none⟩=some (.slice (some ⟨b,o+8*n*6,none⟩) m1 m1)):=fun w' f=>by
  rw[q w' f,eA z,N]
 have ab:Hid (∀w',Fp [] w w'->w'.cell? ⟨R,0,none⟩=some (.slice (some ⟨b,o,none⟩) m0 m0)):=fun w' f=>by
  rw[j w' f,eA A,O];simp
 obtain⟨b,o,ea,aj,Q⟩:=Lj (k:=0) I.out B;obtain⟨b2,o2,Z,ai,P⟩:=Lj (k:=8*n+y) I.out (by omega)
 injection ea with ea
 injection ea with ea1 ea2
 injection Z with Z
 injection Z with eb1 eb2
 subst ea1 ea2 eb1 eb2
 have G:Hid (Qu l=(l[0]'B).row):=by
  unfold Hid Qu;rw[a0v,a1z B];rfl
 have E:Hid (Qv l=(l[8*n+y]'(by omega)).row):=by
  unfold Hid Qv;rw[<-p,a0v,a1z (by omega)];rfl
 obtain⟨c0,s⟩:∃c,(l[0]'B).row=c:=⟨_,rfl⟩
 obtain⟨c1,r⟩:∃c,(l[8*n+y]'(by omega)).row=c:=⟨_,rfl⟩
 have ad:Hid (∀w',Fp [] w w'->w'.cell? ⟨b,o,none⟩=some (.string c0)):=fun w' f=>by
  have h:=(Q w' f).c0;rw[s,Nat.zero_mul,Nat.add_zero] at h;exact h
 have ac:Hid (∀w',Fp [] w w'->w'.cell? ⟨b,o+8*n*6+y*6,none⟩=some (.string c1)):=fun w' f=>by
  have h:=(P w' f).c0;rw[r,Nat.add_mul,<-Nat.add_assoc] at h;exact h
 rw[s] at G;rw[r] at E;rw[G.out,E.out]
 have C:Hid (∀w',Fp [] w w'->w'.cell? ⟨bt,4,none⟩=some (.slice (some ⟨R,0,none⟩) pn pc)):=fun w' f=>Ab ((f.block _ (Ac HB.out) (by simp)).trans HB.out) 4
 have q4:=C.out w (Fp.refl _ _)
 have ak:((pn:Int)==0)=false:=by rw[beq_eq_false_iff_ne];omega
 have n1:IntKind.i64.wrap ((pn:Int)-1)=(n:Int):=by rw[a0w];omega
 have n2:IntKind.i64.wrap ((m1:Int)-1)=(y:Int):=by rw[a0w];omega
 have z1:(n:Int)<(pn:Int):=by omega
 have z2:(y:Int)<(m1:Int):=by omega
 have z3:0<m0:=by omega
 have z4:0<pn:=by omega
 clear f J u Y M L V U T z A q j X O N S p Q P s r eg G E;go_enter Tryz.func38,Tryz.ntmps38;go_wp2_with (fail);refine C9 (by kernel_rfl) (by kernel_rfl) ?_
 iterate 13
  apply Aw rfl rfl rfl
  ·intro a w i d K W
   try have B:=d.fr 0 rfl
   try have bc:=d.eq 0 11 rfl
   try have bb:=d.eq 1 12 rfl
   try have ba:=d.eq 2 13 rfl
   try have a8:=d.eq 4 15 rfl
   try have a7:=d.eq 5 16 rfl
   try have a6:=d.eq 6 17 rfl
   try have a5:=d.eq 7 18 rfl
   try have a4:=d.eq 8 19 rfl
   try have a9:=d.eq 3 14 rfl
   try have a3:=d.eq 9 20 rfl
   try have a2:=d.eq 10 21 rfl
   try have a1:=d.eq 11 22 rfl
   have q4:=C.out _ i;have q1:=aa.out _ i;simp only[Oper.wp,execOp];go_simp;exact W _ i (Fp.refl _ _)
 refine⟨?_,?_⟩
 ·repeat(first|exact trivial|refine B7 _ ?_ |refine⟨fun w1 w2 v _ f ⟨g,J,u⟩=>⟨g,J,(f.block g (Ac u) (by simp)).trans u⟩,?_⟩)
 ·intro w' i;simp only[List.reverse_cons,List.reverse_nil,List.nil_append,List.cons_append]
  iterate 13 (refine Am ?_)
  refine A0 ?_;simp only[Aj,Act.put,a2z,List.set_cons_succ,List.set_cons_zero];have t:=a0z i;clear i;go_wp2_with (fail);refine C9 (by kernel_rfl) (by kernel_rfl) ?_
  iterate 18
   apply Aw rfl rfl rfl
   ·intro a w i d K W
    try have B:=d.fr 0 rfl
    try have a0:=d.eq 0 23 rfl
    try have aS:=d.eq 1 24 rfl
    try have aF:=d.eq 2 25 rfl
    try have az:=d.eq 3 26 rfl
    try have ay:=d.eq 4 27 rfl
    try have ax:=d.eq 5 28 rfl
    try have aw:=d.eq 6 29 rfl
    try have av:=d.eq 7 30 rfl
    try have h4:=d.fr 4 rfl
    try have aq:=d.eq 10 33 rfl
    try have ap:=d.eq 11 34 rfl
    try have ar:=d.eq 9 32 rfl
    try have ao:=d.eq 12 35 rfl
    try have an:=d.eq 13 36 rfl
    try have am:=d.eq 14 37 rfl
    try have au:=d.eq 8 31 rfl
    try have al:=d.eq 15 38 rfl
    have q4:=C.out _ (t.out.trans i (by simp));have q0:=ab.out _ (t.out.trans i (by simp));have p0:=ad.out _ (t.out.trans i (by simp));have n:=ac.out _ (t.out.trans i (by simp));simp only[Oper.wp,execOp];go_simp;exact W _ i (Fp.refl _ _)
  refine⟨?_,?_⟩
  ·repeat(first|exact trivial|refine B7 _ ?_ |refine⟨fun w1 w2 v _ f ⟨g,J,u⟩=>⟨g,J,(f.block g (Ac u) (by simp)).trans u⟩,?_⟩)
  ·intro w' i;simp only[List.reverse_cons,List.reverse_nil,List.nil_append,List.cons_append]
   iterate 18 (refine Am ?_)
   refine A0 ?_;simp only[Aj,Act.put,a2z,List.set_cons_succ,List.set_cons_zero];have ae:=a0z (t.out.trans i (by simp));clear i;go_wp2_with (fail);refine bodyPost_ret (v:=.tuple #[.string c0,.string c1]) (by simp[results,Tryz.results38,go_sem, *]) rfl ⟨rfl,ae.out⟩
end
section
open Go.RowKit Go.Lib
end
end
section
open Go.RowKit Go.Lib Go.Sort
def Mc(w:World):Prop:=TabIs Tryz.prog w "internal/strconv.uint64pow10" .u64 pow10Tab
theorem Mc.fp{w w':World}(h:Mc w)(a:Fp [] w w'):Mc w':=
 Joins.tab_stays (g:=1) (by kernel_rfl) h (a.below (a1x _) (by simp)) (a1x _)
theorem Fp.grow(w:World)(k:Nat)(os:Array Obj):Fp [] w (grow (w.drewN k) os):=
 ⟨rfl,rfl,rfl,by show _ <=(w.heap++os).size;rw[Array.size_append];omega,fun i a _=>by show(w.heap++os)[i]?=_;rw[Array.getElem?_append_left a]⟩
theorem Ad2(w:World)(o:Obj)(d:Array UInt8)(k:Nat):∃os,(putRow (fun(b:UInt8)=>Value.int .u8 (b.toNat:Int)) (w.alloc o) w.heap.size 0 d).drewN k=grow (w.drewN k) os:=by
 rw[alloc_eq_grow];obtain⟨a,_,e⟩:=putRow_grow_new (fun(b:UInt8)=>Value.int .u8 (b.toNat:Int)) w #[o] w.heap.size 0 d (a1x _);exact⟨a,by rw[e];rfl⟩
theorem Ad3(w:World)(T:TypeId)(nd:Nat)(f:nd<=24):Holds (fun(b:UInt8)=>Value.int .u8 (b.toNat:Int)) (w.alloc (.cells zeros24 T)) w.heap.size 0 (Array.replicate nd (0:UInt8)):=fun j a=>by
 have d:j<nd:=by simpa using a
 refine⟨?_,World.frozen?_alloc_new _ _ _ _⟩;rw[World.cell?_alloc_new,zeros24_at _ (by omega),getElem!_pos _ j a];simp
theorem Ad4(u:Nat)(a:u<18446744073709551616)(w:World)(f:Mc w):
  Calls Tryz.prog 121 #[.int .u64 u,.int .i64 10] w fun e w'=>e=.returned (.string ⟨(decDigits u).toArray⟩)/\Fp [] w w':=by
 by_cases y:u<100
 ·have H:=a0z (fun w=>Tryz.internal_strconv_small u y w);go_enter Tryz.func121,Tryz.ntmps121;go_wp2_with (fail);(with_reducible refine(H.out _).mono ?_);rintro e w' ⟨rfl,rfl⟩;go_wp2_with (fail);go_ret;exact⟨rfl,Fp.refl _ _⟩
 ·have i:1≤u:=by omega
  have p:nDigits u<=20:=by have:=numDigits_eq u i a;split at this<;>omega
  have l:Tryz.prog.arrayLen 260=24:=by simp[Program.arrayLen,Tryz.underlying260]
  have v:∀W,(Instr.sliceAt 260 (.pointer (some ⟨w.heap.size,0,none⟩)) none (some (.int .i64 (nDigits u:Int))) none).run Tryz.prog W=.ok (.slice (some ⟨w.heap.size,0,none⟩) (nDigits u) 24) W:=fun W=>by
   rw[run_sliceAt_array_h W 260 ⟨w.heap.size,0,none⟩ (by simp[Program.arrayLen,Program.elem,Tryz.underlying260]) .i64 (nDigits u:Int) (by omega) (by rw[l];omega)];go_simp
  have g:=Ad3 w 260 (nDigits u) (by omega);have d:=Tryz.internal_strconv_formatBase10 w.heap.size 0 24 u (Array.replicate (nDigits u) 0) (w.alloc (.cells zeros24 260)) g (by rw[Array.size_replicate];exact lt_pow_nDigits u) a (by rw[Array.size_replicate];omega);rw[Array.size_replicate] at d;have t:=a0z g;have o:=a0z d;have s:=a0z (fun w (h:Mc w)=>Tryz.internal_strconv_numDigits u i a w h);have B:=a0z f;clear g l d f;go_enter Tryz.func121,Tryz.ntmps121;go_wp2_with (fail);(with_reducible refine(s.out _ (B.out.fp (Fp.alloc _ _))).mono ?_);rintro e w' ⟨rfl,rfl⟩;go_wp2_with (fail);refine o.out.mono ?_;rintro e w' ⟨rfl,k,C,n,rfl,r⟩
  have z:(convert 113 9 (.slice (some ⟨w.heap.size,0,none⟩) (nDigits u) 24)).run Tryz.prog ((putRow (fun(b:UInt8)=>Value.int .u8 (b.toNat:Int)) (w.alloc (.cells zeros24 260)) w.heap.size 0 n).drewN k)=.ok (.string ⟨(decDigits u).toArray⟩) ((putRow (fun(b:UInt8)=>Value.int .u8 (b.toNat:Int)) (w.alloc (.cells zeros24 260)) w.heap.size 0 n).drewN k):=by
   have h:=run_convert_bytes_back (P:=Tryz.prog) ((putRow (fun(b:UInt8)=>Value.int .u8 (b.toNat:Int)) (w.alloc (.cells zeros24 260)) w.heap.size 0 n).drewN k) 113 9 5 ⟨w.heap.size,0,none⟩ 24 (decDigits u) Tryz.underlying113 Tryz.underlying5 Tryz.underlying9 (fun j q=>by
    rw[row_is_numeral r j q,Lib.add_plain,World.cell?_drewN]
    exact cell?_putRow (fun(b:UInt8)=>Value.int .u8 (b.toNat:Int)) _ w.heap.size 0 _ n t.out (by rw[r.size,Array.size_replicate]) j (by rw[r.size];rw[decDigits_length] at q;exact q))
   rw[decDigits_length] at h;exact h
  go_wp2_with (fail);go_ret;obtain⟨os,A⟩:=Ad2 w (.cells zeros24 260) n k;exact⟨rfl,by rw[A];exact Fp.grow _ _ _⟩
theorem Ad5(u:Nat)(b:u<18446744073709551616)(w:World)(a:Mc w):
  Calls Tryz.prog 69 #[.int .u64 u,.int .i64 10] w fun e w'=>e=.returned (.string ⟨(decDigits u).toArray⟩)/\Fp [] w w':=by
 have H:=a0z (fun w h=>Ad4 u b w h);have f:=a0z a;clear a;go_enter Tryz.func69,Tryz.ntmps69;go_wp2_with (fail);(with_reducible refine(H.out _ f.out).mono ?_);rintro e i ⟨rfl,d⟩;have g:=a0z d;clear d;go_wp2_with (fail);go_ret;exact⟨rfl,g.out⟩
end
end Go.Proofs.YtkagolpnaicdoaaGreatDoor
