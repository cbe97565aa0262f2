/-
 crc.All: the texts that lie one behind the other (an iterator, ranged over). A file's foot: numbers of some bytes; texts with their sums, as table writes them. table.parted: a list of cells in parts of eight (slices.Chunk, an iterator, ranged over).
-/
import Derived.Test.YtkagolpnaicdoaaGreatDoorPCrc
set_option maxRecDepth 100000
set_option maxHeartbeats 8000000
open Go.Lib renaming hid->a0z
open List renaming length_cons->a0x,cons_append->a0w,setIfInBounds_toArray->a0v,nil_append->a0u,length_append->a1z,getElem?_cons_zero->a1x,not_mem_nil->a1w,map_append->a1v,set_cons_succ->a1u,set_cons_zero->a2z,mem_cons->a2x,reverse_cons->a2w,reverse_nil->a2u,getElem?_toArray->a3w
open Go.IntKind renaming wrap_i64->a2v,wrap_u64->a3z
open ByteArray renaming size_extract->a3x
open Array renaming replicate_succ->a3v,replicate_zero->a3u
namespace Go.Proofs.YtkagolpnaicdoaaGreatDoor
section
open Go.RowKit
def Jq:Nat->Nat->ByteArray->List (Nat × ByteArray)
 |0,_,_=>[]
 |n+1,at_,s=>if(B4 (s.extract at_ s.size)).2.2=0 then(at_+(B4 (s.extract at_ s.size)).2.1,(B4 (s.extract at_ s.size)).1)::Jq n (at_+(B4 (s.extract at_ s.size)).2.1) s else[]
def Dy(s:ByteArray):List (Nat × ByteArray):=Jq (s.size+1) 0 s
theorem pJ(s:ByteArray):((B4 s).2.2=0∧(B4 s).2.1=Gq s∧6≤Gq s∧Gq s≤s.size∧(B4 s).1=s.extract 6 (Gq s))∨((B4 s).2.2≠0∧(B4 s).2.2<256∧(B4 s).1=⟨#[]⟩):=by
 by_cases a:s.size=0
 ·right;rw[Vo a];exact⟨by decide,by decide,rfl⟩
 ·by_cases b:s.size<6
  ·right;rw[jH a b];exact⟨by decide,by decide,rfl⟩
  ·by_cases d:s.size<Gq s
   ·right;rw[jI a b d];exact⟨by decide,by decide,rfl⟩
   ·by_cases f:Nw (s.extract 0 2) (s.extract 6 (Gq s))=Q7 (A5 s 2) (A5 s 3) (A5 s 4) (A5 s 5)
    ·left;rw[aX a b d f];exact⟨rfl,rfl,by unfold Gq;omega,by omega,rfl⟩
    ·right;rw[jJ a b d f];exact⟨by decide,by decide,rfl⟩
theorem Pe{n a k:Nat}{s t:ByteArray}(h:B4 (s.extract a s.size)=(t,k,0)):Jq (n+1) a s=(a+k,t)::Jq n (a+k) s:=by
 show(if _ then _ else _)=_;rw[h];exact if_pos rfl
theorem Pg{n a k e:Nat}{s t:ByteArray}(h:B4 (s.extract a s.size)=(t,k,e))(b:e≠0):Jq (n+1) a s=[]:=by
 show(if _ then _ else _)=_;rw[h];exact if_neg b
theorem Wn{s t:ByteArray}{a k:Nat}(h:B4 (s.extract a s.size)=(t,k,0)):6≤k∧a+k≤s.size∧t=(s.extract a s.size).extract 6 k∧k≤65541+6:=by
 have d:=pJ (s.extract a s.size);rw[h] at d
 rcases d with⟨_,b,j,g,f⟩|⟨b,_⟩
 ·simp only at b f;rw[a3x] at g
  have i:Gq (s.extract a s.size)<=65541+6:=by
   have:=(A5 (s.extract a s.size) 0).toNat_lt;have:=(A5 (s.extract a s.size) 1).toNat_lt;unfold Gq;omega
  exact⟨by omega,by omega,by rw[f,<-b],by omega⟩
 ·exact absurd rfl b
theorem pK:∀(n m a:Nat) (s:ByteArray),s.size-a<n→s.size-a<m→Jq n a s=Jq m a s
 |0,_,_,_,h,_=>absurd h (Nat.not_lt_zero _)
 |_ +1,0,_,_,_,h=>absurd h (Nat.not_lt_zero _)
 |n+1,m+1,a,s,h1,h2=>by
  obtain⟨⟨t,k,e⟩,b⟩:∃x,B4 (s.extract a s.size)=x:=⟨_,rfl⟩
  by_cases d:e=0
  ·subst d;have f:=Wn b;rw[Pe b,Pe b,pK n m (a+k) s (by omega) (by omega)]
  ·rw[Pg b d,Pg b d]
def Y6(x:Nat × ByteArray):Array Value:=#[.int .i64 x.1,.string x.2]
theorem Aez(base L n l:Nat)(w:World)(s:ByteArray)(hn:1≤n)(y:w.heap[l]?=some (.cells #[.string s] 9 (0,0)))(hs:s.size≤100000000)(f:Dl w)(u:l<base)(T:l≠L)
  (O:0<base)(P:0≠L)(V:List Nat)(z:∀k∈V,k<base/\k≠l/\k≠0)(J Jx:List (Nat × ByteArray)->World->Prop)
  (hJ:∀s A B,J s A->Fp [] A B->J s B)
  (hy:∀a x W,(∃p,Dy s=a++x::p)->J a W->YieldAt Fence.wide (n-1) Tryz.prog L (Y6 x) W fun e W'=>(e=.returned (.bool true)/\J (a++[x]) W'/\Aq 209 base (L::V) W W')∨(e=.returned (.bool false)/\Jx (a++[x]) W'))
  (h0:J [] w):
  CallsIn Fence.wide n Tryz.prog 204 #[.func (.yield L) #[] #[],.pointer (some ⟨l,0,none⟩)] w fun e w'=>(∃v,e=.returned v)/\((∃xs,xs=Dy s/\J xs w')∨∃a,Jx a w'):=by
 rw[callsIn_wide];have HY:=a0z hy;have HJ:=a0z hJ;have C:=a0z z;have K:=a0z y;have HT:=a0z f;have HG:=a0z (fun(b:Nat) (w:World) (f:Dl w)=>aY (s.extract b s.size) w (by rw[a3x];omega) f);clear hy hJ z y f;go_enter Tryz.func204,Tryz.ntmps204;go_wp2_with (fail)
 go_loopg [3] s.size (fun g va wr=>∃(b:Nat) (a:List (Nat × ByteArray)),g+b=s.size/\va=.int .i64 b/\J a wr/\Aq 209 base (L::V) w wr/\Dy s=a++Jq (g+1) b s)
 case atStart=>exact⟨0,[],by omega,rfl,h0,Aq.of (Fp.refl [] _) (by simp) |>.mono (by simp),rfl⟩
 case round=>
  obtain⟨b,a,hg,rfl,hj,hf,r⟩:=hrel;have o:=a0z hf;have aa:=a0z hj;have I:=a0z r;clear hf hj r;have j:wr.heap[l]?=some (.cells #[.string s] 9 (0,0)):=(o.out.low _ u (Ac K.out) (by intro h;rcases List.mem_cons.1 h with h|h;exact T h;exact(C.out _ h).2.1 rfl)).trans K.out;have q0:wr.cell? ⟨l,0,none⟩=some (.string s):=Ab j 0
  have X:Hid (Dl wr):=fun i R=>by
   have h1:=HT.out i R;have Q:=World.block_lt_of_cell? _ _ h1;have S:=o.out.low 0 O Q (by intro h;rcases List.mem_cons.1 h with h|h;exact P h;exact(C.out _ h).2.2 rfl);rw[<-h1];unfold World.cell?;rw[S]
  clear j
  obtain⟨⟨t,k,e⟩,f⟩:∃x,B4 (s.extract b s.size)=x:=⟨_,rfl⟩
  have E:=a0z (HG.out b);rw[f] at E;have m:=a0z f;clear f
  have z1:(b:Int)<=(s.size:Int):=by omega
  go_wp2_with (fail);(with_reducible refine(E.out _ X.out).mono ?_);rintro e1 w1 ⟨rfl,d⟩;have D:=a0z (HJ.out _ _ _ aa.out d);have G:=a0z (o.out.trans (Aq.of (d.mono (by simp):Fp [] wr w1) (by simp)) (by simp));clear d
  by_cases he:e=0
  ·subst he;obtain⟨ae,ad,-,ac⟩:=Wn m.out;have M:=a0z I.out;rw[Pe m.out] at M
   have n1:IntKind.i64.wrap ((b:Int)+(k:Int))=((b+k:Nat):Int):=by rw[a2v];omega
   obtain⟨a2,U⟩:∃a2,b+k=a2:=⟨_,rfl⟩
   rw[U] at n1 M;obtain⟨fn,tm,af,bd,N,q⟩:=HY.out a (a2,t) w1 ⟨_,M.out⟩ D.out;have Y:=a0z q;clear q;unfold Y6 at N
   go_upto_region 4 with(fail)
   refine(wpIn_wide (n:=n)).1 ?_
   gi_wp2_with (fail)
   (with_reducible refine Y.out.mono ?_);rintro e W1 (⟨rfl,hj1,d⟩|⟨rfl,hjx⟩)
   ·have ab:=a0z hj1;have F:=a0z (G.out.trans d (by intro i R;exact R));clear hj1 d
    gi_wp2_with (fail)
    go_wp2_with (fail)
    go_roundg (s.size-a2)
    case measure=>omega
    case rel=>
     refine⟨a2,a++[(a2,t)],by omega,rfl,ab.out,F.out,?_⟩;rw[M.out,List.append_assoc,pK gk (s.size-a2+1) a2 s (by omega) (by omega)];rfl
   ·have Z:=a0z hjx;clear hjx
    gi_wp2_with (fail)
    go_wp2_with (fail);refine bodyPost_ret (results_none rfl _ _ _) rfl ?_;exact⟨⟨_,rfl⟩,Or.inr ⟨_,Z.out⟩⟩
  ·have z2:((e:Int)!=0)=true:=by rw[bne_iff_ne];omega
   go_wp2_with (fail);refine bodyPost_ret (results_none rfl _ _ _) rfl ?_;refine⟨⟨_,rfl⟩,Or.inl ⟨a,?_,D.out⟩⟩;have:=I.out;rw[Pg m.out he,List.append_nil] at this;exact this.symm
theorem Ae0(w:World)(s:ByteArray):Calls Tryz.prog 131 #[.string s] w fun e w'=>e=.returned (.func (.func 204) #[] #[.pointer (some ⟨w.heap.size,0,none⟩)])/\w'.heap[w.heap.size]?=some (.cells #[.string s] 9 (0,0))/\Fp [] w w':=by
 go_enter Tryz.func131,Tryz.ntmps131;go_wp2_with (fail);go_ret;exact⟨rfl,Ai rfl _,Fp.alloc _ _⟩
theorem Ae1{F:Fence}{n:Nat}{w:World}{i:Array Oper}{rest:List Oper}{o:Oper}{a:Act}{Q:Exit→Act→World→Prop}(y:o.guard=none)(s x:Operand)
  (E:o.op=.call {callee:=.builtin .append,args:=#[s,x],argTypes:=#[22,22]})(base:Nat)(v:Value)(l:List ByteArray)(D:a.eval s=v)(d:Db w base v l)
  (g:Nat)(t:ByteArray)(C:a.eval x=.slice (some ⟨g,0,none⟩) 1 1)(K:w.cell? ⟨g,0,none⟩=some (.string t))(z:l.length+1<=1000000000)(b:base<=w.heap.size)
  (h:∀m w',Db w' base m (l++[t])->w.grownBy w' v.ownBlock->Below base w w'->wpListIn F n Tryz.prog i Q rest (a.put o.dst m) w'):wpListIn F n Tryz.prog i Q (o::rest) a w:=by
 obtain⟨B,J,r,q,p⟩:=info_parts Tryz.info9;refine wpListIn_append_own w y s x 22 E base 9 B _ 1 16 Tryz.underlying22 J r q p rfl (by decide) v l.length (l.map Value.string) D d ⟨g,0,none⟩ 1 1 [.string t] C rfl ?_ (by intro u f;simp at f;subst f;rfl) (by unfold maxLen;omega) (by omega) b ?_
 ·intro j u f
  have I:j=0:=by
   have:=(List.getElem?_eq_some_iff.1 f).1
   simpa using this
  subst I;simp at f;subst f
  have M:(⟨g,0,none⟩:Addr).add 0=⟨g,0,none⟩:=by unfold Addr.add;split<;>simp_all
  rw[M];exact K
 ·intro m w' L A _;refine h m w' ?_ A ((Below.refl base w).grown A b (fun k G=>(d.lt k G).1));unfold Db;rw[a1z,a1v];exact L
theorem Wp{T e:TypeId}{w w':World}{base n a:Nat}{v:Value}{l:List Value}(o:T≠e)(h:w.ownsRow base e a v n l)(b:w.grownBy w' v.ownBlock)(m:base≤w.heap.size):Aq T base [] w w':=by
 refine⟨b.size,fun k p _ _=>((Below.refl base w).grown b m (fun k i=>(World.ownsRow.lt h k i).1)).block k p,fun k c r _ d=>b.block k (Ac d) fun f=>?_⟩
 rcases h.2 with⟨rfl,_⟩|⟨g,cap,q,rfl,_,j,_⟩
 ·cases f
 ·obtain rfl:k=g:=by simpa [Value.ownBlock] using f
  rw[j] at d;cases d;exact o rfl
theorem Db.slice{w:World}{base:Nat}{v:Value}{l:List ByteArray}(h:Db w base v l):∃a n cap,v=.slice a n cap:=by
 rcases h.2 with⟨rfl,_⟩|⟨g,cap,b,rfl,_⟩
 ·exact⟨_,_,_,rfl⟩
 ·exact⟨_,_,_,rfl⟩
theorem pL:∀(n a:Nat) (s:ByteArray),(Jq n a s).length≤n
 |0,_,_=>Nat.le_refl _
 |n+1,a,s=>by
  obtain⟨⟨t,k,e⟩,b⟩:∃x,B4 (s.extract a s.size)=x:=⟨_,rfl⟩
  by_cases d:e=0
  ·subst d;rw[Pe b,a0x];have:=pL n (a+k) s;omega
  ·rw[Pg b d];exact Nat.zero_le _
def Gm(l:List (Nat × ByteArray)):Nat:=(l.getLast?.map (·.1)).getD 0
theorem Ae2(l:List (Nat × ByteArray))(x:Nat × ByteArray):Gm (l++[x])=x.1:=by unfold Gm;simp
structure Y7(w w1:World)(pre:List (Nat × ByteArray))(W:World):Prop where
 ex:∃v,W.heap[w.heap.size]?=some (.cells #[v] 22 (0,0))/\Db W (w1.heap.size+2) v (pre.map (·.2))
 en:W.heap[w.heap.size+1]?=some (.cells #[.int .i64 (Gm pre)] 3 (0,0))
 fp:Fp [] w W
theorem Y7.on{w f A B:World}{a:List (Nat × ByteArray)}{S:List Nat}(h:Y7 w f a A)(b:Fp S A B)(d:∀k∈S,w.heap.size+2<=k/\k<f.heap.size+2):Y7 w f a B:=by
 obtain⟨v,j,l⟩:=h.ex;refine⟨⟨v,(b.block _ (Ac j) fun g=>by have:=d _ g;omega).trans j,l.fp b fun k i=>(d k i).2⟩,(b.block _ (Ac h.en) fun g=>by have:=d _ g;omega).trans h.en,h.fp.trans b fun k i=>Or.inr (by have:=d k i;omega)⟩
def pM(w:World)(s:ByteArray)(x:Nat × ByteArray):Act:={tmps:=#[.string s,undef,.pointer (some ⟨w.heap.size,0,none⟩),.pointer (some ⟨w.heap.size+1,0,none⟩),.int .i64 x.1,.string x.2,.string s,.func (.func 204) #[] #[.pointer (some ⟨w.heap.size+1+1,0,none⟩)],.int .i64 x.1,.string x.2,undef,undef,undef,undef,undef,undef,undef],defers:=[]}
structure Jr(W:World)(b:Nat)(v:Value)(en:Nat)(w':World):Prop where
 h0:w'.heap[b]?=some (.cells #[v] 22 (0,0))
 h1:w'.heap[b+1]?=some (.cells #[.int .i64 en] 3 (0,0))
 fp:Fp [b,b+1] W w'
theorem Jr.q0{W w':World}{b a:Nat}{v:Value}(h:Jr W b v a w'):w'.cell? ⟨b,0,none⟩=some v:=Ab h.h0 0
theorem Jr.q1{W w':World}{b a:Nat}{v:Value}(h:Jr W b v a w'):w'.cell? ⟨b+1,0,none⟩=some (.int .i64 a):=Ab h.h1 0
theorem Jr.z0{W w':World}{b a:Nat}{v:Value}(h:Jr W b v a w'):w'.frozen? ⟨b,0,none⟩=false:=Ar h.h0 0
theorem Jr.z1{W w':World}{b a:Nat}{v:Value}(h:Jr W b v a w'):w'.frozen? ⟨b+1,0,none⟩=false:=Ar h.h1 0
theorem Jr.st0{W w':World}{b a:Nat}{v:Value}(h:Jr W b v a w'):Jr W b v a (w'.setCell ⟨b,0,none⟩ v):=
 ⟨(Bd h.h0 v).trans rfl,((Fp.setCell w' ⟨b,0,none⟩ v).block _ (Ac h.h1) (by simp)).trans h.h1,h.fp.setCell' (Or.inl (by simp)) _⟩
theorem Jr.st1{W w':World}{b a:Nat}{v:Value}(h:Jr W b v a w'):Jr W b v a (w'.setCell ⟨b+1,0,none⟩ (.int .i64 a)):=
 ⟨((Fp.setCell w' ⟨b+1,0,none⟩ _).block _ (Ac h.h0) (by simp)).trans h.h0,(Bd h.h1 _).trans rfl,h.fp.setCell' (Or.inl (by simp)) _⟩
attribute [local go_sem] Oper.semAt_some
theorem pN(w:World)(s:ByteArray)(hs:s.size≤100000000)(ht:Dl w):
  Calls Tryz.prog 75 #[.string s] w fun e w'=>∃v,e=.returned (.tuple #[v,.int .i64 (Gm (Dy s))])/\Db w' w.heap.size v ((Dy s).map (·.2))/\Fp [] w w':=by
 have HT:=a0z ht;clear ht;have ai:=a0z (fun w=>Ae0 w s);rw[<-callsIn_wide (n:=5)];refine callsIn_of_wp_marks Tryz.func75 rfl trivial ?_ rfl;simp only[Tryz.ntmps75,List.size_toArray,a0x,List.length_nil,Nat.reduceAdd,Nat.reduceSub,a3v,a3u,List.push_toArray,List.append_toArray,a0u,a0w]
 gi_wp2_with (fail)
 refine⟨trivial,?_⟩;(with_reducible refine((callsIn_wide (n:=4)).2 (ai.out _)).mono ?_);rintro e f ⟨rfl,M,m⟩;have S:f.heap[w.heap.size]?=some (.cells #[.slice none 0 0] 22 (0,0)):=(m.block _ (by simp;omega) (by simp)).trans (Bw (Ai rfl _));have R:f.heap[w.heap.size+1]?=some (.cells #[.int .i64 0] 3 (0,0)):=(m.block _ (by simp) (by simp)).trans (Ai (by simp) _);have ao:w.heap.size+2<f.heap.size:=Ac (by simpa using M)
 have ak:Hid (f.heap[w.heap.size+1+1]?=some (.cells #[.string s] 9 (0,0))):=by show f.heap[w.heap.size+1+1]?=_;simpa using M
 have Z:Hid (Fp [] w f):=((Fp.alloc _ _).alloc' _).trans m (by simp);have Y:=a0z (HT.out.fp Z.out (by simp));have ag:=a0z S;have af:=a0z R;have aq:0<f.heap.size:=World.block_lt_of_cell? _ _ (Y.out 0 (by decide));have am:0<w.heap.size:=World.block_lt_of_cell? _ _ (HT.out 0 (by decide));clear M m S R
 gi_wp2_with (fail)
 refine Sm (α:=Nat × ByteArray) (encs:=Y6) rfl (enters_of Tryz.func204 (by kernel_rfl) rfl) (fun _=>rfl) 209 [w.heap.size,w.heap.size+1] [] (by simp;omega) (by simp) (w.heap.size+2) (by omega) 0
  (fun j x=>∃q,Dy s=j++x::q) (Y7 w f) (fun _ _=>False) (fun xs _=>xs=Dy s)
  (fun _=>True) (fun s A B k h V y=>h.on V (by simp;omega)) (fun s A B h V _=>h.on V (by simp;omega)) (fun _ _ _ h _=>h) (fun _ _ _ h _=>h) ?_ ?_ (fun x a' _=>a'=pM w s x) (fun _ _ _ _ h _=>h) ?_ ?_ ?_ (fun _ _ h=>h.elim)
 ·intro J Jx W1 m an hJ hY ad;exact Aez (f.heap.size+2) (f.heap.size+1) (5-1) (w.heap.size+1+1) W1 s (by decide) ((m.block _ (by omega) (by simp)).trans ak.out) hs (Y.out.fp m (by simp)) (by omega) (by omega) (by omega) (by omega) [w.heap.size,w.heap.size+1] (by intro k y;simp only[a2x,a1w,or_false] at y;omega) J Jx (fun s A B h V=>hJ s A B h (V.mono (by simp)) trivial) hY ad
 ·exact⟨⟨.slice none 0 0,ag.out,Db.nil _ _⟩,af.out,Z.out⟩
 ·intro l x W K hW u;simp only[Y6]
  gi_wp2_with (fail)
  exact u _ _ (Fp.refl _ _) rfl
 ·rintro l j ⟨xa,t⟩ a' W ⟨q,r⟩ E hW rfl
  have ar:j.length<=100000001:=by
   have h1:=pL (s.size+1) 0 s
   have h2:(Dy s).length=j.length+(q.length+1):=by rw[r,a1z,a0x]
   unfold Dy at h2;omega
  obtain⟨v,I,O⟩:=E.ex
  have q0:∀X:Obj,(W.alloc X).cell? ⟨w.heap.size,0,none⟩=some v:=fun X=>Ab (Bw I) 0
  have ap:W.cell? ⟨w.heap.size,0,none⟩=some v:=Ab I 0;have HI:=a0z E;have HV:=a0z I;have P:=a0z O;have aj:=a0z E.en;clear E I O r;unfold pM
  gi_wp2_with (gi_at_builtin;(refine Ae1 rfl _ _ rfl (f.heap.size+2) _ (j.map (·.2)) rfl (P.out.fp (Fp.alloc _ _) (by simp)) _ t rfl (by rw[Ab (Ai rfl _)];rfl) (by simp;omega) (by simp;omega) ?_);intro v3 p L T C;obtain⟨G,D,d,rfl⟩:=L.slice;have ae:=a0z L;have al:=a0z C;have ah:=a0z (Wp (show 209≠9 by decide) (P.out.fp (Fp.alloc _ _) (by simp)) T (by simp;omega));have N:=a0z ((C.block _ (by omega)).trans (Bw HV.out));have o:=a0z ((C.block _ (by omega)).trans (Bw aj.out));have f1:p.frozen? ⟨w.heap.size,0,none⟩=false:=Ar N.out 0;have f2:p.frozen? ⟨w.heap.size+1,0,none⟩=false:=Ar o.out 0;have c1:p.cell? ⟨w.heap.size,0,none⟩=some v:=Ab N.out 0;have c2:p.cell? ⟨w.heap.size+1,0,none⟩=some (.int .i64 (Gm j)):=Ab o.out 0;clear L T C)
  have ab:=((Aq.of (Fp.alloc W (.cells #[.string t] 9)) (by simp):Aq 209 (f.heap.size+2) [] W _).trans ah.out (by simp)).mono (S':=[w.heap.size,w.heap.size+1]) (by simp);have U:Fp [w.heap.size,w.heap.size+1] p ((p.setCell ⟨w.heap.size,0,none⟩ (.slice G D d)).setCell ⟨w.heap.size+1,0,none⟩ (.int .i64 xa)):=((Fp.setCell p ⟨w.heap.size,0,none⟩ (.slice G D d)).mono (by simp)).setCell' (Or.inl (by simp)) _;have h4:(p.setCell ⟨w.heap.size,0,none⟩ (.slice G D d)).heap[w.heap.size]?=some (.cells #[.slice G D d] 22 (0,0)):=(Bd N.out _).trans rfl;have h5:(p.setCell ⟨w.heap.size,0,none⟩ (.slice G D d)).heap[w.heap.size+1]?=some (.cells #[.int .i64 (Gm j)] 3 (0,0)):=((Fp.setCell p ⟨w.heap.size,0,none⟩ (.slice G D d)).block _ (Ac o.out) (by simp)).trans o.out;refine⟨ab.trans (Aq.of U (by intro k y;simp only[a2x,a1w,or_false] at y;omega)) (by simp),⟨.slice G D d,?_,?_⟩,?_,?_⟩
  ·exact((Fp.setCell (p.setCell ⟨w.heap.size,0,none⟩ (.slice G D d)) ⟨w.heap.size+1,0,none⟩ (.int .i64 xa)).block _ (Ac h4) (by simp)).trans h4
  ·rw[a1v];exact ae.out.fp U (by intro k y;simp only[a2x,a1w,or_false] at y;omega)
  ·rw[Ae2];exact(Bd h5 _).trans rfl
  ·exact(((HI.out.fp.alloc' _).belowTrans (al.out.mono (by omega))).setCell' (Or.inr (Nat.le_refl _)) _).setCell' (Or.inr (by show w.heap.size<=w.heap.size+1;omega)) _
 ·rintro xs W rfl E u;obtain⟨v,I,O⟩:=E.ex;obtain⟨va,vn,vc,rfl⟩:=O.slice;have HI:=a0z E;have HK:=a0z u;have HV:=a0z I;have P:=a0z O;clear E u I O
  gi_wp2_with (fail)
  refine wpIn_wide.2 ?_;refine Ft (fun _ w'=>Jr W w.heap.size (.slice va vn vc) (Gm (Dy s)) w') (fun _ _=>True) (by kernel_rfl) (by kernel_rfl) ⟨HV.out,HI.out.en,(Fp.drew W).mono (by simp)⟩ ?_
  iterate 2
   apply Be (fun _ _ h=>h) rfl rfl rfl
   ·intro b a w g F K u
    try have h2:=F.fr 2 rfl
    try have h3:=F.fr 3 rfl
    have q0:=g.q0;have q1:=g.q1;simp only[Oper.wp,execOp];go_simp;exact u _ g trivial
  apply Gs (fun _=>True) rfl rfl
  ·intro b a w g F K u;have h2:=F.fr 2 rfl;have av:=F.eq 0 15 rfl;have q0:=g.q0;have z0:=g.z0;simp only[Oper.wp,execOp];go_simp;exact u undef _ g.st0 trivial trivial
  apply Gs (fun _=>True) rfl rfl
  ·intro b a w g F K u;have h3:=F.fr 3 rfl;have au:=F.eq 1 16 rfl;have q1:=g.q1;have z1:=g.z1;simp only[Oper.wp,execOp];go_simp;exact u undef _ g.st1 trivial trivial
  refine⟨?_,?_⟩
  ·refine⟨fun _ _ _ _ _=>trivial,?_⟩;refine⟨fun _ _ _ _ _=>trivial,?_⟩;refine Cc _ ?_;refine Cc _ ?_;exact trivial
  ·intro wa bb g ac;simp only[a2w,a2u,a0u,a0w]
   iterate 2 (refine Am ?_)
   refine Ap ?_;intro v2 u2;refine Ap ?_;intro v3 u3;refine A0 ?_;simp only[Aj,Act.put,a0v,a1u,a2z];have Q:=a0z g;have q0:=g.q0;have q1:=g.q1;clear g ac u2 u3;have aa:wa.heap[f.heap.size]?=some (.deferred (some [])):=(Q.out.fp.block _ (Ac HK.out) (by simp;omega)).trans HK.out;have hp:=Fp.putObj wa f.heap.size (.deferred none)
   gi_wp2_with (fail)
   refine⟨by simp,.inl ⟨_,_,rfl,run_takeDeferred aa,?_⟩⟩;have c0:(wa.putObj f.heap.size (.deferred none)).cell? ⟨w.heap.size,0,none⟩=some (.slice va vn vc):=Ab ((hp.block _ (Ac Q.out.h0) (by simp;omega)).trans Q.out.h0) 0;have c1:(wa.putObj f.heap.size (.deferred none)).cell? ⟨w.heap.size+1,0,none⟩=some (.int .i64 (Gm (Dy s))):=Ab ((hp.block _ (Ac Q.out.h1) (by simp;omega)).trans Q.out.h1) 0;have z:=Q.out.fp;exact⟨.tuple #[.slice va vn vc,.int .i64 (Gm (Dy s))],by simp[results,Tryz.results75,go_sem,c0,c1],.slice va vn vc,rfl,((P.out.fp z (by simp;omega)).mono (by omega)).kept (fun k y=>hp.block k (((P.out.fp z (by simp;omega)).lt k y).2) (by have:=((P.out.fp z (by simp;omega)).lt k y).1;simp;omega)),((HI.out.fp.trans z (by intro i hi;right;simp at hi;omega)).trans hp (by intro i hi;right;simp at hi;omega))⟩
end
section
open Go.RowKit
def C4(n k:Nat):List UInt8:=(List.range k).map (Dc n)
def Em(n k:Nat):ByteArray:=bl (C4 n k)
theorem Kx(n k:Nat):(C4 n k).length=k:=by simp[C4]
theorem Ph(n k:Nat):(Em n k).size=k:=by unfold Em;rw[Dm,Kx]
theorem Ae3(n k:Nat):C4 n (k+1)=C4 n k++[Dc n k]:=by unfold C4;rw[List.range_succ,a1v];rfl
theorem R0(w:World)(n m:Nat)(u:n<18446744073709551616)(B:m≤8):
  Calls Tryz.prog 90 #[.int .u64 n,.int .i64 m] w fun e w'=>e=.returned (.string (Em n m))/\Fp [] w w':=by
 have E:=a0z u;clear u;go_enter Tryz.func90,Tryz.ntmps90;go_wp2
 go_loopg [5,8] m (fun g y i wr=>∃k:Nat,g+k=m/\i=.int .i64 k/\Cb wr w.heap.size y (C4 n k)/\Below w.heap.size w wr)
 case atStart=>exact⟨0,by omega,rfl,Cb.nil _ _,Below.refl _ _⟩
 case round=>
  obtain⟨k,D,rfl,t,d⟩:=hrel;have v:=a0z t;have s:=a0z d;clear t d
  by_cases C:k<m
  ·have z:k<8:=by omega
   have h:(wr.alloc (.cells #[.int .u8 ((n:Int)/2^(8*k)%256)] 5)).cell? ⟨wr.heap.size,0,none⟩=some (Bc (Dc n k)):=by
    rw[aK];exact Ab (Ai rfl _) 0
   have q:=a0z h;have l:w.heap.size<=wr.heap.size:=s.out.size
   have f:(C4 n k).length+1<=1000000000:=by rw[Kx];omega
   have p:=a0z f
   have x:(k:Int)<(m:Int):=by omega
   clear h f;go_wp2_with (at_builtin;refine Xn rfl _ _ rfl w.heap.size _ _ rfl (v.out.alloc _) wr.heap.size 0 1 1 [Dc n k] rfl rfl (aH q.out) p.out (by simp;omega) ?_;intro A w2 a b);have o:=a0z a;have r:=a0z b;clear a b;go_wp2
   go_roundg (gk-1)
   case measure=>omega
   case rel=>exact⟨k+1,by omega,by go_num,by rw[Ae3];exact o.out,(s.out.alloc l _).trans r.out⟩
  ·obtain rfl:k=m:=by omega
   have j:=aJ v.out;rw[show(⟨(C4 n k).toArray⟩:ByteArray)=Em n k from rfl] at j
   have x:¬(k:Int)<(k:Int):=by omega
   go_wp2_with (fail);go_ret;exact⟨rfl,Fp.refl _ _ |>.belowTrans s.out⟩
def Jd(s:ByteArray):ByteArray:=(L3 s).1
theorem Y8(s:ByteArray)(w:World)(h:s.size≤100000000)(a:Dl w):
  Calls Tryz.prog 92 #[.string s] w fun e w'=>e=.returned (.string (Jd s))/\Fp [] w w':=by
 have g:=a0z (jG s w h a);have f:Hid (Jd s=(L3 s).1):=rfl
 obtain⟨⟨t,n⟩,b⟩:∃x,L3 s=x:=⟨_,rfl⟩
 rw[b] at g f;clear b a;go_enter Tryz.func92,Tryz.ntmps92;go_wp2_with (fail);(with_reducible refine g.out.mono ?_);rintro e j ⟨rfl,d⟩;have i:=a0z d;clear d;go_wp2_with (fail);go_ret;exact⟨by rw[f.out];rfl,i.out⟩
structure Gn where
 blocks:Nat
 index:Nat
 filter:Nat
 seq:Nat
def Gn.text(f:Gn):ByteArray:=Em f.blocks 4++Em f.index 4++Em f.filter 4++Em f.seq 8
def dW(f:Gn):Value:=.agg #[.int .i64 f.blocks,.int .i64 f.index,.int .i64 f.filter,.int .u64 f.seq]
theorem Ae4(f:Gn)(w:World)(u:f.blocks≤1000000000)(s:f.index≤1000000000)(A:f.filter≤1000000000)(y:f.seq<18446744073709551616):
  Calls Tryz.prog 97 #[dW f] w fun e w'=>e=.returned (.string f.text)/\Fp [] w w':=by
 obtain⟨b,i,t,q⟩:=f;simp only at u s A y;have p:Hid (Gn.text ⟨b,i,t,q⟩=Em b 4++Em i 4++Em t 4++Em q 8):=rfl;have L:=Ph b 4;have J:=Ph i 4;have I:=Ph t 4;have G:=Ph q 8;have E:=a0z (show ∀w,Calls Tryz.prog 90 #[.int .u64 b,.int .i64 4] w (fun e w'=>e=.returned (.string (Em b 4))/\Fp [] w w') from fun w=>R0 w b 4 (by omega) (by decide));have D:=a0z (show ∀w,Calls Tryz.prog 90 #[.int .u64 i,.int .i64 4] w (fun e w'=>e=.returned (.string (Em i 4))/\Fp [] w w') from fun w=>R0 w i 4 (by omega) (by decide));have C:=a0z (show ∀w,Calls Tryz.prog 90 #[.int .u64 t,.int .i64 4] w (fun e w'=>e=.returned (.string (Em t 4))/\Fp [] w w') from fun w=>R0 w t 4 (by omega) (by decide));have B:=a0z (show ∀w,Calls Tryz.prog 90 #[.int .u64 q,.int .i64 8] w (fun e w'=>e=.returned (.string (Em q 8))/\Fp [] w w') from fun w=>R0 w q 8 y (by decide))
 obtain⟨x1,n⟩:∃x,Em b 4=x:=⟨_,rfl⟩
 obtain⟨x2,m⟩:∃x,Em i 4=x:=⟨_,rfl⟩
 obtain⟨x3,l⟩:∃x,Em t 4=x:=⟨_,rfl⟩
 obtain⟨x4,k⟩:∃x,Em q 8=x:=⟨_,rfl⟩
 rw[n] at L p E;rw[m] at J p D;rw[l] at I p C;rw[k] at G p B;clear n m l k
 have F:IntKind.u64.wrap (b:Int)=b:=by rw[a3z];omega
 have w2:IntKind.u64.wrap (i:Int)=i:=by rw[a3z];omega
 have w3:IntKind.u64.wrap (t:Int)=t:=by rw[a3z];omega
 have z:Hid ((w.alloc (.cells #[.int .i64 b,.int .i64 i,.int .i64 t,.int .u64 q] 144)).heap[w.heap.size]?=some (.cells #[.int .i64 b,.int .i64 i,.int .i64 t,.int .u64 q] 144 (0,0))):=Ai rfl _;unfold dW;go_enter Tryz.func97,Tryz.ntmps97;go_wp2_with (fail);refine C9 (by kernel_rfl) (by kernel_rfl) ?_
 iterate 19
  apply Aw rfl rfl rfl
  ·intro a w j d K o
   try have u:=d.fr 1 rfl
   try have A:=d.eq 0 3 rfl
   try have y:=d.eq 1 4 rfl
   try have h5:=d.eq 2 5 rfl
   try have h7:=d.eq 4 7 rfl
   try have h8:=d.eq 5 8 rfl
   try have h9:=d.eq 6 9 rfl
   try have h6:=d.eq 3 6 rfl
   try have Y:=d.eq 7 10 rfl
   try have W:=d.eq 9 12 rfl
   try have V:=d.eq 10 13 rfl
   try have U:=d.eq 11 14 rfl
   try have X:=d.eq 8 11 rfl
   try have T:=d.eq 12 15 rfl
   try have R:=d.eq 14 17 rfl
   try have Q:=d.eq 15 18 rfl
   try have S:=d.eq 13 16 rfl
   try have P:=d.eq 16 19 rfl
   try have O:=d.eq 17 20 rfl
   have r:=(j.block _ (by simp) (by simp)).trans z.out;have q0:=Ab r 0;have q1:=Ab r 1;have N:=Ab r 2;have M:=Ab r 3;simp only[a3w,List.getElem?_cons_succ,a1x] at q0 q1 N M;simp only[Oper.wp,execOp];go_simp
   first
   |exact o _ j (Fp.refl _ _)
   |first
     |((with_reducible refine(E.out _).mono ?_);rintro e w2 ⟨rfl,h⟩;exact o _ (j.trans h (by simp)) h)
     |((with_reducible refine(D.out _).mono ?_);rintro e w2 ⟨rfl,h⟩;exact o _ (j.trans h (by simp)) h)
     |((with_reducible refine(C.out _).mono ?_);rintro e w2 ⟨rfl,h⟩;exact o _ (j.trans h (by simp)) h)
     |((with_reducible refine(B.out _).mono ?_);rintro e w2 ⟨rfl,h⟩;exact o _ (j.trans h (by simp)) h)
 refine⟨?_,?_⟩
 ·repeat(first|exact trivial|refine B7 _ ?_ |refine⟨fun F w2 v _ h ⟨g,u,s⟩=>⟨g,u,(h.block g (Ac s) (by simp)).trans s⟩,?_⟩)
 ·intro w' j;simp only[a2w,a2u,a0u,a0w]
  iterate 19 (refine Am ?_)
  refine A0 ?_;simp only[Aj,Act.put,a0v,a1u,a2z];have Z:=a0z ((Fp.alloc w _).trans j (by simp));clear j;go_wp2_with (fail);go_ret;exact⟨by rw[p.out];rfl,Z.out⟩
end
section
open Go.RowKit
def D6(len:Nat):List (Nat × Nat):=(List.range ((len+7)/8)).map fun k=>(8*k,min 8 (len-8*k))
theorem R1(len:Nat):(D6 len).length=(len+7)/8:=by simp[D6]
theorem Ae5{len k:Nat}(h:8*k<len):D6 len=(D6 len).take k++(8*k,min 8 (len-8*k))::(D6 len).drop (k+1):=by
 have a:k<(D6 len).length:=by rw[R1];omega
 have e:(D6 len)[k]=(8*k,min 8 (len-8*k)):=by simp[D6]
 conv=>lhs;rw[<-List.take_append_drop k (D6 len),List.drop_eq_getElem_cons a,e]
def Iu(b o:Nat)(x:Nat × Nat):Value:=.slice (some ⟨b,o+x.1*6,none⟩) x.2 x.2
def Y9(b o:Nat)(x:Nat × Nat):Array Value:=#[Iu b o x]
theorem Ae6(base L n bs M:Nat)(w:World)(b o len cap:Nat)(hn:1≤n)(Z:w.heap[bs]?=some (.cells #[.slice (some ⟨b,o,none⟩) len cap] 78 (0,0)))(aa:w.heap[M]?=some (.cells #[.int .i64 8] 3 (0,0)))
  (ao:len<=cap)(ar:len<=1000000000)(Y:bs<base)(E:M<base)(ae:bs≠L)(U:M≠L)
  (S0:List Nat)(ab:∀k∈S0,k<base/\k≠bs/\k≠M)(J Jx:List (Nat × Nat)->World->Prop)
  (hJ:∀s A B,J s A->Fp [] A B->J s B)
  (hy:∀q x W,(∃R,D6 len=q++x::R)->J q W->YieldAt Fence.wide (n-1) Tryz.prog L (Y9 b o x) W fun e W'=>(e=.returned (.bool true)/\J (q++[x]) W'/\Aq 209 base (L::S0) W W')∨(e=.returned (.bool false)/\Jx (q++[x]) W'))
  (h0:J [] w):
  CallsIn Fence.wide n Tryz.prog 211 #[.func (.yield L) #[] #[],.pointer (some ⟨bs,0,none⟩),.pointer (some ⟨M,0,none⟩)] w fun e w'=>(∃v,e=.returned v)/\((∃xs,xs=D6 len/\J xs w')∨∃q,Jx q w'):=by
 rw[callsIn_wide];have HY:=a0z hy;have HJ:=a0z hJ;have O:=a0z ab;have ad:=a0z Z;have C:=a0z aa;clear hy hJ ab Z aa;go_enter Tryz.func211,Tryz.ntmps211;go_wp2_with (fail)
 go_loopg [4] ((len+7)/8) (fun g vi wr=>∃(k i:Nat),g+k=(len+7)/8/\i=8*k/\vi=.int .i64 i/\J ((D6 len).take k) wr/\Aq 209 base (L::S0) w wr)
 case atStart=>exact⟨0,0,by omega,rfl,rfl,by simpa using h0,Aq.of (Fp.refl [] _) (by simp) |>.mono (by simp)⟩
 case round=>
  obtain⟨k,i,hg,t,rfl,hj,hf⟩:=hrel;have P:=a0z hf;have ac:=a0z hj;clear hf hj;have u:wr.heap[bs]?=some (.cells #[.slice (some ⟨b,o,none⟩) len cap] 78 (0,0)):=(P.out.low _ Y (Ac ad.out) (by intro h;rcases List.mem_cons.1 h with h|h;exact ae h;exact(O.out _ h).2.1 rfl)).trans ad.out;have F:wr.heap[M]?=some (.cells #[.int .i64 8] 3 (0,0)):=(P.out.low _ E (Ac C.out) (by intro h;rcases List.mem_cons.1 h with h|h;exact U h;exact(O.out _ h).2.2 rfl)).trans C.out;have q0:wr.cell? ⟨bs,0,none⟩=some (.slice (some ⟨b,o,none⟩) len cap):=Ab u 0;have f:=a0z u;have p:=a0z F;clear u F
  by_cases an:i<len
  ·have z0:(i:Int)<(len:Int):=by omega
   have z1:(i:Int)<=(len:Int):=by omega
   have z2:(len:Int)<=(cap:Int):=by omega
   have au:¬cap=i:=by omega
   obtain⟨m,hm⟩:∃m,min 8 (len-i)=m:=⟨_,rfl⟩
   have V:min (8:Int) ((len-i:Nat):Int)=(m:Int):=by omega
   have am:0<m:=by omega
   have N:=a0z (Ae5 (len:=len) (k:=k) (by omega));rw[<-t,hm] at N
   obtain⟨d,hd⟩:∃d,len-i=d:=⟨_,rfl⟩
   rw[hd] at V
   obtain⟨e2,X⟩:∃e2,i+m=e2:=⟨_,rfl⟩
   have n1:IntKind.i64.wrap ((i:Int)+(m:Int))=(e2:Int):=by rw[a2v];omega
   have z3:(e2:Int)<=(cap:Int):=by omega
   have z4:(i:Int)<=(e2:Int):=by omega
   have aq:e2-i=m:=by omega
   have ap:¬e2=i:=by omega
   have n2:IntKind.i64.wrap ((i:Int)+8)=((i+8:Nat):Int):=by rw[a2v];omega
   obtain⟨j,I⟩:∃j,i+8=j:=⟨_,rfl⟩
   rw[I] at n2;have r:=a0z t;have a0:=a0z X;have ah:=a0z I;clear t hm X I;go_wp2_with (fail);refine C9 (by kernel_rfl) (by kernel_rfl) ?_
   iterate 7
    apply Aw rfl rfl rfl
    ·intro a w y z K hK
     try have h2:=z.fr 2 rfl
     try have Q:=z.fr 1 rfl
     try have h4:=z.fr 4 rfl
     try have az:=z.eq 1 14 rfl
     try have ay:=z.eq 2 15 rfl
     try have ax:=z.eq 3 16 rfl
     try have aF:=z.eq 0 13 rfl
     try have aw:=z.eq 4 17 rfl
     try have av:=z.eq 5 18 rfl
     have r0:=Ab ((y.block _ (Ac f.out) (by simp)).trans f.out) 0;have r1:=Ab ((y.block _ (Ac p.out) (by simp)).trans p.out) 0;simp only[a3w,a1x] at r0 r1;simp only[Oper.wp,execOp];go_simp;exact hK _ y (Fp.refl _ _)
   refine⟨?_,?_⟩
   ·repeat(first|exact trivial|refine B7 _ ?_ |refine⟨fun w1 w2 v _ hf ⟨g,Q,h2⟩=>⟨g,Q,(hf.block g (Ac h2) (by simp)).trans h2⟩,?_⟩)
   ·intro w' y;simp only[a2w,a2u,a0u,a0w]
    iterate 7 (refine Am ?_)
    refine A0 ?_;simp only[Aj,Act.put,a0v,a1u,a2z];have ak:=a0z (P.out.trans (Aq.of (y.mono (by simp):Fp [] wr w') (by simp)) (by simp));have aj:=a0z (HJ.out _ _ _ ac.out y);have D:=(y.block _ (Ac f.out) (by simp)).trans f.out;have q1:w'.cell? ⟨bs,0,none⟩=some (.slice (some ⟨b,o,none⟩) len cap):=Ab D 0;have al:=a0z ((y.block _ (Ac p.out) (by simp)).trans p.out);clear y D;obtain⟨fn,tm,aS,bd,S,T⟩:=HY.out ((D6 len).take k) (i,m) w' ⟨_,N.out⟩ aj.out;have af:=a0z T;clear T;unfold Y9 Iu at S;simp only at S
    go_upto_region 4 with(fail)
    refine(wpIn_wide (n:=n)).1 ?_
    gi_wp2_with (fail)
    (with_reducible refine af.out.mono ?_);rintro e W1 (⟨rfl,hj1,hf1⟩|⟨rfl,hjx⟩)
    ·have ai:=a0z hj1;have G:=a0z (ak.out.trans hf1 (by intro i hi;exact hi));have r2:W1.cell? ⟨M,0,none⟩=some (.int .i64 8):=Ab ((G.out.low _ E (Ac C.out) (by intro h;rcases List.mem_cons.1 h with h|h;exact U h;exact(O.out _ h).2.2 rfl)).trans C.out) 0;clear hj1 hf1
     gi_wp2_with (fail)
     go_wp2_with (fail)
     go_roundg (gk-1)
     case measure=>have:=r.out;omega
     case rel=>
      refine⟨k+1,j,by have:=r.out;omega,by have:=r.out;have:=ah.out;omega,rfl,?_,G.out⟩;have Q:=ai.out;have h2:=N.out
      have h3:(D6 len).take (k+1)=(D6 len).take k++[(i,m)]:=by
       have hk:k<(D6 len).length:=by rw[R1];have:=r.out;omega
       have e:(D6 len)[k]?=((D6 len).take k++(i,m)::(D6 len).drop (k+1))[k]?:=congrArg (fun l=>l[k]?) h2;rw[List.getElem?_append_right (by rw[List.length_take];exact Nat.min_le_left _ _)] at e;rw[List.length_take,Nat.min_eq_left (by omega),Nat.sub_self,a1x,List.getElem?_eq_getElem hk] at e;rw[List.take_succ_eq_append_getElem hk,Option.some.inj e]
      rw[h3];exact Q
    ·have ag:=a0z hjx;clear hjx
     gi_wp2_with (fail)
     go_wp2_with (fail);refine bodyPost_ret (results_none rfl _ _ _) rfl ?_;exact⟨⟨_,rfl⟩,Or.inr ⟨_,ag.out⟩⟩
  ·have z0:¬(i:Int)<(len:Int):=by omega
   have r:=a0z t;have HG:=a0z hg;clear t hg;go_wp2_with (fail);go_end0;refine⟨⟨_,rfl⟩,Or.inl ?_⟩;have Q:=ac.out
   rwa [List.take_of_length_le (by rw[R1];have:=r.out;omega)] at Q
theorem Ae7(w:World)(v:Value)(a:Option Addr)(len cap:Nat)(b:v=.slice a len cap):Calls Tryz.prog 135 #[v,.int .i64 8] w fun e w'=>e=.returned (.func (.func 211) #[] #[.pointer (some ⟨w.heap.size,0,none⟩),.pointer (some ⟨w.heap.size+1,0,none⟩)])∧
  w'.heap[w.heap.size]?=some (.cells #[v] 78 (0,0))/\w'.heap[w.heap.size+1]?=some (.cells #[.int .i64 8] 3 (0,0))/\Fp [] w w':=by
 subst b;have q:((w.alloc (.cells #[.slice a len cap] 78)).alloc (.cells #[.int .i64 8] 3)).cell? ⟨w.heap.size+1,0,none⟩=some (.int .i64 8):=Ab (Ai (by simp) _) 0;go_enter Tryz.func135,Tryz.ntmps135;go_wp2_with (fail);go_ret;exact⟨rfl,Bw (Ai rfl _),Ai (by simp) _,(Fp.alloc _ _).alloc' _⟩
def E2(w:World)(base:Nat)(v:Value)(l:List Value):Prop:=w.ownsRow base 78 1 v l.length l
theorem E2.nil(w:World)(base:Nat):E2 w base (.slice none 0 0) []:=World.ownsRow_nil w base _ _
theorem E2.mono{w:World}{base a:Nat}{v:Value}{l:List Value}(h:E2 w base v l)(j:a<=base):E2 w a v l:=by
 obtain⟨k,b⟩:=h;refine⟨k,?_⟩
 rcases b with b|⟨g,cap,d,f,i,r⟩
 ·exact Or.inl b
 ·exact Or.inr ⟨g,cap,d,f,Nat.le_trans j i,r⟩
theorem E2.lt{w:World}{base:Nat}{v:Value}{l:List Value}(h:E2 w base v l):∀k,v.ownBlock=some k->base<=k/\k<w.heap.size:=World.ownsRow.lt h
theorem E2.kept{w w':World}{base:Nat}{v:Value}{l:List Value}(h:E2 w base v l)(j:∀k,v.ownBlock=some k->w'.heap[k]?=w.heap[k]?):E2 w' base v l:=by
 obtain⟨m,a⟩:=h;refine⟨m,?_⟩
 rcases a with a|⟨g,cap,b,d,i,f,r⟩
 ·exact Or.inl a
 ·exact Or.inr ⟨g,cap,b,d,i,(j g (by rw[d];rfl)).trans f,r⟩
theorem E2.fp{w w':World}{base:Nat}{v:Value}{l:List Value}{S:List Nat}(h:E2 w base v l)(d:Fp S w w')(f:∀i∈S,i<base):E2 w' base v l:=
 h.kept fun k a=>d.block k (h.lt k a).2 (fun b=>by have:=f k b;have:=(h.lt k a).1;omega)
theorem E2.slice{w:World}{base:Nat}{v:Value}{l:List Value}(h:E2 w base v l):∃a n cap,v=.slice a n cap:=by
 rcases h.2 with⟨rfl,_⟩|⟨g,cap,b,rfl,_⟩
 ·exact⟨_,_,_,rfl⟩
 ·exact⟨_,_,_,rfl⟩
theorem Tryz.infoP:(Tryz.prog.info? 78).map (fun i=>(i.zero,i.size,i.bytes))=some (some (.slice none 0 0),1,24):=by kernel_rfl
theorem Ae8{F:Fence}{n:Nat}{w:World}{i:Array Oper}{rest:List Oper}{o:Oper}{a:Act}{Q:Exit→Act→World→Prop}(y:o.guard=none)(s x:Operand)
  (G:o.op=.call {callee:=.builtin .append,args:=#[s,x],argTypes:=#[149,149]})(base:Nat)(v:Value)(l:List Value)(E:a.eval s=v)(d:E2 w base v l)
  (g:Nat)(t:Value)(D:t.oneCell'=true)(C:a.eval x=.slice (some ⟨g,0,none⟩) 1 1)(L:w.cell? ⟨g,0,none⟩=some t)(z:l.length+1<=1000000000)(b:base<=w.heap.size)
  (h:∀m w',E2 w' base m (l++[t])->w.grownBy w' v.ownBlock->Below base w w'->wpListIn F n Tryz.prog i Q rest (a.put o.dst m) w'):wpListIn F n Tryz.prog i Q (o::rest) a w:=by
 obtain⟨B,K,r,q,p⟩:=info_parts Tryz.infoP;refine wpListIn_append_own w y s x 149 G base 78 B _ 1 24 Tryz.underlying149 K r q p rfl (by decide) v l.length l E d ⟨g,0,none⟩ 1 1 [t] C rfl ?_ (by intro u f;simp at f;subst f;exact D) (by unfold maxLen;omega) (by omega) b ?_
 ·intro j u f
  have J:j=0:=by
   have:=(List.getElem?_eq_some_iff.1 f).1
   simpa using this
  subst J;simp at f;subst f
  have N:(⟨g,0,none⟩:Addr).add 0=⟨g,0,none⟩:=by unfold Addr.add;split<;>simp_all
  rw[N];exact L
 ·intro m w' M A _;refine h m w' ?_ A ((Below.refl base w).grown A b (fun k I=>(d.lt k I).1));unfold E2;rw[a1z];exact M
structure Za(w w1:World)(b o:Nat)(pre:List (Nat × Nat))(W:World):Prop where
 ex:∃v,W.heap[w.heap.size]?=some (.cells #[v] 149 (0,0))/\E2 W (w1.heap.size+2) v (pre.map (Iu b o))
 fp:Fp [] w W
theorem Za.on{w d A B:World}{b o:Nat}{a:List (Nat × Nat)}{S:List Nat}(h:Za w d b o a A)(g:Fp S A B)(i:∀k∈S,w.heap.size+1<=k/\k<d.heap.size+2):Za w d b o a B:=by
 obtain⟨v,j,l⟩:=h.ex;refine⟨⟨v,(g.block _ (Ac j) fun m=>by have:=i _ m;omega).trans j,l.fp g fun k f=>(i k f).2⟩,h.fp.trans g fun k f=>Or.inr (by have:=i k f;omega)⟩
def pO(w:World)(b o len cap:Nat)(x:Nat × Nat):Act:={tmps:=#[.slice (some ⟨b,o,none⟩) len cap,.int .i64 8,undef,undef,.pointer (some ⟨w.heap.size,0,none⟩),Iu b o x,.slice (some ⟨b,o,none⟩) len cap,.int .i64 8,.func (.func 211) #[] #[.pointer (some ⟨w.heap.size+1,0,none⟩),.pointer (some ⟨w.heap.size+1+1,0,none⟩)],Iu b o x,undef,undef,undef,undef,undef],defers:=[]}
attribute [local go_sem] Oper.semAt_some
theorem pP(w:World)(b o len cap:Nat)(Y:len≤cap)(ab:len≤1000000000):
  Calls Tryz.prog 77 #[.slice (some ⟨b,o,none⟩) len cap,.int .i64 8] w fun e w'=>∃v,e=.returned v/\E2 w' w.heap.size v ((D6 len).map (Iu b o))/\Fp [] w w':=by
 have ag:=a0z (fun w=>Ae7 w (.slice (some ⟨b,o,none⟩) len cap) _ _ _ rfl);rw[<-callsIn_wide (n:=5)];refine callsIn_of_wp_marks Tryz.func77 rfl trivial ?_ rfl;simp only[Tryz.ntmps77,List.size_toArray,a0x,List.length_nil,Nat.reduceAdd,Nat.reduceSub,a3v,a3u,List.push_toArray,List.append_toArray,a0u,a0w]
 gi_wp2_with (fail)
 refine⟨trivial,?_⟩;(with_reducible refine((callsIn_wide (n:=4)).2 (ag.out _)).mono ?_);rintro e f ⟨rfl,Q,z,g⟩;have M:f.heap[w.heap.size]?=some (.cells #[.slice none 0 0] 149 (0,0)):=(g.block _ (by simp) (by simp)).trans (Ai rfl _);have am:w.heap.size+2<f.heap.size:=Ac (by simpa using z)
 have ai:Hid (f.heap[w.heap.size+1]?=some (.cells #[.slice (some ⟨b,o,none⟩) len cap] 78 (0,0))):=by show f.heap[w.heap.size+1]?=_;simpa using Q
 have aj:Hid (f.heap[w.heap.size+1+1]?=some (.cells #[.int .i64 8] 3 (0,0))):=by show f.heap[w.heap.size+1+1]?=_;simpa using z
 have ah:Hid (Fp [] w f):=(Fp.alloc _ _).trans g (by simp);have ae:=a0z M;clear Q z g M
 gi_wp2_with (fail)
 refine Sm (α:=Nat × Nat) (encs:=Y9 b o) rfl (enters_of Tryz.func211 (by kernel_rfl) rfl) (fun _=>rfl) 209 [w.heap.size] [] (by simp;omega) (by simp) (w.heap.size+1) (by omega) 0
  (fun j x=>∃m,D6 len=j++x::m) (Za w f b o) (fun _ _=>False) (fun xs _=>xs=D6 len)
  (fun _=>True) (fun s A B k h P N=>h.on P (by simp;omega)) (fun s A B h P _=>h.on P (by simp;omega)) (fun _ _ _ h _=>h) (fun _ _ _ h _=>h) ?_ ?_ (fun x a' _=>a'=pO w b o len cap x) (fun _ _ _ _ h _=>h) ?_ ?_ ?_ (fun _ _ h=>h.elim)
 ·intro J Jx W1 g al hJ hY ac;exact Ae6 (f.heap.size+2) (f.heap.size+1) (5-1) (w.heap.size+1) (w.heap.size+1+1) W1 b o len cap (by decide) ((g.block _ (by omega) (by simp)).trans ai.out) ((g.block _ (by omega) (by simp)).trans aj.out) Y ab (by omega) (by omega) (by omega) (by omega) [w.heap.size] (by intro k N;simp only[a2x,a1w,or_false] at N;omega) J Jx (fun s A B h P=>hJ s A B h (P.mono (by simp)) trivial) hY ac
 ·exact⟨⟨.slice none 0 0,ae.out,E2.nil _ _⟩,ah.out⟩
 ·intro l x W K hW T;simp only[Y9]
  gi_wp2_with (fail)
  exact T _ _ (Fp.refl _ _) rfl
 ·rintro l j ⟨xi,xm⟩ a' W ⟨m,p⟩ D hW rfl
  have ao:j.length+1<=1000000000:=by
   have h1:=R1 len
   have h2:(D6 len).length=j.length+(m.length+1):=by rw[p,a1z,a0x]
   omega
  obtain⟨v,u,G⟩:=D.ex
  have q0:∀X:Obj,(W.alloc X).cell? ⟨w.heap.size,0,none⟩=some v:=fun X=>Ab (Bw u) 0
  have an:W.cell? ⟨w.heap.size,0,none⟩=some v:=Ab u 0;have HI:=a0z D;have HV:=a0z u;have I:=a0z G;clear D u G p;unfold pO Iu;simp only
  gi_wp2_with (gi_at_builtin;(refine Ae8 rfl _ _ rfl (f.heap.size+2) _ (j.map (Iu b o)) rfl (I.out.fp (Fp.alloc _ _) (by simp)) _ (Iu b o (xi,xm)) rfl rfl (by rw[Ab (Ai rfl _)];rfl) (by simp;omega) (by simp;omega) ?_);intro v3 F y O C;obtain⟨S,L,d,rfl⟩:=y.slice;have ad:=a0z y;have ak:=a0z C;have af:=a0z (Wp (show 209≠78 by decide) (I.out.fp (Fp.alloc _ _) (by simp)) O (by simp;omega));have E:=a0z ((C.block _ (by omega)).trans (Bw HV.out));have f1:F.frozen? ⟨w.heap.size,0,none⟩=false:=Ar E.out 0;have c1:F.cell? ⟨w.heap.size,0,none⟩=some v:=Ab E.out 0;clear y O C)
  have aa:=((Aq.of (Fp.alloc W (.cells #[Iu b o (xi,xm)] 78)) (by simp):Aq 209 (f.heap.size+2) [] W _).trans af.out (by simp)).mono (S':=[w.heap.size]) (by simp);have a:Fp [w.heap.size] F (F.setCell ⟨w.heap.size,0,none⟩ (.slice S L d)):=Fp.setCell F ⟨w.heap.size,0,none⟩ (.slice S L d);have R:(F.setCell ⟨w.heap.size,0,none⟩ (.slice S L d)).heap[w.heap.size]?=some (.cells #[.slice S L d] 149 (0,0)):=(Bd E.out _).trans rfl;refine⟨aa.trans (Aq.of a (by simp;omega)) (by simp),⟨.slice S L d,R,?_⟩,?_⟩
  ·rw[a1v];exact ad.out.fp a (by simp;omega)
  ·exact(((HI.out.fp.alloc' _).belowTrans (ak.out.mono (by omega))).setCell' (Or.inr (Nat.le_refl _)) _)
 ·rintro xs W rfl D T;obtain⟨v,u,G⟩:=D.ex;obtain⟨t,q,r,rfl⟩:=G.slice;have HI:=a0z D;have HK:=a0z T;have q0:W.cell? ⟨w.heap.size,0,none⟩=some (.slice t q r):=Ab u 0;have f0:W.frozen? ⟨w.heap.size,0,none⟩=false:=Ar u 0;have HV:=a0z u;have I:=a0z G;clear D T u G
  gi_wp2_with (fail)
  have a:Fp [w.heap.size] W (W.setCell ⟨w.heap.size,0,none⟩ (.slice t q r)):=Fp.setCell W ⟨w.heap.size,0,none⟩ (.slice t q r);have R:(W.setCell ⟨w.heap.size,0,none⟩ (.slice t q r)).heap[w.heap.size]?=some (.cells #[.slice t q r] 149 (0,0)):=(Bd HV.out _).trans rfl
  obtain⟨wa,U⟩:∃wa,W.setCell ⟨w.heap.size,0,none⟩ (.slice t q r)=wa:=⟨_,rfl⟩
  rw[U] at a R ⊢;have Z:wa.heap[f.heap.size]?=some (.deferred (some [])):=(a.block _ (Ac HK.out) (by simp;omega)).trans HK.out;have V:=Fp.putObj wa f.heap.size (.deferred none);refine⟨by simp,.inl ⟨_,_,rfl,run_takeDeferred Z,?_⟩⟩;have c0:(wa.putObj f.heap.size (.deferred none)).cell? ⟨w.heap.size,0,none⟩=some (.slice t q r):=Ab ((V.block _ (Ac R) (by simp;omega)).trans R) 0;exact⟨.slice t q r,by simp[results,Tryz.results77,go_sem,c0],.slice t q r,rfl,((I.out.fp a (by simp;omega)).mono (by omega)).kept (fun k N=>V.block k (((I.out.fp a (by simp;omega)).lt k N).2) (by have:=((I.out.fp a (by simp;omega)).lt k N).1;simp;omega)),((HI.out.fp.trans a (by intro i hi;right;simp at hi;omega)).trans V (by intro i hi;right;simp at hi;omega))⟩
end
end Go.Proofs.YtkagolpnaicdoaaGreatDoor
