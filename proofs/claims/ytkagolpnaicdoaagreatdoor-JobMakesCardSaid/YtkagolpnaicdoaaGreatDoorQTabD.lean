/- Lemmas. -/
import Derived.Test.YtkagolpnaicdoaaGreatDoorQBlkC
set_option maxRecDepth 100000
set_option maxHeartbeats 8000000
open Go.Lib renaming hid->Z
open List renaming setIfInBounds_toArray->a0z,set_cons_succ->a0x,set_cons_zero->a0w,cons_append->a0v,getElem?_eq_getElem->a0u,getElem?_cons_zero->a1z,length_append->a1x,nil_append->a1w,length_cons->a1v,not_mem_nil->a1u,getD_eq_getElem?_getD->a2z,reverse_cons->a2x,mem_cons->a2w,reverse_nil->a2u,getElem_mem->a3z,getElem?_toArray->a3x,map_append->a3w,length_map->a3v
open Go.IntKind renaming wrap_i64->a2v,wrap_u64->a4z
open Bool renaming false_eq_true->a3u
open ByteArray renaming size_extract->a4x
open Nat renaming le_refl->a4w
open Array renaming replicate_succ->a4v,replicate_zero->a4u
namespace Go.Proofs.YtkagolpnaicdoaaGreatDoor
section
open Go.RowKit
def L2:Nat->Nat->ByteArray->List (Nat × ByteArray)
 |0,_,_=>[]
 |n+1,at_,s=>if(Dq (s.extract at_ s.size)).2.2=0 then(at_+(Dq (s.extract at_ s.size)).2.1,(Dq (s.extract at_ s.size)).1)::L2 n (at_+(Dq (s.extract at_ s.size)).2.1) s else[]
def Ey(s:ByteArray):List (Nat × ByteArray):=L2 (s.size+1) 0 s
theorem Ac5(s:ByteArray):((Dq s).2.2=0∧(Dq s).2.1=Gs s∧6≤Gs s∧Gs s≤s.size∧(Dq s).1=s.extract 6 (Gs s))∨((Dq s).2.2≠0∧(Dq s).2.2<256∧(Dq s).1=⟨#[]⟩):=by
 by_cases a:s.size=0
 .right;rw[Wl a];exact⟨by decide,by decide,rfl⟩
 .by_cases c:s.size<6
  .right;rw[eV a c];exact⟨by decide,by decide,rfl⟩
  .by_cases h:s.size<Gs s
   .right;rw[eW a c h];exact⟨by decide,by decide,rfl⟩
   .by_cases k:Ln (s.extract 0 2) (s.extract 6 (Gs s))=Qp (A4 s 2) (A4 s 3) (A4 s 4) (A4 s 5)
    .left;rw[Zf a c h k];exact⟨rfl,rfl,by unfold Gs;omega,by omega,rfl⟩
    .right;rw[eX a c h k];exact⟨by decide,by decide,rfl⟩
theorem Ub{n a k:Nat}{s t:ByteArray}(h:Dq (s.extract a s.size)=(t,k,0)):L2 (n+1) a s=(a+k,t)::L2 n (a+k) s:=by
 show(if _ then _ else _)=_;rw[h];exact if_pos rfl
theorem Uc{n a k e:Nat}{s t:ByteArray}(h:Dq (s.extract a s.size)=(t,k,e))(c:e≠0):L2 (n+1) a s=[]:=by
 show(if _ then _ else _)=_;rw[h];exact if_neg c
theorem cY{s t:ByteArray}{a k:Nat}(h:Dq (s.extract a s.size)=(t,k,0)):6≤k∧a+k≤s.size∧t=(s.extract a s.size).extract 6 k∧k≤65541+6:=by
 have m:=Ac5 (s.extract a s.size);rw[h] at m;rcases m with⟨_,c,x,u,r⟩|⟨c,_⟩
 .simp only at c r;rw[a4x] at u;have v:Gs (s.extract a s.size)≤65541+6:=by
   have:=(A4 (s.extract a s.size) 0).toNat_lt;have:=(A4 (s.extract a s.size) 1).toNat_lt;unfold Gs;omega
  exact⟨by omega,by omega,by rw[r,<-c],by omega⟩
 .exact absurd rfl c
theorem oD:∀(n m a:Nat) (s:ByteArray),s.size-a<n→s.size-a<m→L2 n a s=L2 m a s
 |0,_,_,_,h,_=>absurd h (Nat.not_lt_zero _)
 |_ +1,0,_,_,_,h=>absurd h (Nat.not_lt_zero _)
 |n+1,m+1,a,s,h1,h2=>by
  obtain⟨⟨t,k,e⟩,c⟩:∃x,Dq (s.extract a s.size)=x:=⟨_,rfl⟩
  by_cases r:e=0
  .subst r;have u:=cY c;rw[Ub c,Ub c,oD n m (a+k) s (by omega) (by omega)]
  .rw[Uc c r,Uc c r]
def Yl(x:Nat × ByteArray):Array Value:=#[.int .i64 x.1,.string x.2]
theorem Ac6(base L n y:Nat)(w:World)(s:ByteArray)(hn:1≤n)(K:w.heap[y]?=some (.cells #[.string s] 9 (0,0)))(hs:s.size≤100000000)(r:Dp w)(I:y<base)(af:y≠L)
  (ab:0<base)(ac:0≠L)(S0:List Nat)(M:∀k∈S0,k<base/\k≠y/\k≠0)(J Jx:List (Nat × ByteArray)->World->Prop)
  (hJ:∀s A B,J s A->Fp [] A B->J s B)
  (hy:∀a x W,(∃E,Ey s=a++x::E)->J a W->YieldAt Fence.wide (n-1) Tryz.prog L (Yl x) W fun e W'=>(e=.returned (.bool true)/\J (a++[x]) W'/\Ao 209 base (L::S0) W W')∨(e=.returned (.bool false)/\Jx (a++[x]) W'))
  (h0:J [] w):
  CallsIn Fence.wide n Tryz.prog 204 #[.func (.yield L) #[] #[],.pointer (some ⟨y,0,none⟩)] w fun e w'=>(∃v,e=.returned v)/\((∃xs,xs=Ey s/\J xs w')∨∃a,Jx a w'):=by
 rw[callsIn_wide];have HY:=Z hy;have HJ:=Z hJ;have N:=Z M;have U:=Z K;have HT:=Z r;have HG:=Z (fun(c:Nat) (w:World) (r:Dp w)=>rR (s.extract c s.size) w (by rw[a4x];omega) r);clear hy hJ M K r;go_in;go_wp2_with fail
 go_loopg [3] s.size (fun g va wr=>∃(c:Nat) (a:List (Nat × ByteArray)),g+c=s.size/\va=.int .i64 c/\J a wr/\Ao 209 base (L::S0) w wr/\Ey s=a++L2 (g+1) c s)
 case atStart=>exact⟨0,[],by omega,rfl,h0,Ao.of (Fp.refl [] _) (by simp) |>.mono (by simp),rfl⟩
 case round=>
  obtain⟨c,a,hg,rfl,hj,hf,G⟩:=hrel;have C:=Z hf;have ak:=Z hj;have T:=Z G;clear hf hj G;have u:wr.heap[y]?=some (.cells #[.string s] 9 (0,0)):=(C.o.low _ I (Ae U.o) (by intro h;rcases List.mem_cons.1 h with h|h;exact af h;exact(N.o _ h).2.1 rfl)).trans U.o;have q0:wr.cell? ⟨y,0,none⟩=some (.string s):=Ab u 0;have ah:Hid (Dp wr):=fun i hi=>by
   have h1:=HT.o i hi;have ad:=World.block_lt_of_cell? _ _ h1;have ae:=C.o.low 0 ab ad (by intro h;rcases List.mem_cons.1 h with h|h;exact ac h;exact(N.o _ h).2.2 rfl);rw[<-h1];unfold World.cell?;rw[ae]
  clear u
  obtain⟨⟨t,k,e⟩,r⟩:∃x,Dq (s.extract c s.size)=x:=⟨_,rfl⟩
  have P:=Z (HG.o c);rw[r] at P;have z:=Z r;clear r
  have z1:(c:Int)<=(s.size:Int):=by omega
  go_wp2_with fail;refine(P.o _ ah.o).mono ?_;rintro e1 w1 ⟨rfl,m⟩;have O:=Z (HJ.o _ _ _ ak.o m);have S:=Z (C.o.trans (Ao.of (m.mono (by simp):Fp [] wr w1) (by simp)));clear m;by_cases he:e=0
  .subst he;obtain⟨ao,an,-,am⟩:=cY z.o;have V:=Z T.o;rw[Ub z.o] at V
   have n1:IntKind.i64.wrap ((c:Int)+(k:Int))=((c+k:Nat):Int):=(by rw[a2v];omega)
   obtain⟨D,ag⟩:=Aa (c+k);rw[ag] at n1 V;obtain⟨fn,tm,ap,bd,aa,F⟩:=HY.o a (D,t) w1 ⟨_,V.o⟩ O.o;have ai:=Z F;clear F;unfold Yl at aa
   go_upto_region 4 with(fail)
   refine(wpIn_wide (n:=n)).1 ?_
   gi_wp2_with fail
   refine ai.o.mono ?_;rintro e W1 (⟨rfl,hj1,m⟩|⟨rfl,hjx⟩)
   .have al:=Z hj1;have Q:=Z (S.o.trans m (by intro i hi;exact hi));clear hj1 m
    gi_wp2_with fail
    go_wp2_with fail
    go_roundg (s.size-D)
    case measure=>omega
    case rel=>
     refine⟨D,a++[(D,t)],by omega,rfl,al.o,Q.o,?_⟩;rw[V.o,List.append_assoc,oD gk (s.size-D+1) D s (by omega) (by omega)];rfl
   .have aj:=Z hjx;clear hjx
    gi_wp2_with fail
    go_wp2_with fail;refine bodyPost_ret (results_none rfl _ _ _) rfl ?_;exact⟨⟨_,rfl⟩,Or.inr ⟨_,aj.o⟩⟩
  .have z2:((e:Int)!=0)=true:=(by rw[bne_iff_ne];omega)
   go_wp2_with fail;refine bodyPost_ret (results_none rfl _ _ _) rfl ?_;refine⟨⟨_,rfl⟩,Or.inl ⟨a,?_,O.o⟩⟩;have:=T.o;rw[Uc z.o he,List.append_nil] at this;exact this.symm
theorem Ac7(w:World)(s:ByteArray):Calls Tryz.prog 131 #[.string s] w fun e w'=>e=.returned (.func (.func 204) #[] #[.pointer (some ⟨w.heap.size,0,none⟩)])/\w'.heap[w.heap.size]?=some (.cells #[.string s] 9 (0,0))/\Fp [] w w':=by
 go_in;go_wp2_with fail;go_ret;exact⟨rfl,Ai rfl _,Fp.alloc _ _⟩
theorem Ac8{F:Fence}{n:Nat}{w:World}{y:Array Oper}{rest:List Oper}{o:Oper}{a:Act}{Q:Exit→Act→World→Prop}(D:o.guard=none)(s x:Operand)
  (L:o.op=.call {callee:=.builtin .append,args:=#[s,x],argTypes:=#[22,22]})(base:Nat)(v:Value)(l:List ByteArray)(K:a.eval s=v)(m:Ce w base v l)
  (g:Nat)(t:ByteArray)(J:a.eval x=.slice (some ⟨g,0,none⟩) 1 1)(P:w.cell? ⟨g,0,none⟩=some (.string t))(E:l.length+1<=1000000000)(c:base<=w.heap.size)
  (h:∀z w',Ce w' base z (l++[t])->w.grownBy w' v.ownBlock->Below base w w'->wpListIn F n Tryz.prog y Q rest (a.put o.dst z) w'):wpListIn F n Tryz.prog y Q (o::rest) a w:=by
 obtain⟨I,O,C,B,A⟩:=info_parts Tryz.info9;refine wpListIn_append_own w D s x 22 L base 9 I _ 1 16 Tryz.underlying22 O C B A rfl (by decide) v l.length (l.map Value.string) K m ⟨g,0,none⟩ 1 1 [.string t] J rfl ?_ (by intro u r;simp at r;subst r;rfl) (by unfold maxLen;omega) (by omega) c ?_
 .intro j u r;have N:j=0:=by
   have:=(List.getElem?_eq_some_iff.1 r).1
   simpa using this
  subst N;simp at r;subst r
  have T:(⟨g,0,none⟩:Addr).add 0=⟨g,0,none⟩:=by unfold Addr.add;split<;>simp_all
  rw[T];exact P
 .intro z w' S G _;refine h z w' ?_ G ((Below.refl base w).grown G c (fun k M=>(m.lt k M).1));unfold Ce;rw[a1x,a3w];exact S
theorem Vx{T e:TypeId}{w w':World}{base n a:Nat}{v:Value}{l:List Value}(y:T≠e)(h:w.ownsRow base e a v n l)(m:w.grownBy w' v.ownBlock)(x:base≤w.heap.size):Ao T base [] w w':=by
 refine⟨m.size,fun k z _ _=>((Below.refl base w).grown m x (fun k t=>(World.ownsRow.lt h k t).1)).block k z,fun k c B _ r=>m.block k (Ae r) fun s=>?_⟩;rcases h.2 with⟨rfl,_⟩|⟨g,cap,A,rfl,_,u,_⟩
 .cases s
 .obtain rfl:k=g:=by simpa [Value.ownBlock] using s
  rw[u] at r;cases r;exact y rfl
theorem Ce.slice{w:World}{base:Nat}{v:Value}{l:List ByteArray}(h:Ce w base v l):∃a n cap,v=.slice a n cap:=by
 rcases h.2 with⟨rfl,_⟩|⟨g,cap,c,rfl,_⟩
 .exact⟨_,_,_,rfl⟩
 .exact⟨_,_,_,rfl⟩
theorem oE:∀(n a:Nat) (s:ByteArray),(L2 n a s).length≤n
 |0,_,_=>a4w _
 |n+1,a,s=>by
  obtain⟨⟨t,k,e⟩,c⟩:∃x,Dq (s.extract a s.size)=x:=⟨_,rfl⟩
  by_cases h:e=0
  .subst h;rw[Ub c,a1v];have:=oE n (a+k) s;omega
  .rw[Uc c h];exact Nat.zero_le _
def Gy(l:List (Nat × ByteArray)):Nat:=(l.getLast?.map (·.1)).getD 0
theorem Ac9(l:List (Nat × ByteArray))(x:Nat × ByteArray):Gy (l++[x])=x.1:=by unfold Gy;simp
structure Ym(w w1:World)(pre:List (Nat × ByteArray))(W:World):Prop where
 ex:∃v,W.heap[w.heap.size]?=some (.cells #[v] 22 (0,0))/\Ce W (w1.heap.size+2) v (pre.map (·.2))
 en:W.heap[w.heap.size+1]?=some (.cells #[.int .i64 (Gy pre)] 3 (0,0))
 fp:Fp [] w W
theorem Ym.on{w r A B:World}{a:List (Nat × ByteArray)}{S:List Nat}(h:Ym w r a A)(c:Fp S A B)(m:∀k∈S,w.heap.size+2<=k/\k<r.heap.size+2):Ym w r a B:=by
 obtain⟨v,u,x⟩:=h.ex;refine⟨⟨v,(c.block _ (Ae u) fun s=>by have:=m _ s;omega).trans u,x.fp c fun k t=>(m k t).2⟩,(c.block _ (Ae h.en) fun s=>by have:=m _ s;omega).trans h.en,h.fp.trans c fun k t=>Or.inr (by have:=m k t;omega)⟩
def oF(w:World)(s:ByteArray)(x:Nat × ByteArray):Act:={tmps:=#[.string s,undef,.pointer (some ⟨w.heap.size,0,none⟩),.pointer (some ⟨w.heap.size+1,0,none⟩),.int .i64 x.1,.string x.2,.string s,.func (.func 204) #[] #[.pointer (some ⟨w.heap.size+1+1,0,none⟩)],.int .i64 x.1,.string x.2,undef,undef,undef,undef,undef,undef,undef],defers:=[]}
structure J8(W:World)(b:Nat)(v:Value)(en:Nat)(w':World):Prop where
 h0:w'.heap[b]?=some (.cells #[v] 22 (0,0))
 h1:w'.heap[b+1]?=some (.cells #[.int .i64 en] 3 (0,0))
 fp:Fp [b,b+1] W w'
theorem J8.q0{W w':World}{b a:Nat}{v:Value}(h:J8 W b v a w'):w'.cell? ⟨b,0,none⟩=some v:=Ab h.h0 0
theorem J8.q1{W w':World}{b a:Nat}{v:Value}(h:J8 W b v a w'):w'.cell? ⟨b+1,0,none⟩=some (.int .i64 a):=Ab h.h1 0
theorem J8.z0{W w':World}{b a:Nat}{v:Value}(h:J8 W b v a w'):w'.frozen? ⟨b,0,none⟩=false:=Av h.h0 0
theorem J8.z1{W w':World}{b a:Nat}{v:Value}(h:J8 W b v a w'):w'.frozen? ⟨b+1,0,none⟩=false:=Av h.h1 0
theorem J8.st0{W w':World}{b a:Nat}{v:Value}(h:J8 W b v a w'):J8 W b v a (w'.setCell ⟨b,0,none⟩ v):=
 ⟨(Cf h.h0 v).trans rfl,((Fp.setCell w' ⟨b,0,none⟩ v).block _ (Ae h.h1) (by simp)).trans h.h1,h.fp.setCell' (Or.inl (by simp)) _⟩
theorem J8.st1{W w':World}{b a:Nat}{v:Value}(h:J8 W b v a w'):J8 W b v a (w'.setCell ⟨b+1,0,none⟩ (.int .i64 a)):=
 ⟨((Fp.setCell w' ⟨b+1,0,none⟩ _).block _ (Ae h.h0) (by simp)).trans h.h0,(Cf h.h1 _).trans rfl,h.fp.setCell' (Or.inl (by simp)) _⟩
attribute [local go_sem] Oper.semAt_some
theorem Ada(w:World)(s:ByteArray)(hs:s.size≤100000000)(ht:Dp w):
  Calls Tryz.prog 75 #[.string s] w fun e w'=>∃v,e=.returned (.tuple #[v,.int .i64 (Gy (Ey s))])/\Ce w' w.heap.size v ((Ey s).map (·.2))/\Fp [] w w':=by
 have HT:=Z ht;clear ht;have ao:=Z (fun w=>Ac7 w s);rw[<-callsIn_wide (n:=5)];refine callsIn_of_wp_marks Tryz.func75 rfl trivial ?_ rfl;simp only[Tryz.ntmps75,List.size_toArray,a1v,List.length_nil,Nat.reduceAdd,Nat.reduceSub,a4v,a4u,List.push_toArray,List.append_toArray,a1w,a0v]
 gi_wp2_with fail
 refine⟨trivial,?_⟩;refine((callsIn_wide (n:=4)).2 (ao.o _)).mono ?_;rintro e m ⟨rfl,T,y⟩;have ab:m.heap[w.heap.size]?=some (.cells #[.slice none 0 0] 22 (0,0)):=(y.block _ (by simp;omega) (by simp)).trans (Dy (Ai rfl _));have aa:m.heap[w.heap.size+1]?=some (.cells #[.int .i64 0] 3 (0,0)):=(y.block _ (by simp) (by simp)).trans (Ai (by simp) _);have aw:w.heap.size+2<m.heap.size:=Ae (by simpa using T)
 have aq:Hid (m.heap[w.heap.size+1+1]?=some (.cells #[.string s] 9 (0,0))):=by show m.heap[w.heap.size+1+1]?=_;simpa using T
 have af:Hid (Fp [] w m):=((Fp.alloc _ _).alloc' _).trans y;have ae:=Z (HT.o.fp af.o);have am:=Z ab;have al:=Z aa;have ay:0<m.heap.size:=World.block_lt_of_cell? _ _ (ae.o 0 (by decide));have au:0<w.heap.size:=World.block_lt_of_cell? _ _ (HT.o 0 (by decide));clear T y ab aa
 gi_wp2_with fail
 refine Vw (α:=Nat × ByteArray) (encs:=Yl) rfl (enters_of Tryz.func204 (by kernel_rfl) rfl) (fun _=>rfl) 209 [w.heap.size,w.heap.size+1] [] (by simp;omega) (by simp) (w.heap.size+2) (by omega) 0
  (fun u x=>∃D,Ey s=u++x::D) (Ym w m) (fun _ _=>False) (fun xs _=>xs=Ey s)
  (fun _=>True) (fun s A B k h hf G=>h.on hf (by simp;omega)) (fun s A B h hf _=>h.on hf (by simp;omega)) (fun _ _ _ h _=>h) (fun _ _ _ h _=>h) ?_ ?_ (fun x a' _=>a'=oF w s x) (fun _ _ _ _ h _=>h) ?_ ?_ ?_ (fun _ _ h=>h.elim)
 .intro J Jx W1 y av hJ hY aj;exact Ac6 (m.heap.size+2) (m.heap.size+1) (5-1) (w.heap.size+1+1) W1 s (by decide) ((y.block _ (by omega) (by simp)).trans aq.o) hs (ae.o.fp y) (by omega) (by omega) (by omega) (by omega) [w.heap.size,w.heap.size+1] (by intro k G;simp only[a2w,a1u,or_false] at G;omega) J Jx (fun s A B h hf=>hJ s A B h (hf.mono (by simp)) trivial) hY aj
 .exact⟨⟨.slice none 0 0,am.o,Ce.nil _ _⟩,al.o,af.o⟩
 .intro l x W K hW F;simp only[Yl]
  gi_wp2_with fail
  exact F _ _ (Fp.refl _ _) rfl
 .rintro l u ⟨xa,t⟩ a' W ⟨D,E⟩ N hW rfl;have az:u.length≤100000001:=by
   have h1:=oE (s.size+1) 0 s
   have h2:(Ey s).length=u.length+(D.length+1):=(by rw[E,a1x,a1v])
   unfold Ey at h2;omega
  obtain⟨v,Q,V⟩:=N.ex;have q0:∀X:Obj,(W.alloc X).cell? ⟨w.heap.size,0,none⟩=some v:=fun X=>Ab (Dy Q) 0;have ax:W.cell? ⟨w.heap.size,0,none⟩=some v:=Ab Q 0;have HI:=Z N;have HV:=Z Q;have HO:=Z V;have ap:=Z N.en;clear N Q V E;unfold oF
  gi_wp2_with (gi_at_builtin;(refine Ac8 rfl _ _ rfl (m.heap.size+2) _ (u.map (·.2)) rfl (HO.o.fp (Fp.alloc _ _)) _ t rfl (by rw[Ab (Ai rfl _)];rfl) (by simp;omega) (by simp;omega) ?_);intro v3 C S ac L;obtain⟨P,M,c,rfl⟩:=S.slice;have ak:=Z S;have ar:=Z L;have an:=Z (Vx (show 209≠9 by decide) (HO.o.fp (Fp.alloc _ _)) ac (by simp;omega));have U:=Z ((L.block _ (by omega)).trans (Dy HV.o));have z:=Z ((L.block _ (by omega)).trans (Dy ap.o));have f1:C.frozen? ⟨w.heap.size,0,none⟩=false:=Av U.o 0;have f2:C.frozen? ⟨w.heap.size+1,0,none⟩=false:=Av z.o 0;have c1:C.cell? ⟨w.heap.size,0,none⟩=some v:=Ab U.o 0;have c2:C.cell? ⟨w.heap.size+1,0,none⟩=some (.int .i64 (Gy u)):=Ab z.o 0;clear S ac L)
  have ah:=((Ao.of (Fp.alloc W (.cells #[.string t] 9)) (by simp):Ao 209 (m.heap.size+2) [] W _).trans an.o).mono (S':=[w.heap.size,w.heap.size+1]) (by simp);have ad:Fp [w.heap.size,w.heap.size+1] C ((C.setCell ⟨w.heap.size,0,none⟩ (.slice P M c)).setCell ⟨w.heap.size+1,0,none⟩ (.int .i64 xa)):=((Fp.setCell C ⟨w.heap.size,0,none⟩ (.slice P M c)).mono (by simp)).setCell' (Or.inl (by simp)) _;have h4:(C.setCell ⟨w.heap.size,0,none⟩ (.slice P M c)).heap[w.heap.size]?=some (.cells #[.slice P M c] 22 (0,0)):=(Cf U.o _).trans rfl;have h5:(C.setCell ⟨w.heap.size,0,none⟩ (.slice P M c)).heap[w.heap.size+1]?=some (.cells #[.int .i64 (Gy u)] 3 (0,0)):=((Fp.setCell C ⟨w.heap.size,0,none⟩ (.slice P M c)).block _ (Ae z.o) (by simp)).trans z.o;refine⟨ah.trans (Ao.of ad (by intro k G;simp only[a2w,a1u,or_false] at G;omega)),⟨.slice P M c,?_,?_⟩,?_,?_⟩
  .exact((Fp.setCell (C.setCell ⟨w.heap.size,0,none⟩ (.slice P M c)) ⟨w.heap.size+1,0,none⟩ (.int .i64 xa)).block _ (Ae h4) (by simp)).trans h4
  .rw[a3w];exact ak.o.fp ad (by intro k G;simp only[a2w,a1u,or_false] at G;omega)
  .rw[Ac9];exact(Cf h5 _).trans rfl
  .exact(((HI.o.fp.alloc' _).belowTrans (ar.o.mono (by omega))).setCell' (Or.inr (a4w _)) _).setCell' (Or.inr (by show w.heap.size<=w.heap.size+1;omega)) _
 .rintro xs W rfl N F;obtain⟨v,Q,V⟩:=N.ex;obtain⟨va,vn,vc,rfl⟩:=V.slice;have HI:=Z N;have HK:=Z F;have HV:=Z Q;have HO:=Z V;clear N F Q V
  gi_wp2_with fail
  refine wpIn_wide.2 ?_;refine E3 (fun _ w'=>J8 W w.heap.size (.slice va vn vc) (Gy (Ey s)) w') (fun _ _=>True) (by kernel_rfl) (by kernel_rfl) ⟨HV.o,HI.o.en,(Fp.drew W).mono (by simp)⟩ ?_
  iterate 2
   apply A3 (fun _ _ h=>h) rfl rfl rfl
   .intro b a w r O K F;have:=O.f 2;have:=O.f 3;have q0:=r.q0;have q1:=r.q1;simp only[Oper.wp,execOp];go_simp;exact F _ r trivial
  apply F3 (fun _=>True) rfl rfl
  .intro b a w r O K F;have h2:=O.f 2;have a1:=O.e 0 15;have q0:=r.q0;have z0:=r.z0;simp only[Oper.wp,execOp];go_simp;exact F undef _ r.st0 trivial trivial
  apply F3 (fun _=>True) rfl rfl
  .intro b a w r O K F;have h3:=O.f 3;have a0:=O.e 1 16;have q1:=r.q1;have z1:=r.z1;simp only[Oper.wp,execOp];go_simp;exact F undef _ r.st1 trivial trivial
  refine⟨?_,?_⟩
  .refine⟨fun _ _ _ _ _=>trivial,?_⟩;refine⟨fun _ _ _ _ _=>trivial,?_⟩;refine Cb _ ?_;refine Cb _ ?_;exact trivial
  .intro wa bb r ai;simp only[a2x,a2u,a1w,a0v]
   iterate 2 (refine A2 ?_)
   refine As ?_;intro v2 u2;refine As ?_;intro v3 u3;refine C7 ?_;simp only[Aj,Act.put,a0z,a0x,a0w];have HA:=Z r;have q0:=r.q0;have q1:=r.q1;clear r ai u2 u3;have ag:wa.heap[m.heap.size]?=some (.deferred (some [])):=(HA.o.fp.block _ (Ae HK.o) (by simp;omega)).trans HK.o;have hp:=Fp.putObj wa m.heap.size (.deferred none)
   gi_wp2_with fail
   refine⟨by simp,.inl ⟨_,_,rfl,run_takeDeferred ag,?_⟩⟩;have c0:(wa.putObj m.heap.size (.deferred none)).cell? ⟨w.heap.size,0,none⟩=some (.slice va vn vc):=Ab ((hp.block _ (Ae HA.o.h0) (by simp;omega)).trans HA.o.h0) 0;have c1:(wa.putObj m.heap.size (.deferred none)).cell? ⟨w.heap.size+1,0,none⟩=some (.int .i64 (Gy (Ey s))):=Ab ((hp.block _ (Ae HA.o.h1) (by simp;omega)).trans HA.o.h1) 0;have I:=HA.o.fp;exact⟨.tuple #[.slice va vn vc,.int .i64 (Gy (Ey s))],by simp[results,Tryz.results75,go_sem,c0,c1],.slice va vn vc,rfl,((HO.o.fp I (by simp;omega)).mono (by omega)).kept (fun k G=>hp.block k (((HO.o.fp I (by simp;omega)).lt k G).2) (by have:=((HO.o.fp I (by simp;omega)).lt k G).1;simp;omega)),((HI.o.fp.trans I (by intro i hi;right;simp at hi;omega)).trans hp (by intro i hi;right;simp at hi;omega))⟩
end
section
open Go.RowKit
def M9(n k:Nat):List UInt8:=(List.range k).map (Cj n)
def C6(n k:Nat):ByteArray:=bl (M9 n k)
theorem oG(n k:Nat):(M9 n k).length=k:=by simp[M9]
theorem Ir(n k:Nat):(C6 n k).size=k:=by unfold C6;rw[Dt,oG]
theorem Adb(n k:Nat):M9 n (k+1)=M9 n k++[Cj n k]:=by unfold M9;rw[List.range_succ,a3w];rfl
theorem Rn(w:World)(n m:Nat)(C:n<18446744073709551616)(J:m≤8):
  Calls Tryz.prog 90 #[.int .u64 n,.int .i64 m] w fun e w'=>e=.returned (.string (C6 n m))/\Fp [] w w':=by
 have M:=Z C;clear C;go_in;go_wp2
 go_loopg [5,8] m (fun g F i wr=>∃k:Nat,g+k=m/\i=.int .i64 k/\Bt wr w.heap.size F (M9 n k)/\Below w.heap.size w wr)
 case atStart=>exact⟨0,by omega,rfl,Bt.nil _ _,Below.refl _ _⟩
 case round=>
  obtain⟨k,L,rfl,B,h⟩:=hrel;have D:=Z B;have A:=Z h;clear B h;by_cases K:k<m
  .have G:k<8:=(by omega)
   have s:(wr.alloc (.cells #[.int .u8 ((n:Int)/2^(8*k)%256)] 5)).cell? ⟨wr.heap.size,0,none⟩=some (A5 (Cj n k)):=by
    rw[Z2];exact Ab (Ai rfl _) 0
   have y:=Z s;have u:w.heap.size<=wr.heap.size:=A.o.size
   have r:(M9 n k).length+1<=1000000000:=(by rw[oG];omega)
   have x:=Z r
   have E:(k:Int)<(m:Int):=(by omega)
   clear s r;go_wp2_with (at_builtin;refine Uy rfl _ _ rfl w.heap.size _ _ rfl (D.o.alloc _) wr.heap.size 0 1 1 [Cj n k] rfl rfl (Z0 y.o) x.o (by simp;omega) ?_;intro I w2 a c);have v:=Z a;have z:=Z c;clear a c;go_wp2
   go_roundg (gk-1)
   case measure=>omega
   case rel=>exact⟨k+1,by omega,by go_num,by rw[Adb];exact v.o,(A.o.alloc u _).trans z.o⟩
  .obtain rfl:k=m:=by omega
   have t:=Wy D.o;rw[show(⟨(M9 n k).toArray⟩:ByteArray)=C6 n k from rfl] at t
   have E:¬(k:Int)<(k:Int):=(by omega)
   go_wp2_with fail;go_ret;exact⟨rfl,Fp.refl _ _ |>.belowTrans A.o⟩
def Gz(s:ByteArray):ByteArray:=(I1 s).1
theorem Yn(s:ByteArray)(w:World)(m:s.size≤100000000)(a:Dp w):
  Calls Tryz.prog 92 #[.string s] w fun e w'=>e=.returned (.string (Gz s))/\Fp [] w w':=by
 have k:=Z (eU s w m a);have h:Hid (Gz s=(I1 s).1):=rfl
 obtain⟨⟨t,n⟩,c⟩:∃x,I1 s=x:=⟨_,rfl⟩
 rw[c] at k h;clear c a;go_in;go_wp2_with fail;refine k.o.nexh fun u r=>?_;go_wp2_with fail;go_ret;exact⟨by rw[h.o];rfl,r.o⟩
structure Hn where
 blocks:Nat
 index:Nat
 filter:Nat
 seq:Nat
def Hn.text(f:Hn):ByteArray:=C6 f.blocks 4++C6 f.index 4++C6 f.filter 4++C6 f.seq 8
def cZ(f:Hn):Value:=.agg #[.int .i64 f.blocks,.int .i64 f.index,.int .i64 f.filter,.int .u64 f.seq]
theorem Adc(f:Hn)(w:World)(P:f.blocks≤1000000000)(O:f.index≤1000000000)(N:f.filter≤1000000000)(A:f.seq<18446744073709551616):
  Calls Tryz.prog 97 #[cZ f] w fun e w'=>e=.returned (.string f.text)/\Fp [] w w':=by
 obtain⟨b,i,t,q⟩:=f;simp only at P O N A;have x:Hid (Hn.text ⟨b,i,t,q⟩=C6 b 4++C6 i 4++C6 t 4++C6 q 8):=rfl;have J:=Ir b 4;have I:=Ir i 4;have G:=Ir t 4;have F:=Ir q 8;have E:=Z (show ∀w,Calls Tryz.prog 90 #[.int .u64 b,.int .i64 4] w (fun e w'=>e=.returned (.string (C6 b 4))/\Fp [] w w') from fun w=>Rn w b 4 (by omega) (by decide));have D:=Z (show ∀w,Calls Tryz.prog 90 #[.int .u64 i,.int .i64 4] w (fun e w'=>e=.returned (.string (C6 i 4))/\Fp [] w w') from fun w=>Rn w i 4 (by omega) (by decide));have C:=Z (show ∀w,Calls Tryz.prog 90 #[.int .u64 t,.int .i64 4] w (fun e w'=>e=.returned (.string (C6 t 4))/\Fp [] w w') from fun w=>Rn w t 4 (by omega) (by decide));have B:=Z (show ∀w,Calls Tryz.prog 90 #[.int .u64 q,.int .i64 8] w (fun e w'=>e=.returned (.string (C6 q 8))/\Fp [] w w') from fun w=>Rn w q 8 A (by decide));obtain⟨V,u⟩:=Aa (C6 b 4);obtain⟨U,s⟩:=Aa (C6 i 4);obtain⟨T,r⟩:=Aa (C6 t 4);obtain⟨S,m⟩:=Aa (C6 q 8);rw[u] at J x E;rw[s] at I x D;rw[r] at G x C;rw[m] at F x B;clear u s r m
 have w1:IntKind.u64.wrap (b:Int)=b:=by rw[a4z];omega
 have w2:IntKind.u64.wrap (i:Int)=i:=by rw[a4z];omega
 have W:IntKind.u64.wrap (t:Int)=t:=by rw[a4z];omega
 have z:Hid ((w.alloc (.cells #[.int .i64 b,.int .i64 i,.int .i64 t,.int .u64 q] 144)).heap[w.heap.size]?=some (.cells #[.int .i64 b,.int .i64 i,.int .i64 t,.int .u64 q] 144 (0,0))):=Ai rfl _;unfold cZ;go_in;go_wp2_with fail;refine Bo (by kernel_rfl) (by kernel_rfl) ?_
 iterate 19
  apply A1 rfl rfl rfl
  .intro a w k c K v;have:=c.f 1;(try have:=c.e 0 3);(try have:=c.e 1 4);(try have:=c.e 2 5);(try have:=c.e 4 7);(try have:=c.e 5 8);(try have:=c.e 6 9);(try have:=c.e 3 6);(try have:=c.e 7 10);(try have:=c.e 9 12);(try have:=c.e 10 13);(try have:=c.e 11 14);(try have:=c.e 8 11);(try have:=c.e 12 15);(try have:=c.e 14 17);(try have:=c.e 15 18);(try have:=c.e 13 16);(try have:=c.e 16 19);(try have:=c.e 17 20);have y:=(k.block _ (by simp) (by simp)).trans z.o;have q0:=Ab y 0;have q1:=Ab y 1;have M:=Ab y 2;have L:=Ab y 3;simp only[a3x,List.getElem?_cons_succ,a1z] at q0 q1 M L;simp only[Oper.wp,execOp];go_simp
   first
   |exact v _ k (Fp.refl _ _)
   |first
     |((with_reducible refine(E.o _).mono ?_);rintro e w2 ⟨rfl,h⟩;exact v _ (k.trans h) h)
     |((with_reducible refine(D.o _).mono ?_);rintro e w2 ⟨rfl,h⟩;exact v _ (k.trans h) h)
     |((with_reducible refine(C.o _).mono ?_);rintro e w2 ⟨rfl,h⟩;exact v _ (k.trans h) h)
     |((with_reducible refine(B.o _).mono ?_);rintro e w2 ⟨rfl,h⟩;exact v _ (k.trans h) h)
 refine Bn ?_
 iterate 19 refine Bm ?_
 refine Bl fun w' k=>?_
 .simp only[Aj,Act.put,a0z,a0x,a0w];have Q:=Z ((Fp.alloc w _).trans k);clear k;go_wp2_with fail;go_ret;exact⟨by rw[x.o];rfl,Q.o⟩
end
section
open Go.RowKit
def Fz(len:Nat):List (Nat × Nat):=(List.range ((len+7)/8)).map fun k=>(8*k,min 8 (len-8*k))
theorem Vy(len:Nat):(Fz len).length=(len+7)/8:=by simp[Fz]
theorem Add{len k:Nat}(h:8*k<len):Fz len=(Fz len).take k++(8*k,min 8 (len-8*k))::(Fz len).drop (k+1):=by
 have a:k<(Fz len).length:=by rw[Vy];omega
 have e:(Fz len)[k]=(8*k,min 8 (len-8*k)):=by simp[Fz]
 conv=>lhs;rw[<-List.take_append_drop k (Fz len),List.drop_eq_getElem_cons a,e]
def Na(b o:Nat)(x:Nat × Nat):Value:=.slice (some ⟨b,o+x.1*6,none⟩) x.2 x.2
def Yo(b o:Nat)(x:Nat × Nat):Array Value:=#[Na b o x]
theorem Ade(base L n M P:Nat)(w:World)(b o len cap:Nat)(hn:1≤n)(af:w.heap[M]?=some (.cells #[.slice (some ⟨b,o,none⟩) len cap] 78 (0,0)))(ag:w.heap[P]?=some (.cells #[.int .i64 8] 3 (0,0)))
  (aw:len<=cap)(az:len<=1000000000)(ae:M<base)(G:P<base)(ak:M≠L)(ab:P≠L)
  (S0:List Nat)(ah:∀k∈S0,k<base/\k≠M/\k≠P)(J Jx:List (Nat × Nat)->World->Prop)
  (hJ:∀s A B,J s A->Fp [] A B->J s B)
  (hy:∀t x W,(∃U,Fz len=t++x::U)->J t W->YieldAt Fence.wide (n-1) Tryz.prog L (Yo b o x) W fun e W'=>(e=.returned (.bool true)/\J (t++[x]) W'/\Ao 209 base (L::S0) W W')∨(e=.returned (.bool false)/\Jx (t++[x]) W'))
  (h0:J [] w):
  CallsIn Fence.wide n Tryz.prog 211 #[.func (.yield L) #[] #[],.pointer (some ⟨M,0,none⟩),.pointer (some ⟨P,0,none⟩)] w fun e w'=>(∃v,e=.returned v)/\((∃xs,xs=Fz len/\J xs w')∨∃t,Jx t w'):=by
 rw[callsIn_wide];have HY:=Z hy;have HJ:=Z hJ;have S:=Z ah;have aj:=Z af;have E:=Z ag;clear hy hJ ah af ag;go_in;go_wp2_with fail
 go_loopg [4] ((len+7)/8) (fun g vi wr=>∃(k i:Nat),g+k=(len+7)/8/\i=8*k/\vi=.int .i64 i/\J ((Fz len).take k) wr/\Ao 209 base (L::S0) w wr)
 case atStart=>exact⟨0,0,by omega,rfl,rfl,by simpa using h0,Ao.of (Fp.refl [] _) (by simp) |>.mono (by simp)⟩
 case round=>
  obtain⟨k,i,hg,y,rfl,hj,hf⟩:=hrel;have T:=Z hf;have ai:=Z hj;clear hf hj;have z:wr.heap[M]?=some (.cells #[.slice (some ⟨b,o,none⟩) len cap] 78 (0,0)):=(T.o.low _ ae (Ae aj.o) (by intro h;rcases List.mem_cons.1 h with h|h;exact ak h;exact(S.o _ h).2.1 rfl)).trans aj.o;have I:wr.heap[P]?=some (.cells #[.int .i64 8] 3 (0,0)):=(T.o.low _ G (Ae E.o) (by intro h;rcases List.mem_cons.1 h with h|h;exact ab h;exact(S.o _ h).2.2 rfl)).trans E.o;have q0:wr.cell? ⟨M,0,none⟩=some (.slice (some ⟨b,o,none⟩) len cap):=Ab z 0;have c:=Z z;have r:=Z I;clear z I;by_cases av:i<len
  .have z0:(i:Int)<(len:Int):=(by omega)
   have z1:(i:Int)<=(len:Int):=(by omega)
   have z2:(len:Int)<=(cap:Int):=(by omega)
   have a0:¬cap=i:=(by omega)
   obtain⟨m,hm⟩:=Aa (min 8 (len-i))
   have ac:min (8:Int) ((len-i:Nat):Int)=(m:Int):=(by omega)
   have au:0<m:=(by omega)
   have Q:=Z (Add (len:=len) (k:=k) (by omega));rw[<-y,hm] at Q;obtain⟨d,hd⟩:=Aa (len-i);rw[hd] at ac;obtain⟨e2,ad⟩:=Aa (i+m)
   have n1:IntKind.i64.wrap ((i:Int)+(m:Int))=(e2:Int):=(by rw[a2v];omega)
   have z3:(e2:Int)<=(cap:Int):=(by omega)
   have z4:(i:Int)<=(e2:Int):=(by omega)
   have ay:e2-i=m:=(by omega)
   have ax:¬e2=i:=(by omega)
   have n2:IntKind.i64.wrap ((i:Int)+8)=((i+8:Nat):Int):=(by rw[a2v];omega)
   obtain⟨j,O⟩:=Aa (i+8);rw[O] at n2;have u:=Z y;have a2:=Z ad;have an:=Z O;clear y hm ad O;go_wp2_with fail;refine Bo (by kernel_rfl) (by kernel_rfl) ?_
   iterate 7
    apply A1 rfl rfl rfl
    .intro a w C D K hK;have:=D.f 2;have:=D.f 1;have:=D.f 4;(try have:=D.e 1 14);(try have:=D.e 2 15);(try have:=D.e 3 16);(try have:=D.e 0 13);(try have:=D.e 4 17);(try have:=D.e 5 18);have r0:=Ab ((C.block _ (Ae c.o) (by simp)).trans c.o) 0;have r1:=Ab ((C.block _ (Ae r.o) (by simp)).trans r.o) 0;simp only[a3x,a1z] at r0 r1;simp only[Oper.wp,execOp];go_simp;exact hK _ C (Fp.refl _ _)
   refine Bn ?_
   iterate 7 refine Bm ?_
   refine Bl fun w' C=>?_
   .simp only[Aj,Act.put,a0z,a0x,a0w];have aq:=Z (T.o.trans (Ao.of (C.mono (by simp):Fp [] wr w') (by simp)));have ap:=Z (HJ.o _ _ _ ai.o C);have F:=(C.block _ (Ae c.o) (by simp)).trans c.o;have q1:w'.cell? ⟨M,0,none⟩=some (.slice (some ⟨b,o,none⟩) len cap):=Ab F 0;have ar:=Z ((C.block _ (Ae r.o) (by simp)).trans r.o);clear C F;obtain⟨fn,tm,a1,bd,V,aa⟩:=HY.o ((Fz len).take k) (i,m) w' ⟨_,Q.o⟩ ap.o;have al:=Z aa;clear aa;unfold Yo Na at V;simp only at V
    go_upto_region 4 with(fail)
    refine(wpIn_wide (n:=n)).1 ?_
    gi_wp2_with fail
    refine al.o.mono ?_;rintro e W1 (⟨rfl,hj1,hf1⟩|⟨rfl,hjx⟩)
    .have ao:=Z hj1;have N:=Z (aq.o.trans hf1 (by intro i hi;exact hi));have r2:W1.cell? ⟨P,0,none⟩=some (.int .i64 8):=Ab ((N.o.low _ G (Ae E.o) (by intro h;rcases List.mem_cons.1 h with h|h;exact ab h;exact(S.o _ h).2.2 rfl)).trans E.o) 0;clear hj1 hf1
     gi_wp2_with fail
     go_wp2_with fail
     go_roundg (gk-1)
     case measure=>have:=u.o;omega
     case rel=>
      refine⟨k+1,j,by have:=u.o;omega,by have:=u.o;have:=an.o;omega,rfl,?_,N.o⟩;have h1:=ao.o;have h2:=Q.o;have h3:(Fz len).take (k+1)=(Fz len).take k++[(i,m)]:=by
       have hk:k<(Fz len).length:=by rw[Vy];have:=u.o;omega
       have e:(Fz len)[k]?=((Fz len).take k++(i,m)::(Fz len).drop (k+1))[k]?:=congrArg (fun l=>l[k]?) h2;rw[List.getElem?_append_right (by rw[List.length_take];exact Nat.min_le_left _ _)] at e;rw[List.length_take,Nat.min_eq_left (by omega),Nat.sub_self,a1z,a0u hk] at e;rw[List.take_succ_eq_append_getElem hk,Option.some.inj e]
      rw[h3];exact h1
    .have am:=Z hjx;clear hjx
     gi_wp2_with fail
     go_wp2_with fail;refine bodyPost_ret (results_none rfl _ _ _) rfl ?_;exact⟨⟨_,rfl⟩,Or.inr ⟨_,am.o⟩⟩
  .have z0:¬(i:Int)<(len:Int):=(by omega)
   have u:=Z y;have HG:=Z hg;clear y hg;go_wp2_with fail;go_end0;refine⟨⟨_,rfl⟩,Or.inl ?_⟩;have h1:=ai.o
   rwa [List.take_of_length_le (by rw[Vy];have:=u.o;omega)] at h1
theorem Adf(w:World)(v:Value)(a:Option Addr)(len cap:Nat)(c:v=.slice a len cap):Calls Tryz.prog 135 #[v,.int .i64 8] w fun e w'=>e=.returned (.func (.func 211) #[] #[.pointer (some ⟨w.heap.size,0,none⟩),.pointer (some ⟨w.heap.size+1,0,none⟩)])∧
  w'.heap[w.heap.size]?=some (.cells #[v] 78 (0,0))/\w'.heap[w.heap.size+1]?=some (.cells #[.int .i64 8] 3 (0,0))/\Fp [] w w':=by
 subst c;have q:((w.alloc (.cells #[.slice a len cap] 78)).alloc (.cells #[.int .i64 8] 3)).cell? ⟨w.heap.size+1,0,none⟩=some (.int .i64 8):=Ab (Ai (by simp) _) 0;go_in;go_wp2_with fail;go_ret;exact⟨rfl,Dy (Ai rfl _),Ai (by simp) _,(Fp.alloc _ _).alloc' _⟩
def G0(w:World)(base:Nat)(v:Value)(l:List Value):Prop:=w.ownsRow base 78 1 v l.length l
theorem G0.nil(w:World)(base:Nat):G0 w base (.slice none 0 0) []:=World.ownsRow_nil w base _ _
theorem G0.mono{w:World}{base base':Nat}{v:Value}{l:List Value}(h:G0 w base v l)(s:base'<=base):G0 w base' v l:=by
 obtain⟨t,a⟩:=h;refine⟨t,?_⟩;rcases a with a|⟨g,cap,c,k,m,r⟩
 .exact Or.inl a
 .exact Or.inr ⟨g,cap,c,k,Nat.le_trans s m,r⟩
theorem G0.lt{w:World}{base:Nat}{v:Value}{l:List Value}(h:G0 w base v l):∀k,v.ownBlock=some k->base<=k/\k<w.heap.size:=World.ownsRow.lt h
theorem G0.kept{w w':World}{base:Nat}{v:Value}{l:List Value}(h:G0 w base v l)(u:∀k,v.ownBlock=some k->w'.heap[k]?=w.heap[k]?):G0 w' base v l:=by
 obtain⟨x,a⟩:=h;refine⟨x,?_⟩;rcases a with a|⟨g,cap,c,m,t,s,r⟩
 .exact Or.inl a
 .exact Or.inr ⟨g,cap,c,m,t,(u g (by rw[m];rfl)).trans s,r⟩
theorem G0.fp{w w':World}{base:Nat}{v:Value}{l:List Value}{S:List Nat}(h:G0 w base v l)(m:Fp S w w')(r:∀i∈S,i<base:=by simp):G0 w' base v l:=
 h.kept fun k a=>m.block k (h.lt k a).2 (fun c=>by have:=r k c;have:=(h.lt k a).1;omega)
theorem G0.slice{w:World}{base:Nat}{v:Value}{l:List Value}(h:G0 w base v l):∃a n cap,v=.slice a n cap:=by
 rcases h.2 with⟨rfl,_⟩|⟨g,cap,c,rfl,_⟩
 .exact⟨_,_,_,rfl⟩
 .exact⟨_,_,_,rfl⟩
theorem Tryz.infoP:(Tryz.prog.info? 78).map (fun i=>(i.zero,i.size,i.bytes))=some (some (.slice none 0 0),1,24):=by kernel_rfl
theorem Adg{F:Fence}{n:Nat}{w:World}{y:Array Oper}{rest:List Oper}{o:Oper}{a:Act}{Q:Exit→Act→World→Prop}(D:o.guard=none)(s x:Operand)
  (M:o.op=.call {callee:=.builtin .append,args:=#[s,x],argTypes:=#[149,149]})(base:Nat)(v:Value)(l:List Value)(L:a.eval s=v)(m:G0 w base v l)
  (g:Nat)(t:Value)(K:t.oneCell'=true)(J:a.eval x=.slice (some ⟨g,0,none⟩) 1 1)(S:w.cell? ⟨g,0,none⟩=some t)(E:l.length+1<=1000000000)(c:base<=w.heap.size)
  (h:∀z w',G0 w' base z (l++[t])->w.grownBy w' v.ownBlock->Below base w w'->wpListIn F n Tryz.prog y Q rest (a.put o.dst z) w'):wpListIn F n Tryz.prog y Q (o::rest) a w:=by
 obtain⟨I,P,C,B,A⟩:=info_parts Tryz.infoP;refine wpListIn_append_own w D s x 149 M base 78 I _ 1 24 Tryz.underlying149 P C B A rfl (by decide) v l.length l L m ⟨g,0,none⟩ 1 1 [t] J rfl ?_ (by intro u r;simp at r;subst r;exact K) (by unfold maxLen;omega) (by omega) c ?_
 .intro j u r;have O:j=0:=by
   have:=(List.getElem?_eq_some_iff.1 r).1
   simpa using this
  subst O;simp at r;subst r
  have U:(⟨g,0,none⟩:Addr).add 0=⟨g,0,none⟩:=by unfold Addr.add;split<;>simp_all
  rw[U];exact S
 .intro z w' T G _;refine h z w' ?_ G ((Below.refl base w).grown G c (fun k N=>(m.lt k N).1));unfold G0;rw[a1x];exact T
structure Yp(w w1:World)(b o:Nat)(pre:List (Nat × Nat))(W:World):Prop where
 ex:∃v,W.heap[w.heap.size]?=some (.cells #[v] 149 (0,0))/\G0 W (w1.heap.size+2) v (pre.map (Na b o))
 fp:Fp [] w W
theorem Yp.on{w c A B:World}{b o:Nat}{a:List (Nat × Nat)}{S:List Nat}(h:Yp w c b o a A)(r:Fp S A B)(s:∀k∈S,w.heap.size+1<=k/\k<c.heap.size+2):Yp w c b o a B:=by
 obtain⟨v,t,u⟩:=h.ex;refine⟨⟨v,(r.block _ (Ae t) fun x=>by have:=s _ x;omega).trans t,u.fp r fun k m=>(s k m).2⟩,h.fp.trans r fun k m=>Or.inr (by have:=s k m;omega)⟩
def oH(w:World)(b o len cap:Nat)(x:Nat × Nat):Act:={tmps:=#[.slice (some ⟨b,o,none⟩) len cap,.int .i64 8,undef,undef,.pointer (some ⟨w.heap.size,0,none⟩),Na b o x,.slice (some ⟨b,o,none⟩) len cap,.int .i64 8,.func (.func 211) #[] #[.pointer (some ⟨w.heap.size+1,0,none⟩),.pointer (some ⟨w.heap.size+1+1,0,none⟩)],Na b o x,undef,undef,undef,undef,undef],defers:=[]}
attribute [local go_sem] Oper.semAt_some
theorem Adh(w:World)(b o len cap:Nat)(ac:len≤cap)(af:len≤1000000000):
  Calls Tryz.prog 77 #[.slice (some ⟨b,o,none⟩) len cap,.int .i64 8] w fun e w'=>∃v,e=.returned v/\G0 w' w.heap.size v ((Fz len).map (Na b o))/\Fp [] w w':=by
 have ak:=Z (fun w=>Adf w (.slice (some ⟨b,o,none⟩) len cap) _ _ _ rfl);rw[<-callsIn_wide (n:=5)];refine callsIn_of_wp_marks Tryz.func77 rfl trivial ?_ rfl;simp only[Tryz.ntmps77,List.size_toArray,a1v,List.length_nil,Nat.reduceAdd,Nat.reduceSub,a4v,a4u,List.push_toArray,List.append_toArray,a1w,a0v]
 gi_wp2_with fail
 refine⟨trivial,?_⟩;refine((callsIn_wide (n:=4)).2 (ak.o _)).mono ?_;rintro e m ⟨rfl,aa,G,r⟩;have S:m.heap[w.heap.size]?=some (.cells #[.slice none 0 0] 149 (0,0)):=(r.block _ (by simp) (by simp)).trans (Ai rfl _);have aq:w.heap.size+2<m.heap.size:=Ae (by simpa using G)
 have am:Hid (m.heap[w.heap.size+1]?=some (.cells #[.slice (some ⟨b,o,none⟩) len cap] 78 (0,0))):=by show m.heap[w.heap.size+1]?=_;simpa using aa
 have an:Hid (m.heap[w.heap.size+1+1]?=some (.cells #[.int .i64 8] 3 (0,0))):=by show m.heap[w.heap.size+1+1]?=_;simpa using G
 have al:Hid (Fp [] w m):=(Fp.alloc _ _).trans r;have ai:=Z S;clear aa G r S
 gi_wp2_with fail
 refine Vw (α:=Nat × Nat) (encs:=Yo b o) rfl (enters_of Tryz.func211 (by kernel_rfl) rfl) (fun _=>rfl) 209 [w.heap.size] [] (by simp;omega) (by simp) (w.heap.size+1) (by omega) 0
  (fun t x=>∃u,Fz len=t++x::u) (Yp w m b o) (fun _ _=>False) (fun xs _=>xs=Fz len)
  (fun _=>True) (fun s A B k h V T=>h.on V (by simp;omega)) (fun s A B h V _=>h.on V (by simp;omega)) (fun _ _ _ h _=>h) (fun _ _ _ h _=>h) ?_ ?_ (fun x a' _=>a'=oH w b o len cap x) (fun _ _ _ _ h _=>h) ?_ ?_ ?_ (fun _ _ h=>h.elim)
 .intro J Jx W1 r ap hJ hY ag;exact Ade (m.heap.size+2) (m.heap.size+1) (5-1) (w.heap.size+1) (w.heap.size+1+1) W1 b o len cap (by decide) ((r.block _ (by omega) (by simp)).trans am.o) ((r.block _ (by omega) (by simp)).trans an.o) ac af (by omega) (by omega) (by omega) (by omega) [w.heap.size] (by intro k T;simp only[a2w,a1u,or_false] at T;omega) J Jx (fun s A B h V=>hJ s A B h (V.mono (by simp)) trivial) hY ag
 .exact⟨⟨.slice none 0 0,ai.o,G0.nil _ _⟩,al.o⟩
 .intro l x W K hW hK;simp only[Yo]
  gi_wp2_with fail
  exact hK _ _ (Fp.refl _ _) rfl
 .rintro l t ⟨xi,xm⟩ a' W ⟨u,y⟩ L hW rfl;have au:t.length+1≤1000000000:=by
   have h1:=Vy len
   have h2:(Fz len).length=t.length+(u.length+1):=(by rw[y,a1x,a1v])
   omega
  obtain⟨v,E,O⟩:=L.ex;have q0:∀X:Obj,(W.alloc X).cell? ⟨w.heap.size,0,none⟩=some v:=fun X=>Ab (Dy E) 0;have ar:W.cell? ⟨w.heap.size,0,none⟩=some v:=Ab E 0;have HI:=Z L;have HV:=Z E;have P:=Z O;clear L E O y;unfold oH Na;simp only
  gi_wp2_with (gi_at_builtin;(refine Adg rfl _ _ rfl (m.heap.size+2) _ (t.map (Na b o)) rfl (P.o.fp (Fp.alloc _ _)) _ (Na b o (xi,xm)) rfl rfl (by rw[Ab (Ai rfl _)];rfl) (by simp;omega) (by simp;omega) ?_);intro v3 N F U I;obtain⟨a3,Q,c,rfl⟩:=F.slice;have ah:=Z F;have ao:=Z I;have aj:=Z (Vx (show 209≠78 by decide) (P.o.fp (Fp.alloc _ _)) U (by simp;omega));have M:=Z ((I.block _ (by omega)).trans (Dy HV.o));have f1:N.frozen? ⟨w.heap.size,0,none⟩=false:=Av M.o 0;have c1:N.cell? ⟨w.heap.size,0,none⟩=some v:=Ab M.o 0;clear F U I)
  have ae:=((Ao.of (Fp.alloc W (.cells #[Na b o (xi,xm)] 78)) (by simp):Ao 209 (m.heap.size+2) [] W _).trans aj.o).mono (S':=[w.heap.size]) (by simp);have a:Fp [w.heap.size] N (N.setCell ⟨w.heap.size,0,none⟩ (.slice a3 Q c)):=Fp.setCell N ⟨w.heap.size,0,none⟩ (.slice a3 Q c);have h4:(N.setCell ⟨w.heap.size,0,none⟩ (.slice a3 Q c)).heap[w.heap.size]?=some (.cells #[.slice a3 Q c] 149 (0,0)):=(Cf M.o _).trans rfl;refine⟨ae.trans (Ao.of a (by simp;omega)),⟨.slice a3 Q c,h4,?_⟩,?_⟩
  .rw[a3w];exact ah.o.fp a (by simp;omega)
  .exact(((HI.o.fp.alloc' _).belowTrans (ao.o.mono (by omega))).setCell' (Or.inr (a4w _)) _)
 .rintro xs W rfl L hK;obtain⟨v,E,O⟩:=L.ex;obtain⟨D,z,C,rfl⟩:=O.slice;have HI:=Z L;have HK:=Z hK;have q0:W.cell? ⟨w.heap.size,0,none⟩=some (.slice D z C):=Ab E 0;have f0:W.frozen? ⟨w.heap.size,0,none⟩=false:=Av E 0;have HV:=Z E;have P:=Z O;clear L hK E O
  gi_wp2_with fail
  have a:Fp [w.heap.size] W (W.setCell ⟨w.heap.size,0,none⟩ (.slice D z C)):=Fp.setCell W ⟨w.heap.size,0,none⟩ (.slice D z C);have h4:(W.setCell ⟨w.heap.size,0,none⟩ (.slice D z C)).heap[w.heap.size]?=some (.cells #[.slice D z C] 149 (0,0)):=(Cf HV.o _).trans rfl;obtain⟨wa,ab⟩:=Aa (W.setCell ⟨w.heap.size,0,none⟩ (.slice D z C));rw[ab] at a h4 ⊢;have ad:wa.heap[m.heap.size]?=some (.deferred (some [])):=(a.block _ (Ae HK.o) (by simp;omega)).trans HK.o;have hp:=Fp.putObj wa m.heap.size (.deferred none);refine⟨by simp,.inl ⟨_,_,rfl,run_takeDeferred ad,?_⟩⟩;have c0:(wa.putObj m.heap.size (.deferred none)).cell? ⟨w.heap.size,0,none⟩=some (.slice D z C):=Ab ((hp.block _ (Ae h4) (by simp;omega)).trans h4) 0;exact⟨.slice D z C,by simp[results,Tryz.results77,go_sem,c0],.slice D z C,rfl,((P.o.fp a (by simp;omega)).mono (by omega)).kept (fun k T=>hp.block k (((P.o.fp a (by simp;omega)).lt k T).2) (by have:=((P.o.fp a (by simp;omega)).lt k T).1;simp;omega)),((HI.o.fp.trans a (by intro i hi;right;simp at hi;omega)).trans hp (by intro i hi;right;simp at hi;omega))⟩
end
section
open Go.RowKit Go.Lib
theorem Ag.keptT{α:Type}{R:Hv α}{W W':World}{base:Nat}{S:List Nat}{v:Value}{l:List α}(h:Ag R W base v l)(c:Ao R.e base S W W'):Ag R W' base v l:=by
 refine h.kept fun k a=>?_;rcases h.2 with⟨rfl,_⟩|⟨g,cap,s,rfl,r,m,_⟩
 .cases a
 .obtain rfl:g=k:=by simpa [Value.ownBlock] using a
  exact c.high _ _ _ r m
inductive Dn{α β:Type}(P:α->β->Prop):List α->List β->Prop
 |nil:Dn P [] []
 |cons {a b l m}:P a b->Dn P l m->Dn P (a::l) (b::m)
theorem Dn.length_eq{α β:Type}{P:α->β->Prop}{l:List α}{m:List β}(h:Dn P l m):l.length=m.length:=by
 induction h with
 |nil=>rfl
 |cons _ _ ih=>simp[ih]
def Yq(W:World)(base:Nat)(vals:List Value)(rs:List (List Ad)):Prop:=Dn (fun v r=>Ag A8 W base v r) vals rs
def Gp(W:World)(base:Nat)(v:Value)(rs:List (List Ad)):Prop:=∃vals,An 162 W base v vals/\Yq W base vals rs
theorem J9{α β:Type}{P Q:α->β->Prop}(c:∀a b,P a b->Q a b){l:List α}{m:List β}(h:Dn P l m):Dn Q l m:=by
 induction h with
 |nil=>exact .nil
 |cons h _ ih=>exact .cons (c _ _ h) ih
theorem Ro{α β:Type}{P:α->β->Prop}{l:List α}{m:List β}(h:Dn P l m){a:α}{b:β}(c:P a b):Dn P (l++[a]) (m++[b]):=by
 induction h with
 |nil=>exact .cons c .nil
 |cons h _ ih=>exact .cons h ih
theorem Yq.keptT{W W':World}{base:Nat}{S:List Nat}{a:List Value}{rs:List (List Ad)}(h:Yq W base a rs)(c:Ao 221 base S W W'):Yq W' base a rs:=
 J9 (fun _ _ k=>Ag.keptT k c) h
theorem Gp.fp{W W':World}{base:Nat}{S:List Nat}{v:Value}{rs:List (List Ad)}(h:Gp W base v rs)(c:Fp S W W')(m:∀k∈S,k<base:=by simp):Gp W' base v rs:=by
 obtain⟨a,s,r⟩:=h;exact⟨a,s.fp c m,r.keptT (Ao.of c m)⟩
theorem Gp.nil(W:World)(base:Nat):Gp W base (.slice none 0 0) []:=⟨[],An.nil _ _ _,.nil⟩
theorem Gp.slice{W:World}{base:Nat}{v:Value}{k:List (List Ad)}(h:Gp W base v k):∃a n cap,v=.slice a n cap:=by
 obtain⟨c,m,_⟩:=h;obtain⟨⟨a,cap,e⟩,_⟩:=m.at;exact⟨_,_,_,e⟩
theorem Tryz.infoRun:(Tryz.prog.info? 162).map (fun i=>(i.zero,i.size,i.bytes))=some (some (.slice none 0 0),1,24):=by kernel_rfl
def Yr(W:World)(base:Nat)(vals:List Value)(rs:List (List Ad)):Prop:=Dn (fun v r=>Ag Dm W base v r) vals rs
def Hf(W:World)(base:Nat)(v:Value)(rs:List (List Ad)):Prop:=∃vals,An 89 W base v vals/\Yr W base vals rs
theorem Yr.keptT{W W':World}{base:Nat}{S:List Nat}{a:List Value}{rs:List (List Ad)}(h:Yr W base a rs)(c:Ao 94 base S W W'):Yr W' base a rs:=
 J9 (fun _ _ k=>Ag.keptT k c) h
theorem Hf.fp{W W':World}{base:Nat}{S:List Nat}{v:Value}{rs:List (List Ad)}(h:Hf W base v rs)(c:Fp S W W')(m:∀k∈S,k<base:=by simp):Hf W' base v rs:=by
 obtain⟨a,s,r⟩:=h;exact⟨a,s.fp c m,r.keptT (Ao.of c m)⟩
theorem Hf.nil(W:World)(base:Nat):Hf W base (.slice none 0 0) []:=⟨[],An.nil _ _ _,.nil⟩
theorem Hf.slice{W:World}{base:Nat}{v:Value}{k:List (List Ad)}(h:Hf W base v k):∃a n cap,v=.slice a n cap:=by
 obtain⟨c,m,_⟩:=h;obtain⟨⟨a,cap,e⟩,_⟩:=m.at;exact⟨_,_,_,e⟩
theorem Tryz.infoRun8:(Tryz.prog.info? 89).map (fun i=>(i.zero,i.size,i.bytes))=some (some (.slice none 0 0),1,24):=by kernel_rfl
theorem Ys{w:World}{z:Array Oper}{rest:List Oper}{o:Oper}{a:Act}{Q:Exit→Act→World→Prop}(K:o.guard=none)(s x:Operand)
  (V:o.op=.call {callee:=.builtin .append,args:=#[s,x],argTypes:=#[174,174]})(base:Nat)(v:Value)(D:List (List Ad))(U:a.eval s=v)(A:Hf w base v D)
  (g:Nat)(t:Value)(r:List Ad)(T:t.oneCell'=true)(J:Ag Dm w base t r)(P:a.eval x=.slice (some ⟨g,0,none⟩) 1 1)(hg:w.cell? ⟨g,0,none⟩=some t)(M:D.length+1<=1000000000)(c:base<=w.heap.size)
  (h:∀C w',Hf w' base C (D++[r])->Below base w w'->Ao 94 base [] w w'->wpList Tryz.prog z Q rest (a.put o.dst C) w'):wpList Tryz.prog z Q (o::rest) a w:=by
 obtain⟨m,I,L⟩:=A;have S:m.length=D.length:=L.length_eq;obtain⟨O,hi,G,F,E⟩:=info_parts Tryz.infoRun8;refine wpList_append_own w K s x 174 V base 89 O _ 1 24 Tryz.underlying174 hi G F E rfl (by decide) v m.length m U I ⟨g,0,none⟩ 1 1 [t] P rfl ?_ (by intro u y;simp at y;subst y;exact T) (by unfold maxLen;omega) (by omega) c ?_
 .intro j u y;have W:j=0:=by
   have:=(List.getElem?_eq_some_iff.1 y).1
   simpa using this
  subst W;simp at y;subst y
  have e1:(⟨g,0,none⟩:Addr).add 0=⟨g,0,none⟩:=by unfold Addr.add;split<;>simp_all
  rw[e1];exact hg
 .intro C w' h1 N _;have B:=Vx (show 94≠89 by decide) I N c;refine h C w' ⟨m++[t],?_,Ro (L.keptT B) (Ag.keptT J B)⟩ ((Below.refl base w).grown N c (fun k B=>(World.ownsRow.lt I k B).1)) B;unfold An;rw[a1x];exact h1
theorem Adi(x y:Ad)(w:World):Calls Tryz.prog 327 #[Ic x,Ic y] w fun e w'=>e=.returned (.int .i64 (B8 x y))/\Fp [] w w':=by
 have a:=Z (fun w=>T8 x y w);obtain⟨r,c⟩:=Aa (B8 x y);rw[c] at a ⊢;clear c;obtain⟨⟨A,D,z,xs,C,v⟩,B⟩:=x;obtain⟨⟨m,u,k,ys,t,h⟩,s⟩:=y;have HC1':Hid (∀w,Calls Tryz.prog 217 #[.agg #[.string A,.string D,.int .u64 z,.int .u64 xs,.bool C,.string v,.int .i64 B],.agg #[.string m,.string u,.int .u64 k,.int .u64 ys,.bool t,.string h,.int .i64 s]] w fun e w'=>e=.returned (.int .i64 r)/\Fp [] w w'):=a;clear a;unfold Ic Jr;simp only;go_in;go_wp2_with fail;refine(HC1'.o _).nexh fun F E=>?_;go_wp2_with fail;go_ret;exact⟨rfl,((Fp.alloc _ _).alloc' _).trans E.o⟩
structure Ko where
 q:Nat
 at_:Nat
def oI(s:Ko):List Value:=[.pointer (some ⟨s.q,0,none⟩),.int .i64 s.at_]
def Is:Hv Ko where
 e:=331
 k:=2
 enc:=oI
 len:=fun _=>rfl
 pos:=by decide
 one:=fun x v hv=>by
  unfold oI at hv;simp only[a2w,a1u,or_false] at hv
  rcases hv with rfl|rfl<;>rfl
abbrev Fb:=Ko × List Ad
def Gi(x:Fb):Ad:=x.2.headD Jk
structure Jt(W:World)(base q:Nat)(r:List Ad):Prop where
 ge:base<=q
 ex:∃b o n cap,W.heap[q]?=some (.cells #[.slice (some ⟨b,o,none⟩) n cap] 329 (0,0))/\n<=cap/\b<base/\Bj A8 W (some ⟨b,o,none⟩) n r
theorem Jt.tf{base base' q:Nat}{D:List TypeId}{S:List Nat}{W W':World}{r:List Ad}(h:Jt W base q r)(c:Tf base' D S W W')(y:base<=base')(s:329∉D)(m:∀k∈S,base<=k/\k≠q):Jt W' base q r:=by
 obtain⟨b,o,n,cap,x,v,u,t⟩:=h.ex;exact⟨h.ge,b,o,n,cap,c.cells x (fun a=>(m _ a).2 rfl) s,v,u,t.tf c (by omega) (fun a=>by have:=(m _ a).1;omega)⟩
theorem Jt.fp{base q:Nat}{W W':World}{r:List Ad}(h:Jt W base q r)(a:Fp [] W W'):Jt W' base q r:=h.tf (Tf.of (base:=base) (D:=[]) a) (a4w _) (by simp) (by simp)
theorem dA(W:World)(base q:Nat)(x:Ad)(r:List Ad)(h:Jt W base q (x::r)):
  Calls Tryz.prog 273 #[.pointer (some ⟨q,0,none⟩)] W fun e W'=>e=.returned (Ic x)/\Fp [] W W':=by
 obtain⟨b,o,n,cap,k,E,D,c⟩:=h.ex;have B:n=r.length+1:=c.len;obtain⟨Q,O,e,_,a⟩:=c.get (i:=0) (by simp);cases e;have S:=Z a;have T:=Z k
 have N:(0:Int)<(n:Int):=by omega
 have m:=Z (fun W' (C:Fp [] W W')=>Vv (a W' C));simp only[Nat.zero_mul,Nat.add_zero,List.getElem_cons_zero] at m;obtain⟨⟨u,A,t,xs,z,s⟩,y⟩:=x;have P:∀X:Obj,(W.alloc X).cell? ⟨q,0,none⟩=some (.slice (some ⟨b,o,none⟩) n cap):=fun X=>Ab (Dy k) 0;obtain⟨M,L,K,J,I,G,F⟩:=m.o _ (Fp.alloc W (.cells #[.string ⟨#[]⟩,.string ⟨#[]⟩,.int .u64 0,.int .u64 0,.bool false,.string ⟨#[]⟩,.int .i64 0] 221));simp only at M L K J I G F;clear k E D c B a h;unfold Ic Jr;simp only;go_in;go_wp2_with fail;refine bodyPost_ret (v:=.agg #[.string u,.string A,.int .u64 t,.int .u64 xs,.bool z,.string s,.int .i64 y]) (by simp[results,Tryz.results273,go_sem]) rfl ⟨rfl,Fp.alloc _ _⟩
theorem dB(W:World)(a:Option Addr)(n cap:Nat):Calls Tryz.prog 271 #[.slice a n cap] W fun e W'=>e=.returned (.int .i64 n)/\W'=W:=by
 go_in;go_wp2_with fail;go_ret;exact⟨rfl,rfl⟩
theorem dC{W:World}{base g n cap i:Nat}{l:List Ko}(h:Ag Is W base (.slice (some ⟨g,0,none⟩) n cap) l)(c:i<l.length):∀W',Fp [] W W'->W'.cell? ⟨g,i*2,none⟩=some (.pointer (some ⟨l[i].q,0,none⟩))/\W'.cell? ⟨g,i*2+1,none⟩=some (.int .i64 l[i].at_):=by
 intro W' k;obtain⟨r,-,-,m,-,-⟩:=h.elem c;have a:=r.fp k m (by simp);exact⟨a 0 _ rfl,a 1 _ rfl⟩
theorem Ud{l:List Ad}(h:0<l.length):∃r,l=l.headD Jk::r:=by
 cases l with
 |nil=>simp at h
 |cons x r=>exact⟨r,rfl⟩
theorem Adj(W:World)(base:Nat)(v:Value)(m:List Fb)(i j:Nat)(s:Ag Is W base v (m.map (·.1)))(L:∀x∈m,Jt W base x.1.q x.2∧0<x.2.length)(M:∀x∈m,Be x.2)(hi:i<m.length)(hj:j<m.length)(hn:m.length≤1000000):
  Calls Tryz.prog 323 #[v,.int .i64 i,.int .i64 j] W fun e W'=>∃b,e=.returned (.bool b)/\(b=true->Aw (Gi m[i]) (Gi m[j]))/\(b=false->Aw (Gi m[j]) (Gi m[i]))/\Fp [] W W':=by
 obtain⟨g,cap,af,rfl,hg,hh,-⟩:=s.open (by rw[a3v];omega);have F:=Z (dC s (i:=i) (by rw[a3v];exact hi));have E:=Z (dC s (i:=j) (by rw[a3v];exact hj));simp only[List.getElem_map] at F E;have ae:=Ae hh;obtain⟨n,N⟩:=Aa ((m.map (·.1)).length);rw[N];rw[a3v] at N;obtain⟨I,P⟩:=L _ (a3z hi);obtain⟨h2,O⟩:=L _ (a3z hj);have ox:B9 (Gi m[i]):=by
  obtain⟨r,J⟩:=Ud P;have:=M _ (a3z hi);rw[J] at this;exact this _ List.mem_cons_self
 have oy:B9 (Gi m[j]):=by
  obtain⟨r,J⟩:=Ud O;have:=M _ (a3z hj);rw[J] at this;exact this _ List.mem_cons_self
 obtain⟨rx,U⟩:=Ud P;obtain⟨ry,T⟩:=Ud O;rw[U] at I;rw[T] at h2;have z:=Z (fun W' (A:Fp [] W W')=>dA W' base _ _ _ (I.fp A));have u:=Z (fun W' (A:Fp [] W W')=>dA W' base _ _ _ (h2.fp A));have ex:m[i].2.headD Jk=Gi m[i]:=rfl;have ey:m[j].2.headD Jk=Gi m[j]:=rfl;rw[ex] at z;rw[ey] at u;clear I h2 P O U T ex ey;obtain⟨x,hx⟩:=Aa (Gi m[i]);obtain⟨y,hy⟩:=Aa (Gi m[j]);obtain⟨sx,S⟩:=Aa (m[i].1);obtain⟨sy,Q⟩:=Aa (m[j].1);rw[hx] at ox z ⊢;rw[hy] at oy u ⊢;rw[S] at F z;rw[Q] at E u;obtain⟨qx,ax⟩:=sx;obtain⟨qy,ay⟩:=sy;simp only at F E z u;have t:=Z (fun w=>Adi x y w);have C:=Z (aE ox oy);obtain⟨r,J⟩:=Aa (B8 x y);rw[J] at t C;have HR:=Z J
 have zi:(i:Int)<(n:Int):=by omega
 have zj:(j:Int)<(n:Int):=by omega
 have ad:n<=1000000:=by omega
 clear s L M hh N hx hy S Q J hg hi hj hn ox oy;obtain⟨X,hX⟩:=Aa (Ic x);obtain⟨Y,hY⟩:=Aa (Ic y);rw[hX] at z t;rw[hY] at u t;clear hX hY;go_in;go_wp2_with fail;refine Bo (by kernel_rfl) (by kernel_rfl) ?_
 iterate 14
  apply A1 rfl rfl rfl
  .intro a w k c K G;have:=c.f 0;have:=c.f 1;have:=c.f 2;(try have:=c.e 0 8);(try have:=c.e 1 9);(try have:=c.e 2 10);(try have:=c.e 3 11);(try have:=c.e 4 12);(try have:=c.e 6 14);(try have:=c.e 7 15);(try have:=c.e 8 16);(try have:=c.e 9 17);(try have:=c.e 10 18);(try have:=c.e 5 13);(try have:=c.e 11 19);(try have:=c.e 12 20);obtain⟨p0,p1⟩:=F.o _ k;obtain⟨r0,r1⟩:=E.o _ k;simp only[Oper.wp,execOp];go_simp
   first
   |exact G _ k (Fp.refl _ _)
   |(with_reducible refine(z.o _ k).mono ?_);rintro e w2 ⟨rfl,A⟩;exact G _ (k.trans A) A
   |(with_reducible refine(u.o _ k).mono ?_);rintro e w2 ⟨rfl,A⟩;exact G _ (k.trans A) A
   |(with_reducible refine(t.o _).mono ?_);rintro e w2 ⟨rfl,A⟩;exact G _ (k.trans A) A
 refine Bn ?_
 iterate 14 refine Bm ?_
 refine Bl fun w' k=>?_
 .simp only[Aj,Act.put,a0z,a0x,a0w];have V:=Z k;clear k;have ab:Hid (∀B,Fp [] w' B→B.cell? ⟨g,i*2,none⟩=some (.pointer (some ⟨qx,0,none⟩))∧B.cell? ⟨g,i*2+1,none⟩=some (.int .i64 ax)):=fun B h=>F.o B (V.o.trans h);have aa:Hid (∀B,Fp [] w' B→B.cell? ⟨g,j*2,none⟩=some (.pointer (some ⟨qy,0,none⟩))∧B.cell? ⟨g,j*2+1,none⟩=some (.int .i64 ay)):=fun B h=>E.o B (V.o.trans h);by_cases h0:r<0
  .have z0:decide (r<0)=true:=decide_eq_true h0;go_wp2_with fail;refine Bo (by kernel_rfl) (by kernel_rfl) ?_
   iterate 20
    first
    |apply Yc _ _ rfl rfl rfl rfl (by kernel_rfl) rfl
    |apply Jq _ _ rfl rfl rfl rfl (by kernel_rfl) rfl rfl
    |apply A1 rfl rfl rfl
     .intro a w k c K G;have:=c.f 7;(try have:=c.e 0 21);(try have:=c.e 1 22);(try have:=c.e 2 23);(try have:=c.e 17 38);(try have:=c.e 18 39);simp only[Oper.wp,execOp];go_simp;exact G _ k (Fp.refl _ _)
   refine Bn ?_
   iterate 20 refine Bm ?_
   refine Bl fun w' k=>?_
   .simp only[Aj,Act.put,a0z,a0x,a0w];have D:=Z (V.o.trans k);clear k;go_wp2_with fail;go_ret;exact⟨true,rfl,fun _=>(by unfold Aw;rw[HR.o];omega),(fun h=>by cases h),D.o⟩
  .have z0:decide (r<0)=false:=decide_eq_false h0;by_cases I:r=0
   .have z1:(r==0)=true:=(by simpa using I)
    have HZ:=Z I;clear I;go_wp2_with fail;refine Bo (by kernel_rfl) (by kernel_rfl) ?_
    iterate 20
     first|apply A1 rfl rfl rfl|apply Gw _ _ rfl rfl rfl rfl (by kernel_rfl) rfl rfl
     .intro a w k c K G;have:=c.f 7;have:=c.f 0;have:=c.f 1;have:=c.f 2;(try have:=c.e 0 21);(try have:=c.e 1 22);(try have:=c.e 3 24);(try have:=c.e 4 25);(try have:=c.e 6 27);(try have:=c.e 7 28);(try have:=c.e 8 29);(try have:=c.e 9 30);(try have:=c.e 11 32);(try have:=c.e 12 33);(try have:=c.e 13 34);(try have:=c.e 14 35);(try have:=c.e 10 31);(try have:=c.e 15 36);(try have:=c.e 5 26);(try have:=c.e 16 37);(try have:=c.e 2 23);(try have:=c.e 17 38);(try have:=c.e 18 39);obtain⟨p0,p1⟩:=ab.o _ k;obtain⟨r0,r1⟩:=aa.o _ k;simp only[Oper.wp,execOp];go_simp;exact G _ k (Fp.refl _ _)
    refine Bn ?_
    iterate 20 refine Bm ?_
    refine Bl fun w' k=>?_
    .simp only[Aj,Act.put,a0z,a0x,a0w];have D:=Z (V.o.trans k);clear k;go_wp2_with fail;go_ret;exact⟨_,rfl,fun _=>(by unfold Aw;rw[HR.o,HZ.o];omega),fun _=>(by unfold Aw;rw[C.o,HZ.o];omega),D.o⟩
   .have z1:(r==0)=false:=(by simpa using I)
    have ac:0<r:=(by omega)
    clear I;go_wp2_with fail;refine Bo (by kernel_rfl) (by kernel_rfl) ?_
    iterate 20
     first
     |apply Jq _ _ rfl rfl rfl rfl (by kernel_rfl) rfl rfl
     |first|apply A1 rfl rfl rfl|apply Gw _ _ rfl rfl rfl rfl (by kernel_rfl) rfl rfl
      .intro a w k c K G;have:=c.f 7;(try have:=c.e 0 21);(try have:=c.e 1 22);(try have:=c.e 3 24);(try have:=c.e 4 25);(try have:=c.e 5 26);(try have:=c.e 16 37);(try have:=c.e 2 23);(try have:=c.e 17 38);(try have:=c.e 18 39);simp only[Oper.wp,execOp];go_simp;exact G _ k (Fp.refl _ _)
    refine Bn ?_
    iterate 20 refine Bm ?_
    refine Bl fun w' k=>?_
    .simp only[Aj,Act.put,a0z,a0x,a0w];have D:=Z (V.o.trans k);clear k;go_wp2_with fail;go_ret;exact⟨false,rfl,(fun h=>by cases h),fun _=>(by unfold Aw;rw[C.o];omega),D.o⟩
end
section
open Go.RowKit
variable {α : Type} {R : Hv α} {d : α}
def Ho(d:α)(l:List α)(i j:Nat):List α:=(l.set i (l.getD j d)).set j (l.getD i d)
theorem Adk(l:List α)(i j:Nat):(Ho d l i j).length=l.length:=by simp[Ho]
theorem oJ(l:List α)(i:Nat):Ho d l i i=l:=by
 unfold Ho;rw[List.set_set];refine List.ext_getElem? fun k=>?_;rw[List.getElem?_set];by_cases h:i=k
 .subst h;rw[if_pos rfl];split
  .rename_i h;rw[a2z,a0u h];rfl
  .rename_i h;rw[List.getElem?_eq_none (by omega)]
 .rw[if_neg h]
def Ju(d:α)(l:List α)(i j p q:Nat)(b:Nat->Bool):List α:=
 let l1:=if b p=true then l.set i (l.getD j d) else l
 if b q=true then l1.set j (l.getD i d) else l1
structure L3(R:Hv α)(d:α)(w0:World)(base g n cap:Nat)(l:List α)(i j p q:Nat)(b:Nat->Bool)(w:World):Prop where
 own:Ag R w base (.slice (some ⟨g,0,none⟩) n cap) (Ju d l i j p q b)
 fp:Fp [g] w0 w
variable {w0 w : World} {base g n cap i j p q : Nat} {l : List α} {b : Nat -> Bool}
theorem L3.first(h:L3 R d w0 base g n cap l i j p q b w)(c:b p=false)(a:b q=false):Ag R w base (.slice (some ⟨g,0,none⟩) n cap) l:=by
 have:=h.own;unfold Ju at this;rw[c,a] at this;exact this
theorem Ue:(Ju d l i j p q b).length=l.length:=by
 unfold Ju;simp only
 split<;>split<;>simp
theorem Adl(c:b p=true)(a:b q=true):Ju d l i j p q b=Ho d l i j:=by
 unfold Ju Ho;simp only;rw[if_pos c,if_pos a]
theorem L3.storeP(h:L3 R d w0 base g n cap l i j p q b w)(m:b p=false)(s:i<l.length)(c:i≠j)(a:p≠q):
  L3 R d w0 base g n cap l i j p q (Ak b p) (w.setCells g (i*R.k) (R.enc (l.getD j d))):=by
 obtain⟨u,t⟩:=h.own.setQ (l.getD j d) (i:=i) (by rw[Ue];exact s);refine⟨?_,h.fp.trans t (by intro k r;exact Or.inl r)⟩;have e:(Ju d l i j p q b).set i (l.getD j d)=Ju d l i j p q (Ak b p):=by
  cases hq:b q with
  |true=>simp only[Ju,Ak,m,hq,if_neg (Ne.symm a),if_true,a3u,if_false];exact List.set_comm _ _ c.symm
  |false=>simp only[Ju,Ak,m,hq,if_neg (Ne.symm a),if_true,a3u,if_false]
 rw[<-e];exact u
theorem L3.storeQ(h:L3 R d w0 base g n cap l i j p q b w)(c:b q=false)(r:j<l.length)(a:p≠q):
  L3 R d w0 base g n cap l i j p q (Ak b q) (w.setCells g (j*R.k) (R.enc (l.getD i d))):=by
 obtain⟨t,s⟩:=h.own.setQ (l.getD i d) (i:=j) (by rw[Ue];exact r);refine⟨?_,h.fp.trans s (by intro k m;exact Or.inl m)⟩;have e:(Ju d l i j p q b).set j (l.getD i d)=Ju d l i j p q (Ak b q):=by
  simp only[Ju,Ak,c,if_neg a,if_true,a3u,if_false]
 rw[<-e];exact t
theorem L3.plain{k:Nat}(h:L3 R d w0 base g n cap l i j p q b w)(a:k≠p∧k≠q):L3 R d w0 base g n cap l i j p q (Ak b k) w:=by
 refine⟨?_,h.fp⟩;have e:Ju d l i j p q (Ak b k)=Ju d l i j p q b:=by
  unfold Ju Ak;simp only;rw[if_neg a.1.symm,if_neg a.2.symm]
 rw[e];exact h.own
theorem Ag.setSame(h:Ag R w base (.slice (some ⟨g,0,none⟩) n cap) l)(a:i<l.length):Ag R (w.setCells g (i*R.k) (R.enc (l.getD i d))) base (.slice (some ⟨g,0,none⟩) n cap) l∧Fp [g] w (w.setCells g (i*R.k) (R.enc (l.getD i d))):=by
 obtain⟨c,m⟩:=h.setQ (l.getD i d) a;refine⟨?_,m⟩;have e:l.set i (l.getD i d)=l:=by
  refine List.ext_getElem? fun k=>?_;rw[List.getElem?_set];by_cases h:i=k
  .subst h;rw[if_pos rfl,if_pos a,a2z,a0u a];rfl
  .rw[if_neg h]
 rw[e] at c;exact c
end
section
open Go.RowKit Go.Lib
def Pg:Ko:=⟨0,0⟩
structure oK(w:World)(b o:Nat)(x:Ko):Prop where
 c0:w.cell? ⟨b,o,none⟩=some (.pointer (some ⟨x.q,0,none⟩))
 c1:w.cell? ⟨b,o+1,none⟩=some (.int .i64 x.at_)
theorem Vz{w:World}{base g n cap i:Nat}{l:List Ko}(h:Ag Is w base (.slice (some ⟨g,0,none⟩) n cap) l)(a:i<l.length):oK w g (i*2) (l.getD i Pg):=by
 rw[a2z,a0u a];have c:=(h.elem a).1;exact⟨c 0 _ rfl,c 1 _ rfl⟩
theorem dD{w:World}{base g n cap i:Nat}{l:List Ko}{x:Ko}(h:Ag Is w base (.slice (some ⟨g,0,none⟩) n cap) l)(c:i<l.length)(a:l.getD i Pg=x):oK w g (i*2) x:=by
 rw[<-a];exact Vz h c
theorem Adm(W:World)(base g n cap i j:Nat)(l:List Ko)(E:Ag Is W base (.slice (some ⟨g,0,none⟩) n cap) l)(u:i<l.length)(F:j<l.length):
  Calls Tryz.prog 326 #[.slice (some ⟨g,0,none⟩) n cap,.int .i64 i,.int .i64 j] W fun e W'=>e=.returned (.tuple #[])/\Ag Is W' base (.slice (some ⟨g,0,none⟩) n cap) (Ho Pg l i j)/\Fp [g] W W':=by
 have HO:=Z E;have hm:l.length=n:=by
  obtain⟨a',c',e,-⟩:=E.len;cases e;rfl
 obtain⟨-,-,-,aa,-,-⟩:=E.elem u
 have zi:(i:Int)<(n:Int):=by omega
 have zj:(j:Int)<(n:Int):=by omega
 obtain⟨xx,hx⟩:=Aa (l.getD i Pg);obtain⟨yy,hy⟩:=Aa (l.getD j Pg);have z:=Z hx;have T:=Z hy;obtain⟨xq,xa⟩:=xx;obtain⟨yq,ya⟩:=yy;have HM:=Z hm;clear E hm hx hy;by_cases B:i=j
 .subst B;have L:=z.o.symm.trans T.o;cases L;rw[oJ];go_in;go_wp2_with fail;refine E3 (fun G w'=>Ag Is w' base (.slice (some ⟨g,0,none⟩) n cap) l∧Fp [g] W w') (fun _ _=>True) (by kernel_rfl) (by kernel_rfl) ⟨HO.o.kept (fun k A=>rfl),(Fp.drew _).mono (by simp)⟩ ?_
  iterate 13
   apply A3 (fun _ _ h=>h) rfl rfl rfl
   .intro b a w m c K s;have:=c.f 0;have:=c.f 1;have:=c.f 2;(try have:=c.e 4 10);(try have:=c.e 5 11);(try have:=c.e 6 12);(try have:=c.e 8 14);(try have:=c.e 9 15);(try have:=c.e 10 16);(try have:=c.e 0 6);(try have:=c.e 1 7);obtain⟨S,Q⟩:=dD m.1 u z.o;simp only at S Q;simp only[Oper.wp,execOp];go_simp;exact s _ m trivial
  apply F3 (fun _=>True) rfl rfl
  .intro b a w m c K s;have N:=c.e 12 18;have P:=c.e 7 13;obtain⟨D,C⟩:=Vz m.1 u;obtain⟨-,t,-,-,-,-⟩:=m.1.elem u;have z0:=t (i*2);have z1:=t (i*2+1);have r:=m.1.setSame (d:=Pg) u;rw[z.o] at r;have v:=And.intro r.1 (m.2.trans r.2 (by intro k A;exact Or.inl A));clear t r;simp only[Oper.wp,execOp];go_simp;exact s undef _ v trivial trivial
  apply A3 (fun _ _ h=>h) rfl rfl rfl
  .intro b a w m c K s;have h8:=c.e 2 8;have h9:=c.e 3 9;simp only[Oper.wp,execOp];go_simp;exact s _ m trivial
  apply F3 (fun _=>True) rfl rfl
  .intro b a w m c K s;have M:=c.e 14 19;have O:=c.e 11 17;obtain⟨D,C⟩:=Vz m.1 u;obtain⟨-,t,-,-,-,-⟩:=m.1.elem u;have z0:=t (i*2);have z1:=t (i*2+1);have r:=m.1.setSame (d:=Pg) u;rw[z.o] at r;have v:=And.intro r.1 (m.2.trans r.2 (by intro k A;exact Or.inl A));clear t r;simp only[Oper.wp,execOp];go_simp;exact s undef _ v trivial trivial
  refine⟨?_,?_⟩
  .refine⟨fun _ _ _ _ _=>trivial,?_⟩;refine Cb _ ?_;refine⟨fun _ _ _ _ _=>trivial,?_⟩
   iterate 13 refine Cb _ ?_
   exact trivial
  .intro w' G m x;simp only[a2x,a2u,a1w,a0v]
   iterate 13 (refine A2 ?_)
   refine As ?_;intro J u13
   iterate 1 (refine A2 ?_)
   refine As ?_;intro I u15;refine C7 ?_;simp only[Aj,Act.put,a0z,a0x,a0w];have HC:=Z m;clear m x u13 u15;go_wp2_with fail;go_end0;exact⟨rfl,HC.o.1,HC.o.2⟩
 .go_in;go_wp2_with fail;refine E3 (fun G w'=>L3 Is Pg W base g n cap l i j 13 15 G w') (fun _ _=>True) (by kernel_rfl) (by kernel_rfl) ⟨HO.o.kept (fun k A=>rfl),(Fp.drew _).mono (by simp)⟩ ?_
  iterate 7
   apply A3 (fun _ _ h=>h.plain (by decide)) rfl rfl rfl
   .intro b a w m c K s;have:=c.f 0;have:=c.f 1;have:=c.f 2;(try have:=c.e 4 10);(try have:=c.e 5 11);simp only[Oper.wp,execOp];go_simp;exact s _ m trivial
  apply A3 (fun _ _ h=>h.plain (by decide)) rfl rfl rfl
  .intro b a w m c K s;have ac:=c.e 6 12;obtain⟨S,Q⟩:=dD (m.first (c.post 13 (by kernel_rfl)) (c.post 15 (by kernel_rfl))) F T.o;simp only at S Q;simp only[Oper.wp,execOp];go_simp;exact s _ m trivial
  iterate 3
   apply A3 (fun _ _ h=>h.plain (by decide)) rfl rfl rfl
   .intro b a w m c K s;have:=c.f 0;have:=c.f 1;(try have:=c.e 8 14);(try have:=c.e 9 15);simp only[Oper.wp,execOp];go_simp;exact s _ m trivial
  apply A3 (fun _ _ h=>h.plain (by decide)) rfl rfl rfl
  .intro b a w m c K s;have ab:=c.e 10 16;obtain⟨D,C⟩:=dD (m.first (c.post 13 (by kernel_rfl)) (c.post 15 (by kernel_rfl))) u z.o;simp only at D C;simp only[Oper.wp,execOp];go_simp;exact s _ m trivial
  apply A3 (fun _ _ h=>h.plain (by decide)) rfl rfl rfl
  .intro b a w m c K s;have h6:=c.e 0 6;have h7:=c.e 1 7;simp only[Oper.wp,execOp];go_simp;exact s _ m trivial
  apply F3 (fun _=>True) rfl rfl
  .intro b a w m c K s;have N:=c.e 12 18;have P:=c.e 7 13;obtain⟨D,C⟩:=Vz m.own (i:=i) (by rw[Ue];exact u);obtain⟨-,t,-,-,-,-⟩:=m.own.elem (i:=i) (by rw[Ue];exact u);have z0:=t (i*2);have z1:=t (i*2+1);have r:=m.storeP c.self u B (by decide);rw[T.o] at r;clear t;simp only[Oper.wp,execOp];go_simp;exact s undef _ r trivial trivial
  apply A3 (fun _ _ h=>h.plain (by decide)) rfl rfl rfl
  .intro b a w m c K s;have h8:=c.e 2 8;have h9:=c.e 3 9;simp only[Oper.wp,execOp];go_simp;exact s _ m trivial
  apply F3 (fun _=>True) rfl rfl
  .intro b a w m c K s;have M:=c.e 14 19;have O:=c.e 11 17;obtain⟨D,C⟩:=Vz m.own (i:=j) (by rw[Ue];exact F);obtain⟨-,t,-,-,-,-⟩:=m.own.elem (i:=j) (by rw[Ue];exact F);have z0:=t (j*2);have z1:=t (j*2+1);have r:=m.storeQ c.self F (by decide);rw[z.o] at r;clear t;simp only[Oper.wp,execOp];go_simp;exact s undef _ r trivial trivial
  refine⟨?_,?_⟩
  .refine⟨fun _ _ _ _ _=>trivial,?_⟩;refine Cb _ ?_;refine⟨fun _ _ _ _ _=>trivial,?_⟩
   iterate 13 refine Cb _ ?_
   exact trivial
  .intro w' G m x;simp only[a2x,a2u,a1w,a0v]
   iterate 13 (refine A2 ?_)
   refine As ?_;intro J u13
   iterate 1 (refine A2 ?_)
   refine As ?_;intro I u15;refine C7 ?_;simp only[Aj,Act.put,a0z,a0x,a0w];have y:=m.own;rw[Adl (x 13 (by simp)) (x 15 (by simp))] at y;have U:=Z y;have V:=Z m.fp;clear m x y u13 u15;go_wp2_with fail;go_end0;exact⟨rfl,U.o,V.o⟩
theorem Tryz.infoSrc:(Tryz.prog.info? 331).map (fun i=>(i.zero,i.size,i.bytes))=some (some (.agg #[.pointer none,.int .i64 0]),2,16):=by kernel_rfl
theorem Adn(W:World)(base B:Nat)(v:Value)(l:List Ko)(x:Ko)(C:W.heap[B]?=some (.cells #[v] 325 (0,0)))(y:Ag Is W base v l)(N:base≤W.heap.size)(hn:l.length≤1000000):
  Calls Tryz.prog 325 #[.pointer (some ⟨B,0,none⟩),.iface 331 (.agg #[.pointer (some ⟨x.q,0,none⟩),.int .i64 x.at_])] W fun e W'=>e=.returned (.tuple #[])/\(∃u,W'.heap[B]?=some (.cells #[u] 325 (0,0))/\Ag Is W' base u (l++[x]))/\Tf base [331] [B] W W':=by
 have HB:=Z C;have HO:=Z y;have O:=Ae C;obtain⟨va,vc,J,-,-⟩:=y.len;obtain⟨G,I⟩:=x;clear C y;go_in;go_wp2_with fail;refine Qb (Gg Is [331] 325 (fun v=>#[v]) base B v l ⟨G,I⟩ 6 7 9 W) (fun _ _=>True) (by kernel_rfl) (by kernel_rfl) (fun _=>Gg.start HO.o HB.o N) ?_
 iterate 3
  apply Cm (fun _ _ _ h _=>h.plain (by decide)) rfl rfl rfl
  .intro b a w k c K m;have:=c.f 0;(try have:=c.e 1 5);simp only[Oper.wp,execOp];go_simp;exact m _ k trivial
 apply Cm (fun _ _ _ h _=>h.plain (by decide)) rfl rfl rfl
 .intro b a w k c K m;have h6:=c.e 2 6;have q0:=Ab (k.first (c.post 7 (by kernel_rfl))) 0;simp only[a3x,a1z] at q0;rw[J] at q0;simp only[Oper.wp,execOp];go_simp;rw[<-J];exact m _ k trivial
 iterate 2
  apply Cm (fun _ _ _ h _=>h.plain (by decide)) rfl rfl rfl
  .intro b a w k c K m;have:=c.f 1;(try have:=c.e 4 8);simp only[Oper.wp,execOp];go_simp;exact m _ k trivial
 apply Dw (fun _ _=>True) rfl rfl rfl
 .intro b a w k c K m;have h9:=c.e 5 9;have s:=k.build c.self (by decide);simp only[Oper.wp,execOp];go_simp;exact m _ _ s trivial trivial
 apply Dw (fun _ _=>True) rfl rfl rfl
 .intro b a w k c K m;have P:=c.e 3 7;have U:=c.dep 6 10 _ (by kernel_rfl) rfl;obtain⟨g,A,z⟩:=k.bld (c.pre 6 (by kernel_rfl)) c.self;refine Vt (R:=Is) 325 Tryz.underlying325 Tryz.infoSrc rfl (by decide) (.tmp 7) (.tmp 10) rfl base v l (Ei P) (k.own0 c.self) _ _ _ [⟨G,I⟩] (Ei ((c.val 6 10 (by kernel_rfl)).trans A)) z (by simp;omega) k.sz ?_;intro u w' V h2 Q;exact m _ _ (k.append (c.pre 6 (by kernel_rfl)) c.self V Q (by simp[Is]) (by decide) (by decide)) trivial trivial
 apply Cm (fun _ _ _ h _=>h.plain (by decide)) rfl rfl rfl
 .intro b a w k c K m;have h4:=c.e 0 4;simp only[Oper.wp,execOp];go_simp;exact m _ k trivial
 apply J3 (fun _=>True) rfl rfl rfl
 .intro b a w k c K m;have S:=c.e 8 12;have T:=c.dep 7 11 _ (by kernel_rfl) rfl;obtain⟨a2,n2,c2,L⟩:=k.slice (c.pre 7 (by kernel_rfl));have M:=(c.val 7 11 (by kernel_rfl)).trans L;have s:=k.store (off:=0) (c.pre 7 (by kernel_rfl)) c.self (by simp) (by decide) (by decide);rw[L] at s;have f0:=Av k.cel 0;have q0:=Ab k.cel 0;simp only[Oper.wp,execOp];go_simp;exact m undef _ s trivial trivial
 refine⟨?_,?_⟩
 .refine⟨fun _ _ _ _ _=>trivial,?_⟩;refine E4 _ ?_;refine⟨fun _ _ _ _ _=>trivial,?_⟩;refine⟨fun _ _ _ _ _=>trivial,?_⟩
  iterate 6 refine E4 _ ?_
  exact trivial
 .intro w' bb t;simp only[a2x,a2u,a1w,a0v]
  iterate 6 (refine A2 ?_)
  refine As ?_;intro v6 u6;refine As ?_;intro v7 u7
  iterate 1 (refine A2 ?_)
  refine As ?_;intro v9 u9;refine C7 ?_;intro k;simp only[Aj,Act.put,a0z,a0x,a0w];have r:=k.cel;rw[t 9 (by simp)] at r;have F:=Z r;have E:=Z (k.own1 (t 7 (by simp)));have D:=Z k.tf;clear k t r;go_wp2_with fail;go_end0;exact⟨rfl,⟨_,F.o,E.o⟩,D.o⟩
theorem Ado(W:World)(base B:Nat)(v:Value)(l:List Ko)(x:Ko)(r:W.heap[B]?=some (.cells #[v] 325 (0,0)))(y:Ag Is W base v (l++[x]))(L:l.length≤1000000):
  Calls Tryz.prog 324 #[.pointer (some ⟨B,0,none⟩)] W fun e W'=>e=.returned (.iface 331 (.agg #[.pointer (some ⟨x.q,0,none⟩),.int .i64 x.at_]))/\(∃A,W'.heap[B]?=some (.cells #[A] 325 (0,0))/\Ag Is W' base A l)/\Fp [B] W W':=by
 obtain⟨g,cap,N,rfl,U,E,h,-⟩:=y.open (by simp)
 have s:(l++[x]).length=l.length+1:=by simp
 have u:=dC y (i:=l.length) (by omega)
 have c:(l++[x])[l.length]'(by omega)=x:=by simp
 rw[c] at u;have a:=y.less (m:=l.length) (by omega) (by omega);rw[List.take_left] at a;rw[s] at h;obtain⟨n,t⟩:=Aa l.length;rw[s] at r;rw[t] at a u r h L;have HC:=Z u;have G:=Z a;have O:=Z r;have q0:W.cell? ⟨B,0,none⟩=some (.slice (some ⟨g,0,none⟩) (n+1) cap):=Ab r 0;have V:W.frozen? ⟨B,0,none⟩=false:=Av r 0;have M:=Ae r;have z:g≠B:=by
  intro e;subst e;rw[E] at r;cases r
 obtain⟨J,I⟩:=u W (Fp.refl _ _);obtain⟨Q,T⟩:=x;simp only at J I
 have K:IntKind.i64.wrap (((n+1:Nat):Int)-1)=(n:Int):=by rw[a2v];omega
 obtain⟨m,C⟩:=Aa (n+1);rw[C] at K q0 h
 have z1:(n:Int)<(m:Int):=by omega
 have P:(n:Int)<=(cap:Int):=by omega
 clear y E u c a s r t C;go_in;go_wp2_with fail;go_ret;have F:Fp [B] W (W.setCell ⟨B,0,none⟩ (.slice (some ⟨g,0,none⟩) n cap)):=Fp.setCell W ⟨B,0,none⟩ _;refine⟨rfl,⟨_,Dy ((Cf O.o _).trans rfl),?_⟩,F.alloc' _⟩;refine Ag.fp (S:=[]) (G.o.kept fun k D=>F.block k (G.o.lt k D).2 ?_) (Fp.alloc _ _) (by simp)
 have:g=k:=by simpa [Value.ownBlock] using D
 subst this
 simpa using z
end
end Go.Proofs.YtkagolpnaicdoaaGreatDoor
