/-
 merge: queues and sources as they lie; first, Len, Less. Two elements of a slice of the call's own are exchanged, in whatever order: the class of worlds on the way (for XRegionN), for elements of any type. As XRegionN, but what a value is good for may lapse once a later operation is done (S takes the bits), and the relation is told by the operation. Over any program. Slices of cells: what a part of one has; append to a slice of the call's own as a step of a drawn region; a store into one. merge: sources are exchanged; Push, Pop.
-/
import Derived.Test.YtkagolpnaicdoaaGreatDoorPSortA
set_option maxRecDepth 100000
set_option maxHeartbeats 8000000
open Go.Lib renaming hid->a0z
open List renaming getElem?_eq_getElem->a0x,setIfInBounds_toArray->a0w,reverse_cons->a0v,set_cons_succ->a0u,set_cons_zero->a1z,reverse_nil->a1x,cons_append->a1w,nil_append->a1v,getD_eq_getElem?_getD->a2z,getElem_mem->a2x,length_map->a2w,getElem_of_mem->a2v,getElem?_append_right->a3z,getElem?_map->a3x,append_assoc->a3w,getElem?_append_left->a3v
open Bool renaming and_eq_true->a1u,false_eq_true->a2u
open Nat renaming lt_or_ge->a3u
namespace Go.Proofs.YtkagolpnaicdoaaGreatDoor
section
open Go.RowKit Go.Lib
theorem Aa5(x y:Ad)(w:World):Calls Tryz.prog 327 #[Ik x,Ik y] w fun e w'=>e=.returned (.int .i64 (D2 x y))/\Fp [] w w':=by
 have a:=a0z (fun w=>dR x y w)
 obtain⟨r,f⟩:∃r,D2 x y=r:=⟨_,rfl⟩
 rw[f] at a ⊢;clear f;obtain⟨⟨A,E,z,xs,D,v⟩,B⟩:=x;obtain⟨⟨o,u,m,ys,t,k⟩,s⟩:=y;have HC1':Hid (∀w,Calls Tryz.prog 217 #[.agg #[.string A,.string E,.int .u64 z,.int .u64 xs,.bool D,.string v,.int .i64 B],.agg #[.string o,.string u,.int .u64 m,.int .u64 ys,.bool t,.string k,.int .i64 s]] w fun e w'=>e=.returned (.int .i64 r)/\Fp [] w w'):=a;clear a;unfold Ik Jo;simp only;go_enter Tryz.func327,Tryz.ntmps327;go_wp2_with (fail);(with_reducible refine(HC1'.out _).mono ?_);rintro e I ⟨rfl,h⟩;have G:=a0z h;clear h;go_wp2_with (fail);go_ret;exact⟨rfl,((Fp.alloc _ _).alloc' _).trans G.out (by simp)⟩
structure Jh where
 q:Nat
 at_:Nat
def lZ(s:Jh):List Value:=[.pointer (some ⟨s.q,0,none⟩),.int .i64 s.at_]
def Ib:Ho Jh where
 e:=331
 k:=2
 enc:=lZ
 len:=fun _=>rfl
 pos:=by decide
 one:=fun x v hv=>by
  unfold lZ at hv;simp only[List.mem_cons,List.not_mem_nil,or_false] at hv
  rcases hv with rfl|rfl<;>rfl
abbrev Ez:=Jh × List Ad
def F7(x:Ez):Ad:=x.2.headD I3
structure I5(W:World)(base q:Nat)(r:List Ad):Prop where
 ge:base<=q
 ex:∃b o n cap,W.heap[q]?=some (.cells #[.slice (some ⟨b,o,none⟩) n cap] 329 (0,0))/\n<=cap/\b<base/\Cf Bz W (some ⟨b,o,none⟩) n r
theorem I5.tf{base a q:Nat}{D:List TypeId}{S:List Nat}{W W':World}{r:List Ad}(h:I5 W base q r)(m:Tf a D S W W')(z:base<=a)(t:329∉D)(s:∀k∈S,base<=k/\k≠q):I5 W' base q r:=by
 obtain⟨b,o,n,cap,y,x,v,u⟩:=h.ex;exact⟨h.ge,b,o,n,cap,m.cells y (fun f=>(s _ f).2 rfl) t,x,v,u.tf m (by omega) (fun f=>by have:=(s _ f).1;omega)⟩
theorem I5.fp{base q:Nat}{W W':World}{r:List Ad}(h:I5 W base q r)(a:Fp [] W W'):I5 W' base q r:=h.tf (Tf.of (base:=base) (D:=[]) a) (Nat.le_refl _) (by simp) (by simp)
theorem cE(W:World)(base q:Nat)(x:Ad)(r:List Ad)(h:I5 W base q (x::r)):
  Calls Tryz.prog 273 #[.pointer (some ⟨q,0,none⟩)] W fun e W'=>e=.returned (Ik x)/\Fp [] W W':=by
 obtain⟨b,o,n,cap,k,G,E,f⟩:=h.ex;have B:n=r.length+1:=f.len;obtain⟨T,Q,e,_,a⟩:=f.get (i:=0) (by simp);cases e;have U:=a0z a;have V:=a0z k
 have O:(0:Int)<(n:Int):=by omega
 have m:=a0z (fun W' (D:Fp [] W W')=>Wm (a W' D));simp only[Nat.zero_mul,Nat.add_zero,List.getElem_cons_zero] at m;obtain⟨⟨u,A,t,xs,z,s⟩,y⟩:=x
 have S:∀X:Obj,(W.alloc X).cell? ⟨q,0,none⟩=some (.slice (some ⟨b,o,none⟩) n cap):=fun X=>Ab (Bw k) 0
 obtain⟨a0,N,M,L,K,J,I⟩:=m.out _ (Fp.alloc W (.cells #[.string ⟨#[]⟩,.string ⟨#[]⟩,.int .u64 0,.int .u64 0,.bool false,.string ⟨#[]⟩,.int .i64 0] 221));simp only at a0 N M L K J I;clear k G E f B a h;unfold Ik Jo;simp only;go_enter Tryz.func273,Tryz.ntmps273;go_wp2_with (fail);refine bodyPost_ret (v:=.agg #[.string u,.string A,.int .u64 t,.int .u64 xs,.bool z,.string s,.int .i64 y]) (by simp[results,Tryz.results273,go_sem]) rfl ⟨rfl,Fp.alloc _ _⟩
theorem cG(W:World)(a:Option Addr)(n cap:Nat):Calls Tryz.prog 271 #[.slice a n cap] W fun e W'=>e=.returned (.int .i64 n)/\W'=W:=by
 go_enter Tryz.func271,Tryz.ntmps271;go_wp2_with (fail);go_ret;exact⟨rfl,rfl⟩
theorem cH{W:World}{base g n cap i:Nat}{l:List Jh}(h:Ae Ib W base (.slice (some ⟨g,0,none⟩) n cap) l)(f:i<l.length):∀W',Fp [] W W'->W'.cell? ⟨g,i*2,none⟩=some (.pointer (some ⟨l[i].q,0,none⟩))/\W'.cell? ⟨g,i*2+1,none⟩=some (.int .i64 l[i].at_):=by
 intro W' k;obtain⟨o,-,-,m,-,-⟩:=h.elem f;have a:=o.fp k m (by simp);exact⟨a 0 _ rfl,a 1 _ rfl⟩
theorem To{l:List Ad}(h:0<l.length):∃r,l=l.headD I3::r:=by
 cases l with
 |nil=>simp at h
 |cons x r=>exact⟨r,rfl⟩
theorem Aa6(W:World)(base:Nat)(v:Value)(m:List Ez)(i j:Nat)(z:Ae Ib W base v (m.map (·.1)))(O:∀x∈m,I5 W base x.1.q x.2∧0<x.2.length)(Q:∀x∈m,Ce x.2)(hi:i<m.length)(hj:j<m.length)(hn:m.length≤1000000):
  Calls Tryz.prog 323 #[v,.int .i64 i,.int .i64 j] W fun e W'=>∃b,e=.returned (.bool b)/\(b=true->A9 (F7 m[i]) (F7 m[j]))/\(b=false->A9 (F7 m[j]) (F7 m[i]))/\Fp [] W W':=by
 obtain⟨g,cap,be,rfl,hg,hh,-⟩:=z.open (by rw[a2w];omega);have M:=a0z (cH z (i:=i) (by rw[a2w];exact hi));have L:=a0z (cH z (i:=j) (by rw[a2w];exact hj));simp only[List.getElem_map] at M L;have ap:=Ac hh
 obtain⟨n,S⟩:∃n,(m.map (·.1)).length=n:=⟨_,rfl⟩
 rw[S];rw[a2w] at S;obtain⟨t,U⟩:=O _ (a2x hi);obtain⟨u,T⟩:=O _ (a2x hj)
 have ox:Cd (F7 m[i]):=by
  obtain⟨r,N⟩:=To U;have:=Q _ (a2x hi);rw[N] at this;exact this _ List.mem_cons_self
 have oy:Cd (F7 m[j]):=by
  obtain⟨r,N⟩:=To T;have:=Q _ (a2x hj);rw[N] at this;exact this _ List.mem_cons_self
 obtain⟨rx,ab⟩:=To U;obtain⟨ry,aa⟩:=To T;rw[ab] at t;rw[aa] at u;have E:=a0z (fun W' (o:Fp [] W W')=>cE W' base _ _ _ (t.fp o));have D:=a0z (fun W' (o:Fp [] W W')=>cE W' base _ _ _ (u.fp o));have ex:m[i].2.headD I3=F7 m[i]:=rfl;have ey:m[j].2.headD I3=F7 m[j]:=rfl;rw[ex] at E;rw[ey] at D;clear t u U T ab aa ex ey
 obtain⟨x,hx⟩:∃x,F7 m[i]=x:=⟨_,rfl⟩
 obtain⟨y,hy⟩:∃y,F7 m[j]=y:=⟨_,rfl⟩
 obtain⟨sx,Z⟩:∃s,m[i].1=s:=⟨_,rfl⟩
 obtain⟨sy,V⟩:∃s,m[j].1=s:=⟨_,rfl⟩
 rw[hx] at ox E ⊢;rw[hy] at oy D ⊢;rw[Z] at M E;rw[V] at L D;obtain⟨qx,ax⟩:=sx;obtain⟨qy,ay⟩:=sy;simp only at M L E D;have B:=a0z (fun w=>Aa5 x y w);have I:=a0z (aQ ox oy)
 obtain⟨r,N⟩:∃r,D2 x y=r:=⟨_,rfl⟩
 rw[N] at B I;have HR:=a0z N
 have zi:(i:Int)<(n:Int):=by omega
 have zj:(j:Int)<(n:Int):=by omega
 have ao:n<=1000000:=by omega
 clear z O Q hh S hx hy Z V N hg hi hj hn ox oy
 obtain⟨X,hX⟩:∃X,Ik x=X:=⟨_,rfl⟩
 obtain⟨Y,hY⟩:∃Y,Ik y=Y:=⟨_,rfl⟩
 rw[hX] at E B;rw[hY] at D B;clear hX hY;go_enter Tryz.func323,Tryz.ntmps323;go_wp2_with (fail);refine C9 (by kernel_rfl) (by kernel_rfl) ?_
 iterate 14
  apply Aw rfl rfl rfl
  ·intro a w k f K A
   try have h0:=f.fr 0 rfl
   try have t:=f.fr 1 rfl
   try have h8:=f.eq 0 8 rfl
   try have h9:=f.eq 1 9 rfl
   try have bd:=f.eq 2 10 rfl
   try have bc:=f.eq 3 11 rfl
   try have bb:=f.eq 4 12 rfl
   try have u:=f.fr 2 rfl
   try have a9:=f.eq 6 14 rfl
   try have a8:=f.eq 7 15 rfl
   try have a7:=f.eq 8 16 rfl
   try have a6:=f.eq 9 17 rfl
   try have a5:=f.eq 10 18 rfl
   try have ba:=f.eq 5 13 rfl
   try have a4:=f.eq 11 19 rfl
   try have a3:=f.eq 12 20 rfl
   obtain⟨p0,p1⟩:=M.out _ k;obtain⟨r0,r1⟩:=L.out _ k;simp only[Oper.wp,execOp];go_simp
   first
   |exact A _ k (Fp.refl _ _)
   |(with_reducible refine(E.out _ k).mono ?_);rintro e w2 ⟨rfl,o⟩;exact A _ (k.trans o (by simp)) o
   |(with_reducible refine(D.out _ k).mono ?_);rintro e w2 ⟨rfl,o⟩;exact A _ (k.trans o (by simp)) o
   |(with_reducible refine(B.out _).mono ?_);rintro e w2 ⟨rfl,o⟩;exact A _ (k.trans o (by simp)) o
 refine⟨?_,?_⟩
 ·repeat(first|exact trivial|refine B7 _ ?_ |refine⟨fun w1 w2 v _ o ⟨g,t,u⟩=>⟨g,t,(o.block g (Ac u) (by simp)).trans u⟩,?_⟩)
 ·intro w' k;simp only[a0v,a1x,a1v,a1w]
  iterate 14 (refine Am ?_)
  refine A0 ?_;simp only[Aj,Act.put,a0w,a0u,a1z];have HF:=a0z k;clear k
  have ai:Hid (∀G,Fp [] w' G->G.cell? ⟨g,i*2,none⟩=some (.pointer (some ⟨qx,0,none⟩))/\G.cell? ⟨g,i*2+1,none⟩=some (.int .i64 ax)):=fun G h=>M.out G (HF.out.trans h (by simp))
  have ah:Hid (∀G,Fp [] w' G->G.cell? ⟨g,j*2,none⟩=some (.pointer (some ⟨qy,0,none⟩))/\G.cell? ⟨g,j*2+1,none⟩=some (.int .i64 ay)):=fun G h=>L.out G (HF.out.trans h (by simp))
  by_cases h0:r<0
  ·have z0:decide (r<0)=true:=decide_eq_true h0;go_wp2_with (fail);refine C9 (by kernel_rfl) (by kernel_rfl) ?_
   iterate 3
    apply Aw rfl rfl rfl
    ·intro a w k f K A
     try have h7:=f.fr 7 rfl
     try have ag:=f.eq 0 21 rfl
     try have af:=f.eq 1 22 rfl
     simp only[Oper.wp,execOp];go_simp;exact A _ k (Fp.refl _ _)
   apply An 2 23 rfl rfl rfl rfl (by kernel_rfl) rfl rfl;apply An 2 23 rfl rfl rfl rfl (by kernel_rfl) rfl rfl;apply An 2 23 rfl rfl rfl rfl (by kernel_rfl) rfl rfl;apply G9 5 26 rfl rfl rfl rfl (by kernel_rfl) rfl;apply G9 5 26 rfl rfl rfl rfl (by kernel_rfl) rfl;apply G9 5 26 rfl rfl rfl rfl (by kernel_rfl) rfl;apply G9 5 26 rfl rfl rfl rfl (by kernel_rfl) rfl;apply G9 5 26 rfl rfl rfl rfl (by kernel_rfl) rfl;apply G9 5 26 rfl rfl rfl rfl (by kernel_rfl) rfl;apply G9 5 26 rfl rfl rfl rfl (by kernel_rfl) rfl;apply G9 5 26 rfl rfl rfl rfl (by kernel_rfl) rfl;apply G9 5 26 rfl rfl rfl rfl (by kernel_rfl) rfl;apply G9 5 26 rfl rfl rfl rfl (by kernel_rfl) rfl;apply G9 5 26 rfl rfl rfl rfl (by kernel_rfl) rfl;apply An 2 23 rfl rfl rfl rfl (by kernel_rfl) rfl rfl
   iterate 2
    apply Aw rfl rfl rfl
    ·intro a w k f K A
     try have ae:=f.eq 2 23 rfl
     try have ad:=f.eq 17 38 rfl
     try have ac:=f.eq 18 39 rfl
     simp only[Oper.wp,execOp];go_simp;exact A _ k (Fp.refl _ _)
   refine⟨?_,?_⟩
   ·repeat(first|exact trivial|refine B7 _ ?_ |refine⟨fun w1 w2 v _ o ⟨g,t,u⟩=>⟨g,t,(o.block g (Ac u) (by simp)).trans u⟩,?_⟩)
   ·intro w' k;simp only[a0v,a1x,a1v,a1w]
    iterate 20 (refine Am ?_)
    refine A0 ?_;simp only[Aj,Act.put,a0w,a0u,a1z];have J:=a0z (HF.out.trans k (by simp));clear k;go_wp2_with (fail);go_ret;exact⟨true,rfl,fun _=>(by unfold A9;rw[HR.out];omega),(fun h=>by cases h),J.out⟩
  ·have z0:decide (r<0)=false:=decide_eq_false h0
   by_cases t:r=0
   ·have z1:(r==0)=true:=by simpa using t
    have HZ:=a0z t;clear t;go_wp2_with (fail);refine C9 (by kernel_rfl) (by kernel_rfl) ?_
    iterate 20
     first|apply Aw rfl rfl rfl|apply Hr 2 23 rfl rfl rfl rfl (by kernel_rfl) rfl rfl|apply Hr 5 26 rfl rfl rfl rfl (by kernel_rfl) rfl rfl
     ·intro a w k f K A
      try have h7:=f.fr 7 rfl
      try have ag:=f.eq 0 21 rfl
      try have af:=f.eq 1 22 rfl
      try have am:=f.eq 3 24 rfl
      try have al:=f.eq 4 25 rfl
      try have h0:=f.fr 0 rfl
      try have t:=f.fr 1 rfl
      try have a2:=f.eq 6 27 rfl
      try have a1:=f.eq 7 28 rfl
      try have aS:=f.eq 8 29 rfl
      try have aF:=f.eq 9 30 rfl
      try have u:=f.fr 2 rfl
      try have aw:=f.eq 11 32 rfl
      try have av:=f.eq 12 33 rfl
      try have au:=f.eq 13 34 rfl
      try have ar:=f.eq 14 35 rfl
      try have az:=f.eq 10 31 rfl
      try have aq:=f.eq 15 36 rfl
      try have ak:=f.eq 5 26 rfl
      try have aj:=f.eq 16 37 rfl
      try have ae:=f.eq 2 23 rfl
      try have ad:=f.eq 17 38 rfl
      try have ac:=f.eq 18 39 rfl
      obtain⟨p0,p1⟩:=ai.out _ k;obtain⟨r0,r1⟩:=ah.out _ k;simp only[Oper.wp,execOp];go_simp;exact A _ k (Fp.refl _ _)
    refine⟨?_,?_⟩
    ·repeat(first|exact trivial|refine B7 _ ?_ |refine⟨fun w1 w2 v _ o ⟨g,t,u⟩=>⟨g,t,(o.block g (Ac u) (by simp)).trans u⟩,?_⟩)
    ·intro w' k;simp only[a0v,a1x,a1v,a1w]
     iterate 20 (refine Am ?_)
     refine A0 ?_;simp only[Aj,Act.put,a0w,a0u,a1z];have J:=a0z (HF.out.trans k (by simp));clear k;go_wp2_with (fail);go_ret;exact⟨_,rfl,fun _=>(by unfold A9;rw[HR.out,HZ.out];omega),fun _=>(by unfold A9;rw[I.out,HZ.out];omega),J.out⟩
   ·have z1:(r==0)=false:=by simpa using t
    have an:0<r:=by omega
    clear t;go_wp2_with (fail);refine C9 (by kernel_rfl) (by kernel_rfl) ?_
    iterate 6
     first|apply Aw rfl rfl rfl|apply Hr 2 23 rfl rfl rfl rfl (by kernel_rfl) rfl rfl
     ·intro a w k f K A
      try have h7:=f.fr 7 rfl
      try have ag:=f.eq 0 21 rfl
      try have af:=f.eq 1 22 rfl
      try have am:=f.eq 3 24 rfl
      try have al:=f.eq 4 25 rfl
      simp only[Oper.wp,execOp];go_simp;exact A _ k (Fp.refl _ _)
    apply An 5 26 rfl rfl rfl rfl (by kernel_rfl) rfl rfl;apply An 5 26 rfl rfl rfl rfl (by kernel_rfl) rfl rfl;apply An 5 26 rfl rfl rfl rfl (by kernel_rfl) rfl rfl;apply An 5 26 rfl rfl rfl rfl (by kernel_rfl) rfl rfl;apply An 5 26 rfl rfl rfl rfl (by kernel_rfl) rfl rfl;apply An 5 26 rfl rfl rfl rfl (by kernel_rfl) rfl rfl;apply An 5 26 rfl rfl rfl rfl (by kernel_rfl) rfl rfl;apply An 5 26 rfl rfl rfl rfl (by kernel_rfl) rfl rfl;apply An 5 26 rfl rfl rfl rfl (by kernel_rfl) rfl rfl;apply An 5 26 rfl rfl rfl rfl (by kernel_rfl) rfl rfl;apply An 5 26 rfl rfl rfl rfl (by kernel_rfl) rfl rfl
    iterate 3
     first|apply Hr 2 23 rfl rfl rfl rfl (by kernel_rfl) rfl rfl|apply Aw rfl rfl rfl
     ·intro a w k f K A
      try have ak:=f.eq 5 26 rfl
      try have aj:=f.eq 16 37 rfl
      try have ae:=f.eq 2 23 rfl
      try have ad:=f.eq 17 38 rfl
      try have ac:=f.eq 18 39 rfl
      simp only[Oper.wp,execOp];go_simp;exact A _ k (Fp.refl _ _)
    refine⟨?_,?_⟩
    ·repeat(first|exact trivial|refine B7 _ ?_ |refine⟨fun w1 w2 v _ o ⟨g,t,u⟩=>⟨g,t,(o.block g (Ac u) (by simp)).trans u⟩,?_⟩)
    ·intro w' k;simp only[a0v,a1x,a1v,a1w]
     iterate 20 (refine Am ?_)
     refine A0 ?_;simp only[Aj,Act.put,a0w,a0u,a1z];have J:=a0z (HF.out.trans k (by simp));clear k;go_wp2_with (fail);go_ret;exact⟨false,rfl,(fun h=>by cases h),fun _=>(by unfold A9;rw[I.out];omega),J.out⟩
end
section
open Go.RowKit
variable {α : Type} {R : Ho α} {d : α}
def G7(d:α)(l:List α)(i j:Nat):List α:=(l.set i (l.getD j d)).set j (l.getD i d)
theorem Aa7(l:List α)(i j:Nat):(G7 d l i j).length=l.length:=by simp[G7]
theorem mA(l:List α)(i:Nat):G7 d l i i=l:=by
 unfold G7;rw[List.set_set]
 refine List.ext_getElem? fun k=>?_
 rw[List.getElem?_set]
 by_cases h:i=k
 ·subst h;rw[if_pos rfl];split
  ·rename_i h;rw[a2z,a0x h];rfl
  ·rename_i h;rw[List.getElem?_eq_none (by omega)]
 ·rw[if_neg h]
def I6(d:α)(l:List α)(i j p q:Nat)(b:Nat->Bool):List α:=
 let l1:=if b p=true then l.set i (l.getD j d) else l
 if b q=true then l1.set j (l.getD i d) else l1
structure Lh(R:Ho α)(d:α)(w0:World)(base g n cap:Nat)(l:List α)(i j p q:Nat)(b:Nat->Bool)(w:World):Prop where
 own:Ae R w base (.slice (some ⟨g,0,none⟩) n cap) (I6 d l i j p q b)
 fp:Fp [g] w0 w
variable {w0 w : World} {base g n cap i j p q : Nat} {l : List α} {b : Nat -> Bool}
theorem Lh.first(h:Lh R d w0 base g n cap l i j p q b w)(f:b p=false)(a:b q=false):Ae R w base (.slice (some ⟨g,0,none⟩) n cap) l:=by
 have:=h.own;unfold I6 at this;rw[f,a] at this;exact this
theorem Tq:(I6 d l i j p q b).length=l.length:=by
 unfold I6;simp only
 split<;>split<;>simp
theorem Aa8(f:b p=true)(a:b q=true):I6 d l i j p q b=G7 d l i j:=by
 unfold I6 G7;simp only;rw[if_pos f,if_pos a]
theorem Lh.storeP(h:Lh R d w0 base g n cap l i j p q b w)(m:b p=false)(r:i<l.length)(f:i≠j)(a:p≠q):
  Lh R d w0 base g n cap l i j p q (Ah b p) (w.setCells g (i*R.k) (R.enc (l.getD j d))):=by
 obtain⟨t,s⟩:=h.own.setQ (l.getD j d) (i:=i) (by rw[Tq];exact r);refine⟨?_,h.fp.trans s (by intro k o;exact Or.inl o)⟩
 have e:(I6 d l i j p q b).set i (l.getD j d)=I6 d l i j p q (Ah b p):=by
  cases hq:b q with
  |true=>simp only[I6,Ah,m,hq,if_neg (Ne.symm a),if_true,a2u,if_false];exact List.set_comm _ _ f.symm
  |false=>simp only[I6,Ah,m,hq,if_neg (Ne.symm a),if_true,a2u,if_false]
 rw[<-e];exact t
theorem Lh.storeQ(h:Lh R d w0 base g n cap l i j p q b w)(f:b q=false)(o:j<l.length)(a:p≠q):
  Lh R d w0 base g n cap l i j p q (Ah b q) (w.setCells g (j*R.k) (R.enc (l.getD i d))):=by
 obtain⟨s,r⟩:=h.own.setQ (l.getD i d) (i:=j) (by rw[Tq];exact o);refine⟨?_,h.fp.trans r (by intro k m;exact Or.inl m)⟩
 have e:(I6 d l i j p q b).set j (l.getD i d)=I6 d l i j p q (Ah b q):=by
  simp only[I6,Ah,f,if_neg a,if_true,a2u,if_false]
 rw[<-e];exact s
theorem Lh.plain{k:Nat}(h:Lh R d w0 base g n cap l i j p q b w)(a:k≠p∧k≠q):Lh R d w0 base g n cap l i j p q (Ah b k) w:=by
 refine⟨?_,h.fp⟩
 have e:I6 d l i j p q (Ah b k)=I6 d l i j p q b:=by
  unfold I6 Ah;simp only;rw[if_neg a.1.symm,if_neg a.2.symm]
 rw[e];exact h.own
theorem Ae.setSame(h:Ae R w base (.slice (some ⟨g,0,none⟩) n cap) l)(a:i<l.length):Ae R (w.setCells g (i*R.k) (R.enc (l.getD i d))) base (.slice (some ⟨g,0,none⟩) n cap) l∧Fp [g] w (w.setCells g (i*R.k) (R.enc (l.getD i d))):=by
 obtain⟨f,m⟩:=h.setQ (l.getD i d) a;refine⟨?_,m⟩
 have e:l.set i (l.getD i d)=l:=by
  refine List.ext_getElem? fun k=>?_
  rw[List.getElem?_set]
  by_cases h:i=k
  ·subst h;rw[if_pos rfl,if_pos a,a2z,a0x a];rfl
  ·rw[if_neg h]
 rw[e] at f;exact f
end
section
open Go.RowKit
section
variable {P : Program} {l : List Oper}
abbrev BS:=(Nat->Bool)->World->Value->Prop
def cI(x:Value):BS:=fun _=>B6 x
structure J5(l:List Oper)(b:Nat->Bool)(i:Nat):Prop where
 self:b i=false
 pre:∀j,J1 l i j=true->b j=true
 post:∀j,J1 l j i=true->b j=false
 closed:∀j k,b j=true->J1 l j k=true->b k=true
theorem mB{b:Nat→Bool}{i:Nat}{o:Oper}(v:l[i]?=some o)(s:b i=false)(u:∀e∈o.after,Region.binds .any e=true→b e.on=true)
  (x:∀j m,l[j]?=some m->b j=true->∀e∈m.after,Region.binds .any e=true->b e.on=true):J5 l b i:=by
 have t:∀j k,b j=true→J1 l j k=true→b k=true:=fun j k a h=>by
  unfold J1 at h
  cases hlj:l[j]? with
  |none=>rw[hlj] at h;cases h
  |some m=>
   rw[hlj] at h;obtain⟨e,r,f⟩:=Array.any_eq_true'.1 h;simp only[a1u,beq_iff_eq] at f;rw[<-f.2];exact x j m hlj a e r f.1
 refine⟨s,fun j a=>?_,fun j a=>?_,t⟩
 ·unfold J1 at a;rw[v] at a;obtain⟨e,r,f⟩:=Array.any_eq_true'.1 a;simp only[a1u,beq_iff_eq] at f;rw[<-f.2];exact u e r f.1
 ·cases hbj:b j with
  |false=>rfl
  |true=>have:=t j i hbj a;rw[s] at this;cases this
def cJ(P:Program)(l:List Oper)(Ss:List BS)(C:(Nat→Bool)→World→Prop)(R:Nat→World→World→Prop)(a0:Act)(i:Nat):Prop:=
 ∀o S,l[i]?=some o->Ss[i]?=some S->∀(b:Nat->Bool) (a:Act) (w:World),C b w->b i=false->(∀e∈o.after,Region.binds .any e=true->b e.on=true)->
  (∀j oj,l[j]?=some oj->b j=true->∀e∈oj.after,Region.binds .any e=true->b e.on=true)->a.tmps.size=a0.tmps.size->
  (∀t,(∀j oj,l[j]?=some oj->oj.dst=some t->b j=false)->a.tmps.getD t undef=a0.tmps.getD t undef)->
  (∀e∈o.after,Region.binds .any e=true->∀oe Se,l[e.on]?=some oe->Ss[e.on]?=some Se->Se b w (A3 oe a))->
  if Region.wanted o (yielded l.toArray a.tmps)=true then o.wp P a w (fun a2 w2=>∃v,a2=a.put o.dst v/\C (Ah b i) w2/\R i w w2/\S (Ah b i) w2 (match o.dst with|some _=>v|none=>undef)) (fun _ _ _=>False)
  else S (Ah b i) w undef/\C (Ah b i) w/\R i w w
structure mC(l:List Oper)(Ss:List BS)(C:(Nat->Bool)->World->Prop)(a0:Act)(listed:Array Bool)(a:Act)(w:World):Prop where
 size:listed.size=l.length
 defers:a.defers=a0.defers
 tmps:a.tmps.size=a0.tmps.size
 done:∀j o S,l[j]?=some o->Ss[j]?=some S->listed.getD j false=true->S (Ci listed) w (A3 o a)
 same:∀t,(∀j oj,l[j]?=some oj->oj.dst=some t->Ci listed j=false)->a.tmps.getD t undef=a0.tmps.getD t undef
 closed:∀j oj,l[j]?=some oj->Ci listed j=true->∀e∈oj.after,Region.binds .any e=true->Ci listed e.on=true
 cls:C (Ci listed) w
theorem Aa9{Ss:List BS}{C:(Nat→Bool)→World→Prop}{R:Nat→World→World→Prop}{a0:Act}{Qn:Act→World→Prop}(hl:Ss.length=l.length)(A:Fh l a0.tmps.size=true)
  (stab:∀j S,Ss[j]?=some S->∀b i w w' v,J5 l b i->b j=true->R i w w'->S b w v->S (Ah b i) w' v)(rel:∀i,i<l.length->cJ P l Ss C R a0 i)
  (ag:∀a w listed,mC l Ss C a0 listed a w->(∀j,j<l.length->listed.getD j false=true)->Qn a w):
  ∀(s:Nat) (listed:Array Bool) (a:Act) (w:World),F8 listed=s->mC l Ss C a0 listed a w->H8 P l Qn s listed a w:=by
 intro s
 induction s with
 |zero=>
  intro listed a w hu f;have y:=Wi hu;rw[f.size] at y;refine⟨?_,ag a w listed f y⟩;apply List.eq_nil_iff_forall_not_mem.2;intro j m;obtain⟨X,o,ho,_⟩:=mem_ready.1 m
  have z:j<l.length:=by simpa using(Array.getElem?_eq_some_iff.1 ho).1
  have W:=y j z
  have G:j<listed.size:=by rw[f.size];exact z
  simp[G] at X W;rw[X] at W;cases W
 |succ s ih=>
  intro listed a w hu f;refine⟨fun O=>?_,fun i hi=>?_⟩
  ·--something is ready as long as not all is listed
   exfalso
   have L:∃j,j<l.length∧listed.getD j false=false:=by
    by_cases L:∃j,j<l.length/\listed.getD j false=false
    ·exact L
    ·exfalso
     have y:∀j,j<l.length->listed.getD j false=true:=fun j m=>by
      cases h:listed.getD j false
      ·exact absurd ⟨j,m,h⟩ L
      ·rfl
     have:F8 listed=0:=by
      unfold F8;rw[List.length_eq_zero_iff,List.filter_eq_nil_iff];intro b D;obtain⟨j,m,rfl⟩:=a2v D
      have Y:j<listed.size:=by simpa using m
      have:=y j (by rw[<-f.size];exact Y);simp[Y] at this ⊢;exact this
     omega
   obtain⟨j,m,K⟩:∃j,(j<l.length∧listed.getD j false=false)∧∀k,k<j→¬(k<l.length∧listed.getD k false=false):=by
    obtain⟨j0,h0⟩:=L
    induction j0 using Nat.strongRecOn with
    |_ n ih2=>
     by_cases hk:∃k,k<n/\(k<l.length/\listed.getD k false=false)
     ·obtain⟨k,T,Q⟩:=hk;exact ih2 k T Q
     ·exact⟨n,h0,fun k T Q=>hk ⟨k,T,Q⟩⟩
   have ae:j<listed.size:=by rw[f.size];exact m.1
   have:j∈Region.ready .any l.toArray listed:=by
    refine mem_ready.2 ⟨by have:=m.2;simp[ae] at this ⊢;exact this,l[j],by simp[m.1],fun e I D=>?_⟩;have z:=O8 A (a0x m.1) e I D;cases h:listed.getD e.on false
    ·exact absurd ⟨by omega,h⟩ (K e.on z)
    ·rfl
   rw[O] at this;cases this
  ·obtain⟨X,o,ho,B⟩:=mem_ready.1 hi
   have u:l[i]?=some o:=by simpa using ho
   have z:i<l.length:=(List.getElem?_eq_some_iff.1 u).1
   have G:i<listed.size:=by rw[f.size];exact z
   obtain⟨S,hS⟩:∃S,Ss[i]?=some S:=⟨Ss[i]'(by omega),a0x (by omega)⟩
   have aa:Ci listed i=false:=by unfold Ci;simp[G] at X ⊢;exact X
   have O:=rel i z o S u hS (Ci listed) a w f.cls aa (fun e I D=>B e I D) f.closed f.tmps f.same (fun e I D oe Se ac af=>f.done e.on oe Se ac af (B e I D))
   have r:Ci (listed.setIfInBounds i true)=Ah (Ci listed) i:=by
    funext k
    unfold Ci Ah
    by_cases e:k=i
    ·subst e;rw[if_pos rfl];simp[G]
    ·rw[if_neg e,getD_set_ne false (Ne.symm e)]
   have Z:J5 l (Ci listed) i:=mB u aa (fun e I D=>B e I D) f.closed
   have E:∀v w2,C (Ah (Ci listed) i) w2→R i w w2→S (Ah (Ci listed) i) w2 (match o.dst with|some _=>v|none=>undef)→H8 P l Qn s (listed.setIfInBounds i true) (a.put o.dst v) w2:=by
    intro v w2 hC ab V;refine ih _ _ _ (by have:=Wh G X;omega) ⟨by simp[f.size],by rw[Ud];exact f.defers,by rw[Rx];exact f.tmps,?_,?_,?_,by rw[r];exact hC⟩
    ·intro j J Sj m N x
     by_cases U:i=j
     ·subst U;rw[u] at m;cases m;rw[hS] at N;cases N;rw[r];unfold A3
      cases M:o.dst with
      |none=>rw[M] at V;exact V
      |some d=>
       rw[M] at V;simp only;rw[Rw (by rw[f.tmps];exact(Gz A u M).1)];exact V
     ·rw[getD_set_ne false U] at x;have W:=stab j Sj N _ _ _ _ _ Z x ab (f.done j J Sj m N x);rw[←r] at W
      have:A3 J (a.put o.dst v)=A3 J a:=by
       unfold A3
       cases hdj:J.dst with
       |none=>rfl
       |some d=>
        simp only
        refine Lm fun M=>?_
        exact(Gz A u M).2 j J m (Ne.symm U) hdj
      rw[this];exact W
    ·intro t ht
     have ad:o.dst≠some t:=fun M=>by
      have:=ht i o u M;rw[r] at this;unfold Ah at this;rw[if_pos rfl] at this;cases this
     rw[Lm ad]
     refine f.same t fun j J m M=>?_
     have:=ht j J m M;rw[r] at this;unfold Ah at this
     by_cases e:j=i
     ·rw[if_pos e] at this;cases this
     ·rw[if_neg e] at this;exact this
    ·intro j J m x e I D;rw[r] at x ⊢
     have up:∀k,Ci listed k=true->Ah (Ci listed) i k=true:=fun k hk=>by
      unfold Ah
      by_cases e:k=i
      ·rw[if_pos e]
      ·rw[if_neg e];exact hk
     by_cases ej:j=i
     ·subst ej;rw[u] at m;cases m;exact up _ (B e I D)
     ·unfold Ah at x;rw[if_neg ej] at x;exact up _ (f.closed j J m x e I D)
   refine⟨o,u,?_⟩;split
   ·rename_i hw;rw[if_pos hw] at O;refine(Uc (fun a2 w2 h=>?_) (fun _ _ _ h=>h.elim) O);obtain⟨v,rfl,hC,hR,V⟩:=h;exact E v w2 hC hR V
   ·rename_i hw;rw[if_neg hw] at O;refine E undef w O.2.1 O.2.2 ?_
    cases o.dst<;>exact O.1
theorem Aba{Qn:Act→World→Prop}{a0:Act}{w0:World}(Ss:List BS)(C:(Nat→Bool)→World→Prop)(R:Nat→World→World→Prop)
  (Z:Ss.length=l.length)(f:Fh l a0.tmps.size=true)(hC:C (fun _=>false) {w0 with drawn:=w0.drawn+1})
  (stab:∀j S,Ss[j]?=some S->∀b i w w' v,J5 l b i->b j=true->R i w w'->S b w v->S (Ah b i) w' v)(rel:∀i,i<l.length->cJ P l Ss C R a0 i)
  (X:∀Y w b,C b w->(∀j,j<l.length->b j=true)->F9 w (Ss.map fun S=>S b) Y->Qn (Aj l Y a0) w):H8 P l Qn l.toArray.size (Array.replicate l.toArray.size false) a0 {w0 with drawn:=w0.drawn+1}:=by
 refine(Aa9 Z f stab rel ?_ _ _ _ _ (by simp[F8]) ⟨by simp,rfl,rfl,?_,fun _ _=>rfl,?_,by rw[bM];exact hC⟩)
 ·intro a w u m A
  have I:=X (l.map (fun o=>A3 o a)) w (Ci u) m.cls A (Uh (by simp[Z]) (fun i S v G s=>by
   rw[a3x] at G;obtain⟨S,W,rfl⟩:=Option.map_eq_some_iff.1 G;rw[a3x] at s
   cases x:l[i]? with
   |none=>rw[x] at s;cases s
   |some o=>
    rw[x] at s;simp only[Option.map_some,Option.some.injEq] at s;rw[<-s]
    exact m.done i o S x W (A i (List.getElem?_eq_some_iff.1 x).1)))
  have:Aj l (l.map (fun o=>A3 o a)) a0=a:=by
   have r:(Aj l (l.map (fun o=>A3 o a)) a0).defers=a.defers:=by rw[Uf,m.defers]
   have B:(Aj l (l.map (fun o=>A3 o a)) a0).tmps=a.tmps:=by
    have M:(Aj l (l.map (fun o=>A3 o a)) a0).tmps.size=a.tmps.size:=by rw[Ue,m.tmps]
    refine Array.ext M fun t G s=>?_
    have hg:(Aj l (l.map (fun o=>A3 o a)) a0).tmps.getD t undef=a.tmps.getD t undef:=by
     by_cases K:∃o∈l,o.dst=some t
     ·obtain⟨o,x,E⟩:=K;obtain⟨i,U,T⟩:=a2v x
      have y:l[i]?=some o:=by rw[a0x U,T]
      rw[Ug l _ a0 (by simp) (fun i j oi L d U Q G s=>by
       by_cases J:i=j
       ·exact J
       ·exact absurd s ((Gz f U G).2 j L Q (Ne.symm J))) (fun o' N d V=>by
       obtain⟨k,hk,O⟩:=a2v N
       exact(Gz f (by rw[a0x hk,O]) V).1) i o (A3 o a) t y (by rw[a3x,y];rfl) E]
      unfold A3;rw[E]
     ·have z:∀o∈l,o.dst≠some t:=fun o x E=>K ⟨o,x,E⟩
      rw[Ry l _ a0 t z,m.same t (fun j L Q E=>absurd E (z L (List.mem_of_getElem? Q)))]
    simpa [G,s] using hg
   cases a;cases h:Aj l (l.map (fun o=>A3 o _)) a0;rw[h] at r B;simp only at r B;rw[r,B]
  rw[this] at I;exact I
 ·intro j o S _ _ h;exfalso
  rcases a3u j l.length with D|D
  ·simp[D] at h
  ·simp[D] at h
 ·intro j o _ h;exfalso;unfold Ci at h
  rcases a3u j l.length with D|D
  ·simp[D] at h
  ·simp[D] at h
structure Yg(l:List Oper)(Ss:List BS)(a0:Act)(i:Nat)(b:Nat->Bool)(a:Act)(w:World):Prop where
 size:a.tmps.size=a0.tmps.size
 dep:∀(j t:Nat) (S:BS),Jb l i j t=true->Ss[i-1-j]?=some S->S b w (a.tmps[t]?.getD undef)
 free:∀(t:Nat) (v:Value),bO l i t=true->a0.tmps.getD t undef=v->a.tmps[t]?.getD undef=v
 adm:J5 l b i
theorem Abb{Ss:List BS}{a0:Act}{i:Nat}{b:Nat→Bool}{a:Act}{w:World}{o:Oper}(A:l[i]?=some o)(s:b i=false)(G:∀e∈o.after,Region.binds .any e=true→b e.on=true)
  (B:∀j f,l[j]?=some f->b j=true->∀e∈f.after,Region.binds .any e=true->b e.on=true)(N:a.tmps.size=a0.tmps.size)
  (M:∀t,(∀j f,l[j]?=some f->f.dst=some t->b j=false)->a.tmps.getD t undef=a0.tmps.getD t undef)
  (L:∀e∈o.after,Region.binds .any e=true->∀z Se,l[e.on]?=some z->Ss[i-1-e.on]?=some Se->Se b w (A3 z a)):Yg l Ss a0 i b a w:=by
 have later:∀j f,l[j]?=some f→(f.after.any fun e=>Region.binds .any e&&e.on==i)=true→b j=false:=fun j f m J=>by
  obtain⟨e,x,r⟩:=Array.any_eq_true'.1 J;simp only[a1u,beq_iff_eq] at r
  cases hbj:b j with
  |false=>rfl
  |true=>
   have:=B j f m hbj e x r.1;rw[r.2,s] at this;cases this
 refine⟨N,fun j t S k K=>?_,fun t v I E=>?_,mB A s G B⟩
 ·unfold Jb at k;rw[A] at k
  cases m:l[j]? with
  |none=>rw[m] at k;cases k
  |some f=>
   rw[m] at k;simp only[a1u,beq_iff_eq] at k;obtain⟨e,x,r⟩:=Array.any_eq_true'.1 k.1;simp only[a1u,beq_iff_eq] at r;obtain⟨y,rfl⟩:=r;have:=L e x y f S m K;unfold A3 at this;rw[k.2] at this
   simpa using this
 ·have D:∀j f,l[j]?=some f→f.dst=some t→b j=false:=fun j f m k=>by
   have u:j<l.length:=(List.getElem?_eq_some_iff.1 m).1;have:=List.all_eq_true.1 I j (List.mem_range.2 u);rw[m] at this;simp only[k,bne_self_eq_false,Bool.false_or,Bool.or_eq_true,beq_iff_eq] at this
   rcases this with rfl|h
   ·exact s
   ·exact later j f m h
  have:=M t D;rw[E] at this
  simpa using this
def Abc(P:Program)(l:List Oper)(done:List BS)(S:BS)(C:(Nat→Bool)→World→Prop)(R:Nat→World→World→Prop)(a0:Act)(i:Nat):Prop:=
 ∀(b:Nat->Bool),∀o,l[i]?=some o->∀(a:Act) (w:World),C b w->Yg l done a0 i b a w->
  if Region.wanted o (yielded l.toArray a.tmps)=true then o.wp P a w (fun a2 w2=>∃v,a2=a.put o.dst v/\C (Ah b i) w2/\R i w w2/\S (Ah b i) w2 (match o.dst with|some _=>v|none=>undef)) (fun _ _ _=>False)
  else S (Ah b i) w undef/\C (Ah b i) w/\R i w w
def V3(l:List Oper)(R:Nat->World->World->Prop):List BS->Prop
 |[]=>True
 |S::Ss=>(∀b i w w' v,J5 l b i->b Ss.length=true->R i w w'->S b w v->S (Ah b i) w' v)/\V3 l R Ss
theorem mD{R:Nat→World→World→Prop}:∀{Ss:List BS},V3 l R Ss→∀j S,Ss.reverse[j]?=some S→∀b i w w' v,J5 l b i→b j=true→R i w w'→S b w v→S (Ah b i) w' v
 |[],_,j,S,hS=>by simp at hS
 |T::Ss,h,j,S,hS=>by
  rw[a0v] at hS
  rcases a3u j Ss.reverse.length with a|a
  ·rw[a3v a] at hS;exact mD h.2 j S hS
  ·have f:j=Ss.length:=by
    have:=(List.getElem?_eq_some_iff.1 hS).1;simp at this a;omega
   subst f;rw[a3z a] at hS;simp at hS;subst hS;exact h.1
theorem N0(x:Value){R:Nat->World->World->Prop}{Ss:List BS}(h:V3 l R Ss):V3 l R (cI x::Ss):=⟨fun _ _ _ _ _ _ _ _ h=>h,h⟩
def Rm(P:Program)(l:List Oper)(C:(Nat->Bool)->World->Prop)(R:Nat->World->World->Prop)(a0:Act)(F:Act->World->Prop):Nat->List BS->Nat->Prop
 |_,done,0=>V3 l R done/\∀w b,C b w->(∀j,j<l.length->b j=true)->∀vs,F9 w (done.reverse.map fun S=>S b) vs->F (Aj l vs a0) w
 |i,done,n+1=>∃S,Abc P l done S C R a0 i/\Rm P l C R a0 F (i+1) (S::done) n
theorem mE{C:(Nat→Bool)→World→Prop}{R:Nat→World→World→Prop}{a0:Act}{F:Act→World→Prop}(f:Fh l a0.tmps.size=true):∀(n i:Nat) (done:List BS),Rm P l C R a0 F i done n→done.length=i→i+n=l.length→
  ∃Ss,(∃r,Ss=done.reverse++r)/\Ss.length=l.length/\(∀j S,Ss[j]?=some S->∀b i w w' v,J5 l b i->b j=true->R i w w'->S b w v->S (Ah b i) w' v)/\(∀t w b,C b w->(∀j,j<l.length->b j=true)->F9 w (Ss.map fun S=>S b) t->F (Aj l t a0) w)/\∀k,i<=k->k<l.length->cJ P l Ss C R a0 k
 |0,i,done,h,h1,h2=>⟨done.reverse,⟨[],by simp⟩,by simp;omega,mD h.1,fun t w b D x=>h.2 w b D x t,fun k U G=>by omega⟩
 |n+1,i,done,h,h1,h2=>by
  obtain⟨S,y,m⟩:=h;obtain⟨Ss,⟨r,u⟩,Y,X,W,V⟩:=mE f n (i+1) (S::done) m (by simp[h1]) (by omega);rw[a0v] at u;refine⟨Ss,⟨[S]++r,by rw[u,a3w]⟩,Y,X,W,fun k U G=>?_⟩
  by_cases e:k=i
  ·subst e;intro o S' A s b a w D L K J O N M
   have T:Ss[k]?=some S:=by rw[u,a3w,a3z (by simp;omega)];simp[h1]
   rw[T] at s;cases s;refine y b o A a w D (Abb A L K J O N fun e E x I Se z B=>M e E x I Se z ?_);have Q:=O8 f A e E x;rw[u,a3w,a3v (by simp;omega),List.getElem?_reverse (by omega),h1];exact B
  ·exact V k (by omega) G
theorem Abd{id:Nat}{Q:Exit→Act→World→Prop}{a0:Act}{w0:World}(C:(Nat→Bool)→World→Prop)(R:Nat→World→World→Prop)
  (k:P.follows .mixedOrders=true)(f:Fh l a0.tmps.size=true)(o:C (fun _=>false) {w0 with drawn:=w0.drawn+1})
  (h:Rm P l C R a0 (fun a w=>Q .normal a w) 0 [] l.length):(Code.region id l.toArray true).wp P Q a0 w0:=by
 obtain⟨Ss,_,u,t,s,r⟩:=mE f l.length 0 [] h rfl (by omega);exact bL k (Aba Ss C R u f o t (fun i m=>r i (Nat.zero_le _) m) s)
variable {C : (Nat -> Bool) -> World -> Prop} {R : Nat -> World -> World -> Prop} {a0 : Act} {F : Act -> World -> Prop} {i n : Nat} {done : List BS}
theorem N5{o:Oper}{x:Value}(v:∀b w,C b w→C (Ah b i) w)(s:l[i]?=some o)(u:o.guard=none)(k:o.dst.isSome=true)
  (h:∀b a w,C b w->Yg l done a0 i b a w->∀K:Act->World->Prop,(∀w2,C b w2->R i w w2->K (a.put o.dst x) w2)->o.wp P a w K (fun _ _ _=>False))
  (t:Rm P l C R a0 F (i+1) (cI x::done) n):Rm P l C R a0 F i done (n+1):=by
 refine⟨cI x,?_,t⟩;intro b A f a w y z;rw[s] at f;cases f
 have m:Region.wanted o (yielded l.toArray a.tmps)=true:=by unfold Region.wanted;rw[u]
 rw[if_pos m]
 refine h b a w y z _ fun w2 c r=>⟨x,rfl,v _ _ c,r,?_⟩
 cases hd':o.dst with
 |none=>rw[hd'] at k;cases k
 |some d=>rfl
theorem Tt{o:Oper}(S:BS)(t:l[i]?=some o)(x:o.guard=none)(k:o.dst.isSome=true)
  (h:∀b a w,C b w->Yg l done a0 i b a w->∀K:Act->World->Prop,(∀v w2,C (Ah b i) w2->R i w w2->S (Ah b i) w2 v->K (a.put o.dst v) w2)->o.wp P a w K (fun _ _ _=>False))
  (u:Rm P l C R a0 F (i+1) (S::done) n):Rm P l C R a0 F i done (n+1):=by
 refine⟨S,?_,u⟩;intro b A f a w y z;rw[t] at f;cases f
 have m:Region.wanted o (yielded l.toArray a.tmps)=true:=by unfold Region.wanted;rw[x]
 rw[if_pos m]
 refine h b a w y z _ fun v w2 c r s=>⟨v,rfl,c,r,?_⟩
 cases hd':o.dst with
 |none=>rw[hd'] at k;cases k
 |some d=>exact s
end
end
section
open Go.RowKit
theorem Qi(b:Nat->Bool)(i:Nat):Ah b i i=true:=if_pos rfl
theorem Ji{b:Nat->Bool}{i k:Nat}(h:b k=true):Ah b i k=true:=by unfold Ah;split<;>first|rfl|exact h
theorem E0{a:Act}{t:Nat}{v:Value}(h:a.tmps[t]?.getD undef=v):a.eval (.tmp t)=v:=by rw[<-h];simp[go_sem]
theorem Bh.take{w:World}{a:Option Addr}{len:Nat}{l:List Aa}(h:Bh w a len l)(n:Nat)(u:n<=len):Bh w a n (l.take n):=by
 have v:=h.len;refine⟨by rw[List.length_take];omega,?_,fun c k=>h.ok c (List.mem_of_mem_take k)⟩
 rcases h.cells with t|⟨b,o,s,r,m⟩
 ·subst t;exact Or.inl (by simp)
 ·refine Or.inr ⟨b,o,s,r,fun i f=>?_⟩;rw[List.getElem_take];exact m i (by rw[List.length_take] at f;omega)
theorem Bh.drop{w:World}{b o len:Nat}{l:List Aa}(h:Bh w (some ⟨b,o,none⟩) len l)(n m:Nat)(x:n+m=len):Bh w (some ⟨b,o+n*6,none⟩) m (l.drop n):=by
 have y:=h.len;refine⟨by rw[List.length_drop];omega,?_,fun c f=>h.ok c (List.mem_of_mem_drop f)⟩
 rcases h.cells with u|⟨z,v,t,s,r⟩
 ·subst u;exact Or.inl (by simp)
 ·cases t;refine Or.inr ⟨b,o+n*6,rfl,s,fun i a=>?_⟩;rw[List.getElem_drop];have k:=r (n+i) (by rw[List.length_drop] at a;omega);rw[show o+n*6+i*6=o+(n+i)*6 from by omega];exact k
theorem Ao.empty{w:World}{base g:Nat}(a:base<=g)(h:w.heap[g]?=some (.cells #[] 80 (0,0))):Ao w base (.slice (some ⟨g,0,none⟩) 0 0) []:=
 ⟨rfl,Or.inr ⟨g,0,#[],rfl,a,h,Nat.le_refl _,Nat.zero_le _,rfl,rfl⟩⟩
theorem Ao.open{w:World}{base:Nat}{v:Value}{l:List Aa}(h:Ao w base v l)(k:0<l.length):
  ∃g cap a,v=.slice (some ⟨g,0,none⟩) l.length cap/\base<=g/\w.heap[g]?=some (.cells a 80 (0,0))/\l.length<=cap/\cap<=maxLen/\a.size=cap*6/\a.toList.take (l.length*6)=l.flatMap Ed:=by
 rcases h.2 with⟨_,f⟩|f
 ·omega
 ·exact f
end
section
open Go.RowKit Go.Lib
def O2:Jh:=⟨0,0⟩
structure mF(w:World)(b o:Nat)(x:Jh):Prop where
 c0:w.cell? ⟨b,o,none⟩=some (.pointer (some ⟨x.q,0,none⟩))
 c1:w.cell? ⟨b,o+1,none⟩=some (.int .i64 x.at_)
theorem V4{w:World}{base g n cap i:Nat}{l:List Jh}(h:Ae Ib w base (.slice (some ⟨g,0,none⟩) n cap) l)(a:i<l.length):mF w g (i*2) (l.getD i O2):=by
 rw[a2z,a0x a];have f:=(h.elem a).1;exact⟨f 0 _ rfl,f 1 _ rfl⟩
theorem cK{w:World}{base g n cap i:Nat}{l:List Jh}{x:Jh}(h:Ae Ib w base (.slice (some ⟨g,0,none⟩) n cap) l)(f:i<l.length)(a:l.getD i O2=x):mF w g (i*2) x:=by
 rw[<-a];exact V4 h f
theorem Abe(W:World)(base g n cap i j:Nat)(l:List Jh)(G:Ae Ib W base (.slice (some ⟨g,0,none⟩) n cap) l)(t:i<l.length)(I:j<l.length):
  Calls Tryz.prog 326 #[.slice (some ⟨g,0,none⟩) n cap,.int .i64 i,.int .i64 j] W fun e W'=>e=.returned (.tuple #[])/\Ae Ib W' base (.slice (some ⟨g,0,none⟩) n cap) (G7 O2 l i j)/\Fp [g] W W':=by
 have HO:=a0z G
 have hm:l.length=n:=by
  obtain⟨a',c',e,-⟩:=G.len;cases e;rfl
 obtain⟨-,-,-,ad,-,-⟩:=G.elem t
 have zi:(i:Int)<(n:Int):=by omega
 have zj:(j:Int)<(n:Int):=by omega
 obtain⟨xx,hx⟩:∃x,l.getD i O2=x:=⟨_,rfl⟩
 obtain⟨yy,hy⟩:∃y,l.getD j O2=y:=⟨_,rfl⟩
 have A:=a0z hx;have HY:=a0z hy;obtain⟨xq,xa⟩:=xx;obtain⟨yq,ya⟩:=yy;have HM:=a0z hm;clear G hm hx hy
 by_cases D:i=j
 ·subst D;have N:=A.out.symm.trans HY.out;cases N;rw[mA];go_enter Tryz.func326,Tryz.ntmps326;go_wp2_with (fail);refine Ft (fun J w'=>Ae Ib w' base (.slice (some ⟨g,0,none⟩) n cap) l∧Fp [g] W w') (fun _ _=>True) (by kernel_rfl) (by kernel_rfl) ⟨HO.out.kept (fun k B=>rfl),(Fp.drew _).mono (by simp)⟩ ?_
  iterate 13
   apply Be (fun _ _ h=>h) rfl rfl rfl
   ·intro b a w m f K r
    try have h0:=f.fr 0 rfl
    try have h1:=f.fr 1 rfl
    try have h2:=f.fr 2 rfl
    try have aa:=f.eq 4 10 rfl
    try have Z:=f.eq 5 11 rfl
    try have Y:=f.eq 6 12 rfl
    try have V:=f.eq 8 14 rfl
    try have U:=f.eq 9 15 rfl
    try have T:=f.eq 10 16 rfl
    try have h6:=f.eq 0 6 rfl
    try have h7:=f.eq 1 7 rfl
    obtain⟨b0,b1⟩:=cK m.1 t A.out;simp only at b0 b1;simp only[Oper.wp,execOp];go_simp;exact r _ m trivial
  apply Gs (fun _=>True) rfl rfl
  ·intro b a w m f K r;have Q:=f.eq 12 18 rfl;have X:=f.eq 7 13 rfl;obtain⟨a0,E⟩:=V4 m.1 t;obtain⟨-,s,-,-,-,-⟩:=m.1.elem t;have z0:=s (i*2);have z1:=s (i*2+1);have o:=m.1.setSame (d:=O2) t;rw[A.out] at o;have u:=And.intro o.1 (m.2.trans o.2 (by intro k B;exact Or.inl B));clear s o;simp only[Oper.wp,execOp];go_simp;exact r undef _ u trivial trivial
  apply Be (fun _ _ h=>h) rfl rfl rfl
  ·intro b a w m f K r;have h8:=f.eq 2 8 rfl;have h9:=f.eq 3 9 rfl;simp only[Oper.wp,execOp];go_simp;exact r _ m trivial
  apply Gs (fun _=>True) rfl rfl
  ·intro b a w m f K r;have O:=f.eq 14 19 rfl;have S:=f.eq 11 17 rfl;obtain⟨a0,E⟩:=V4 m.1 t;obtain⟨-,s,-,-,-,-⟩:=m.1.elem t;have z0:=s (i*2);have z1:=s (i*2+1);have o:=m.1.setSame (d:=O2) t;rw[A.out] at o;have u:=And.intro o.1 (m.2.trans o.2 (by intro k B;exact Or.inl B));clear s o;simp only[Oper.wp,execOp];go_simp;exact r undef _ u trivial trivial
  refine⟨?_,?_⟩
  ·refine⟨fun _ _ _ _ _=>trivial,?_⟩;refine Cc _ ?_;refine⟨fun _ _ _ _ _=>trivial,?_⟩
   iterate 13 refine Cc _ ?_
   exact trivial
  ·intro w' J m v;simp only[a0v,a1x,a1v,a1w]
   iterate 13 (refine Am ?_)
   refine Ap ?_;intro M u13
   iterate 1 (refine Am ?_)
   refine Ap ?_;intro L u15;refine A0 ?_;simp only[Aj,Act.put,a0w,a0u,a1z];have HC:=a0z m;clear m v u13 u15;go_wp2_with (fail);go_end0;exact⟨rfl,HC.out.1,HC.out.2⟩
 ·go_enter Tryz.func326,Tryz.ntmps326;go_wp2_with (fail);refine Ft (fun J w'=>Lh Ib O2 W base g n cap l i j 13 15 J w') (fun _ _=>True) (by kernel_rfl) (by kernel_rfl) ⟨HO.out.kept (fun k B=>rfl),(Fp.drew _).mono (by simp)⟩ ?_
  iterate 7
   apply Be (fun _ _ h=>h.plain (by decide)) rfl rfl rfl
   ·intro b a w m f K r
    try have h0:=f.fr 0 rfl
    try have h1:=f.fr 1 rfl
    try have h2:=f.fr 2 rfl
    try have aa:=f.eq 4 10 rfl
    try have Z:=f.eq 5 11 rfl
    simp only[Oper.wp,execOp];go_simp;exact r _ m trivial
  apply Be (fun _ _ h=>h.plain (by decide)) rfl rfl rfl
  ·intro b a w m f K r;have Y:=f.eq 6 12 rfl;obtain⟨b0,b1⟩:=cK (m.first (f.post 13 (by kernel_rfl)) (f.post 15 (by kernel_rfl))) I HY.out;simp only at b0 b1;simp only[Oper.wp,execOp];go_simp;exact r _ m trivial
  iterate 3
   apply Be (fun _ _ h=>h.plain (by decide)) rfl rfl rfl
   ·intro b a w m f K r
    try have h0:=f.fr 0 rfl
    try have h1:=f.fr 1 rfl
    try have V:=f.eq 8 14 rfl
    try have U:=f.eq 9 15 rfl
    simp only[Oper.wp,execOp];go_simp;exact r _ m trivial
  apply Be (fun _ _ h=>h.plain (by decide)) rfl rfl rfl
  ·intro b a w m f K r;have T:=f.eq 10 16 rfl;obtain⟨a0,E⟩:=cK (m.first (f.post 13 (by kernel_rfl)) (f.post 15 (by kernel_rfl))) t A.out;simp only at a0 E;simp only[Oper.wp,execOp];go_simp;exact r _ m trivial
  apply Be (fun _ _ h=>h.plain (by decide)) rfl rfl rfl
  ·intro b a w m f K r;have h6:=f.eq 0 6 rfl;have h7:=f.eq 1 7 rfl;simp only[Oper.wp,execOp];go_simp;exact r _ m trivial
  apply Gs (fun _=>True) rfl rfl
  ·intro b a w m f K r;have Q:=f.eq 12 18 rfl;have X:=f.eq 7 13 rfl;obtain⟨a0,E⟩:=V4 m.own (i:=i) (by rw[Tq];exact t);obtain⟨-,s,-,-,-,-⟩:=m.own.elem (i:=i) (by rw[Tq];exact t);have z0:=s (i*2);have z1:=s (i*2+1);have o:=m.storeP f.self t D (by decide);rw[HY.out] at o;clear s;simp only[Oper.wp,execOp];go_simp;exact r undef _ o trivial trivial
  apply Be (fun _ _ h=>h.plain (by decide)) rfl rfl rfl
  ·intro b a w m f K r;have h8:=f.eq 2 8 rfl;have h9:=f.eq 3 9 rfl;simp only[Oper.wp,execOp];go_simp;exact r _ m trivial
  apply Gs (fun _=>True) rfl rfl
  ·intro b a w m f K r;have O:=f.eq 14 19 rfl;have S:=f.eq 11 17 rfl;obtain⟨a0,E⟩:=V4 m.own (i:=j) (by rw[Tq];exact I);obtain⟨-,s,-,-,-,-⟩:=m.own.elem (i:=j) (by rw[Tq];exact I);have z0:=s (j*2);have z1:=s (j*2+1);have o:=m.storeQ f.self I (by decide);rw[A.out] at o;clear s;simp only[Oper.wp,execOp];go_simp;exact r undef _ o trivial trivial
  refine⟨?_,?_⟩
  ·refine⟨fun _ _ _ _ _=>trivial,?_⟩;refine Cc _ ?_;refine⟨fun _ _ _ _ _=>trivial,?_⟩
   iterate 13 refine Cc _ ?_
   exact trivial
  ·intro w' J m v;simp only[a0v,a1x,a1v,a1w]
   iterate 13 (refine Am ?_)
   refine Ap ?_;intro M u13
   iterate 1 (refine Am ?_)
   refine Ap ?_;intro L u15;refine A0 ?_;simp only[Aj,Act.put,a0w,a0u,a1z];have z:=m.own;rw[Aa8 (v 13 (by simp)) (v 15 (by simp))] at z;have ab:=a0z z;have ac:=a0z m.fp;clear m v z u13 u15;go_wp2_with (fail);go_end0;exact⟨rfl,ab.out,ac.out⟩
end
end Go.Proofs.YtkagolpnaicdoaaGreatDoor
