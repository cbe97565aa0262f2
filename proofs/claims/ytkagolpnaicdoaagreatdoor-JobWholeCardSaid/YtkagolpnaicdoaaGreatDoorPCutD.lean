/-
 cut.rows: the cells of each row, an iterator. 'out[k] = append(out[k], row...)', out a list of lists of cells: the class of worlds on the way (for XRegionV). cut.Roll: plain. A region that only reads, or leaves what was there as it was, in the round of a range over a function (XRegion's calm law). Over any program.
-/
import Derived.Test.YtkagolpnaicdoaaGreatDoorPTabI
set_option maxRecDepth 100000
set_option maxHeartbeats 8000000
open Go.Lib renaming hid->a0z
open List renaming getElem?_eq_getElem->a0x,length_set->a0w,getD_eq_getElem?_getD->a0v,getElem_of_mem->a1z,length_append->a1x,setIfInBounds_toArray->a1w,getElem?_cons_zero->a1v,getElem?_toArray->a1u,mem_of_getElem?->a2z,map_cons->a2x
open Nat renaming le_refl->a0u
namespace Go.Proofs.YtkagolpnaicdoaaGreatDoor
section
open Go.RowKit Go.Lib
def Jz(l:List Aa)(i:Nat):Bool:=!(decide (i+1<l.length)&&((l.getD (i+1) Az).row.toList==(l.getD i Az).row.toList))
def Eh(l:List Aa)(fr i:Nat):List (Nat × Nat):=if i<l.length then(if Jz l i=true then(fr,i+1-fr)::Eh l (i+1) (i+1) else Eh l fr (i+1)) else[]
 termination_by l.length-i
theorem Ta{l:List Aa}{fr i:Nat}(h:i<l.length)(a:Jz l i=true):Eh l fr i=(fr,i+1-fr)::Eh l (i+1) (i+1):=by
 rw[Eh,if_pos h,if_pos a]
theorem Vp{l:List Aa}{fr i:Nat}(h:i<l.length)(a:Jz l i=false):Eh l fr i=Eh l fr (i+1):=by
 rw[Eh,if_pos h,if_neg (by rw[a];decide)]
theorem Td{l:List Aa}{fr i:Nat}(h:¬i<l.length):Eh l fr i=[]:=by
 rw[Eh,if_neg h]
def Vq(b o cap:Nat)(x:Nat × Nat):Value:=.slice (some ⟨b,o+x.1*6,none⟩) x.2 (cap-x.1)
def X3(b o cap:Nat)(x:Nat × Nat):Array Value:=#[Vq b o cap x]
theorem vW(T:TypeId)(base L n bs:Nat)(w:World)(b o len cap:Nat)(l:List Aa)(ac:Bh w (some ⟨b,o,none⟩) len l)(hn:1≤n)(af:w.heap[bs]?=some (.cells #[.slice (some ⟨b,o,none⟩) len cap] 78 (0,0)))
  (br:len<=cap)(bw:len<=1000000)(am:bs<base)(aF:bs≠L)(a0:b<base)(a1:b≠L)
  (S0:List Nat)(ao:∀k∈S0,k<base/\k≠bs/\k≠b)(J Jx:List (Nat × Nat)->World->Prop)
  (hJ:∀s A B,J s A->Fp [] A B->J s B)
  (hy:∀f x W,(∃ah,Eh l 0 0=f++x::ah)->J f W->YieldAt Fence.wide (n-1) Tryz.prog L (X3 b o cap x) W fun e W'=>(e=.returned (.bool true)/\J (f++[x]) W'/\Aq T base (L::S0) W W')∨(e=.returned (.bool false)/\Jx (f++[x]) W'))
  (h0:J [] w):
  CallsIn Fence.wide n Tryz.prog 223 #[.func (.yield L) #[] #[],.pointer (some ⟨bs,0,none⟩)] w fun e w'=>(∃v,e=.returned v)/\((∃xs,xs=Eh l 0 0/\J xs w')∨∃f,Jx f w'):=by
 rw[callsIn_wide];have HY:=a0z hy;have HJ:=a0z hJ;have ap:=a0z ao;have aw:=a0z af;have bc:=a0z ac;have O:=a0z ac.len;have az:w.cell? ⟨bs,0,none⟩=some (.slice (some ⟨b,o,none⟩) len cap):=Ab af 0;clear hy hJ ao af ac;go_enter Tryz.func223,Tryz.ntmps223;go_wp2_with (fail)
 go_loopg [3,7] len (fun g vf vi wr=>∃(fr i:Nat) (f:List (Nat × Nat)),g=len-i/\vf=.int .i64 fr/\vi=.int .i64 i/\fr<=i/\i<=len/\Eh l 0 0=f++Eh l fr i/\J f wr/\Aq T base (L::S0) w wr)
 case atStart=>exact⟨0,0,[],rfl,rfl,rfl,a0u _,Nat.zero_le _,rfl,h0,Aq.of (Fp.refl [] _) (by simp) |>.mono (by simp)⟩
 case round=>
  obtain⟨fr,i,f,hg,rfl,rfl,bv,bt,t,hj,U⟩:=hrel;have Q:=a0z U;have aq:=a0z hj;clear U hj az;have Y:wr.heap[bs]?=some (.cells #[.slice (some ⟨b,o,none⟩) len cap] 78 (0,0)):=(Q.out.low _ am (Ac aw.out) (by intro h;rcases List.mem_cons.1 h with h|h;exact aF h;exact(ap.out _ h).2.1 rfl)).trans aw.out;have q:=a0z Y;clear Y
  by_cases aj:i<len
  ·have zi:(i:Int)<(len:Int):=by omega
   have n1:IntKind.i64.wrap ((i:Int)+1)=((i+1:Nat):Int):=by rw[IntKind.wrap_i64];omega
   have D:i<l.length:=by rw[<-O.out];exact aj
   obtain⟨i1,ak⟩:∃i1,i+1=i1:=⟨_,rfl⟩
   rw[ak] at n1
   have al:∀k (hk:k<l.length) w',Fp [] wr w'->Jl w' b (o+k*6) l[k]:=fun k hk w' U=>by
    obtain⟨b1,o1,e,an,hc⟩:=Lj bc.out hk;cases e;have C:=hc w (Fp.refl _ _)
    have E:∀j,w'.cell? ⟨b,j,none⟩=w.cell? ⟨b,j,none⟩:=fun j=>(U.cell (p:=⟨b,j,none⟩) (Nat.lt_of_lt_of_le an Q.out.size) (by simp)).trans (World.cell?_of_block (w:=w) (a:=⟨b,j,none⟩) (Q.out.low b a0 an (by intro h;rcases List.mem_cons.1 h with h|h;exact a1 h;exact(ap.out _ h).2.2 rfl)))
    exact⟨(E _).trans C.c0,(E _).trans C.c1,(E _).trans C.c2,(E _).trans C.c3,(E _).trans C.c4,(E _).trans C.c5⟩
   have av:=a0z al
   have z1:(fr:Int)<=(i1:Int):=by omega
   have z2:(i1:Int)<=(cap:Int):=by omega
   have z3:¬cap=fr:=by omega
   have q0:wr.cell? ⟨bs,0,none⟩=some (.slice (some ⟨b,o,none⟩) len cap):=Ab q.out 0
   have I:l.getD i Az=l[i]:=by rw[a0v,a0x D];rfl
   obtain⟨er,M⟩:∃er,Jz l i=er:=⟨_,rfl⟩
   have Z:=a0z t;have R:=a0z M;have HG:=a0z hg;have r:=a0z ak;clear al t hg
   go_upto_region 4 with(fail)
   go_cut [7,28] from 7 to 39 (fun v7 ay wx=>v7=.int .i64 i/\ay=.bool (!er)/\Fp [] wr wx)
   case first=>
    by_cases C:i1<len
    ·have ax:(i1:Int)<(len:Int):=by omega
     have F:i1<l.length:=by rw[<-O.out];exact C
     have ae:=av.out i D;have ad:=av.out i1 F
     have S:l.getD i1 Az=l[i1]:=by rw[a0v,a0x F];rfl
     have y:er=!((l[i1].row.toList==l[i].row.toList)):=by
      rw[<-R.out];unfold Jz;rw[r.out,S,I,decide_eq_true F,Bool.true_and]
     obtain⟨c0,X⟩:∃c,l[i]=c:=⟨_,rfl⟩
     obtain⟨c1,V⟩:∃c,l[i1]=c:=⟨_,rfl⟩
     rw[X] at ae y;rw[V] at ad y;obtain⟨r0,bq,bp,bo,bn,bm⟩:=c0;obtain⟨r1,bk,bj,bi,bh,bg⟩:=c1;simp only at y;have bf:=a0z ae;have be:=a0z ad;have ag:=a0z y;clear ae ad X V y I S M;go_wp2_with (fail);refine C9 (by kernel_rfl) (by kernel_rfl) ?_
     iterate 19
      first|apply Aw rfl rfl rfl|apply Hr 5 15 rfl rfl rfl rfl (by kernel_rfl) rfl rfl
      ·intro a w z m K hK
       try have h4:=m.fr 4 rfl
       try have a8:=m.eq 0 10 rfl
       try have C:=m.fr 1 rfl
       try have a6:=m.eq 2 12 rfl
       try have a7:=m.eq 1 11 rfl
       try have a5:=m.eq 3 13 rfl
       try have a4:=m.eq 4 14 rfl
       try have b8:=m.eq 7 17 rfl
       try have b9:=m.eq 6 16 rfl
       try have b7:=m.eq 8 18 rfl
       try have b6:=m.eq 9 19 rfl
       try have b5:=m.eq 10 20 rfl
       try have b3:=m.eq 12 22 rfl
       try have b2:=m.eq 13 23 rfl
       try have b0:=m.eq 14 24 rfl
       try have bz:=m.eq 15 25 rfl
       try have b4:=m.eq 11 21 rfl
       try have bx:=m.eq 16 26 rfl
       try have a3:=m.eq 5 15 rfl
       try have a2:=m.eq 17 27 rfl
       obtain⟨p0,p1,p2,p3,p4,p5⟩:=bf.out _ z;obtain⟨s0,s1,s2,s3,s4,s5⟩:=be.out _ z;simp only at p0 s0;have q1:=Ab ((z.block _ (Ac q.out) (by simp)).trans q.out) 0;simp only[a1u,a1v] at q1;simp only[Oper.wp,execOp];go_simp;exact hK _ z (Fp.refl _ _)
     refine⟨?_,?_⟩
     ·repeat(first|exact trivial|refine B7 _ ?_ |refine⟨fun w1 w2 v _ U ⟨g,C,E⟩=>⟨g,C,(U.block g (Ac E) (by simp)).trans E⟩,?_⟩)
     ·intro w' z;simp only[List.reverse_cons,List.reverse_nil,List.nil_append,List.cons_append]
      iterate 19 (refine Am ?_)
      refine A0 ?_;simp only[Aj,Act.put,a1w,List.set_cons_succ,List.set_cons_zero];have HC:=a0z z;clear z;go_wp2_with (fail)
      go_meet
      case rel=>exact⟨rfl,by rw[ag.out,Bool.not_not],HC.out⟩
    ·have ax:¬(i1:Int)<(len:Int):=by omega
     have y:er=true:=by
      rw[<-R.out];unfold Jz;rw[r.out,decide_eq_false (by rw[<-O.out];exact C)];rfl
     have ag:=a0z y;clear y I M;go_wp2_with (fail);refine C9 (by kernel_rfl) (by kernel_rfl) ?_
     iterate 6
      apply Aw rfl rfl rfl
      ·intro a w z m K hK
       try have h4:=m.fr 4 rfl
       try have a8:=m.eq 0 10 rfl
       try have C:=m.fr 1 rfl
       try have a6:=m.eq 2 12 rfl
       try have a7:=m.eq 1 11 rfl
       try have a5:=m.eq 3 13 rfl
       try have a4:=m.eq 4 14 rfl
       have q1:=Ab ((z.block _ (Ac q.out) (by simp)).trans q.out) 0;simp only[a1u,a1v] at q1;simp only[Oper.wp,execOp];go_simp;exact hK _ z (Fp.refl _ _)
     apply An 5 15 rfl rfl rfl rfl (by kernel_rfl) rfl rfl;apply An 5 15 rfl rfl rfl rfl (by kernel_rfl) rfl rfl;apply An 5 15 rfl rfl rfl rfl (by kernel_rfl) rfl rfl;apply An 5 15 rfl rfl rfl rfl (by kernel_rfl) rfl rfl;apply An 5 15 rfl rfl rfl rfl (by kernel_rfl) rfl rfl;apply An 5 15 rfl rfl rfl rfl (by kernel_rfl) rfl rfl;apply An 5 15 rfl rfl rfl rfl (by kernel_rfl) rfl rfl;apply An 5 15 rfl rfl rfl rfl (by kernel_rfl) rfl rfl;apply An 5 15 rfl rfl rfl rfl (by kernel_rfl) rfl rfl;apply An 5 15 rfl rfl rfl rfl (by kernel_rfl) rfl rfl;apply An 5 15 rfl rfl rfl rfl (by kernel_rfl) rfl rfl;apply An 5 15 rfl rfl rfl rfl (by kernel_rfl) rfl rfl;apply Aw rfl rfl rfl
     ·intro a w z m K hK;have a3:=m.eq 5 15 rfl;have a2:=m.eq 17 27 rfl;simp only[Oper.wp,execOp];go_simp;exact hK _ z (Fp.refl _ _)
     refine⟨?_,?_⟩
     ·repeat(first|exact trivial|refine B7 _ ?_ |refine⟨fun w1 w2 v _ U ⟨g,C,E⟩=>⟨g,C,(U.block g (Ac E) (by simp)).trans E⟩,?_⟩)
     ·intro w' z;simp only[List.reverse_cons,List.reverse_nil,List.nil_append,List.cons_append]
      iterate 19 (refine Am ?_)
      refine A0 ?_;simp only[Aj,Act.put,a1w,List.set_cons_succ,List.set_cons_zero];have HC:=a0z z;clear z;go_wp2_with (fail)
      go_meet
      case rel=>exact⟨rfl,by rw[ag.out];rfl,HC.out⟩
   case rest=>
    obtain⟨rfl,rfl,G⟩:=hcut;have cc:=a0z G;have aa:=a0z (Q.out.trans (Aq.of (G.mono (by simp):Fp [] wr wc) (by simp)) (by simp));have ar:=a0z (HJ.out _ _ _ aq.out G);have q1:wc.cell? ⟨bs,0,none⟩=some (.slice (some ⟨b,o,none⟩) len cap):=Ab ((G.block _ (Ac q.out) (by simp)).trans q.out) 0;clear G q0;cases er
    ·have N:=a0z (show Eh l 0 0=f++Eh l fr i1 by rw[Z.out,Vp D R.out,r.out]);go_wp2_with (fail)
     go_roundg (len-i1)
     case measure=>have:=HG.out;have:=r.out;omega
     case rel=>exact⟨fr,i1,f,rfl,rfl,rfl,by have:=r.out;omega,by have:=r.out;omega,N.out,ar.out,aa.out⟩
    ·obtain⟨d,hd⟩:∃d,i1-fr=d:=⟨_,rfl⟩
     obtain⟨d2,aS⟩:∃d,cap-fr=d:=⟨_,rfl⟩
     have N:=a0z (show Eh l 0 0=f++(fr,d)::Eh l i1 i1 by rw[Z.out,Ta D R.out,r.out,hd]);obtain⟨fn,tm,ca,bd,ab,ai⟩:=HY.out f (fr,d) wc ⟨_,N.out⟩ ar.out;have a9:=a0z ai;clear ai;unfold X3 Vq at ab;simp only at ab;rw[aS] at ab;clear I M
     go_upto_region 5 with(fail)
     refine(wpIn_wide (n:=n)).1 ?_
     gi_wp2_with (fail)
     (with_reducible refine a9.out.mono ?_);rintro e W1 (⟨rfl,hj1,hf1⟩|⟨rfl,hjx⟩)
     ·have bb:=a0z hj1;have au:=a0z (aa.out.trans hf1 (by intro i hi;exact hi));clear hj1 hf1
      gi_wp2_with (fail)
      go_wp2_with (fail)
      go_roundg (len-i1)
      case measure=>have:=HG.out;have:=r.out;omega
      case rel=>exact⟨i1,i1,f++[(fr,d)],rfl,rfl,rfl,a0u _,by have:=r.out;omega,by rw[N.out,List.append_assoc];rfl,bb.out,au.out⟩
     ·have ba:=a0z hjx;clear hjx
      gi_wp2_with (fail)
      go_wp2_with (fail);refine bodyPost_ret (results_none rfl _ _ _) rfl ?_;exact⟨⟨_,rfl⟩,Or.inr ⟨_,ba.out⟩⟩
  ·have z0:¬(i:Int)<(len:Int):=by omega
   rw[Td (fr:=fr) (i:=i) (by rw[<-O.out];exact aj),List.append_nil] at t;have HP:=a0z t;have HG:=a0z hg;clear t hg;go_wp2_with (fail);go_end0;refine⟨⟨_,rfl⟩,Or.inl ?_⟩;rw[HP.out];exact aq.out
theorem vX(w:World)(v:Value)(a:Option Addr)(len cap:Nat)(d:v=.slice a len cap):Calls Tryz.prog 147 #[v] w fun e w'=>e=.returned (.func (.func 223) #[] #[.pointer (some ⟨w.heap.size,0,none⟩)])∧
  w'.heap[w.heap.size]?=some (.cells #[v] 78 (0,0))/\Fp [] w w':=by
 subst d;go_enter Tryz.func147,Tryz.ntmps147;go_wp2_with (fail);go_ret;exact⟨rfl,Ai rfl _,Fp.alloc _ _⟩
end
section
open Go.RowKit Go.Lib
theorem vY{w:World}{o:Oper}{a:Act}{K:Act→World→Prop}{Q:Exit→Act→World→Prop}(s x:Operand)
  (L:o.op=.call {callee:=.builtin .append,args:=#[s,x],argTypes:=#[78,78]})(base:Nat)(v:Value)(l:List Aa)(I:a.eval s=v)(f:Ao w base v l)
  (q:Addr)(m c:Nat)(p:List Aa)(G:a.eval x=.slice (some q) m c)(D:Bh w (some q) m p)(C:l.length+p.length<=1000000000)(d:base<=w.heap.size)
  (h:∀n w',Ao w' base n (l++p)->w.grownBy w' v.ownBlock->Below base w w'->(n.ownBlock=v.ownBlock∨n.ownBlock=some w.heap.size)->K (a.put o.dst n) w'):o.wp Tryz.prog a w K Q:=by
 obtain⟨F,M,y,t,r⟩:=info_parts Tryz.infoCel;have B:=D.len
 have i:∀j u,(p.flatMap Ed)[j]?=some u→w.cell? (q.add j)=some u:=by
  intro j u A
  rcases D.cells with z|⟨b,o,z,_,N⟩
  ·subst z;simp at A
  ·obtain rfl:=Option.some.inj z
   have S:(⟨b,o,none⟩:Addr).add j=⟨b,o+j,none⟩:=by unfold Addr.add;split<;>simp_all
   rw[S];exact dD N j u A
 obtain⟨n,w',J,R,E,_,O⟩:=run_append_own_at (P:=Tryz.prog) w base 78 o.type 80 F _ 6 72 Tryz.underlying78 M y t r rfl (by decide) v l.length (l.flatMap Ed) f q m c (p.flatMap Ed) (by rw[Wa,B]) i (dE p) (by unfold maxLen;omega) (by omega) d;unfold Oper.wp execOp;simp only[L,resolve,invoke,builtin,Sem.run_bind,Sem.run_pure,Result.andThen_ok,List.map_toArray,a2x,List.map_nil,I,G,J];refine h n w' ?_ E (Yu f E d) O;unfold Ao;rw[a1x,List.flatMap_append,<-B];exact R
theorem aZ{D T:TypeId}{w w':World}{base:Nat}{k:Option Nat}(f:∀q,k=some q->base<=q/\∃c h,w.heap[q]?=some (.cells c T h))(d:w.grownBy w' k)(i:D≠T):Aq D base [] w w':=by
 refine⟨d.size,fun q o a _=>d.block q a fun e=>by have:=(f q e.symm).1;omega,fun q c h _ a=>d.block q (Ac a) fun n=>?_⟩;obtain⟨_,p,m,j⟩:=f q n.symm;rw[j] at a;cases a;exact i rfl
theorem Ao.typed{w:World}{base:Nat}{v:Value}{l:List Aa}(h:Ao w base v l):∀q,v.ownBlock=some q→base≤q∧∃c i,w.heap[q]?=some (.cells c 80 i):=by
 intro q a
 rcases h.2 with⟨rfl,_⟩|⟨g,cap,cur,rfl,f,d,_⟩
 ·cases a
 ·obtain rfl:g=q:=by simpa [Value.ownBlock] using a
  exact⟨f,_,_,d⟩
theorem jK{D T:TypeId}{w:World}{base g k:Nat}{c:Array Value}{m:Nat × Nat}{x:Value}(h:w.heap[g]?=some (.cells c T m))(f:D≠T)(n:base<=g):Aq D base [] w (w.setCell ⟨g,k,none⟩ x):=by
 have d:Fp [g] w (w.setCell ⟨g,k,none⟩ x):=Fp.setCell w ⟨g,k,none⟩ x;refine⟨d.size,fun q i a _=>d.block q a (by simp;omega),fun q o j i a=>d.block q (Ac a) ?_⟩;simp only[List.mem_cons,List.not_mem_nil,or_false];rintro rfl;rw[h] at a;cases a;exact f rfl
structure Io(w W0:World)(base g k:Nat)(cur:Array Value)(vals:List Value)(xs:List (List Aa))(last row:List Aa)(u:Value)(ia is:Nat)(b:Nat->Bool)(vs:Nat->Value)(W:World):Prop where
 fp:Fp [] w W
 kept:∀D,D≠80->D≠78->Aq D base [] W0 W
 outer:W.heap[g]?=some (.cells (if b is=true then cur.setIfInBounds k (vs ia) else cur) 78 (0,0))
 oth:∀i (h1:i<vals.length) (h2:i<xs.length),i≠k->Ao W base vals[i] xs[i]
 last0:b ia=false->Ao W base u last
 res:b ia=true->Ao W base (vs ia) (last++row)/\((vs ia).ownBlock=u.ownBlock∨∀q,(vs ia).ownBlock=some q->W0.heap.size<=q)
 o97:b is=true->b ia=true
 sz:base<=W.heap.size
variable {w W0 W W2 : World} {base g k : Nat} {cur : Array Value} {vals : List Value} {xs : List (List Aa)} {last row : List Aa} {u : Value} {ia is : Nat} {b : Nat -> Bool} {vs : Nat -> Value}
theorem Io.start{vs:Nat->Value}(n:Fp [] w W0)(m:W0.heap[g]?=some (.cells cur 78 (0,0)))(f:∀i (d:i<vals.length) (a:i<xs.length),i≠k->Ao W0 base vals[i] xs[i])(j:Ao W0 base u last)(o:base<=W0.heap.size):Io w W0 base g k cur vals xs last row u ia is (fun _=>false) vs {W0 with drawn:=W0.drawn+1}:=
 ⟨n.trans (Fp.drew W0) (by simp),fun _ _ _=>Aq.of (Fp.drew W0) (by simp),m,fun i d a p=>(f i d a p).fp (Fp.drew W0) (by simp),fun _=>j.fp (Fp.drew W0) (by simp),(fun h=>by cases h),(fun h=>by cases h),o⟩
theorem Io.plain{j:Nat}{x:Value}(h:Io w W0 base g k cur vals xs last row u ia is b vs W)(f:j≠ia/\j≠is):Io w W0 base g k cur vals xs last row u ia is (Ah b j) (C0 vs j x) W:=by
 obtain⟨a,d⟩:=f;refine⟨h.fp,h.kept,?_,h.oth,?_,?_,?_,h.sz⟩
 ·rw[Ag d.symm,Bi a.symm];exact h.outer
 ·rw[Ag a.symm];exact h.last0
 ·rw[Ag a.symm,Bi a.symm];exact h.res
 ·rw[Ag a.symm,Ag d.symm];exact h.o97
theorem Io.first(h:Io w W0 base g k cur vals xs last row u ia is b vs W)(a:b ia=false):W.heap[g]?=some (.cells cur 78 (0,0)):=by
 have:=h.outer;rw[F2 h.o97 a] at this;exact this
theorem Io.append{p:Value}(h:Io w W0 base g k cur vals xs last row u ia is b vs W)(o:ia≠is)(v:b ia=false)(C:Ao W2 base p (last++row))(a:W.grownBy W2 u.ownBlock)(z:Below base W W2)(t:p.ownBlock=u.ownBlock∨p.ownBlock=some W.heap.size)(s:w.heap.size≤base)
  (m:∀i (d:i<vals.length),i≠k->∀q,vals[i].ownBlock=some q->u.ownBlock≠some q):Io w W0 base g k cur vals xs last row u ia is (Ah b ia) (C0 vs ia p) W2:=by
 have A:=F2 h.o97 v;have f:=(h.last0 v).typed;have j:W0.heap.size<=W.heap.size:=(h.kept 0 (by decide) (by decide)).size;refine⟨h.fp.belowTrans (z.mono s),fun D d r=>(h.kept D d r).trans (aZ f a d) (by simp),?_,fun i d r y=>(h.oth i d r y).kept fun q n=>a.block q ((h.oth i d r y).lt q n).2 (fun e=>m i d y q n e.symm),(fun e=>by rw[Fj] at e;cases e),fun _=>?_,fun e=>?_,Nat.le_trans h.sz z.size⟩
 ·rw[Ag o.symm,A];have x:=h.first v;refine(a.block g (Ac x) fun e=>?_).trans x;obtain⟨_,c,E,B⟩:=f g e.symm;rw[x] at B;cases B
 ·rw[Hj];refine⟨C,?_⟩
  rcases t with e|e
  ·exact Or.inl e
  ·refine Or.inr fun q n=>?_
   rw[e] at n;cases n;exact j
 ·rw[Ag o.symm,A] at e;cases e
theorem Io.store{y:Value}(h:Io w W0 base g k cur vals xs last row u ia is b vs W)(d:ia≠is)(n:b ia=true)(t:b is=false)(o:base<=g)(r:w.heap.size<=base)(q:vs ia=y):Io w W0 base g k cur vals xs last row u ia is (Ah b is) (C0 vs is undef) (W.setCell ⟨g,k,none⟩ y):=by
 have a:=h.outer;rw[t] at a;have p:Fp [g] W (W.setCell ⟨g,k,none⟩ y):=Fp.setCell W ⟨g,k,none⟩ y;have j:Aq 80 base [] W (W.setCell ⟨g,k,none⟩ y):=jK a (by decide) o;refine⟨h.fp.trans p (by intro i s;right;simp at s;omega),fun D m f=>(h.kept D m f).trans (jK a f o) (by simp),?_,fun i m f v=>(h.oth i m f v).keptT j,fun e=>?_,fun _=>?_,fun _=>?_,Nat.le_trans h.sz p.size⟩
 ·rw[Fj,Bi d,q];exact(Bd a _).trans rfl
 ·rw[Ag d,n] at e;cases e
 ·rw[Bi d];obtain⟨m,f⟩:=h.res n;exact⟨m.keptT j,f⟩
 ·rw[Ag d];exact n
theorem Dx.of_nth{α β:Type}{P:α->β->Prop}:∀(l:List α) (m:List β),l.length=m.length->(∀i (d:i<l.length) (a:i<m.length),P l[i] m[i])->Dx P l m
 |[],[],_,_=>.nil
 |[],_ ::_,h,_=>by cases h
 |_ ::_,[],h,_=>by cases h
 |x::l,y::m,hl,h=>.cons (h 0 (Nat.zero_lt_succ _) (Nat.zero_lt_succ _)) (Dx.of_nth l m (by simpa using hl) fun i d a=>h (i+1) (Nat.succ_lt_succ d) (Nat.succ_lt_succ a))
theorem Io.done{cap:Nat}{v:Value}(h:Io w W0 base g k cur vals xs last row u ia is b vs W)(K:b ia=true)(J:b is=true)(D:v=.slice (some ⟨g,0,none⟩) vals.length cap)(I:base≤g)(z:vals.length≤cap)(B:cap≤maxLen)(A:cur.size=cap*1)(E:cur.toList.take (vals.length*1)=vals)(G:vals.length=xs.length)(L:k<vals.length)(x:vals[k]=u)(r:V0 vals)
  (t:∀i (f:i<vals.length),∀q,vals[i].ownBlock=some q->q<W0.heap.size):D4 Gu W base v (xs.set k (last++row)):=by
 have s:=h.outer;rw[J,if_pos rfl] at s;obtain⟨F,y⟩:=h.res K;refine⟨vals.set k (vs ia),?_,?_,?_⟩
 ·unfold Bg;refine⟨by simp,Or.inr ⟨g,cap,cur.setIfInBounds k (vs ia),by rw[a0w];exact D,I,s,by rw[a0w];exact z,B,by rw[Array.size_setIfInBounds];exact A,?_⟩⟩;rw[Array.toList_setIfInBounds,a0w,List.take_set,E]
 ·refine Dx.of_nth _ _ (by rw[a0w,a0w,G]) fun i f n=>?_
  rw[a0w] at f n;rw[List.getElem_set,List.getElem_set]
  by_cases e:k=i
  ·rw[if_pos e,if_pos e];exact F
  ·rw[if_neg e,if_neg e];exact h.oth i f n (fun m=>e m.symm)
 ·have o:=List.pairwise_iff_getElem.1 r
  refine List.pairwise_iff_getElem.2 fun i j f n p q d a=>?_
  rw[a0w] at f n;rw[List.getElem_set] at d a
  by_cases e:k=i
  ·rw[if_pos e] at d;rw[if_neg (by omega)] at a
   rcases y with m|m
   ·rw[m,<-x] at d;subst e;exact o k j f n p q d a
   ·have:=m q d;have:=t j n q a;omega
  ·rw[if_neg e] at d
   by_cases C:k=j
   ·rw[if_pos C] at a
    rcases y with m|m
    ·rw[m,<-x] at a;subst C;exact o i k f n p q d a
    ·have:=m q a;have:=t i f q d;omega
   ·rw[if_neg C] at a;exact o i j f n p q d a
end
section
open Go.RowKit Go.Lib
def Ip(l:List Aa)(x:Nat × Nat):List Aa:=(l.drop x.1).take x.2
def Jf(most:Nat)(xs:List (List Aa))(row:List Aa):List (List Aa):=if 0<xs.length/\(xs.getD (xs.length-1) []).length+row.length<=most then xs.set (xs.length-1) (xs.getD (xs.length-1) []++row) else xs++[row]
def Lc(most:Nat)(l:List Aa)(pre:List (Nat × Nat)):List (List Aa):=pre.foldl (fun xs x=>Jf most xs (Ip l x)) []
def Ld(l:List Aa)(most:Nat):List (List Aa):=Lc most l (Eh l 0 0)
theorem vZ(a:Nat)(l:List Aa)(d:List (Nat × Nat))(x:Nat × Nat):Lc a l (d++[x])=Jf a (Lc a l d) (Ip l x):=by
 unfold Lc;rw[List.foldl_append];rfl
theorem wC{a:Nat}{xs:List (List Aa)}{row:List Aa}(h:0<xs.length)(d:(xs.getD (xs.length-1) []).length+row.length<=a):Jf a xs row=xs.set (xs.length-1) (xs.getD (xs.length-1) []++row):=if_pos ⟨h,d⟩
theorem jL{a:Nat}{xs:List (List Aa)}{row:List Aa}(h:¬(0<xs.length/\(xs.getD (xs.length-1) []).length+row.length<=a)):Jf a xs row=xs++[row]:=if_neg h
theorem wE(a:Nat)(xs:List (List Aa))(row:List Aa):(Jf a xs row).length<=xs.length+1:=by
 unfold Jf;split
 ·simp
 ·simp
theorem wF(a:Nat)(xs:List (List Aa))(row:List Aa):(Jf a xs row).flatten=xs.flatten++row:=by
 unfold Jf;split
 ·rename_i h;obtain⟨h,_⟩:=h
  rcases List.eq_nil_or_concat xs with rfl|⟨ys,y,rfl⟩
  ·simp at h
  ·rw[List.concat_eq_append]
   have e:(ys++[y]).length-1=ys.length:=by simp
   rw[e,a0v,List.getElem?_append_right (a0u _),Nat.sub_self];simp
 ·simp
theorem jM(d:Nat)(l:List Aa):∀(a:List (Nat × Nat)) (xs:List (List Aa)),(a.foldl (fun xs x=>Jf d xs (Ip l x)) xs).flatten=xs.flatten++(a.map (Ip l)).flatten
 |[],xs=>by simp
 |x::a,xs=>by
  rw[List.foldl_cons,jM d l a,wF];simp
theorem jN(d:Nat)(l:List Aa)(a:List (Nat × Nat)):(Lc d l a).flatten=(a.map (Ip l)).flatten:=by
 unfold Lc;rw[jM];simp
theorem jO(a:Nat)(l:List Aa):∀(d:List (Nat × Nat)) (xs:List (List Aa)),(d.foldl (fun xs x=>Jf a xs (Ip l x)) xs).length≤xs.length+d.length
 |[],xs=>by simp
 |x::d,xs=>by
  rw[List.foldl_cons,List.length_cons];have:=jO a l d (Jf a xs (Ip l x));have:=wE a xs (Ip l x);omega
theorem jP(a:Nat)(l:List Aa)(d:List (Nat × Nat)):(Lc a l d).length<=d.length:=by
 have:=jO a l d [];rw[List.length_nil,Nat.zero_add] at this;exact this
theorem bA(l:List Aa)(fr i:Nat)(d:fr≤i):∀x∈Eh l fr i,x.1+x.2≤l.length∧0<x.2:=by
 intro x a
 by_cases h:i<l.length
 ·cases he:Jz l i
  ·rw[Vp h he] at a;exact bA l fr (i+1) (by omega) x a
  ·rw[Ta h he] at a
   rcases List.mem_cons.1 a with rfl|a
   ·simp only;omega
   ·exact bA l (i+1) (i+1) (a0u _) x a
 ·rw[Td h] at a;cases a
 termination_by l.length-i
theorem X4(l:List Aa)(fr i:Nat):(Eh l fr i).length≤l.length-i:=by
 by_cases h:i<l.length
 ·cases he:Jz l i
  ·rw[Vp h he];have:=X4 l fr (i+1);omega
  ·rw[Ta h he,List.length_cons];have:=X4 l (i+1) (i+1);omega
 ·rw[Td h];exact Nat.zero_le _
 termination_by l.length-i
theorem wG{l:List Aa}{i:Nat}(h:¬i+1<l.length):Jz l i=true:=by
 unfold Jz;rw[decide_eq_false h];rfl
theorem X5(l:List Aa)(fr i:Nat)(f:fr≤i)(d:i<l.length∨fr=i):((Eh l fr i).map (Ip l)).flatten=l.drop fr:=by
 by_cases h:i<l.length
 ·cases he:Jz l i
  ·rw[Vp h he]
   have a:i+1<l.length:=by
    by_cases a:i+1<l.length
    ·exact a
    ·rw[wG a] at he;cases he
   exact X5 l fr (i+1) (by omega) (Or.inl a)
  ·rw[Ta h he,a2x,List.flatten_cons,X5 l (i+1) (i+1) (a0u _) (Or.inr rfl)];unfold Ip;simp only;rw[show l.drop (i+1)=(l.drop fr).drop (i+1-fr) by rw[List.drop_drop];congr 1;omega];exact List.take_append_drop _ _
 ·rw[Td h]
  obtain rfl:fr=i:=by omega
  rw[List.drop_eq_nil_of_le (by omega)];rfl
 termination_by l.length-i
theorem wH{l:List Aa}{a d:List (Nat × Nat)}{x:Nat × Nat}(f:Nat)(h:Eh l 0 0=a++x::d):(Lc f l a).flatten.length+(Ip l x).length<=l.length:=by
 have i:=X5 l 0 0 (a0u _) (Or.inr rfl);rw[h,List.map_append,a2x,List.flatten_append,List.flatten_cons] at i;have j:=congrArg List.length i;rw[a1x,a1x,List.drop_zero] at j;rw[jN];omega
theorem Vr{xs:List (List Aa)}{x:List Aa}(h:x∈xs):x.length<=xs.flatten.length:=by
 obtain⟨s,t,rfl⟩:=List.append_of_mem h;simp;omega
theorem D4.opened{W:World}{base:Nat}{v:Value}{xs:List (List Aa)}(h:D4 Gu W base v xs)(y:0<xs.length):∃g cap cur vals,v=.slice (some ⟨g,0,none⟩) vals.length cap/\base<=g/\W.heap[g]?=some (.cells cur 78 (0,0))/\vals.length<=cap/\cap<=maxLen/\cur.size=cap*1/\cur.toList.take (vals.length*1)=vals/\vals.length=xs.length/\(∀i (a:i<vals.length) (f:i<xs.length),Ao W base vals[i] xs[i])/\V0 vals:=by
 obtain⟨vals,a,f,t⟩:=h;have p:=f.length_eq
 rcases a.2 with⟨_,x⟩|⟨g,cap,cur,j,r,q,s,o,n,m⟩
 ·omega
 ·exact⟨g,cap,cur,vals,j,r,q,s,o,n,m,p,fun i a d=>f.nth i a d,t⟩
end
section
open Go.RowKit
section
variable {P : Program} {l : List Oper}
theorem wI{Ss:List (World→Value→Prop)}{C:World→Prop}{R:World→World→Prop}{V:Act}{Qn:Act→World→Prop}(hl:Ss.length=l.length)(x:Fh l V.tmps.size=true)
  (stab:∀S∈Ss,∀w w' v,C w->R w w'->S w v->S w' v)(rel:∀i,i<l.length->Wg P l Ss C R V i)
  (ad:∀a w listed,Yy l Ss C V listed a w->(∀j,j<l.length->listed.getD j false=true)->Qn a w):
  ∀(m:Nat) (listed:Array Bool) (a:Act) (w:World),F8 listed=m->Yy l Ss C V listed a w->H8 P l Qn m listed a w:=by
 intro m
 induction m with
 |zero=>
  intro listed a w hu f;have p:=Wi hu;rw[f.size] at p;refine⟨?_,ad a w listed f p⟩;apply List.eq_nil_iff_forall_not_mem.2;intro j s;obtain⟨U,o,ho,_⟩:=mem_ready.1 s
  have r:j<l.length:=by simpa using(Array.getElem?_eq_some_iff.1 ho).1
  have T:=p j r
  have E:j<listed.size:=by rw[f.size];exact r
  simp[E] at U T;rw[U] at T;cases T
 |succ m ih=>
  intro listed a w hu f;refine⟨fun J=>?_,fun i hi=>?_⟩
  ·--something is ready as long as not all is listed
   exfalso
   have A:∃j,j<l.length∧listed.getD j false=false:=by
    by_cases A:∃j,j<l.length/\listed.getD j false=false
    ·exact A
    ·exfalso
     have p:∀j,j<l.length->listed.getD j false=true:=fun j s=>by
      cases h:listed.getD j false
      ·exact absurd ⟨j,s,h⟩ A
      ·rfl
     have:F8 listed=0:=by
      unfold F8;rw[List.length_eq_zero_iff,List.filter_eq_nil_iff];intro b Q;obtain⟨j,s,rfl⟩:=a1z Q
      have N:j<listed.size:=by simpa using s
      have:=p j (by rw[<-f.size];exact N);simp[N] at this ⊢;exact this
     omega
   obtain⟨j,s,z⟩:∃j,(j<l.length∧listed.getD j false=false)∧∀k,k<j→¬(k<l.length∧listed.getD k false=false):=by
    obtain⟨j0,h0⟩:=A
    induction j0 using Nat.strongRecOn with
    |_ n ih2=>
     by_cases hk:∃k,k<n/\(k<l.length/\listed.getD k false=false)
     ·obtain⟨k,G,F⟩:=hk;exact ih2 k G F
     ·exact⟨n,h0,fun k G F=>hk ⟨k,G,F⟩⟩
   have aa:j<listed.size:=by rw[f.size];exact s.1
   have:j∈Region.ready .any l.toArray listed:=by
    refine mem_ready.2 ⟨by have:=s.2;simp[aa] at this ⊢;exact this,l[j],by simp[s.1],fun e he Q=>?_⟩;have r:=O8 x (a0x s.1) e he Q;cases h:listed.getD e.on false
    ·exact absurd ⟨by omega,h⟩ (z e.on r)
    ·rfl
   rw[J] at this;cases this
  ·obtain⟨U,o,ho,L⟩:=mem_ready.1 hi
   have q:l[i]?=some o:=by simpa using ho
   have r:i<l.length:=(List.getElem?_eq_some_iff.1 q).1
   have E:i<listed.size:=by rw[f.size];exact r
   obtain⟨S,hS⟩:∃S,Ss[i]?=some S:=⟨Ss[i]'(by omega),a0x (by omega)⟩
   have J:=rel i r o S q hS a w f.cls f.tmps f.same (fun e he Q oe Se Z ab=>f.done e.on oe Se Z ab (L e he Q))
   have y:∀v w2,C w2→(∀S'∈Ss,∀v,S' w v→S' w2 v)→S w2 (match o.dst with|some _=>v|none=>undef)→H8 P l Qn m (listed.setIfInBounds i true) (a.put o.dst v) w2:=by
    intro v w2 hC Y D;refine ih _ _ _ (by have:=Wh E U;omega) ⟨by simp[f.size],by rw[Ud];exact f.defers,by rw[Rx];exact f.tmps,?_,?_,hC⟩
    ·intro j K Sj s B M
     by_cases I:i=j
     ·subst I;rw[q] at s;cases s;rw[hS] at B;cases B;unfold A3
      cases O:o.dst with
      |none=>rw[O] at D;exact D
      |some d=>
       rw[O] at D;simp only;rw[Rw (by rw[f.tmps];exact(Gz x q O).1)];exact D
     ·rw[getD_set_ne false I] at M;have T:=Y Sj (a2z B) _ (f.done j K Sj s B M)
      have:A3 K (a.put o.dst v)=A3 K a:=by
       unfold A3
       cases hdj:K.dst with
       |none=>rfl
       |some d=>
        simp only
        refine Lm fun O=>?_
        exact(Gz x q O).2 j K s (Ne.symm I) hdj
      rw[this];exact T
    ·intro t ht;rw[Lm (ht o (a2z q))];exact f.same t ht
   refine⟨o,q,?_⟩;split
   ·rename_i X;rw[if_pos X] at J;refine(Uc (fun a2 w2 h=>?_) (fun _ _ _ h=>h.elim) J);obtain⟨v,rfl,hC,hR,D⟩:=h;exact y v w2 hC (fun S' ac v D=>stab S' ac w w2 v f.cls hR D) D
   ·rename_i X;rw[if_neg X] at J;refine y undef w f.cls (fun _ _ _ h=>h) ?_
    cases o.dst<;>exact J
theorem wJ{Qn:Act→World→Prop}{m:Act}{F:World}(Ss:List (World→Value→Prop))(C:World→Prop)(R:World→World→Prop)
  (U:Ss.length=l.length)(f:Fh l m.tmps.size=true)(hC:C {F with drawn:=F.drawn+1})
  (stab:∀S∈Ss,∀w w' v,C w->R w w'->S w v->S w' v)(rel:∀i,i<l.length->Wg P l Ss C R m i)
  (T:∀vs w,C w->F9 w Ss vs->Qn (Aj l vs m) w):H8 P l Qn l.toArray.size (Array.replicate l.toArray.size false) m {F with drawn:=F.drawn+1}:=by
 refine(wI U f stab rel ?_ _ _ _ _ (by simp[F8]) ⟨by simp,rfl,rfl,?_,fun _ _=>rfl,hC⟩)
 ·intro a w G n D
  have z:=T (l.map (fun o=>A3 o a)) w n.cls (Uh (by simp[U]) (fun i S v E q=>by
   rw[List.getElem?_map] at q
   cases r:l[i]? with
   |none=>rw[r] at q;cases q
   |some o=>
    rw[r] at q;simp only[Option.map_some,Option.some.injEq] at q;rw[<-q]
    exact n.done i o S r E (D i (List.getElem?_eq_some_iff.1 r).1)))
  have:Aj l (l.map (fun o=>A3 o a)) m=a:=by
   have p:(Aj l (l.map (fun o=>A3 o a)) m).defers=a.defers:=by rw[Uf,n.defers]
   have y:(Aj l (l.map (fun o=>A3 o a)) m).tmps=a.tmps:=by
    have J:(Aj l (l.map (fun o=>A3 o a)) m).tmps.size=a.tmps.size:=by rw[Ue,n.tmps]
    refine Array.ext J fun t E q=>?_
    have Z:(Aj l (l.map (fun o=>A3 o a)) m).tmps.getD t undef=a.tmps.getD t undef:=by
     by_cases B:∃o∈l,o.dst=some t
     ·obtain⟨o,r,I⟩:=B;obtain⟨i,N,M⟩:=a1z r
      have s:l[i]?=some o:=by rw[a0x N,M]
      rw[Ug l _ m (by simp) (fun i j oi V d N Y E q=>by
       by_cases A:i=j
       ·exact A
       ·exact absurd q ((Gz f N E).2 j V Y (Ne.symm A))) (fun o' K d O=>by
       obtain⟨k,X,L⟩:=a1z K
       exact(Gz f (by rw[a0x X,L]) O).1) i o (A3 o a) t s (by rw[List.getElem?_map,s];rfl) I]
      unfold A3;rw[I]
     ·have x:∀o∈l,o.dst≠some t:=fun o r I=>B ⟨o,r,I⟩
      rw[Ry l _ m t x,n.same t x]
    simpa [E,q] using Z
   cases a;cases h:Aj l (l.map (fun o=>A3 o _)) m;rw[h] at p y;simp only at p y;rw[p,y]
  rw[this] at z;exact z
 ·intro j o S _ _ h;exfalso
  rcases Nat.lt_or_ge j l.length with Q|Q
  ·simp[Q] at h
  ·simp[Q] at h
theorem wK{id j n:Nat}{Q:Exit→Act→World→Prop}{f:Act}{w0:World}(C:World→Prop)(R:World→World→Prop)
  (m:P.follows .mixedOrders=true)(p:Vt l=true)(d:Fh l f.tmps.size=true)(q:C {w0 with drawn:=w0.drawn+1})
  (h:Ij P l C R f (fun a w=>Q .normal a w) 0 [] l.length):(Code.region id l.toArray true).wpIn (Fence.wide.inRound j) n P Q f w0:=by
 obtain⟨Ss,_,v,t,s,r⟩:=dL d l.length 0 [] h rfl (by omega);exact kR m p (wJ Ss C R v d q t (fun i o=>r i (Nat.zero_le _) o) s)
theorem bB{id i n:Nat}{Q:Exit→Act→World→Prop}{f:Act}{w0:World}(j:P.follows .mixedOrders=true)(m:Vt l=true)(d:Fh l f.tmps.size=true)
  (h:Ij P l (fun w'=>Fp [] w0 w') (Fp []) f (fun a w=>Q .normal a w) 0 [] l.length):(Code.region id l.toArray true).wpIn (Fence.wide.inRound i) n P Q f w0:=
 wK _ _ j m d (Fp.drew w0) h
end
end
end Go.Proofs.YtkagolpnaicdoaaGreatDoor
