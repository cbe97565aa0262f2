/-
 cut.Roll, walked. cut.All.
-/
import Derived.Test.YtkagolpnaicdoaaGreatDoorPCutD
set_option maxRecDepth 100000
set_option maxHeartbeats 8000000
open Go.Lib renaming hid->a0z
open List renaming getD_eq_getElem?_getD->a0x,setIfInBounds_toArray->a0w,getElem?_cons_zero->a0v,cons_append->a0u,set_cons_succ->a1z,set_cons_zero->a1x,nil_append->a1w,getElem?_toArray->a1v,reverse_cons->a1u,getElem?_eq_getElem->a2z,reverse_nil->a2x,eq_nil_of_length_eq_zero->a2w,length_append->a2v,getElem?_take->a2u,length_cons->a3z
open Nat renaming le_trans->a3x
namespace Go.Proofs.YtkagolpnaicdoaaGreatDoor
section
open Go.RowKit Go.Lib
structure X6(w:World)(base most:Nat)(l:List Aa)(pre:List (Nat × Nat))(W:World):Prop where
 ex:∃v,W.heap[w.heap.size+1]?=some (.cells #[v] 149 (0,0))/\D4 Gu W base v (Lc most l pre)
 box:W.heap[w.heap.size]?=some (.cells #[.int .i64 most] 3 (0,0))
 fp:Fp [] w W
theorem X6.on{w A B:World}{base a:Nat}{l:List Aa}{b:List (Nat × Nat)}{S:List Nat}(h:X6 w base a l b A)(d:Fp S A B)(f:∀k∈S,w.heap.size+1<k/\k<base):X6 w base a l b B:=by
 obtain⟨v,j,m⟩:=h.ex;refine⟨⟨v,(d.block _ (Ac j) fun g=>by have:=f _ g;omega).trans j,m.fp d fun k i=>(f k i).2⟩,(d.block _ (Ac h.box) fun g=>by have:=f _ g;omega).trans h.box,h.fp.trans d fun k i=>Or.inr (by have:=f k i;omega)⟩
theorem Ao.sliceL{W:World}{base:Nat}{v:Value}{l:List Aa}(h:Ao W base v l):∃a cap,v=.slice a l.length cap:=by
 rcases h.2 with⟨rfl,b⟩|⟨g,cap,d,rfl,_⟩
 ·exact⟨_,_,by rw[b]⟩
 ·exact⟨_,_,rfl⟩
theorem Qa:Tm 2 3 4 5:=⟨by decide,by decide,by decide,by decide,by decide,by decide⟩
def jQ(a:Option Addr)(b o n cap m c1 c2:Nat)(x:Nat × Nat):Act:={tmps:=#[.slice a n cap,.int .i64 m,undef,.pointer (some ⟨c1,0,none⟩),.pointer (some ⟨c1+1,0,none⟩),.int .i64 0,Vq b o cap x,undef,.bool false,.int .i64 m,.bool false,.bool false,.slice a n cap,.bool true,.bool false,.slice a n cap,.func (.func 223) #[] #[.pointer (some ⟨c2,0,none⟩)],Vq b o cap x,undef,undef,undef,undef,undef,undef,undef,undef,undef,undef,undef,undef,undef,undef,undef,undef,undef,undef,undef,undef,undef,undef,undef,undef,undef,undef,undef,undef,undef,undef,undef,undef],defers:=[]}
theorem wL(L n bs cap:Nat)(a:Option Addr)(w:World)(b:w.heap[bs]?=some (.cells #[.slice a 0 cap] 78 (0,0)))(J Jx:List (Nat × Nat)→World→Prop)(f:J [] w):
  CallsIn Fence.wide n Tryz.prog 223 #[.func (.yield L) #[] #[],.pointer (some ⟨bs,0,none⟩)] w fun e w'=>(∃v,e=.returned v)/\((∃xs,xs=Eh [] 0 0/\J xs w')∨∃d,Jx d w'):=by
 rw[callsIn_wide];have j:=a0z f;have i:w.cell? ⟨bs,0,none⟩=some (.slice a 0 cap):=Ab b 0;clear f b;go_enter Tryz.func223,Tryz.ntmps223;go_wp2_with (fail)
 go_loopg [7] 0 (fun g h wr=>g=0/\h=.int .i64 0/\w=wr)
 case atStart=>exact⟨rfl,rfl,rfl⟩
 case round=>
  obtain⟨rfl,rfl,rfl⟩:=hrel;go_wp2_with (fail);go_end0;exact⟨⟨_,rfl⟩,Or.inl ⟨[],by rw[Td (by simp)],j.out⟩⟩
attribute [local go_sem] Oper.semAt_some
theorem wM(w:World)(a:Option Addr)(n cap m:Nat)(l:List Aa)(h:Bh w a n l)(V:risC l=true)(hn:n≤900000)(bi:n≤cap)(db:1≤m)(hm:m<2^63):
  Calls Tryz.prog 89 #[.slice a n cap,.int .i64 m] w fun e w'=>∃v,e=.returned (.tuple #[v,.int .i64 0])/\D4 Gu w' w.heap.size v (Ld l m)/\Fp [] w w':=by
 have bw:=a0z (fun W (h:Bh W a n l)=>Xu W a n cap l h (by omega));rw[V] at bw;have cu:=a0z (fun w v a len cap (F:v=.slice a len cap)=>vX w v a len cap F);have HL:=a0z h;have cF:=a0z bi;clear h V bi
 have z1:¬(m:Int)<1:=by omega
 rw[<-callsIn_wide (n:=5)];refine callsIn_of_wp_marks Tryz.func89 rfl trivial ?_ rfl;simp only[Tryz.ntmps89,List.size_toArray,a3z,List.length_nil,Nat.reduceAdd,Nat.reduceSub,Array.replicate_succ,Array.replicate_zero,List.push_toArray,List.append_toArray,a1w,a0u]
 gi_wp2_with (fail)
 refine⟨trivial,?_⟩;(with_reducible refine((callsIn_wide (n:=4)).2 (bw.out _ (HL.out.fp ((Fp.alloc _ _).alloc' _)))).mono ?_);rintro e w1 ⟨rfl,O⟩;have cs:=a0z ((O.block _ (by simp;omega) (by simp)).trans (Bw (Ai rfl _)):w1.heap[w.heap.size]?=some (.cells #[.int .i64 m] 3 (0,0)));have bv:=a0z ((O.block _ (by simp) (by simp)).trans (Ai (by simp) _):w1.heap[w.heap.size+1]?=some (.cells #[.slice none 0 0] 149 (0,0)));have bz:Hid (Fp [] w w1):=((Fp.alloc _ _).alloc' _).trans O (by simp);clear O
 gi_wp2_with (fail)
 refine⟨trivial,?_⟩;(with_reducible refine((callsIn_wide (n:=4)).2 (cu.out _ _ _ _ _ rfl)).mono ?_);rintro e w2 ⟨rfl,bn,bk⟩;have bc:=a0z bn;have an:=a0z bk;clear bn bk
 gi_wp2_with (fail)
 have b1:w.heap.size+1<w1.heap.size:=Ac bv.out;have c9:w1.heap.size<w2.heap.size:=Ac bc.out
 obtain⟨b,o,a1⟩:∃b o,n=0∨a=some ⟨b,o,none⟩/\b<w.heap.size:=by
  rcases HL.out.cells with y|⟨b,o,y,E,_⟩
  ·exact⟨0,0,Or.inl (by have:=HL.out.len;rw[y] at this;simpa using this)⟩
  ·exact⟨b,o,Or.inr ⟨y,E⟩⟩
 refine Sm (α:=Nat × Nat) (encs:=X3 b o cap) rfl (enters_of Tryz.func223 (by kernel_rfl) rfl) (fun _=>rfl) 221 [w.heap.size+1] [] (by simp;omega) (by simp) (w1.heap.size) (by omega) 0
  (fun ab x=>∃ao,Eh l 0 0=ab++x::ao) (X6 w (w2.heap.size+2) m l) (fun _ _=>False) (fun xs _=>xs=Eh l 0 0)
  (fun _=>True) (fun s A B k h S hk=>h.on S (by simp;omega)) (fun s A B h S _=>h.on S (by simp;omega)) (fun _ _ _ h _=>h) (fun _ _ _ h _=>h) ?_ ?_ (fun x a' _=>a'=jQ a b o n cap m w.heap.size w1.heap.size x) (fun _ _ _ _ h _=>h) ?_ ?_ ?_ (fun _ _ h=>h.elim)
 ·intro J Jx W1 O c6 hJ hY bo
  rcases a1 with rfl|⟨rfl,cc⟩
  ·obtain rfl:l=[]:=a2w HL.out.len.symm;exact wL (w2.heap.size+1) (5-1) w1.heap.size cap a W1 ((O.block _ (by omega) (by simp)).trans bc.out) J Jx bo
  ·exact vW 221 (w2.heap.size+2) (w2.heap.size+1) (5-1) w1.heap.size W1 b o n cap l (HL.out.fp ((bz.out.trans an.out (by simp)).trans O (by simp))) (by decide) ((O.block _ (by omega) (by simp)).trans bc.out) cF.out (by omega) (by omega) (by omega) (by omega) (by omega) [w.heap.size+1] (by intro k hk;simp only[List.mem_cons,List.not_mem_nil,or_false] at hk;omega) J Jx (fun s A B h S=>hJ s A B h (S.mono (by simp)) trivial) hY bo
 ·exact⟨⟨.slice none 0 0,(an.out.block _ b1 (by simp)).trans bv.out,D4.nil _ _⟩,(an.out.block _ (by omega) (by simp)).trans cs.out,bz.out.trans an.out (by simp)⟩
 ·intro l x W K hW p;simp only[X3]
  gi_wp2_with (fail)
  exact p _ _ (Fp.refl _ _) rfl
 ·rintro l' ab ⟨xi,R⟩ a' W ⟨ao,I⟩ hI hW rfl;have hx:=bA l 0 0 (Nat.le_refl _) (xi,R) (by rw[I];simp);obtain⟨b3,b2⟩:=hx;simp only at b3 b2
  obtain⟨rfl,cc⟩:a=some ⟨b,o,none⟩/\b<w.heap.size:=by
   rcases a1 with y|y
   ·have:=HL.out.len;omega
   ·exact y
  obtain⟨v,F,ho⟩:=hI.ex;have ak:=wH m I
  obtain⟨xs,ag⟩:∃xs,Lc m l ab=xs:=⟨_,rfl⟩
  rw[ag] at ho ak
  obtain⟨row,U⟩:∃row,Ip l (xi,R)=row:=⟨_,rfl⟩
  rw[U] at ak
  have bf:Bh w (some ⟨b,o+xi*6,none⟩) R row:=by
   rw[<-U];exact(HL.out.drop xi (n-xi) (by have:=HL.out.len;omega)).take R (by have:=HL.out.len;omega)
  have t:Lc m l (ab++[(xi,R)])=Jf m xs row:=by rw[vZ,ag,U]
  have da:xs.length<=1000000:=by
   have y:=X4 l 0 0;rw[I,a2v] at y;have E:=jP m l ab;rw[ag] at E;have:=HL.out.len;omega
  have dc:l.length<=900000:=by have:=HL.out.len;omega
  have a7:=a0z t;have HI:=a0z hI;have HV:=a0z F;have HO:=a0z ho;have HQ:=a0z bf;have c5:=a0z ak;have hW:w2.heap.size+2<=W.heap.size:=hW;obtain⟨T,M,b5⟩:=ho.slice;subst b5;have q0:W.cell? ⟨w.heap.size+1,0,none⟩=some (.slice T xs.length M):=Ab F 0;clear hI F ho bf I t ag U ak a1;unfold jQ Vq;simp only;have HB:=a0z HI.out.box;have q1:W.cell? ⟨w.heap.size,0,none⟩=some (.int .i64 m):=Ab HB.out 0
  by_cases h0:0<xs.length
  ·obtain⟨k,hk⟩:∃k:Nat,k+1=xs.length:=⟨xs.length-1,by omega⟩
   have b8:((xs.length:Int)-1)=(k:Int):=by omega
   have zk:(k:Int)<(xs.length:Int):=by omega
   obtain⟨g,c8,a5,u,F,hg,hh,b6,ca,bm,ht,aw,ad,ap⟩:=HO.out.opened h0;rw[aw] at F;cases F
   have Y:k<u.length:=by omega
   have bj:k<xs.length:=by omega
   obtain⟨last,C⟩:∃last,xs[k]=last:=⟨_,rfl⟩
   have bh:xs.getD (xs.length-1) []=last:=by
    rw[show xs.length-1=k by omega,a0x,a2z bj,<-C];rfl
   have ai:=ad k Y bj;rw[C] at ai;obtain⟨a3,c3,hu⟩:=ai.sliceL
   have ar:a5[k]?=some (.slice a3 last.length c3):=by
    have L:(a5.toList.take (u.length*1))[k]?=u[k]?:=by rw[ht]
    rw[Nat.mul_one,a2u,if_pos Y,Array.getElem?_toList,a2z Y,hu] at L;exact L
   have X:=a0z ar;have HH:=a0z hh;have a9:=a0z hu;have a8:=a0z bh;have cx:=a0z ai;have av:=a0z ad;have au:=a0z ap;have cS:=a0z ht;have c4:=a0z bm;have a6:=a0z aw;have HK:=a0z hk;have bg:last.length<=xs.flatten.length:=Vr (by rw[<-C];exact List.getElem_mem _)
   have c7:last.length+row.length<=900000:=by have:=c5.out;omega
   have dk:=a0z C;have al:=a0z HQ.out.len;clear ar hh hu bh ai ad ap ht bm aw C hk bg
   gi_wp2_with (fail)
   by_cases aq:last.length+row.length<=m
   ·have zf:(last.length:Int)+(R:Int)≤(m:Int):=by have:=al.out;omega
    have zw:IntKind.i64.wrap ((last.length:Int)+(R:Int))=(last.length:Int)+(R:Int):=by rw[IntKind.wrap_i64];have:=al.out;omega
    refine bB (by kernel_rfl) (by kernel_rfl) (by kernel_rfl) ?_
    iterate 14
     first|apply Aw rfl rfl rfl|apply Hr 2 23 rfl rfl rfl rfl (by kernel_rfl) rfl rfl
     ·intro a w j f K p
      try have h7:=f.fr 7 rfl
      try have bt:=f.eq 0 21 rfl
      try have br:=f.eq 1 22 rfl
      try have L:=f.fr 4 rfl
      try have cr:=f.eq 3 24 rfl
      try have cq:=f.eq 4 25 rfl
      try have cp:=f.eq 5 26 rfl
      try have co:=f.eq 6 27 rfl
      try have h6:=f.fr 6 rfl
      try have cm:=f.eq 8 29 rfl
      try have cn:=f.eq 7 28 rfl
      try have cl:=f.eq 9 30 rfl
      try have h3:=f.fr 3 rfl
      try have ck:=f.eq 10 31 rfl
      try have cj:=f.eq 11 32 rfl
      try have bq:=f.eq 2 23 rfl
      try have bp:=f.eq 12 33 rfl
      have q0:=Ab ((j.block _ (Ac HV.out) (by simp)).trans HV.out) 0;have q1:=Ab ((j.block _ (Ac HB.out) (by simp)).trans HB.out) 0;have q2:=(Ab ((j.block _ (Ac HH.out) (by simp)).trans HH.out) k).trans X.out;simp only[a1v,a0v] at q0 q1;simp only[Oper.wp,execOp];go_simp;exact p _ j (Fp.refl _ _)
    refine⟨?_,?_⟩
    ·repeat(first|exact trivial|refine B7 _ ?_ |refine⟨fun w1 w2 v _ S ⟨g,y,E⟩=>⟨g,y,(S.block g (Ac E) (by simp)).trans E⟩,?_⟩)
    ·intro w' j;simp only[a1u,a2x,a1w,a0u]
     iterate 14 (refine Am ?_)
     refine A0 ?_;simp only[Aj,Act.put,a0w,a1z,a1x];have z:=a0z j;clear j
     gi_wp2_with (fail)
     have am:=a0z (HO.out.fp z.out (by simp));have Q:=a0z ((z.out.block _ (Ac HV.out) (by simp)).trans HV.out);have af:=a0z (HI.out.fp.trans z.out (by simp));have b0:=a0z ((z.out.block _ (Ac HB.out) (by simp)).trans HB.out);have ae:w2.heap.size+2<=w'.heap.size:=a3x hW z.out.size
     obtain⟨Z,ac⟩:∃x,x=w':=⟨_,rfl⟩
     subst ac
     have cz:Hid (∀W',Aq 0 (w2.heap.size+2) [] Z W'->W'.heap[w.heap.size+1]?=some (.cells #[.slice (some ⟨g,0,none⟩) xs.length M] 149 (0,0))):=fun W' h=>(h.low (w.heap.size+1) (by omega) (Ac Q.out) (by simp)).trans Q.out
     have cv:Hid (∀W',Fp [] w W'->Bh W' (some ⟨b,o+xi*6,none⟩) R row):=fun W' h=>HQ.out.fp h
     have c1:=a0z ((z.out.block _ (Ac HH.out) (by simp)).trans HH.out)
     have cw:Hid (∀i (y:i<u.length) (E:i<xs.length),i≠k->Ao Z (w2.heap.size+2) u[i] xs[i]):=fun i y E _=>(av.out i y E).fp z.out (by simp)
     have bx:Hid (Ao Z (w2.heap.size+2) (.slice a3 last.length c3) last):=by
      have:=cx.out.fp z.out (by simp);rw[a9.out] at this;exact this
     have ct:Hid (∀i (y:i<u.length),i≠k->∀q,u[i].ownBlock=some q->(Value.slice a3 last.length c3).ownBlock≠some q):=by
      intro i y E q h3 L;rw[<-a9.out] at L;have be:=List.pairwise_iff_getElem.1 au.out
      rcases Nat.lt_or_gt_of_ne E with h5|h5
      ·exact be i k y Y h5 q h3 L
      ·exact be k i Y y h5 q L h3
     have cy:Hid (∀i (y:i<u.length),∀q,u[i].ownBlock=some q->q<Z.heap.size):=fun i y q hq=>((av.out i y (by rw[<-a6.out];exact y)).fp z.out (by simp)).lt q hq |>.2
     refine Wl (Io w Z (w2.heap.size+2) g k a5 u xs last row (.slice a3 last.length c3) 7 9) (fun _ _=>True) (by kernel_rfl) (by kernel_rfl) (by kernel_rfl) (fun _=>Io.start af.out c1.out cw.out bx.out ae) ?_
     iterate 5
      apply Dn (fun _ _ _ h _=>h.plain (by decide)) rfl rfl rfl
      ·intro b a w j f K p
       try have L:=f.fr 4 rfl
       try have h7:=f.fr 7 rfl
       try have dh:=f.eq 2 37 rfl
       try have dg:=f.eq 3 38 rfl
       have q0:=Ab (cz.out _ (j.kept 0 (by decide) (by decide))) 0;simp only[a1v,a0v] at q0;simp only[Oper.wp,execOp];go_simp;exact p _ j trivial
     apply Dn (fun _ _ _ h _=>h.plain (by decide)) rfl rfl rfl
     ·intro b a w j f K p;have df:=f.eq 4 39 rfl;have q0:=(Ab (j.first (f.post 7 (by kernel_rfl))) k).trans X.out;simp only[Oper.wp,execOp];go_simp;exact p _ j trivial
     apply Dn (fun _ _ _ h _=>h.plain (by decide)) rfl rfl rfl
     ·intro b a w j f K p;have h6:=f.fr 6 rfl;simp only[Oper.wp,execOp];go_simp;exact p _ j trivial
     apply Ee (fun _ _=>True) rfl rfl rfl
     ·intro b a w j f K p;have ci:=f.eq 5 40 rfl;have ch:=f.eq 6 41 rfl;refine vY (.tmp 40) (.tmp 41) rfl (w2.heap.size+2) (.slice a3 last.length c3) last (E0 ci) (j.last0 f.self) _ R _ row (E0 ch) (cv.out _ j.fp) (by omega) j.sz ?_;intro v' w' y E h3 L;exact p _ _ (j.append (by decide) f.self y E h3 L (by omega) ct.out) trivial trivial
     apply Dn (fun _ _ _ h _=>h.plain (by decide)) rfl rfl rfl
     ·intro b a w j f K p;have dj:=f.eq 0 35 rfl;have di:=f.eq 1 36 rfl;simp only[Oper.wp,execOp];go_simp;exact p _ j trivial
     apply Kv (fun _=>True) rfl rfl rfl
     ·intro b a w j f K p;have dd:=f.eq 8 43 rfl;have de:=f.dep 7 42 _ (by kernel_rfl) rfl;have h7:=f.pre 7 (by kernel_rfl)
      obtain⟨a2,n2,c2,G⟩:∃a n c,_ =Value.slice a n c:=by obtain⟨a2,c2,G⟩:=(j.res h7).1.sliceL;exact⟨_,_,_,G⟩
      have F:=(f.val 7 42 (by kernel_rfl)).trans G;have t:=j.store (by decide) h7 f.self hg (by omega) rfl;rw[G] at t;have ah:=j.outer;rw[f.self] at ah;simp only[Bool.false_eq_true,if_false] at ah;have f0:=Ar ah k;have q0:=(Ab ah k).trans X.out;simp only[Oper.wp,execOp];go_simp;exact p undef _ t trivial trivial
     refine⟨?_,?_⟩
     ·refine⟨fun _ _ _ _ _=>trivial,?_⟩;refine Gl _ ?_;refine⟨fun _ _ _ _ _=>trivial,?_⟩
      iterate 7 refine Gl _ ?_
      exact trivial
     ·intro w' bb P;simp only[a1u,a2x,a1w,a0u]
      iterate 7 (refine Am ?_)
      refine Ap ?_;intro v7 u7
      iterate 1 (refine Am ?_)
      refine Ap ?_;intro v9 u9;refine A0 ?_;intro j;simp only[Aj,Act.put,a0w,a1z,a1x]
      gi_wp2_with (fail)
      have N:=(Aq.of (z.out.mono (by simp):Fp [w.heap.size+1] W Z) (by simp;omega)).trans (j.kept 221 (by decide) (by decide)) (by simp);have D:=(j.kept 221 (by decide) (by decide)).low (w.heap.size+1) (by omega) (Ac Q.out) (by simp);refine⟨N,⟨⟨_,D.trans Q.out,?_⟩,(N.low _ (by omega) (by omega) (by simp)).trans HI.out.box,j.fp⟩⟩;have a0:=j.done (P 7 (by simp)) (P 9 (by simp)) (by rw[a6.out]) hg b6 ca c4.out cS.out a6.out Y a9.out au.out cy.out;rw[a7.out,wC h0 (by rw[a8.out];exact aq),a8.out,show xs.length-1=k by omega];exact a0
   ·have zf:¬(last.length:Int)+(R:Int)≤(m:Int):=by have:=al.out;omega
    have zw:IntKind.i64.wrap ((last.length:Int)+(R:Int))=(last.length:Int)+(R:Int):=by rw[IntKind.wrap_i64];have:=al.out;omega
    refine bB (by kernel_rfl) (by kernel_rfl) (by kernel_rfl) ?_
    iterate 14
     first|apply Aw rfl rfl rfl|apply Hr 2 23 rfl rfl rfl rfl (by kernel_rfl) rfl rfl
     ·intro a w j f K p
      try have h7:=f.fr 7 rfl
      try have bt:=f.eq 0 21 rfl
      try have br:=f.eq 1 22 rfl
      try have L:=f.fr 4 rfl
      try have cr:=f.eq 3 24 rfl
      try have cq:=f.eq 4 25 rfl
      try have cp:=f.eq 5 26 rfl
      try have co:=f.eq 6 27 rfl
      try have h6:=f.fr 6 rfl
      try have cm:=f.eq 8 29 rfl
      try have cn:=f.eq 7 28 rfl
      try have cl:=f.eq 9 30 rfl
      try have h3:=f.fr 3 rfl
      try have ck:=f.eq 10 31 rfl
      try have cj:=f.eq 11 32 rfl
      try have bq:=f.eq 2 23 rfl
      try have bp:=f.eq 12 33 rfl
      have q0:=Ab ((j.block _ (Ac HV.out) (by simp)).trans HV.out) 0;have q1:=Ab ((j.block _ (Ac HB.out) (by simp)).trans HB.out) 0;have q2:=(Ab ((j.block _ (Ac HH.out) (by simp)).trans HH.out) k).trans X.out;simp only[a1v,a0v] at q0 q1;simp only[Oper.wp,execOp];go_simp;exact p _ j (Fp.refl _ _)
    refine⟨?_,?_⟩
    ·repeat(first|exact trivial|refine B7 _ ?_ |refine⟨fun w1 w2 v _ S ⟨g,y,E⟩=>⟨g,y,(S.block g (Ac E) (by simp)).trans E⟩,?_⟩)
    ·intro w' j;simp only[a1u,a2x,a1w,a0u]
     iterate 14 (refine Am ?_)
     refine A0 ?_;simp only[Aj,Act.put,a0w,a1z,a1x];have z:=a0z j;clear j
     gi_wp2_with (fail)
     have ba:=a0z (fun aa (h:Fp [] w aa)=>Wq aa (some ⟨b,o+xi*6,none⟩) R (cap-xi) row (HQ.out.fp h) (by intro h;cases h) (by omega));have am:=a0z (HO.out.fp z.out (by simp));have Q:=a0z ((z.out.block _ (Ac HV.out) (by simp)).trans HV.out);have af:=a0z (HI.out.fp.trans z.out (by simp));have b0:=a0z ((z.out.block _ (Ac HB.out) (by simp)).trans HB.out);have ae:w2.heap.size+2<=w'.heap.size:=a3x hW z.out.size
     obtain⟨Z,ac⟩:∃x,x=w':=⟨_,rfl⟩
     subst ac;refine Wl (Ep Gu (fun r=>r=row) w Z (w2.heap.size+2) (w.heap.size+1) 149 (fun d v'=>cond d v' (.slice (some ⟨g,0,none⟩) xs.length M)) 2 3 4 5 (.slice (some ⟨g,0,none⟩) xs.length M) xs) (fun _ _=>True) (by kernel_rfl) (by kernel_rfl) (by kernel_rfl) (fun _=>Ep.start am.out Q.out (fun _=>rfl) af.out ae (by omega)) ?_;apply Dn (fun _ _ _ h _=>h.plain (by decide)) rfl rfl rfl
     ·intro b a w j f K p;have L:=f.fr 4 rfl;obtain⟨u1,ax⟩:=j.first (f.post 4 (by kernel_rfl));have q0:=Ab ax 0;simp only[a1v,a0v,cond] at q0;simp only[Oper.wp,execOp];go_simp;exact p _ j trivial
     apply Dn (fun _ _ _ h _=>h.plain (by decide)) rfl rfl rfl
     ·intro b a w j f K p;have h6:=f.fr 6 rfl;simp only[Oper.wp,execOp];go_simp;exact p _ j trivial
     apply Ee (fun _ _=>True) rfl rfl rfl
     ·intro b a w j f K p;have cg:=f.eq 1 45 rfl;simp only[Oper.wp,execOp];go_simp;(with_reducible refine(ba.out _ j.fp).mono ?_);rintro e w4 ⟨vr,rfl,V,S⟩;exact p _ _ (j.call Qa f.self S rfl V) trivial trivial
     apply Ee (fun _ _=>True) rfl rfl rfl
     ·intro b a w j f K p;have cf:=f.dep 2 46 _ (by kernel_rfl) rfl;obtain⟨rr,hg,V,-⟩:=j.res (f.pre 2 (by kernel_rfl)) (f.post 4 (by kernel_rfl));obtain⟨a2,n2,c2,G⟩:=Gu.sl V;have F:=f.val 2 46 (by kernel_rfl);rw[G] at F;have t:=j.build Qa (f.pre 2 (by kernel_rfl)) f.self;rw[G] at t;simp only[Oper.wp,execOp];go_simp;exact p _ _ t trivial trivial
     apply Ee (fun _ _=>True) rfl rfl rfl
     ·intro b a w j f K p;have a4:=f.eq 0 44 rfl;have ce:=f.dep 3 47 _ (by kernel_rfl) rfl;obtain⟨g,aS,aF⟩:=j.bld (f.pre 3 (by kernel_rfl)) f.self;obtain⟨rr,hg,V,hq⟩:=j.res (j.o32 (f.pre 3 (by kernel_rfl))) f.self;refine Yd Gu (.tmp 44) (.tmp 47) rfl _ _ xs (E0 a4) (j.own0 f.self) g _ rr V hq (E0 ((f.val 3 47 (by kernel_rfl)).trans aS)) aF (by omega) j.sz ?_;intro v' w' y E h3;exact p _ _ (j.append Qa (f.pre 3 (by kernel_rfl)) f.self hg y E h3 (by omega) (by omega) (fun _ _=>rfl)) trivial trivial
     apply Kv (fun _=>True) rfl rfl rfl
     ·intro b a w j f K p;have L:=f.fr 4 rfl;have cd:=f.dep 4 48 _ (by kernel_rfl) rfl;obtain⟨rr,-,az⟩:=j.own1 (f.pre 4 (by kernel_rfl))
      obtain⟨a2,n2,c2,G⟩:∃a n c,_ =Value.slice a n c:=by obtain⟨a2,c2,G⟩:=az.slice;exact⟨_,_,_,G⟩
      have F:=(f.val 4 48 (by kernel_rfl)).trans G;have t:=j.store Qa (f.pre 4 (by kernel_rfl)) (by omega) (by omega) rfl;rw[G] at t;simp only[cond_true] at t;have f0:=Ar j.cel 0;have q0:=Ab j.cel 0;simp only[Oper.wp,execOp];go_simp;exact p undef _ t trivial trivial
     refine⟨?_,?_⟩
     ·refine⟨fun _ _ _ _ _=>trivial,?_⟩;refine⟨fun _ _ _ _ _=>trivial,?_⟩;refine⟨fun _ _ _ _ _=>trivial,?_⟩;refine⟨fun _ _ _ _ _=>trivial,?_⟩;refine Gl _ ?_;refine Gl _ ?_;exact trivial
     ·intro w' bb P;simp only[a1u,a2x,a1w,a0u]
      iterate 2 (refine Am ?_)
      refine Ap ?_;intro v2 u2;refine Ap ?_;intro v3 u3;refine Ap ?_;intro v4 u4;refine Ap ?_;intro v5 u5;refine A0 ?_;intro j;simp only[Aj,Act.put,a0w,a1z,a1x]
      gi_wp2_with (fail)
      have D:=j.cel;rw[P 5 (by simp)] at D;obtain⟨r,rfl,ay⟩:=j.own1 (P 4 (by simp));have N:=(Aq.of (z.out.mono (by simp):Fp [w.heap.size+1] W Z) (by simp;omega)).trans (j.keptD 221 (by decide)) (by simp);exact⟨N,⟨⟨_,D,by rw[a7.out,jL (by rw[a8.out];exact fun h=>aq h.2)];exact ay⟩,(N.low _ (by omega) (by omega) (by simp)).trans HI.out.box,j.fp⟩⟩
  ·obtain rfl:xs=[]:=a2w (by omega)
   have b8:(((0:Nat):Int)-1)= -1:=by omega
   gi_wp2_with (fail)
   refine bB (by kernel_rfl) (by kernel_rfl) (by kernel_rfl) ?_
   iterate 3
    apply Aw rfl rfl rfl
    ·intro a w j f K p
     try have h7:=f.fr 7 rfl
     try have bt:=f.eq 0 21 rfl
     try have br:=f.eq 1 22 rfl
     simp only[Oper.wp,execOp];go_simp;exact p _ j (Fp.refl _ _)
   apply An 2 23 rfl rfl rfl rfl (by kernel_rfl) rfl rfl;apply An 2 23 rfl rfl rfl rfl (by kernel_rfl) rfl rfl;apply An 2 23 rfl rfl rfl rfl (by kernel_rfl) rfl rfl;apply An 2 23 rfl rfl rfl rfl (by kernel_rfl) rfl rfl;apply An 2 23 rfl rfl rfl rfl (by kernel_rfl) rfl rfl;apply An 2 23 rfl rfl rfl rfl (by kernel_rfl) rfl rfl;apply An 2 23 rfl rfl rfl rfl (by kernel_rfl) rfl rfl;apply An 2 23 rfl rfl rfl rfl (by kernel_rfl) rfl rfl;apply An 2 23 rfl rfl rfl rfl (by kernel_rfl) rfl rfl;apply An 2 23 rfl rfl rfl rfl (by kernel_rfl) rfl rfl;apply Aw rfl rfl rfl
   ·intro a w j f K p;have bq:=f.eq 2 23 rfl;have bp:=f.eq 12 33 rfl;simp only[Oper.wp,execOp];go_simp;exact p _ j (Fp.refl _ _)
   refine⟨?_,?_⟩
   ·repeat(first|exact trivial|refine B7 _ ?_ |refine⟨fun w1 w2 v _ S ⟨g,y,E⟩=>⟨g,y,(S.block g (Ac E) (by simp)).trans E⟩,?_⟩)
   ·intro w' j;simp only[a1u,a2x,a1w,a0u]
    iterate 14 (refine Am ?_)
    refine A0 ?_;simp only[Aj,Act.put,a0w,a1z,a1x];have z:=a0z j;clear j
    gi_wp2_with (fail)
    have ba:=a0z (fun aa (h:Fp [] w aa)=>Wq aa (some ⟨b,o+xi*6,none⟩) R (cap-xi) row (HQ.out.fp h) (by intro h;cases h) (by omega));have am:=a0z (HO.out.fp z.out (by simp));have Q:=a0z ((z.out.block _ (Ac HV.out) (by simp)).trans HV.out);have af:=a0z (HI.out.fp.trans z.out (by simp));have b0:=a0z ((z.out.block _ (Ac HB.out) (by simp)).trans HB.out);have ae:w2.heap.size+2<=w'.heap.size:=a3x hW z.out.size
    obtain⟨Z,ac⟩:∃x,x=w':=⟨_,rfl⟩
    subst ac;refine Wl (Ep Gu (fun r=>r=row) w Z (w2.heap.size+2) (w.heap.size+1) 149 (fun d v'=>cond d v' (.slice T 0 M)) 2 3 4 5 (.slice T 0 M) []) (fun _ _=>True) (by kernel_rfl) (by kernel_rfl) (by kernel_rfl) (fun _=>Ep.start am.out Q.out (fun _=>rfl) af.out ae (by omega)) ?_;apply Dn (fun _ _ _ h _=>h.plain (by decide)) rfl rfl rfl
    ·intro b a w j f K p;have L:=f.fr 4 rfl;obtain⟨u1,ax⟩:=j.first (f.post 4 (by kernel_rfl));have q0:=Ab ax 0;simp only[a1v,a0v,cond] at q0;simp only[Oper.wp,execOp];go_simp;exact p _ j trivial
    apply Dn (fun _ _ _ h _=>h.plain (by decide)) rfl rfl rfl
    ·intro b a w j f K p;have h6:=f.fr 6 rfl;simp only[Oper.wp,execOp];go_simp;exact p _ j trivial
    apply Ee (fun _ _=>True) rfl rfl rfl
    ·intro b a w j f K p;have cg:=f.eq 1 45 rfl;simp only[Oper.wp,execOp];go_simp;(with_reducible refine(ba.out _ j.fp).mono ?_);rintro e w4 ⟨vr,rfl,V,S⟩;exact p _ _ (j.call Qa f.self S rfl V) trivial trivial
    apply Ee (fun _ _=>True) rfl rfl rfl
    ·intro b a w j f K p;have cf:=f.dep 2 46 _ (by kernel_rfl) rfl;obtain⟨rr,hg,V,-⟩:=j.res (f.pre 2 (by kernel_rfl)) (f.post 4 (by kernel_rfl));obtain⟨a2,n2,c2,G⟩:=Gu.sl V;have F:=f.val 2 46 (by kernel_rfl);rw[G] at F;have t:=j.build Qa (f.pre 2 (by kernel_rfl)) f.self;rw[G] at t;simp only[Oper.wp,execOp];go_simp;exact p _ _ t trivial trivial
    apply Ee (fun _ _=>True) rfl rfl rfl
    ·intro b a w j f K p;have a4:=f.eq 0 44 rfl;have ce:=f.dep 3 47 _ (by kernel_rfl) rfl;obtain⟨g,aS,aF⟩:=j.bld (f.pre 3 (by kernel_rfl)) f.self;obtain⟨rr,hg,V,hq⟩:=j.res (j.o32 (f.pre 3 (by kernel_rfl))) f.self;refine Yd Gu (.tmp 44) (.tmp 47) rfl _ (.slice T 0 M) [] (E0 a4) (j.own0 f.self) g _ rr V hq (E0 ((f.val 3 47 (by kernel_rfl)).trans aS)) aF (by simp) j.sz ?_;intro v' w' y E h3;exact p _ _ (j.append Qa (f.pre 3 (by kernel_rfl)) f.self hg y E h3 (by omega) (by omega) (fun _ _=>rfl)) trivial trivial
    apply Kv (fun _=>True) rfl rfl rfl
    ·intro b a w j f K p;have L:=f.fr 4 rfl;have cd:=f.dep 4 48 _ (by kernel_rfl) rfl;obtain⟨rr,-,az⟩:=j.own1 (f.pre 4 (by kernel_rfl))
     obtain⟨a2,n2,c2,G⟩:∃a n c,_ =Value.slice a n c:=by obtain⟨a2,c2,G⟩:=az.slice;exact⟨_,_,_,G⟩
     have F:=(f.val 4 48 (by kernel_rfl)).trans G;have t:=j.store Qa (f.pre 4 (by kernel_rfl)) (by omega) (by omega) rfl;rw[G] at t;simp only[cond_true] at t;have f0:=Ar j.cel 0;have q0:=Ab j.cel 0;simp only[Oper.wp,execOp];go_simp;exact p undef _ t trivial trivial
    refine⟨?_,?_⟩
    ·refine⟨fun _ _ _ _ _=>trivial,?_⟩;refine⟨fun _ _ _ _ _=>trivial,?_⟩;refine⟨fun _ _ _ _ _=>trivial,?_⟩;refine⟨fun _ _ _ _ _=>trivial,?_⟩;refine Gl _ ?_;refine Gl _ ?_;exact trivial
    ·intro w' bb P;simp only[a1u,a2x,a1w,a0u]
     iterate 2 (refine Am ?_)
     refine Ap ?_;intro v2 u2;refine Ap ?_;intro v3 u3;refine Ap ?_;intro v4 u4;refine Ap ?_;intro v5 u5;refine A0 ?_;intro j;simp only[Aj,Act.put,a0w,a1z,a1x]
     gi_wp2_with (fail)
     have D:=j.cel;rw[P 5 (by simp)] at D;obtain⟨r,rfl,ay⟩:=j.own1 (P 4 (by simp));have N:=(Aq.of (z.out.mono (by simp):Fp [w.heap.size+1] W Z) (by simp;omega)).trans (j.keptD 221 (by decide)) (by simp);exact⟨N,⟨⟨_,D,by rw[a7.out,jL (by simp)];exact ay⟩,(N.low _ (by omega) (by omega) (by simp)).trans HI.out.box,j.fp⟩⟩
 ·rintro xs W rfl hI p;obtain⟨v,F,ho⟩:=hI.ex;obtain⟨T,M,rfl⟩:=ho.slice;have HI:=a0z hI;have HK:=a0z p
  obtain⟨vn,bd⟩:∃vn,(Lc m l (Eh l 0 0)).length=vn:=⟨_,rfl⟩
  rw[bd] at F ho;have q0:W.cell? ⟨w.heap.size+1,0,none⟩=some (.slice T vn M):=Ab F 0;have f0:W.frozen? ⟨w.heap.size+1,0,none⟩=false:=Ar F 0;have HV:=a0z F;have HO:=a0z ho;clear hI p F ho bd
  gi_wp2_with (fail)
  have aj:Fp [w.heap.size+1] W (W.setCell ⟨w.heap.size+1,0,none⟩ (.slice T vn M)):=Fp.setCell W ⟨w.heap.size+1,0,none⟩ (.slice T vn M);have L:(W.setCell ⟨w.heap.size+1,0,none⟩ (.slice T vn M)).heap[w.heap.size+1]?=some (.cells #[.slice T vn M] 149 (0,0)):=(Bd HV.out _).trans rfl
  obtain⟨wa,b4⟩:∃wa,W.setCell ⟨w.heap.size+1,0,none⟩ (.slice T vn M)=wa:=⟨_,rfl⟩
  rw[b4] at aj L ⊢;have b9:wa.heap[w2.heap.size]?=some (.deferred (some [])):=(aj.block _ (Ac HK.out) (by simp;omega)).trans HK.out;have hp:=Fp.putObj wa w2.heap.size (.deferred none);refine⟨by simp,.inl ⟨_,_,rfl,run_takeDeferred b9,?_⟩⟩;have c0:(wa.putObj w2.heap.size (.deferred none)).cell? ⟨w.heap.size+1,0,none⟩=some (.slice T vn M):=Ab ((hp.block _ (Ac L) (by simp;omega)).trans L) 0;have b7:=(HO.out.fp aj (by simp;omega)).fp hp (by simp);refine⟨.tuple #[.slice T vn M,.int .i64 0],by simp[results,Tryz.results89,go_sem,c0],.slice T vn M,rfl,?_,((HI.out.fp.trans aj (by intro i hi;right;simp at hi;omega)).trans hp (by intro i hi;right;simp at hi;omega))⟩;exact b7.mono (by omega)
theorem wN(w:World)(a:Option Addr)(n cap:Nat)(m:Int)(b:m<1):Calls Tryz.prog 89 #[.slice a n cap,.int .i64 m] w fun e w'=>e=.returned (.tuple #[.slice none 0 0,.int .i64 1])/\Fp [] w w':=by
 go_enter Tryz.func89,Tryz.ntmps89;go_wp2_with (fail);refine bodyPost_ret (v:=.tuple #[.slice none 0 0,.int .i64 1]) (by simp[results,Tryz.results89,go_sem]) rfl ?_;exact⟨rfl,(Fp.alloc _ _).alloc' _⟩
end
section
open Go.RowKit Go.Lib
def jR:Ho (Nat ×(Option Addr × Nat × Nat)) where
 e:=106
 k:=2
 enc:=fun x=>[.int .i64 x.1,.slice x.2.1 x.2.2.1 x.2.2.2]
 len:=fun _=>rfl
 pos:=by decide
 one:=by
  intro x v hv;simp only[List.mem_cons,List.not_mem_nil,or_false] at hv
  rcases hv with rfl|rfl<;>rfl
theorem Tryz.infoPc:(Tryz.prog.info? 106).map (fun i=>(i.zero,i.size,i.bytes))=some (some (.agg #[.int .i64 0,.slice none 0 0]),2,32):=by kernel_rfl
def jS(h:Nat ×(Option Addr × Nat × Nat)):Value:=.slice h.2.1 h.2.2.1 h.2.2.2
def Gi(W:World)(base:Nat)(v:Value)(ps:List (Nat × List Aa)):Prop:=∃hs,Ae jR W base v hs/\Dx (fun h x=>h.1=x.1/\Ao W base (jS h) x.2) hs ps
theorem Gi.nil(W:World)(base:Nat):Gi W base (.slice none 0 0) []:=⟨[],Ae.nil _ _,.nil⟩
theorem Gi.mono{W:World}{base a:Nat}{v:Value}{ps:List (Nat × List Aa)}(h:Gi W base v ps)(b:a<=base):Gi W a v ps:=by
 obtain⟨d,g,f⟩:=h;exact⟨d,g.mono b,Md (fun _ _ h=>⟨h.1,h.2.mono b⟩) f⟩
theorem Gi.fp{W W':World}{base:Nat}{S:List Nat}{v:Value}{ps:List (Nat × List Aa)}(h:Gi W base v ps)(a:Fp S W W')(b:∀k∈S,k<base):Gi W' base v ps:=by
 obtain⟨d,g,f⟩:=h;exact⟨d,g.fp a b,Md (fun _ _ h=>⟨h.1,h.2.fp a b⟩) f⟩
theorem Gi.slice{W:World}{base:Nat}{v:Value}{ps:List (Nat × List Aa)}(h:Gi W base v ps):∃a cap,v=.slice a ps.length cap:=by
 obtain⟨f,d,b⟩:=h;obtain⟨a,cap,e,_⟩:=d.len;exact⟨a,cap,by rw[e,b.length_eq]⟩
theorem Ae.typed{α:Type}{R:Ho α}{w:World}{base:Nat}{v:Value}{l:List α}(h:Ae R w base v l):∀q,v.ownBlock=some q→base≤q∧∃c f,w.heap[q]?=some (.cells c R.e f):=by
 intro q a
 rcases h.2 with⟨rfl,_⟩|⟨g,cap,i,rfl,d,b,_⟩
 ·cases a
 ·obtain rfl:g=q:=by simpa [Value.ownBlock] using a
  exact⟨d,_,_,b⟩
theorem D4.keptD{W W':World}{base a:Nat}{v:Value}{xs:List (List Aa)}(h:D4 Gu W base v xs)(u:a≤base)(n:Aq 80 a [] W W')(d:Aq 78 a [] W W'):D4 Gu W' base v xs:=by
 obtain⟨b,j,t,s⟩:=h;refine⟨b,?_,Md (fun _ _ h=>h.kept fun q m=>?_) t,s⟩
 ·refine⟨j.1,?_⟩
  rcases j.2 with r|⟨g,cap,f,k,o,i,l⟩
  ·exact Or.inl r
  ·exact Or.inr ⟨g,cap,f,k,o,(d.high g _ _ (by omega) i).trans i,l⟩
 ·obtain⟨w,c,x,p⟩:=h.typed q m;exact n.high q _ _ (by omega) p
theorem wO{w:World}{d:Array Oper}{rest:List Oper}{o:Oper}{a:Act}{Q:Exit→Act→World→Prop}(m:o.guard=none)(s x:Operand)
  (C:o.op=.call {callee:=.builtin .append,args:=#[s,x],argTypes:=#[102,102]})(base:Nat)(v:Value)(ps:List (Nat × List Aa))(A:a.eval s=v)(f:Gi w base v ps)
  (g i n c:Nat)(l:Option Addr)(r:List Aa)(B:Ao w base (.slice l n c) r)(z:a.eval x=.slice (some ⟨g,0,none⟩) 1 1)(E:w.heap[g]?=some (.cells #[.int .i64 i,.slice l n c] 106 (0,0)))(q:ps.length+1<=1000000000)(b:base<=w.heap.size)
  (h:∀k w',Gi w' base k (ps++[(i,r)])->Below base w w'->(∀D,D≠106->Aq D base [] w w')->wpList Tryz.prog d Q rest (a.put o.dst k) w'):wpList Tryz.prog d Q (o::rest) a w:=by
 obtain⟨p,y,u⟩:=f;have K:=u.length_eq;refine Yl (R:=jR) 102 Tryz.underlying102 Tryz.infoPc rfl (by decide) m s x C base v p A y _ 1 1 [(i,l,n,c)] z (Cf.one (x:=(i,l,n,c)) E) (by intro h;cases h) (by simp;omega) b ?_;intro k w' J I G
 have t:∀D,D≠106->Aq D base [] w w':=fun D F=>aZ y.typed G F
 have j:=t 80 (by decide);exact h k w' ⟨_,J,Uk (Md (fun _ _ h=>⟨h.1,h.2.keptT j⟩) u) ⟨rfl,B.keptT j⟩⟩ I t
def Hy(most:Nat)(out:List (List Aa))(k:Nat):List (Nat × List Aa):=(List.range k).flatMap fun i=>(Ld (out.getD i []) most).map fun r=>(i,r)
def Hg(most:Nat)(out:List (List Aa)):List (Nat × List Aa):=Hy most out out.length
theorem Ti(a:Nat)(b:List (List Aa))(k:Nat):Hy a b (k+1)=Hy a b k++(Ld (b.getD k []) a).map fun r=>(k,r):=by
 unfold Hy;rw[List.range_succ,List.flatMap_append];simp
theorem jT(l:List Aa)(a:Nat):(Ld l a).length<=l.length:=by
 have d:=jP a l (Eh l 0 0);have b:=X4 l 0 0;unfold Ld;omega
theorem bC(b:Nat)(a:List (List Aa)):∀k,k≤a.length→(Hy b a k).length≤(a.take k).flatten.length
 |0,_=>by simp[Hy]
 |k+1,h=>by
  have f:=bC b a k (by omega);have d:=jT (a.getD k []) b;rw[Ti,a2v,List.length_map,List.take_add_one,List.flatten_append,a2v,a2z (by omega)];rw[a0x,a2z (by omega)] at d ⊢;simp only[Option.getD_some] at d ⊢;simp only[Option.toList_some,List.flatten_cons,List.flatten_nil,List.append_nil];omega
theorem Gf.flat{l:List Aa}{bs:List ByteArray}{a:List (List Aa)}(h:Gf l bs a):a.flatten=l:=by
 induction h with
 |nil=>simp
 |cons l s bs a h _ _ _ _ ih=>rw[List.flatten_cons,ih,List.take_append_drop]
theorem Gf.count{l:List Aa}{bs:List ByteArray}{a:List (List Aa)}(h:Gf l bs a):a.length=bs.length+1:=by
 induction h with
 |nil=>rfl
 |cons l s bs a h _ _ _ _ ih=>rw[a3z,ih,a3z]
theorem jU{l:List Aa}(h:risC l=true)(j:Nat)(a:j<l.length):I1 l j=false:=by
 cases hb:I1 l j
 ·rfl
 ·rw[aO a hb] at h;cases h
theorem bD{l:List Aa}(h:risC l=true)(n:Nat):risC (l.take n)=true:=by
 refine Vi fun j b=>?_
 rw[List.length_take] at b;have a:=jU h j (by omega);unfold I1 at a ⊢;rw[a0x,a0x,a2u,a2u,if_pos (by omega),if_pos (by omega)];rw[a0x,a0x] at a;exact a
theorem X7{l:List Aa}(h:risC l=true)(n:Nat):risC (l.drop n)=true:=by
 refine Vi fun j b=>?_
 rw[List.length_drop] at b
 rcases Nat.eq_zero_or_pos j with rfl|d
 ·rfl
 have a:=jU h (n+j) (by omega);unfold I1 at a ⊢;rw[decide_eq_true (by omega),Bool.true_and] at a ⊢;rw[a0x,a0x,List.getElem?_drop,List.getElem?_drop,show n+(j-1)=n+j-1 by omega];rw[a0x,a0x] at a;exact a
theorem Gf.ris{l:List Aa}{bs:List ByteArray}{a:List (List Aa)}(h:Gf l bs a):risC l=true→∀x∈a,risC x=true:=by
 induction h with
 |nil=>
  intro h x b;rw[List.mem_singleton.1 b];exact h
 |cons l s bs a h _ _ _ _ ih=>
  intro d x b
  rcases List.mem_cons.1 b with rfl|b
  ·exact bD d _
  ·exact ih (X7 d _) x b
theorem Ao.at5{w:World}{base:Nat}{v:Value}{l:List Aa}(h:Ao w base v l)(b:∀c∈l,B3 c):∃a cap,v=.slice a l.length cap/\l.length<=cap/\(a=none->cap=0)/\Bh w a l.length l:=by
 obtain⟨a,cap,e,j,i⟩:=h.at2 b;refine⟨a,cap,e,?_,j,i⟩
 rcases h.2 with⟨d,m⟩|⟨g,n,k,d,_,_,f,_⟩
 ·omega
 ·rw[e] at d;cases d;exact f
end
end Go.Proofs.YtkagolpnaicdoaaGreatDoor
