/-
 The document's layer 8: Resolve.
-/
import Derived.Test.YtkagolpnaicdoaaGreatDoorPPlc
set_option maxRecDepth 100000
set_option maxHeartbeats 8000000
open Go.Lib renaming hid->a0z
open List renaming setIfInBounds_toArray->a0x,set_cons_succ->a0w,set_cons_zero->a0v,reverse_cons->a0u,reverse_nil->a1z,cons_append->a1x,nil_append->a1w,length_take->a1v,length_nil->a1u,getElem_mem->a2z,length_cons->a2x
namespace Go.Proofs.YtkagolpnaicdoaaGreatDoor
open Go.RowKit Go.Lib
theorem Wc{w:World}{b o:Nat}{x:Ad}(h:O4 Fg w b o x):w.cell? ⟨b,o,none⟩=some (.string x.c.row)/\w.cell? ⟨b,o+1,none⟩=some (.string x.c.col)/\w.cell? ⟨b,o+2,none⟩=some (.int .u64 x.c.ts)/\w.cell? ⟨b,o+3,none⟩=some (.int .u64 x.c.seq)/\w.cell? ⟨b,o+4,none⟩=some (.bool x.c.del)/\w.cell? ⟨b,o+5,none⟩=some (.string x.c.val)/\w.cell? ⟨b,o+6,none⟩=some (.int .i64 x.pos):=
 ⟨h 0 _ rfl,h 1 _ rfl,h 2 _ rfl,h 3 _ rfl,h 4 _ rfl,h 5 _ rfl,h 6 _ rfl⟩
def RQ(i:Nat)(w w':World):Prop:=(i=4->∃g,w.heap[g]?=some (.cells #[] 94 (0,0))/\w.grownBy w' (some g))/\(i≠4->i≠10->i≠14->Fp [] w w')
theorem RQ.calm{i:Nat}{w w':World}(a:i≠4)(h:Fp [] w w'):RQ i w w':=⟨fun e=>absurd e a,fun _ _ _=>h⟩
def T0(B:Nat):BS:=fun b w v=>b 4=true∨b 10=true∨b 14=true∨∃g,v=.slice (some ⟨g,0,none⟩) 0 0/\B<=g/\w.heap[g]?=some (.cells #[] 94 (0,0))
def T4(B:Nat)(l:List Ad):BS:=fun b w v=>b 10=true∨b 14=true∨Ae Fg w B v l
def T9(x:Ad):BS:=fun b w v=>b 10=true∨b 14=true∨∃g,v=.slice (some ⟨g,0,none⟩) 1 1/\w.heap[g]?=some (.cells (Jo x).toArray 94 (0,0))
def We(B:Nat)(l:List Ad):BS:=fun b w v=>b 14=true∨Ae Fg w B v l
def Ru(B:Nat)(l:List Ad):BS:=fun _ w v=>Ae Fg w B v l
section
variable {ops : List Oper} {b : Nat -> Bool} {i B : Nat} {w w' : World} {v : Value} {l : List Ad} {x : Ad}
theorem T0.stab(h:J5 ops b i)(n:RQ i w w')(m:T0 B b w v):T0 B (Ah b i) w' v:=by
 rcases m with a|a|a|⟨g,e,o,j⟩
 ·exact Or.inl (Ji a)
 ·exact Or.inr (Or.inl (Ji a))
 ·exact Or.inr (Or.inr (Or.inl (Ji a)))
 ·by_cases k:i=4
  ·subst k;exact Or.inl (Qi _ _)
  ·by_cases f:i=10
   ·subst f;exact Or.inr (Or.inl (Qi _ _))
   ·by_cases d:i=14
    ·subst d;exact Or.inr (Or.inr (Or.inl (Qi _ _)))
    ·exact Or.inr (Or.inr (Or.inr ⟨g,e,o,((n.2 k f d).block g (Ac j) (by simp)).trans j⟩))
theorem T4.stab(h:J5 ops b i)(g:b 4=true)(k:RQ i w w')(j:T4 B l b w v):T4 B l (Ah b i) w' v:=by
 rcases j with a|a|a
 ·exact Or.inl (Ji a)
 ·exact Or.inr (Or.inl (Ji a))
 ·by_cases f:i=10
  ·subst f;exact Or.inl (Qi _ _)
  ·by_cases d:i=14
   ·subst d;exact Or.inr (Or.inl (Qi _ _))
   ·have m:i≠4:=fun e=>by subst e;rw[h.self] at g;cases g
    exact Or.inr (Or.inr (a.fp (k.2 m f d) (by simp)))
theorem T9.stab(h:J5 ops b i)(j:RQ i w w')(n:T9 x b w v):T9 x (Ah b i) w' v:=by
 rcases n with a|a|⟨g,e,a⟩
 ·exact Or.inl (Ji a)
 ·exact Or.inr (Or.inl (Ji a))
 ·by_cases f:i=10
  ·subst f;exact Or.inl (Qi _ _)
  ·by_cases d:i=14
   ·subst d;exact Or.inr (Or.inl (Qi _ _))
   ·by_cases m:i=4
    ·obtain⟨q,p,o⟩:=j.1 m;refine Or.inr (Or.inr ⟨g,e,(o.block g (Ac a) fun e=>?_).trans a⟩);obtain rfl:=Option.some.inj e;have k:w.heap[g]?=_ :=a;rw[p] at k;cases k
    ·exact Or.inr (Or.inr ⟨g,e,((j.2 m f d).block g (Ac a) (by simp)).trans a⟩)
theorem We.stab(h:J5 ops b i)(m:J1 ops 10 4=true)(f:b 10=true)(k:RQ i w w')(j:We B l b w v):We B l (Ah b i) w' v:=by
 rcases j with d|d
 ·exact Or.inl (Ji d)
 ·by_cases a:i=14
  ·subst a;exact Or.inl (Qi _ _)
  ·have g:i≠10:=fun e=>by subst e;rw[h.self] at f;cases f
   have n:i≠4:=fun e=>by subst e;have:=h.closed 10 4 f m;rw[h.self] at this;cases this
   exact Or.inr (d.fp (k.2 n g a) (by simp))
theorem Ru.stab(h:J5 ops b i)(o:J1 ops 10 4=true)(n:J1 ops 14 10=true)(d:b 14=true)(m:RQ i w w')(k:Ru B l b w v):Ru B l (Ah b i) w' v:=by
 have a:=h.closed 14 10 d n;have j:=h.closed 10 4 a o
 have f:i≠14:=fun e=>by subst e;rw[h.self] at d;cases d
 have g:i≠10:=fun e=>by subst e;rw[h.self] at a;cases a
 have p:i≠4:=fun e=>by subst e;rw[h.self] at j;cases j
 exact Ae.fp k (m.2 p g f) (by simp)
theorem oP(h:J5 ops b i){j k:Nat}(a:J1 ops j k=true)(d:b k=false):b j=false:=by
 cases e:b j with
 |false=>rfl
 |true=>have:=h.closed j k e a;rw[d] at this;cases this
end
theorem Ae.emptyQ{w:World}{base g:Nat}(a:base<=g)(h:w.heap[g]?=some (.cells #[] 94 (0,0))):Ae Fg w base (.slice (some ⟨g,0,none⟩) 0 0) []:=
 ⟨rfl,Or.inr ⟨g,0,#[],rfl,a,h,Nat.le_refl _,Nat.zero_le _,rfl,rfl⟩⟩
structure Ad6(out:List Ad)(x:Ad)(m:Nat):Prop where
 le:m<=out.length
 lt:∀i (hi:i<out.length),i<m->Bt out[i] x<0
 at_:∀hm:m<out.length,Ba out[m] x=true∨0<Bt out[m] x
theorem Ad7(w:World)(a:Option Addr)(n cap:Nat)(l:List Ad)(hl:Cf Fg w a n l)(bj:Ce l)(hn:n≤100000):
  Calls Tryz.prog 41 #[.slice a n cap] w fun e w'=>∃(v:Value) (r:List Ad),e=.returned v/\Bv l r/\Ae Fg w' w.heap.size v r/\Fp [] w w':=by
 have HL:=a0z hl;have ce:=a0z hl.len;have ca:=a0z bj;clear hl bj;go_enter Tryz.func41,Tryz.ntmps41;go_wp2_with (fail)
 go_loopg [3,4] n (fun gg va vi wr=>∃k g c o,gg+k=n/\va=.slice (some ⟨g,0,none⟩) (o:List Ad).length c/\vi=.int .i64 (k:Nat)/\Bv (l.take k) o/\o.length<=k/\Ae Fg wr w.heap.size va o/\Fp [] w wr)
 case atStart=>exact⟨0,w.heap.size,0,[],by omega,rfl,rfl,by rw[List.take_zero];exact Bv.nil,Nat.le_refl _,Ae.made _ _ (Nat.le_refl _),Fp.alloc _ _⟩
 case round=>
  obtain⟨k,g,c,o,hg,rfl,rfl,aq,dn,ho,D⟩:=hrel;have HR:=a0z aq;have HO:=a0z ho;have HF:=a0z D
  have dp:o.length<=c:=by
   obtain⟨a2,c2,e2,-,G⟩:=ho.len;cases e2;exact G
  have cn:w.heap.size<=wr.heap.size:=HF.out.size;clear aq ho D
  by_cases hk:k<n
  ·have zk:(k:Int)<(n:Int):=by omega
   have am:k<l.length:=by rw[<-ce.out];exact hk
   obtain⟨b1,o1,rfl,cp,U⟩:=HL.out.get am
   obtain⟨x,hx⟩:∃x,l[k]=x:=⟨_,rfl⟩
   rw[hx] at U;have b5:=a0z (show l.take (k+1)=l.take k++[x] by rw[List.take_succ_eq_append_getElem am,hx]);have b4:Hid (Cd x):=a0z (by rw[<-hx];exact ca.out _ (a2z am));have bd:Hid (Ce (l.take k)):=a0z (fun y hy=>ca.out y (List.mem_of_mem_take hy));have bf:Hid (Ce o):=a0z (fun y hy=>bd.out y (HR.out.sub y hy));have Z:=a0z (fun w' (h:Fp [] w w')=>Wc (U w' h));simp only[show Fg.k=7 from rfl] at Z;obtain⟨⟨u,C,t,xs,A,s⟩,E⟩:=x;simp only at Z;clear U hx am cp
   obtain⟨wo,ch⟩:∃x,x=wr:=⟨_,rfl⟩
   subst ch
   go_upto_block 2 with(fail)
   go_cut [5] from 13 to 44 (fun v5 wx=>∃m:Nat,v5=.int .i64 m/\Ad6 o ⟨⟨u,C,t,xs,A,s⟩,E⟩ m/\Fp [] wo wx)
   case first=>
    go_wp2_with (fail)
    go_loopg [5] o.length (fun g2 vm w2=>∃m:Nat,g2+m=o.length/\vm=.int .i64 m/\(∀i (hi:i<o.length),i<m->Bt o[i] ⟨⟨u,C,t,xs,A,s⟩,E⟩<0)/\Fp [] wo w2)
    case atStart=>exact⟨0,by omega,rfl,fun i _ h=>absurd h (Nat.not_lt_zero _),Fp.refl _ _⟩
    case round=>
     obtain⟨m,dt,rfl,bm,bp⟩:=hrel;have ap:=a0z bm;have P:=a0z bp;clear bm bp
     by_cases Q:m<o.length
     ·have zm:(m:Int)<(o.length:Int):=by omega
      have F:=fun w' (h:Fp [] wo w')=>Wc ((HO.out.fp h (by simp)).elem Q).1
      simp only[show Fg.k=7 from rfl] at F;have a9:Hid (Cd o[m]):=a0z (bf.out _ (a2z Q))
      obtain⟨y,hy⟩:∃y,o[m]=y:=⟨_,rfl⟩
      have HY:=a0z hy;rw[hy] at F a9;have T:=Oo y ⟨⟨u,C,t,xs,A,s⟩,E⟩;have S:Ba y ⟨⟨u,C,t,xs,A,s⟩,E⟩=I7 y.c ⟨u,C,t,xs,A,s⟩:=rfl;have I:=K9 y ⟨⟨u,C,t,xs,A,s⟩,E⟩;have M:=a0z (fun w=>oO y ⟨⟨u,C,t,xs,A,s⟩,E⟩ w);have L:=a0z (fun w=>iR y.c ⟨u,C,t,xs,A,s⟩ w)
      obtain⟨ci,ai⟩:∃z,D2 y ⟨⟨u,C,t,xs,A,s⟩,E⟩=z:=⟨_,rfl⟩
      obtain⟨sc,ae⟩:∃z,I7 y.c ⟨u,C,t,xs,A,s⟩=z:=⟨_,rfl⟩
      rw[ai] at M T;rw[ae] at L S;have ak:=a0z S
      have be:Hid ((ci<0→sc=false→Bt y ⟨⟨u,C,t,xs,A,s⟩,E⟩<0)∧(¬ci<0→sc=false→0<Bt y ⟨⟨u,C,t,xs,A,s⟩,E⟩)):=a0z (by
       rw[S] at I;constructor
       ·intro N G
        have Y:¬Bt y ⟨⟨u,C,t,xs,A,s⟩,E⟩=0:=fun h=>by rw[G] at I;exact absurd (I.2 h) (by decide)
        rcases T with⟨_,W⟩|⟨W,_⟩
        ·omega
        ·exact absurd W Y
       ·intro N G
        have Y:¬Bt y ⟨⟨u,C,t,xs,A,s⟩,E⟩=0:=fun h=>by rw[G] at I;exact absurd (I.2 h) (by decide)
        rcases T with⟨h5,W⟩|⟨W,_⟩
        ·omega
        ·exact absurd W Y)
      have O:=a0z F;obtain⟨⟨yr,yc,yt,ys,yd,yv⟩,yp⟩:=y;unfold Ik Jo at M;unfold Bm at L;simp only at M L O;clear F T S I ai ae hy
      by_cases ah:ci<0
      ·cases sc
       ·have HK:=a0z (be.out.1 ah rfl);go_wp2_with (fail);refine C9 (by kernel_rfl) (by kernel_rfl) ?_
        iterate 30
         first|apply Aw rfl rfl rfl|apply Hr 4 17 rfl rfl rfl rfl (by kernel_rfl) rfl rfl|apply Hr 16 29 rfl rfl rfl rfl (by kernel_rfl) rfl rfl
         ·intro a w f d K p
          try have h5:=d.fr 5 rfl
          try have Y:=d.fr 3 rfl
          try have a7:=d.eq 1 14 rfl
          try have a8:=d.eq 0 13 rfl
          try have a6:=d.eq 2 15 rfl
          try have a5:=d.eq 3 16 rfl
          try have b3:=d.eq 5 18 rfl
          try have b2:=d.eq 6 19 rfl
          try have b0:=d.eq 7 20 rfl
          try have X:=d.fr 0 rfl
          try have W:=d.fr 4 rfl
          try have bx:=d.eq 9 22 rfl
          try have bw:=d.eq 10 23 rfl
          try have bv:=d.eq 11 24 rfl
          try have bz:=d.eq 8 21 rfl
          try have bt:=d.eq 12 25 rfl
          try have br:=d.eq 13 26 rfl
          try have a4:=d.eq 4 17 rfl
          try have a3:=d.eq 14 27 rfl
          try have a1:=d.eq 15 28 rfl
          try have dc:=d.eq 17 30 rfl
          try have db:=d.eq 18 31 rfl
          try have da:=d.eq 19 32 rfl
          try have c9:=d.eq 20 33 rfl
          try have c6:=d.eq 22 35 rfl
          try have c5:=d.eq 23 36 rfl
          try have c4:=d.eq 24 37 rfl
          try have c3:=d.eq 25 38 rfl
          try have c8:=d.eq 21 34 rfl
          try have c1:=d.eq 26 39 rfl
          try have c0:=d.eq 27 40 rfl
          try have a0:=d.eq 16 29 rfl
          try have aS:=d.eq 28 41 rfl
          obtain⟨y0,y1,y2,y3,y4,y5,y6⟩:=O.out _ (P.out.trans f (by simp));obtain⟨x0,x1,x2,x3,x4,x5,x6⟩:=Z.out _ ((HF.out.trans P.out (by simp)).trans f (by simp));simp only[Oper.wp,execOp];go_simp
          first
          |exact p _ f (Fp.refl _ _)
          |first
            |((with_reducible refine(M.out _).mono ?_);rintro e w2 ⟨rfl,D⟩;exact p _ (f.trans D (by simp)) D)
            |((with_reducible refine(L.out _).mono ?_);rintro e w2 ⟨rfl,D⟩;exact p _ (f.trans D (by simp)) D)
        refine⟨?_,?_⟩
        ·repeat(first|exact trivial|refine B7 _ ?_ |refine⟨fun w1 w2 v _ D ⟨g,N,G⟩=>⟨g,N,(D.block g (Ac G) (by simp)).trans G⟩,?_⟩)
        ·intro w' f;simp only[a0u,a1z,a1w,a1x]
         iterate 30 (refine Am ?_)
         refine A0 ?_;simp only[Aj,Act.put,a0x,a0w,a0v];have aa:=a0z (P.out.trans f (by simp));clear f;go_wp2_with (fail)
         go_roundg (gk-1)
         case measure=>omega
         case rel=>
          refine⟨m+1,by omega,by go_num,fun i hi h=>?_,aa.out⟩
          by_cases e:i=m
          ·subst e;rw[HY.out];exact HK.out
          ·exact ap.out i hi (by omega)
       ·go_wp2_with (fail);refine C9 (by kernel_rfl) (by kernel_rfl) ?_
        iterate 30
         first|apply Aw rfl rfl rfl|apply Hr 4 17 rfl rfl rfl rfl (by kernel_rfl) rfl rfl|apply Hr 16 29 rfl rfl rfl rfl (by kernel_rfl) rfl rfl
         ·intro a w f d K p
          try have h5:=d.fr 5 rfl
          try have Y:=d.fr 3 rfl
          try have a7:=d.eq 1 14 rfl
          try have a8:=d.eq 0 13 rfl
          try have a6:=d.eq 2 15 rfl
          try have a5:=d.eq 3 16 rfl
          try have b3:=d.eq 5 18 rfl
          try have b2:=d.eq 6 19 rfl
          try have b0:=d.eq 7 20 rfl
          try have X:=d.fr 0 rfl
          try have W:=d.fr 4 rfl
          try have bx:=d.eq 9 22 rfl
          try have bw:=d.eq 10 23 rfl
          try have bv:=d.eq 11 24 rfl
          try have bz:=d.eq 8 21 rfl
          try have bt:=d.eq 12 25 rfl
          try have br:=d.eq 13 26 rfl
          try have a4:=d.eq 4 17 rfl
          try have a3:=d.eq 14 27 rfl
          try have a1:=d.eq 15 28 rfl
          try have dc:=d.eq 17 30 rfl
          try have db:=d.eq 18 31 rfl
          try have da:=d.eq 19 32 rfl
          try have c9:=d.eq 20 33 rfl
          try have c6:=d.eq 22 35 rfl
          try have c5:=d.eq 23 36 rfl
          try have c4:=d.eq 24 37 rfl
          try have c3:=d.eq 25 38 rfl
          try have c8:=d.eq 21 34 rfl
          try have c1:=d.eq 26 39 rfl
          try have c0:=d.eq 27 40 rfl
          try have a0:=d.eq 16 29 rfl
          try have aS:=d.eq 28 41 rfl
          obtain⟨y0,y1,y2,y3,y4,y5,y6⟩:=O.out _ (P.out.trans f (by simp));obtain⟨x0,x1,x2,x3,x4,x5,x6⟩:=Z.out _ ((HF.out.trans P.out (by simp)).trans f (by simp));simp only[Oper.wp,execOp];go_simp
          first
          |exact p _ f (Fp.refl _ _)
          |first
            |((with_reducible refine(M.out _).mono ?_);rintro e w2 ⟨rfl,D⟩;exact p _ (f.trans D (by simp)) D)
            |((with_reducible refine(L.out _).mono ?_);rintro e w2 ⟨rfl,D⟩;exact p _ (f.trans D (by simp)) D)
        refine⟨?_,?_⟩
        ·repeat(first|exact trivial|refine B7 _ ?_ |refine⟨fun w1 w2 v _ D ⟨g,N,G⟩=>⟨g,N,(D.block g (Ac G) (by simp)).trans G⟩,?_⟩)
        ·intro w' f;simp only[a0u,a1z,a1w,a1x]
         iterate 30 (refine Am ?_)
         refine A0 ?_;simp only[Aj,Act.put,a0x,a0w,a0v];have aa:=a0z (P.out.trans f (by simp));clear f;go_wp2_with (fail)
         go_meet
         case rel=>exact⟨m,rfl,⟨Nat.le_of_lt Q,ap.out,fun _=>Or.inl (by rw[HY.out];exact ak.out)⟩,aa.out⟩
      ·have HK:Hid (Ba o[m] ⟨⟨u,C,t,xs,A,s⟩,E⟩=true∨0<Bt o[m] ⟨⟨u,C,t,xs,A,s⟩,E⟩):=a0z (by
        rw[HY.out,ak.out];cases sc
        ·exact Or.inr (be.out.2 ah rfl)
        ·exact Or.inl rfl)
       have zc:decide (ci<0)=false:=decide_eq_false ah;go_wp2_with (fail);refine C9 (by kernel_rfl) (by kernel_rfl) ?_
       iterate 17
        first|apply Aw rfl rfl rfl|apply Hr 4 17 rfl rfl rfl rfl (by kernel_rfl) rfl rfl
        ·intro a w f d K p
         try have h5:=d.fr 5 rfl
         try have Y:=d.fr 3 rfl
         try have a7:=d.eq 1 14 rfl
         try have a8:=d.eq 0 13 rfl
         try have a6:=d.eq 2 15 rfl
         try have a5:=d.eq 3 16 rfl
         try have b3:=d.eq 5 18 rfl
         try have b2:=d.eq 6 19 rfl
         try have b0:=d.eq 7 20 rfl
         try have X:=d.fr 0 rfl
         try have W:=d.fr 4 rfl
         try have bx:=d.eq 9 22 rfl
         try have bw:=d.eq 10 23 rfl
         try have bv:=d.eq 11 24 rfl
         try have bz:=d.eq 8 21 rfl
         try have bt:=d.eq 12 25 rfl
         try have br:=d.eq 13 26 rfl
         try have a4:=d.eq 4 17 rfl
         try have a3:=d.eq 14 27 rfl
         try have a1:=d.eq 15 28 rfl
         obtain⟨y0,y1,y2,y3,y4,y5,y6⟩:=O.out _ (P.out.trans f (by simp));obtain⟨x0,x1,x2,x3,x4,x5,x6⟩:=Z.out _ ((HF.out.trans P.out (by simp)).trans f (by simp));simp only[Oper.wp,execOp];go_simp
         first
         |exact p _ f (Fp.refl _ _)
         |first
           |((with_reducible refine(M.out _).mono ?_);rintro e w2 ⟨rfl,D⟩;exact p _ (f.trans D (by simp)) D)
           |((with_reducible refine(L.out _).mono ?_);rintro e w2 ⟨rfl,D⟩;exact p _ (f.trans D (by simp)) D)
       apply An 16 29 rfl rfl rfl rfl (by kernel_rfl) rfl rfl;apply An 16 29 rfl rfl rfl rfl (by kernel_rfl) rfl rfl;apply An 16 29 rfl rfl rfl rfl (by kernel_rfl) rfl rfl;apply An 16 29 rfl rfl rfl rfl (by kernel_rfl) rfl rfl;apply An 16 29 rfl rfl rfl rfl (by kernel_rfl) rfl rfl;apply An 16 29 rfl rfl rfl rfl (by kernel_rfl) rfl rfl;apply An 16 29 rfl rfl rfl rfl (by kernel_rfl) rfl rfl;apply An 16 29 rfl rfl rfl rfl (by kernel_rfl) rfl rfl;apply An 16 29 rfl rfl rfl rfl (by kernel_rfl) rfl rfl;apply An 16 29 rfl rfl rfl rfl (by kernel_rfl) rfl rfl;apply An 16 29 rfl rfl rfl rfl (by kernel_rfl) rfl rfl;apply An 16 29 rfl rfl rfl rfl (by kernel_rfl) rfl rfl;apply Aw rfl rfl rfl
       ·intro a w f d K p;have a0:=d.eq 16 29 rfl;have aS:=d.eq 28 41 rfl;simp only[Oper.wp,execOp];go_simp;exact p _ f (Fp.refl _ _)
       refine⟨?_,?_⟩
       ·repeat(first|exact trivial|refine B7 _ ?_ |refine⟨fun w1 w2 v _ D ⟨g,N,G⟩=>⟨g,N,(D.block g (Ac G) (by simp)).trans G⟩,?_⟩)
       ·intro w' f;simp only[a0u,a1z,a1w,a1x]
        iterate 30 (refine Am ?_)
        refine A0 ?_;simp only[Aj,Act.put,a0x,a0w,a0v];have aa:=a0z (P.out.trans f (by simp));clear f;go_wp2_with (fail)
        go_meet
        case rel=>exact⟨m,rfl,⟨Nat.le_of_lt Q,ap.out,fun _=>HK.out⟩,aa.out⟩
     ·have zm:¬(m:Int)<(o.length:Int):=by omega
      go_wp2_with (fail);refine C9 (by kernel_rfl) (by kernel_rfl) ?_
      iterate 5
       apply Aw rfl rfl rfl
       ·intro a w f d K p
        try have h5:=d.fr 5 rfl
        try have Y:=d.fr 3 rfl
        try have a7:=d.eq 1 14 rfl
        try have a8:=d.eq 0 13 rfl
        try have a6:=d.eq 2 15 rfl
        try have a5:=d.eq 3 16 rfl
        simp only[Oper.wp,execOp];go_simp;exact p _ f (Fp.refl _ _)
      apply An 4 17 rfl rfl rfl rfl (by kernel_rfl) rfl rfl;apply An 4 17 rfl rfl rfl rfl (by kernel_rfl) rfl rfl;apply An 4 17 rfl rfl rfl rfl (by kernel_rfl) rfl rfl;apply An 4 17 rfl rfl rfl rfl (by kernel_rfl) rfl rfl;apply An 4 17 rfl rfl rfl rfl (by kernel_rfl) rfl rfl;apply An 4 17 rfl rfl rfl rfl (by kernel_rfl) rfl rfl;apply An 4 17 rfl rfl rfl rfl (by kernel_rfl) rfl rfl;apply An 4 17 rfl rfl rfl rfl (by kernel_rfl) rfl rfl;apply An 4 17 rfl rfl rfl rfl (by kernel_rfl) rfl rfl;apply An 4 17 rfl rfl rfl rfl (by kernel_rfl) rfl rfl
      iterate 2
       apply Aw rfl rfl rfl
       ·intro a w f d K p
        try have a4:=d.eq 4 17 rfl
        try have a3:=d.eq 14 27 rfl
        try have a1:=d.eq 15 28 rfl
        simp only[Oper.wp,execOp];go_simp;exact p _ f (Fp.refl _ _)
      apply An 16 29 rfl rfl rfl rfl (by kernel_rfl) rfl rfl;apply An 16 29 rfl rfl rfl rfl (by kernel_rfl) rfl rfl;apply An 16 29 rfl rfl rfl rfl (by kernel_rfl) rfl rfl;apply An 16 29 rfl rfl rfl rfl (by kernel_rfl) rfl rfl;apply An 16 29 rfl rfl rfl rfl (by kernel_rfl) rfl rfl;apply An 16 29 rfl rfl rfl rfl (by kernel_rfl) rfl rfl;apply An 16 29 rfl rfl rfl rfl (by kernel_rfl) rfl rfl;apply An 16 29 rfl rfl rfl rfl (by kernel_rfl) rfl rfl;apply An 16 29 rfl rfl rfl rfl (by kernel_rfl) rfl rfl;apply An 16 29 rfl rfl rfl rfl (by kernel_rfl) rfl rfl;apply An 16 29 rfl rfl rfl rfl (by kernel_rfl) rfl rfl;apply An 16 29 rfl rfl rfl rfl (by kernel_rfl) rfl rfl;apply Aw rfl rfl rfl
      ·intro a w f d K p;have a0:=d.eq 16 29 rfl;have aS:=d.eq 28 41 rfl;simp only[Oper.wp,execOp];go_simp;exact p _ f (Fp.refl _ _)
      refine⟨?_,?_⟩
      ·repeat(first|exact trivial|refine B7 _ ?_ |refine⟨fun w1 w2 v _ D ⟨g,N,G⟩=>⟨g,N,(D.block g (Ac G) (by simp)).trans G⟩,?_⟩)
      ·intro w' f;simp only[a0u,a1z,a1w,a1x]
       iterate 30 (refine Am ?_)
       refine A0 ?_;simp only[Aj,Act.put,a0x,a0w,a0v];have aa:=a0z (P.out.trans f (by simp));clear f;go_wp2_with (fail)
       go_meet
       case rel=>exact⟨m,rfl,⟨by omega,ap.out,fun h=>absurd h Q⟩,aa.out⟩
   case rest=>
    obtain⟨m,rfl,av,bn⟩:=hcut;have HP:=a0z av;have bi:=a0z bn;have bk:=av.le;clear av bn
    obtain⟨w5,ck⟩:∃x,x=wc:=⟨_,rfl⟩
    subst ck
    go_upto_region 9 with(fail)
    go_cut [60] from 61 to 77 (fun v wx=>∃bb:Bool,v=.bool bb/\(bb=true->∃Q:m<o.length,Ba o[m] ⟨⟨u,C,t,xs,A,s⟩,E⟩=true)/\(bb=false->∀Q:m<o.length,0<Bt o[m] ⟨⟨u,C,t,xs,A,s⟩,E⟩)/\Fp [] w5 wx)
    case first=>
     by_cases Q:m<o.length
     ·have zm:(m:Int)<(o.length:Int):=by omega
      have F:=fun w' (h:Fp [] wo w')=>Wc ((HO.out.fp h (by simp)).elem Q).1
      simp only[show Fg.k=7 from rfl] at F;have a9:Hid (Cd o[m]):=a0z (bf.out _ (a2z Q))
      obtain⟨y,hy⟩:∃y,o[m]=y:=⟨_,rfl⟩
      have HY:=a0z hy;rw[hy] at F a9;have T:=Oo y ⟨⟨u,C,t,xs,A,s⟩,E⟩;have S:Ba y ⟨⟨u,C,t,xs,A,s⟩,E⟩=I7 y.c ⟨u,C,t,xs,A,s⟩:=rfl;have I:=K9 y ⟨⟨u,C,t,xs,A,s⟩,E⟩;have M:=a0z (fun w=>oO y ⟨⟨u,C,t,xs,A,s⟩,E⟩ w);have L:=a0z (fun w=>iR y.c ⟨u,C,t,xs,A,s⟩ w)
      obtain⟨ci,ai⟩:∃z,D2 y ⟨⟨u,C,t,xs,A,s⟩,E⟩=z:=⟨_,rfl⟩
      obtain⟨sc,ae⟩:∃z,I7 y.c ⟨u,C,t,xs,A,s⟩=z:=⟨_,rfl⟩
      rw[ai] at M T;rw[ae] at L S;have ak:=a0z S
      have be:Hid ((ci<0→sc=false→Bt y ⟨⟨u,C,t,xs,A,s⟩,E⟩<0)∧(¬ci<0→sc=false→0<Bt y ⟨⟨u,C,t,xs,A,s⟩,E⟩)):=a0z (by
       rw[S] at I;constructor
       ·intro N G
        have Y:¬Bt y ⟨⟨u,C,t,xs,A,s⟩,E⟩=0:=fun h=>by rw[G] at I;exact absurd (I.2 h) (by decide)
        rcases T with⟨_,W⟩|⟨W,_⟩
        ·omega
        ·exact absurd W Y
       ·intro N G
        have Y:¬Bt y ⟨⟨u,C,t,xs,A,s⟩,E⟩=0:=fun h=>by rw[G] at I;exact absurd (I.2 h) (by decide)
        rcases T with⟨h5,W⟩|⟨W,_⟩
        ·omega
        ·exact absurd W Y)
      have O:=a0z F;obtain⟨⟨yr,yc,yt,ys,yd,yv⟩,yp⟩:=y;unfold Ik Jo at M;unfold Bm at L;simp only at M L O;clear F T S I ai ae hy;have dh:=a0z (HP.out.at_ Q);go_wp2_with (fail);refine C9 (by kernel_rfl) (by kernel_rfl) ?_
      iterate 18
       first|apply Aw rfl rfl rfl|apply Hr 4 65 rfl rfl rfl rfl (by kernel_rfl) rfl rfl
       ·intro a w f d K p
        try have h5:=d.fr 5 rfl
        try have Y:=d.fr 3 rfl
        try have cv:=d.eq 1 62 rfl
        try have cw:=d.eq 0 61 rfl
        try have cu:=d.eq 2 63 rfl
        try have ct:=d.eq 3 64 rfl
        try have ee:=d.eq 5 66 rfl
        try have ed:=d.eq 6 67 rfl
        try have ec:=d.eq 7 68 rfl
        try have eb:=d.eq 8 69 rfl
        try have X:=d.fr 0 rfl
        try have W:=d.fr 4 rfl
        try have d9:=d.eq 10 71 rfl
        try have d8:=d.eq 11 72 rfl
        try have d7:=d.eq 12 73 rfl
        try have d6:=d.eq 13 74 rfl
        try have ea:=d.eq 9 70 rfl
        try have d5:=d.eq 14 75 rfl
        try have cs:=d.eq 4 65 rfl
        try have cr:=d.eq 15 76 rfl
        try have cq:=d.eq 16 77 rfl
        obtain⟨y0,y1,y2,y3,y4,y5,y6⟩:=O.out _ (bi.out.trans f (by simp));obtain⟨x0,x1,x2,x3,x4,x5,x6⟩:=Z.out _ ((HF.out.trans bi.out (by simp)).trans f (by simp));simp only[Oper.wp,execOp];go_simp
        first
        |exact p _ f (Fp.refl _ _)
        |first
          |((with_reducible refine(M.out _).mono ?_);rintro e w2 ⟨rfl,D⟩;exact p _ (f.trans D (by simp)) D)
          |((with_reducible refine(L.out _).mono ?_);rintro e w2 ⟨rfl,D⟩;exact p _ (f.trans D (by simp)) D)
      refine⟨?_,?_⟩
      ·repeat(first|exact trivial|refine B7 _ ?_ |refine⟨fun w1 w2 v _ D ⟨g,N,G⟩=>⟨g,N,(D.block g (Ac G) (by simp)).trans G⟩,?_⟩)
      ·intro w' f;simp only[a0u,a1z,a1w,a1x]
       iterate 18 (refine Am ?_)
       refine A0 ?_;simp only[Aj,Act.put,a0x,a0w,a0v];have J:=a0z f;clear f;go_wp2_with (fail)
       go_meet
       case rel=>
        refine⟨sc,rfl,fun h=>⟨Q,by rw[HY.out,ak.out,h]⟩,fun h _=>?_,J.out⟩
        rcases dh.out with N|N
        ·rw[HY.out,ak.out,h] at N;cases N
        ·exact N
     ·have zm:¬(m:Int)<(o.length:Int):=by omega
      go_wp2_with (fail);refine C9 (by kernel_rfl) (by kernel_rfl) ?_
      iterate 5
       apply Aw rfl rfl rfl
       ·intro a w f d K p
        try have h5:=d.fr 5 rfl
        try have Y:=d.fr 3 rfl
        try have cv:=d.eq 1 62 rfl
        try have cw:=d.eq 0 61 rfl
        try have cu:=d.eq 2 63 rfl
        try have ct:=d.eq 3 64 rfl
        simp only[Oper.wp,execOp];go_simp;exact p _ f (Fp.refl _ _)
      apply An 4 65 rfl rfl rfl rfl (by kernel_rfl) rfl rfl;apply An 4 65 rfl rfl rfl rfl (by kernel_rfl) rfl rfl;apply An 4 65 rfl rfl rfl rfl (by kernel_rfl) rfl rfl;apply An 4 65 rfl rfl rfl rfl (by kernel_rfl) rfl rfl;apply An 4 65 rfl rfl rfl rfl (by kernel_rfl) rfl rfl;apply An 4 65 rfl rfl rfl rfl (by kernel_rfl) rfl rfl;apply An 4 65 rfl rfl rfl rfl (by kernel_rfl) rfl rfl;apply An 4 65 rfl rfl rfl rfl (by kernel_rfl) rfl rfl;apply An 4 65 rfl rfl rfl rfl (by kernel_rfl) rfl rfl;apply An 4 65 rfl rfl rfl rfl (by kernel_rfl) rfl rfl;apply An 4 65 rfl rfl rfl rfl (by kernel_rfl) rfl rfl
      iterate 2
       apply Aw rfl rfl rfl
       ·intro a w f d K p
        try have cs:=d.eq 4 65 rfl
        try have cr:=d.eq 15 76 rfl
        try have cq:=d.eq 16 77 rfl
        simp only[Oper.wp,execOp];go_simp;exact p _ f (Fp.refl _ _)
      refine⟨?_,?_⟩
      ·repeat(first|exact trivial|refine B7 _ ?_ |refine⟨fun w1 w2 v _ D ⟨g,N,G⟩=>⟨g,N,(D.block g (Ac G) (by simp)).trans G⟩,?_⟩)
      ·intro w' f;simp only[a0u,a1z,a1w,a1x]
       iterate 18 (refine Am ?_)
       refine A0 ?_;simp only[Aj,Act.put,a0x,a0w,a0v];have J:=a0z f;clear f;go_wp2_with (fail)
       go_meet
       case rel=>exact⟨false,rfl,(fun h=>by cases h),fun _ h=>absurd h Q,J.out⟩
    case rest=>
     obtain⟨bb,rfl,ax,ay,bo⟩:=hcut;have J:=a0z (bi.out.trans bo (by simp));clear bo
     obtain⟨w6,cj⟩:∃x,x=wc:=⟨_,rfl⟩
     subst cj;have ao:=a0z (fun w' (h:Fp [] w6 w')=>Z.out w' ((HF.out.trans J.out (by simp)).trans h (by simp)));cases bb
     ·have b8:=a0z (Adw bd.out b4.out HR.out bk HP.out.lt (ay rfl));rw[←b5.out] at b8;have cc:=a0z (HO.out.fp J.out (by simp))
      have df:Hid (Cf Fg w6 (some ⟨g,0,none⟩) m (o.take m)):=a0z (by
       obtain⟨a2,c2,e2,-,-,aj⟩:=cc.out.at;cases e2
       exact aj.take m bk)
      obtain⟨ad,du,bq⟩:∃ad,(if c=m then some (⟨g,0,none⟩:Addr) else some ⟨g,m*7,none⟩)=some ad/\Cf Fg w6 (some ad) (o.length-m) (o.drop m):=by
       by_cases e:c=m
       ·refine⟨_,if_pos e,?_⟩;have X:o.drop m=[]:=List.drop_eq_nil_of_le (by omega);rw[X];exact⟨by show o.length-m=0;omega,Or.inl rfl⟩
       ·refine⟨_,if_neg e,?_⟩;obtain⟨a2,c2,e2,-,-,aj⟩:=cc.out.at;cases e2;have h:=aj.drop m (o.length-m) (by omega);simp only[show Fg.k=7 from rfl,Nat.zero_add] at h;exact h
      have di:=a0z bq;have bh:=a0z (show o.length<=100000 by omega)
      have dr:(m:Int)<=(c:Int):=by omega
      have dq:(m:Int)<=(o.length:Int):=by omega
      have ds:(o.length:Int)<=(c:Int):=by omega
      clear ax ay bq;go_wp2_with (fail);refine Abd (fun _ w'=>Fp [] w6 w') RQ (by kernel_rfl) (by kernel_rfl) (Fp.drew _) ?_;apply Tt (T0 w6.heap.size) rfl rfl rfl
      ·intro b a w f d K p;simp only[Oper.wp,execOp];go_simp;exact p _ _ (f.alloc' _) (RQ.calm (by decide) (Fp.alloc _ _)) (Or.inr (Or.inr (Or.inr ⟨_,rfl,f.size,Ai rfl _⟩)))
      apply N5 (fun _ _ h=>h) rfl rfl rfl
      ·intro b a w f d K p;have Y:=d.free 3 _ (by kernel_rfl) rfl;simp only[Oper.wp,execOp];go_simp;exact p _ f (RQ.calm (by decide) (Fp.refl _ _))
      apply N5 (fun _ _ h=>h) rfl rfl rfl
      ·intro b a w f d K p;have h5:=d.free 5 _ (by kernel_rfl) rfl;simp only[Oper.wp,execOp];go_simp;exact p _ f (RQ.calm (by decide) (Fp.refl _ _))
      apply N5 (fun _ _ h=>h) rfl rfl rfl
      ·intro b a w f d K p;have em:a.tmps[46]?.getD undef=_ :=d.dep 1 46 _ (by kernel_rfl) rfl;have el:a.tmps[47]?.getD undef=_ :=d.dep 2 47 _ (by kernel_rfl) rfl;simp only[Oper.wp,execOp];go_simp;exact p _ f (RQ.calm (by decide) (Fp.refl _ _))
      apply Tt (T4 w6.heap.size (o.take m)) rfl rfl rfl
      ·intro b a w f d K p;have cS:=d.dep 0 45 _ (by kernel_rfl) rfl;have cF:a.tmps[48]?.getD undef=_ :=d.dep 3 48 _ (by kernel_rfl) rfl;have n5:=d.adm.self;have ac:=d.adm.post 10 (by kernel_rfl);have ab:=oP d.adm (j:=14) (k:=10) (by kernel_rfl) ac
       rcases cS with z|z|z|⟨q,de,hg,hh⟩
       ·rw[n5] at z;cases z
       ·rw[ac] at z;cases z
       ·rw[ab] at z;cases z
       refine U0 (R:=Fg) 89 Tryz.underlying89 Tryz.infoRi rfl (by decide) _ _ rfl w6.heap.size _ [] (E0 de) (Ae.emptyQ hg hh) _ _ _ _ (E0 cF) (df.out.fp f) (by have:=bh.out;simp only[a1v,a1u];omega) f.size ?_;intro v' w' ho V aw;exact p _ _ (f.belowTrans V) ⟨fun _=>⟨q,hh,aw⟩,fun h=>absurd rfl h⟩ (Or.inr (Or.inr ho))
      apply N5 (fun _ _ h=>h) rfl rfl rfl
      ·intro b a w f d K p;have X:=d.free 0 _ (by kernel_rfl) rfl;simp only[Oper.wp,execOp];go_simp;exact p _ f (RQ.calm (by decide) (Fp.refl _ _))
      apply N5 (fun _ _ h=>h) rfl rfl rfl
      ·intro b a w f d K p;have W:=d.free 4 _ (by kernel_rfl) rfl;simp only[Oper.wp,execOp];go_simp;exact p _ f (RQ.calm (by decide) (Fp.refl _ _))
      apply N5 (fun _ _ h=>h) rfl rfl rfl
      ·intro b a w f d K p;have ek:a.tmps[50]?.getD undef=_ :=d.dep 5 50 _ (by kernel_rfl) rfl;have ej:a.tmps[51]?.getD undef=_ :=d.dep 6 51 _ (by kernel_rfl) rfl;obtain⟨x0,x1,x2,x3,x4,x5,x6⟩:=ao.out _ f;simp only[Oper.wp,execOp];go_simp;exact p _ f (RQ.calm (by decide) (Fp.refl _ _))
      apply N5 (fun _ _ h=>h) rfl rfl rfl
      ·intro b a w f d K p;have ei:a.tmps[52]?.getD undef=_ :=d.dep 7 52 _ (by kernel_rfl) rfl;obtain⟨x0,x1,x2,x3,x4,x5,x6⟩:=ao.out _ f;simp only[Oper.wp,execOp];go_simp;exact p _ f (RQ.calm (by decide) (Fp.refl _ _))
      apply Tt (T9 ⟨⟨u,C,t,xs,A,s⟩,E⟩) rfl rfl rfl
      ·intro b a w f d K p;have eh:a.tmps[53]?.getD undef=_ :=d.dep 8 53 _ (by kernel_rfl) rfl;simp only[Oper.wp,execOp];go_simp;exact p _ _ (f.alloc' _) (RQ.calm (by decide) (Fp.alloc _ _)) (Or.inr (Or.inr ⟨_,rfl,Ai rfl _⟩))
      apply Tt (We w6.heap.size (o.take m++[⟨⟨u,C,t,xs,A,s⟩,E⟩])) rfl rfl rfl
      ·intro b a w f d K p;have aF:=d.dep 4 49 _ (by kernel_rfl) rfl;have cz:=d.dep 9 54 _ (by kernel_rfl) rfl;have ac:=d.adm.self;have ab:=oP d.adm (j:=14) (k:=10) (by kernel_rfl) ac
       rcases aF with z|z|aF
       ·rw[ac] at z;cases z
       ·rw[ab] at z;cases z
       rcases cz with z|z|⟨q,dd,hg⟩
       ·rw[ac] at z;cases z
       ·rw[ab] at z;cases z
       refine U0 (R:=Fg) 89 Tryz.underlying89 Tryz.infoRi rfl (by decide) _ _ rfl w6.heap.size _ _ (E0 rfl) aF _ _ _ [⟨⟨u,C,t,xs,A,s⟩,E⟩] (E0 dd) (Cf.one hg) (by have:=bh.out;simp only[a1v,a2x,a1u];omega) f.size ?_;intro v' w' ho V aw;exact p _ _ (f.belowTrans V) ⟨fun h=>absurd h (by decide),fun _ h=>absurd rfl h⟩ (Or.inr ho)
      apply N5 (fun _ _ h=>h) rfl rfl rfl
      ·intro b a w f d K p;have Y:=d.free 3 _ (by kernel_rfl) rfl;simp only[Oper.wp,execOp];go_simp;exact p _ f (RQ.calm (by decide) (Fp.refl _ _))
      apply N5 (fun _ _ h=>h) rfl rfl rfl
      ·intro b a w f d K p;have h5:=d.free 5 _ (by kernel_rfl) rfl;simp only[Oper.wp,execOp];go_simp;exact p _ f (RQ.calm (by decide) (Fp.refl _ _))
      apply N5 (fun _ _ h=>h) rfl rfl rfl
      ·intro b a w f d K p;have eg:a.tmps[56]?.getD undef=_ :=d.dep 11 56 _ (by kernel_rfl) rfl;have ef:a.tmps[57]?.getD undef=_ :=d.dep 12 57 _ (by kernel_rfl) rfl;simp only[Oper.wp,execOp];go_simp;exact p _ f (RQ.calm (by decide) (Fp.refl _ _))
      apply Tt (Ru w6.heap.size (o.take m++[⟨⟨u,C,t,xs,A,s⟩,E⟩]++o.drop m)) rfl rfl rfl
      ·intro b a w f d K p;have az:=d.dep 10 55 _ (by kernel_rfl) rfl;have cy:a.tmps[58]?.getD undef=_ :=d.dep 13 58 _ (by kernel_rfl) rfl;have ab:=d.adm.self
       rcases az with z|az
       ·rw[ab] at z;cases z
       refine U0 (R:=Fg) 89 Tryz.underlying89 Tryz.infoRi rfl (by decide) _ _ rfl w6.heap.size _ _ (E0 rfl) az _ _ _ (o.drop m) (E0 cy) (di.out.fp f) (by have:=bh.out;simp only[List.length_append,a1v,List.length_drop,a2x,a1u];omega) f.size ?_;intro v' w' ho V aw;exact p _ _ (f.belowTrans V) ⟨fun h=>absurd h (by decide),fun _ _ h=>absurd rfl h⟩ ho
      apply Tt (Ru w6.heap.size (o.take m++[⟨⟨u,C,t,xs,A,s⟩,E⟩]++o.drop m)) rfl rfl rfl
      ·intro b a w f d K p;have cx:=d.dep 14 59 _ (by kernel_rfl) rfl;simp only[Oper.wp,execOp];go_simp;exact p _ _ f (RQ.calm (by decide) (Fp.refl _ _)) cx
      refine⟨?_,?_⟩
      ·refine⟨fun b i w w' v h X hr hs=>Ru.stab h (by kernel_rfl) (by kernel_rfl) (h.closed 15 14 X (by kernel_rfl)) hr hs,?_⟩;refine⟨fun b i w w' v h X hr hs=>Ru.stab h (by kernel_rfl) (by kernel_rfl) X hr hs,?_⟩;refine N0 _ ?_;refine N0 _ ?_;refine N0 _ ?_;refine⟨fun b i w w' v h X hr hs=>We.stab h (by kernel_rfl) X hr hs,?_⟩;refine⟨fun b i w w' v h X hr hs=>T9.stab h hr hs,?_⟩;refine N0 _ ?_;refine N0 _ ?_;refine N0 _ ?_;refine N0 _ ?_;refine⟨fun b i w w' v h X hr hs=>T4.stab h X hr hs,?_⟩;refine N0 _ ?_;refine N0 _ ?_;refine N0 _ ?_;refine⟨fun b i w w' v h X hr hs=>T0.stab h hr hs,?_⟩;exact trivial
      ·intro w7 bb f co;simp only[a0u,a1z,a1w,a1x,List.map_cons,List.map_nil];refine Ap ?_;intro v0 u0
       iterate 3 (refine Am ?_)
       refine Ap ?_;intro v4 u4
       iterate 4 (refine Am ?_)
       refine Ap ?_;intro v9 u9;refine Ap ?_;intro dl u10
       iterate 3 (refine Am ?_)
       refine Ap ?_;intro dk u14;refine Ap ?_;intro cf u15;refine A0 ?_;simp only[Aj,Act.put,a0x,a0w,a0v];clear u0 u4 u9 u10 u14 co;have u15':Ae Fg w7 w6.heap.size cf (o.take m++[⟨⟨u,C,t,xs,A,s⟩,E⟩]++o.drop m):=u15;obtain⟨g7,c7,dj,e7,-,-,-,-,-,-⟩:=u15'.open (by simp;omega);have cg:=J.out.size;have bg:=a0z (u15'.mono (Nat.le_trans cn cg));have al:=a0z ((HF.out.trans J.out (by simp)).trans f (by simp));subst e7;have cd:=a0z (show(o.take m++([⟨⟨u,C,t,xs,A,s⟩,E⟩]:List Ad)++o.drop m).length<=k+1 by simp only[List.length_append,a1v,List.length_drop,a2x,a1u];omega);clear f u15 u15';go_wp2_with (fail)
       go_roundg (gk-1)
       case measure=>omega
       case rel=>exact⟨k+1,g7,c7,_,by omega,rfl,by go_num,b8.out,cd.out,bg.out,al.out⟩
     ·obtain⟨Q,ar⟩:=ax rfl
      have zm:(m:Int)<(o.length:Int):=by omega
      have F:=fun w' (h:Fp [] w6 w')=>Wc ((HO.out.fp (J.out.trans h (by simp)) (by simp)).elem Q).1
      simp only[show Fg.k=7 from rfl] at F
      have af:=fun h=>Ady bd.out b4.out HR.out Q ar h
      have ag:=fun h=>Adx (x:=⟨⟨u,C,t,xs,A,s⟩,E⟩) HR.out Q ar h bf.out
      rw[<-b5.out] at af ag
      obtain⟨y,hy⟩:∃y,o[m]=y:=⟨_,rfl⟩
      rw[hy] at F af ag;obtain⟨⟨yr,yc,yt,ys,yd,yv⟩,yp⟩:=y;simp only at F af ag;have O:=a0z F;have ba:=a0z af;have bc:=a0z ag;clear ax ay ar F af ag hy;go_wp2_with (fail);refine C9 (by kernel_rfl) (by kernel_rfl) ?_
      iterate 11
       apply Aw rfl rfl rfl
       ·intro a w f d K p
        try have X:=d.fr 0 rfl
        try have W:=d.fr 4 rfl
        try have d4:=d.eq 0 78 rfl
        try have d3:=d.eq 1 79 rfl
        try have d2:=d.eq 2 80 rfl
        try have d1:=d.eq 3 81 rfl
        try have Y:=d.fr 3 rfl
        try have h5:=d.fr 5 rfl
        try have dz:=d.eq 5 83 rfl
        try have dy:=d.eq 6 84 rfl
        try have dx:=d.eq 7 85 rfl
        try have dw:=d.eq 8 86 rfl
        try have d0:=d.eq 4 82 rfl
        try have dv:=d.eq 9 87 rfl
        obtain⟨y0,y1,y2,y3,y4,y5,y6⟩:=O.out _ f;obtain⟨x0,x1,x2,x3,x4,x5,x6⟩:=ao.out _ f;simp only[Oper.wp,execOp];go_simp;exact p _ f (Fp.refl _ _)
      refine⟨?_,?_⟩
      ·repeat(first|exact trivial|refine B7 _ ?_ |refine⟨fun w1 w2 v _ D ⟨g,N,G⟩=>⟨g,N,(D.block g (Ac G) (by simp)).trans G⟩,?_⟩)
      ·intro w' f;simp only[a0u,a1z,a1w,a1x]
       iterate 11 (refine Am ?_)
       refine A0 ?_;simp only[Aj,Act.put,a0x,a0w,a0v]
       by_cases dm:yp<E
       ·have an:=HO.out.fp (J.out.trans f (by simp)) (by simp);obtain⟨y0,y1,y2,y3,y4,y5,y6⟩:=O.out _ f;obtain⟨x0,x1,x2,x3,x4,x5,x6⟩:=ao.out _ f;have hz:=(an.elem Q).2.1;have z0:=hz (m*7);have z1:=hz (m*7+1);have z2:=hz (m*7+2);have z3:=hz (m*7+3);have z4:=hz (m*7+4);have z5:=hz (m*7+5);have z6:=hz (m*7+6);have cm:=(an.elem Q).2.2.1;have b6:=a0z (an.setQ (⟨⟨u,C,t,xs,A,s⟩,E⟩:Ad) Q);have al:=a0z ((HF.out.trans J.out (by simp)).trans f (by simp));have b7:=a0z (ba.out (by omega));clear f hz an bc ba;go_wp2_with (fail)
        go_roundg (gk-1)
        case measure=>omega
        case rel=>exact⟨k+1,g,c,o.set m ⟨⟨u,C,t,xs,A,s⟩,E⟩,by omega,by rw[List.length_set],by go_num,b7.out,by rw[List.length_set];omega,b6.out.1,al.out.trans b6.out.2 (by intro i hi;right;rw[List.mem_singleton.1 hi];exact cm)⟩
       ·have al:=a0z ((HF.out.trans J.out (by simp)).trans f (by simp));have bg:=a0z (HO.out.fp (J.out.trans f (by simp)) (by simp));have b9:=a0z (bc.out (by omega));clear f bc ba;go_wp2_with (fail)
        go_roundg (gk-1)
        case measure=>omega
        case rel=>exact⟨k+1,g,c,o,by omega,rfl,by go_num,b9.out,by omega,bg.out,al.out⟩
  ·have zk:¬(k:Int)<(n:Int):=by omega
   have cl:k=l.length:=by have:=ce.out;omega
   have au:=HR.out;rw[cl,List.take_length] at au;have dg:=a0z au;clear au;go_wp2_with (fail);go_ret;exact⟨_,rfl,o,dg.out,HO.out,HF.out⟩
end Go.Proofs.YtkagolpnaicdoaaGreatDoor
