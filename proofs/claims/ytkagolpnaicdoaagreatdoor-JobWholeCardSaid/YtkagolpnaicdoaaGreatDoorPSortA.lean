/-
 slices.insertionSortCmpFunc of items. slices.SortStableFunc of fewer than 20 items. slices.CompactFunc of items; clear; Clone; runs.Resolve. runs.Items; slices.Clone of items; runs.Resolve.
-/
import Derived.Test.YtkagolpnaicdoaaGreatDoorPRegionV
set_option maxRecDepth 100000
set_option maxHeartbeats 8000000
open Go.Lib renaming hid->a0z
open List renaming setIfInBounds_toArray->a0x,set_cons_succ->a0v,set_cons_zero->a0u,reverse_cons->a1z,reverse_nil->a1x,cons_append->a1w,nil_append->a1v,take_succ_eq_append_getElem->a2z
open Go.IntKind renaming wrap_i64->a0w
open Nat renaming le_refl->a1u
open Bool renaming false_eq_true->a2x
namespace Go.Proofs.YtkagolpnaicdoaaGreatDoor
section
open Go.RowKit Go.Lib
structure Kw(w:World)(b o:Nat)(x:Ad):Prop where
 c0:w.cell? ⟨b,o,none⟩=some (.string x.c.row)
 c1:w.cell? ⟨b,o+1,none⟩=some (.string x.c.col)
 c2:w.cell? ⟨b,o+2,none⟩=some (.int .u64 x.c.ts)
 c3:w.cell? ⟨b,o+3,none⟩=some (.int .u64 x.c.seq)
 c4:w.cell? ⟨b,o+4,none⟩=some (.bool x.c.del)
 c5:w.cell? ⟨b,o+5,none⟩=some (.string x.c.val)
 c6:w.cell? ⟨b,o+6,none⟩=some (.int .i64 x.pos)
theorem Wm{w:World}{b o:Nat}{x:Ad}(h:O4 Bz w b o x):Kw w b o x:=⟨h 0 _ rfl,h 1 _ rfl,h 2 _ rfl,h 3 _ rfl,h 4 _ rfl,h 5 _ rfl,h 6 _ rfl⟩
theorem Me{w:World}{base g n cap i:Nat}{l:List Ad}(h:Ae Bz w base (.slice (some ⟨g,0,none⟩) n cap) l)(a:i<l.length):Kw w g (i*7) (Af l i):=by
 rw[L2 a];exact Wm (h.elem a).1
theorem pG{w:World}{base g n cap i:Nat}{l:List Ad}{x:Ad}(h:Ae Bz w base (.slice (some ⟨g,0,none⟩) n cap) l)(d:i<l.length)(a:Af l i=x):Kw w g (i*7) x:=by
 rw[<-a];exact Me h d
theorem dT{w:World}{base g n cap i:Nat}{l:List Ad}(x:Ad)(h:Ae Bz w base (.slice (some ⟨g,0,none⟩) n cap) l)(a:i<l.length):
  Ae Bz (w.setCells g (i*7) (Jo x)) base (.slice (some ⟨g,0,none⟩) n cap) (l.set i x)/\Fp [g] w (w.setCells g (i*7) (Jo x)):=h.setQ x a
def Jc(l:List Ad)(i j p q:Nat)(b:Nat->Bool):List Ad:=
 let l1:=if b p=true then l.set i (Af l j) else l
 if b q=true then l1.set j (Af l i) else l1
structure Lo(w0:World)(base g n cap:Nat)(l:List Ad)(i j p q:Nat)(b:Nat->Bool)(w:World):Prop where
 own:Ae Bz w base (.slice (some ⟨g,0,none⟩) n cap) (Jc l i j p q b)
 fp:Fp [g] w0 w
variable {w0 w : World} {base g n cap i j p q : Nat} {l : List Ad} {b : Nat -> Bool}
theorem Lo.first(h:Lo w0 base g n cap l i j p q b w)(d:b p=false)(a:b q=false):Ae Bz w base (.slice (some ⟨g,0,none⟩) n cap) l:=by
 have:=h.own;unfold Jc at this;rw[d,a] at this;exact this
theorem Um:(Jc l i j p q b).length=l.length:=by
 unfold Jc;simp only
 split<;>split<;>simp
theorem Aet(d:b p=true)(a:b q=true):Jc l i j p q b=Jw l i j:=by
 unfold Jc Jw;simp only;rw[if_pos d,if_pos a]
theorem Lo.storeP(h:Lo w0 base g n cap l i j p q b w)(f:b p=false)(o:i<l.length)(d:i≠j)(a:p≠q):
  Lo w0 base g n cap l i j p q (Ah b p) (w.setCells g (i*7) (Jo (Af l j))):=by
 obtain⟨s,r⟩:=dT (Af l j) h.own (i:=i) (by rw[Um];exact o);refine⟨?_,h.fp.trans r (by intro k m;exact Or.inl m)⟩
 have e:(Jc l i j p q b).set i (Af l j)=Jc l i j p q (Ah b p):=by
  cases hq:b q with
  |true=>simp only[Jc,Ah,f,hq,if_neg (Ne.symm a),if_true,a2x,if_false];exact List.set_comm _ _ d.symm
  |false=>simp only[Jc,Ah,f,hq,if_neg (Ne.symm a),if_true,a2x,if_false]
 rw[<-e];exact s
theorem Lo.storeQ(h:Lo w0 base g n cap l i j p q b w)(d:b q=false)(m:j<l.length)(a:p≠q):
  Lo w0 base g n cap l i j p q (Ah b q) (w.setCells g (j*7) (Jo (Af l i))):=by
 obtain⟨r,o⟩:=dT (Af l i) h.own (i:=j) (by rw[Um];exact m);refine⟨?_,h.fp.trans o (by intro k f;exact Or.inl f)⟩
 have e:(Jc l i j p q b).set j (Af l i)=Jc l i j p q (Ah b q):=by
  simp only[Jc,Ah,d,if_neg a,if_true,a2x,if_false]
 rw[<-e];exact r
theorem Lo.plain{k:Nat}(h:Lo w0 base g n cap l i j p q b w)(a:k≠p∧k≠q):Lo w0 base g n cap l i j p q (Ah b k) w:=by
 refine⟨?_,h.fp⟩
 have e:Jc l i j p q (Ah b k)=Jc l i j p q b:=by
  unfold Jc Ah;simp only;rw[if_neg a.1.symm,if_neg a.2.symm]
 rw[e];exact h.own
theorem dU(w:World)(base g n cap a b:Nat)(l:List Ad)(ho:Ae Bz w base (.slice (some ⟨g,0,none⟩) n cap) l)(aj:Ce l)(b9:a≤b)(hb:b≤l.length)(hn:l.length≤1000000):
  Calls Tryz.prog 288 #[.slice (some ⟨g,0,none⟩) n cap,.int .i64 a,.int .i64 b,.func (.func 217) #[] #[]] w fun e w'=>e=.returned (.tuple #[])/\(∃Q,Fq a b l Q/\G4 Q a b/\Ae Bz w' base (.slice (some ⟨g,0,none⟩) n cap) Q)/\Fp [g] w w':=by
 have HO:=a0z ho;have bk:=a0z aj;have av:=a0z dR
 have hm:l.length=n:=by
  obtain⟨a',c',e,-⟩:=ho.len;cases e;rfl
 have HM:=a0z hm;rw[hm] at hb hn;clear ho aj hm;go_enter Tryz.func288,Tryz.ntmps288
 have n1:IntKind.i64.wrap ((a:Int)+1)=((a+1:Nat):Int):=by rw[a0w];omega
 go_wp2_with (fail)
 go_loopg [8] (b-a) (fun gg vi wr=>∃(i:Nat) (Q:List Ad),vi=.int .i64 i/\a<i/\gg+i=b+1/\Fq a b l Q/\G4 Q a i/\Ae Bz wr base (.slice (some ⟨g,0,none⟩) n cap) Q/\Fp [g] w wr)
 case atStart=>exact⟨a+1,l,by simp,by omega,by omega,Fq.refl _ _ _,G4.one _ _,HO.out,Fp.refl _ _⟩
 case round=>
  clear n1;obtain⟨i,l1,rfl,b8,b7,ht,hs,ho,z⟩:=hrel;have HT:=a0z ht;have HS:=a0z hs;have au:=a0z ho;have HF:=a0z z;clear ht hs ho z
  by_cases bw:i<b
  ·have zi:(i:Int)<(b:Int):=by omega
   have cr:Hid (l1.length=n):=HT.out.len.trans HM.out;go_wp2_with (fail)
   go_loopg [9] i (fun gg vj wt=>∃(j:Nat) (u:List Ad),vj=.int .i64 j/\gg=j/\a<=j/\j<=i/\Fq a b l u/\Q6 u a (i+1) j/\Ae Bz wt base (.slice (some ⟨g,0,none⟩) n cap) u/\Fp [g] w wt)
   case atStart=>exact⟨i,l1,rfl,rfl,by omega,a1u _,HT.out,HS.out.but,au.out,HF.out⟩
   case round=>
    obtain⟨j,u,rfl,bz,am,bv,ah,ai,ak,al⟩:=hrel;have L:=a0z ah;have aa:=a0z ai;have o:=a0z ak;have ac:=a0z al;have ab:Hid (u.length=n):=L.out.len.trans HM.out;have D:=a0z (L.out.ok bk.out);clear ah ai ak al
    have n3:IntKind.i64.wrap ((i:Int)+1)=((i+1:Nat):Int):=by rw[a0w];omega
    by_cases ay:j=a
    ·subst ay
     have zj:¬(j:Int)>(j:Int):=by omega
     go_wp2_with (fail);refine C9 (by kernel_rfl) (by kernel_rfl) ?_
     iterate 4
      apply Aw rfl rfl rfl
      ·intro a w f d K m
       try have h9:=d.fr 9 rfl
       try have O:=d.fr 1 rfl
       try have ar:=d.eq 0 18 rfl
       try have aq:=d.eq 1 19 rfl
       try have ap:=d.eq 2 20 rfl
       simp only[Oper.wp,execOp];go_simp;exact m _ f (Fp.refl _ _)
     apply An 3 21 rfl rfl rfl rfl (by kernel_rfl) rfl rfl;apply An 3 21 rfl rfl rfl rfl (by kernel_rfl) rfl rfl;apply An 3 21 rfl rfl rfl rfl (by kernel_rfl) rfl rfl;apply An 3 21 rfl rfl rfl rfl (by kernel_rfl) rfl rfl;apply An 3 21 rfl rfl rfl rfl (by kernel_rfl) rfl rfl;apply An 3 21 rfl rfl rfl rfl (by kernel_rfl) rfl rfl;apply An 3 21 rfl rfl rfl rfl (by kernel_rfl) rfl rfl;apply An 3 21 rfl rfl rfl rfl (by kernel_rfl) rfl rfl;apply An 3 21 rfl rfl rfl rfl (by kernel_rfl) rfl rfl;apply An 3 21 rfl rfl rfl rfl (by kernel_rfl) rfl rfl;apply An 3 21 rfl rfl rfl rfl (by kernel_rfl) rfl rfl;apply An 3 21 rfl rfl rfl rfl (by kernel_rfl) rfl rfl;apply Aw rfl rfl rfl
     ·intro a w f d K m;have ao:=d.eq 3 21 rfl;have an:=d.eq 15 33 rfl;simp only[Oper.wp,execOp];go_simp;exact m _ f (Fp.refl _ _)
     refine⟨?_,?_⟩
     ·repeat(first|exact trivial|refine B7 _ ?_ |refine⟨fun w1 w2 v _ z ⟨g,O,N⟩=>⟨g,O,(z.block g (Ac N) (by simp)).trans N⟩,?_⟩)
     ·intro w' f;simp only[a1z,a1x,a1v,a1w]
      iterate 17 (refine Am ?_)
      refine A0 ?_;simp only[Aj,Act.put,a0x,a0v,a0u];have I:=a0z (ac.out.trans f (by simp));have G:=a0z (Ae.kept o.out (fun k B=>f.block k (o.out.lt k B).2 (by simp)));clear f;go_wp2_with (fail)
      go_roundg (b-i)
      case measure=>omega
      case rel=>exact⟨i+1,u,by simp,by omega,by omega,L.out,aa.out.done D.out (Or.inl rfl) (a1u _),G.out,I.out⟩
    ·have zj:(j:Int)>(a:Int):=by omega
     have n2:IntKind.i64.wrap ((j:Int)-1)=((j-1:Nat):Int):=by rw[a0w];omega
     obtain⟨k,B⟩:∃k,j-1=k:=⟨_,rfl⟩
     rw[B] at n2
     have C:j<u.length:=by rw[ab.out];omega
     have F:k<u.length:=by rw[ab.out];omega
     obtain⟨-,-,-,bx,-,-⟩:=o.out.elem C
     have bq:(j:Int)<(n:Int):=by omega
     have bp:(k:Int)<(n:Int):=by omega
     have ae:Hid (∀w',Fp [] wr w'->Kw w' g (j*7) (Af u j)):=fun w' z=>Me (o.out.kept (fun k B=>z.block k (o.out.lt k B).2 (by simp))) C
     have ad:Hid (∀w',Fp [] wr w'->Kw w' g (k*7) (Af u k)):=fun w' z=>Me (o.out.kept (fun k B=>z.block k (o.out.lt k B).2 (by simp))) F
     have t:=a0z (fun h=>aa.out.done D.out (Or.inr h) am);have s:=a0z (fun h=>aa.out.step (by rw[ab.out];omega) (by omega) (by omega) h);rw[B] at t s;have E:=a0z (fun h=>A9.not (D.out.at j) (D.out.at k) h);have P:=a0z (fun h=>A9.lt (x:=Af u j) (y:=Af u k) h);have bg:=a0z (Fq.swap (a:=a) (b:=b) C F am (by omega) (by omega) (by omega));have M:=a0z (fun w=>av.out (Af u j) (Af u k) w)
     obtain⟨x,hx⟩:∃x,Af u j=x:=⟨_,rfl⟩
     obtain⟨y,hy⟩:∃y,Af u k=y:=⟨_,rfl⟩
     rw[hx] at ae E P M t s;rw[hy] at ad E P M t s;have HX:=a0z hx;have HY:=a0z hy
     obtain⟨r,hr⟩:∃r,D2 x y=r:=⟨_,rfl⟩
     rw[hr] at E P M;have HK:=a0z B
     have ax:j≠k:=by omega
     have n4:IntKind.i64.wrap ((j:Int)-1)=(k:Int):=n2;obtain⟨⟨xr,xc,xt,xs,xd,xv⟩,xp⟩:=x;obtain⟨⟨yr,yc,yt,ys,yd,yv⟩,yp⟩:=y;have HC1':Hid (∀w,Calls Tryz.prog 217 #[.agg #[.string xr,.string xc,.int .u64 xt,.int .u64 xs,.bool xd,.string xv,.int .i64 xp],.agg #[.string yr,.string yc,.int .u64 yt,.int .u64 ys,.bool yd,.string yv,.int .i64 yp]] w fun e w'=>e=.returned (.int .i64 r)/\Fp [] w w'):=M;clear B hx hy hr M
     by_cases R:r<0
     ·go_wp2_with (fail);refine C9 (by kernel_rfl) (by kernel_rfl) ?_
      iterate 17
       first|apply Aw rfl rfl rfl|apply Hr 3 21 rfl rfl rfl rfl (by kernel_rfl) rfl rfl
       ·intro a w f d K m
        try have h9:=d.fr 9 rfl
        try have O:=d.fr 1 rfl
        try have ar:=d.eq 0 18 rfl
        try have aq:=d.eq 1 19 rfl
        try have ap:=d.eq 2 20 rfl
        try have h3:=d.fr 3 rfl
        try have h0:=d.fr 0 rfl
        try have be:=d.eq 5 23 rfl
        try have bd:=d.eq 6 24 rfl
        try have bc:=d.eq 7 25 rfl
        try have a8:=d.eq 10 28 rfl
        try have a9:=d.eq 9 27 rfl
        try have a7:=d.eq 11 29 rfl
        try have aS:=d.eq 12 30 rfl
        try have bf:=d.eq 4 22 rfl
        try have ba:=d.eq 8 26 rfl
        try have aF:=d.eq 13 31 rfl
        try have az:=d.eq 14 32 rfl
        try have ao:=d.eq 3 21 rfl
        try have an:=d.eq 15 33 rfl
        obtain⟨a0,Z,Y,X,W,V,U⟩:=ae.out _ f;obtain⟨b0,b1,b2,b3,b4,b5,b6⟩:=ad.out _ f;simp only at a0 Z Y X W V U b0 b1 b2 b3 b4 b5 b6;simp only[Oper.wp,execOp];go_simp
        first
        |exact m _ f (Fp.refl _ _)
        |(with_reducible refine(HC1'.out _).mono ?_);rintro e w2 ⟨rfl,z⟩;exact m _ (f.trans z (by simp)) z
      refine⟨?_,?_⟩
      ·repeat(first|exact trivial|refine B7 _ ?_ |refine⟨fun w1 w2 v _ z ⟨g,O,N⟩=>⟨g,O,(z.block g (Ac N) (by simp)).trans N⟩,?_⟩)
      ·intro w' f;simp only[a1z,a1x,a1v,a1w]
       iterate 17 (refine Am ?_)
       refine A0 ?_;simp only[Aj,Act.put,a0x,a0v,a0u];have I:=a0z (ac.out.trans f (by simp));have G:=a0z (Ae.kept o.out (fun k B=>f.block k (o.out.lt k B).2 (by simp)));have bn:=a0z f;clear f
       obtain⟨aw,af⟩:∃x,x=w':=⟨_,rfl⟩
       rw[<-af] at I G bn ⊢;clear af;go_wp2_with (fail);refine Ft (fun bb w'=>Lo aw base g n cap u j k 15 17 bb w') (fun _ _=>True) (by kernel_rfl) (by kernel_rfl) ⟨G.out.kept (fun k B=>rfl),(Fp.drew _).mono (by simp)⟩ ?_
       iterate 9
        apply Be (fun _ _ h=>h.plain (by decide)) rfl rfl rfl
        ·intro b a w f d K m
         try have h0:=d.fr 0 rfl
         try have h9:=d.fr 9 rfl
         try have cn:=d.eq 3 40 rfl
         try have ck:=d.eq 6 43 rfl
         try have cl:=d.eq 5 42 rfl
         try have cj:=d.eq 7 44 rfl
         simp only[Oper.wp,execOp];go_simp;exact m _ f trivial
       apply Be (fun _ _ h=>h.plain (by decide)) rfl rfl rfl
       ·intro b a w f d K m;have ci:=d.eq 8 45 rfl;obtain⟨b0,b1,b2,b3,b4,b5,b6⟩:=pG (f.first (d.post 15 (by kernel_rfl)) (d.post 17 (by kernel_rfl))) F HY.out;simp only at b0 b1 b2 b3 b4 b5 b6;simp only[Oper.wp,execOp];go_simp;exact m _ f trivial
       iterate 3
        apply Be (fun _ _ h=>h.plain (by decide)) rfl rfl rfl
        ·intro b a w f d K m
         try have h0:=d.fr 0 rfl
         try have h9:=d.fr 9 rfl
         try have cg:=d.eq 10 47 rfl
         try have cf:=d.eq 11 48 rfl
         simp only[Oper.wp,execOp];go_simp;exact m _ f trivial
       apply Be (fun _ _ h=>h.plain (by decide)) rfl rfl rfl
       ·intro b a w f d K m;have ce:=d.eq 12 49 rfl;obtain⟨a0,Z,Y,X,W,V,U⟩:=pG (f.first (d.post 15 (by kernel_rfl)) (d.post 17 (by kernel_rfl))) C HX.out;simp only at a0 Z Y X W V U;simp only[Oper.wp,execOp];go_simp;exact m _ f trivial
       apply Be (fun _ _ h=>h.plain (by decide)) rfl rfl rfl
       ·intro b a w f d K m;have cq:=d.eq 0 37 rfl;have cp:=d.eq 1 38 rfl;simp only[Oper.wp,execOp];go_simp;exact m _ f trivial
       apply Gs (fun _=>True) rfl rfl
       ·intro b a w f d K m;have cc:=d.eq 14 51 rfl;have ch:=d.eq 9 46 rfl;obtain⟨a0,Z,Y,X,W,V,U⟩:=Me f.own (i:=j) (by rw[Um];exact C);obtain⟨-,A,-,-,-,-⟩:=f.own.elem (i:=j) (by rw[Um];exact C);have z0:=A (j*7);have z1:=A (j*7+1);have z2:=A (j*7+2);have z3:=A (j*7+3);have z4:=A (j*7+4);have z5:=A (j*7+5);have z6:=A (j*7+6);have J:=f.storeP d.self C ax (by decide);rw[HY.out] at J;clear A;simp only[Oper.wp,execOp];go_simp;exact m undef _ J trivial trivial
       apply Be (fun _ _ h=>h.plain (by decide)) rfl rfl rfl
       ·intro b a w f d K m;have co:=d.eq 2 39 rfl;have cm:=d.eq 4 41 rfl;simp only[Oper.wp,execOp];go_simp;exact m _ f trivial
       apply Gs (fun _=>True) rfl rfl
       ·intro b a w f d K m;have ca:=d.eq 16 52 rfl;have cd:=d.eq 13 50 rfl;obtain⟨a0,Z,Y,X,W,V,U⟩:=Me f.own (i:=k) (by rw[Um];exact F);obtain⟨-,A,-,-,-,-⟩:=f.own.elem (i:=k) (by rw[Um];exact F);have z0:=A (k*7);have z1:=A (k*7+1);have z2:=A (k*7+2);have z3:=A (k*7+3);have z4:=A (k*7+4);have z5:=A (k*7+5);have z6:=A (k*7+6);have J:=f.storeQ d.self F (by decide);rw[HX.out] at J;clear A;simp only[Oper.wp,execOp];go_simp;exact m undef _ J trivial trivial
       refine⟨?_,?_⟩
       ·refine⟨fun _ _ _ _ _=>trivial,?_⟩;refine Cc _ ?_;refine⟨fun _ _ _ _ _=>trivial,?_⟩
        iterate 15 refine Cc _ ?_
        exact trivial
       ·intro w' bb f T;simp only[a1z,a1x,a1v,a1w]
        iterate 15 (refine Am ?_)
        refine Ap ?_;intro bt u15
        iterate 1 (refine Am ?_)
        refine Ap ?_;intro br u17;refine A0 ?_;simp only[Aj,Act.put,a0x,a0v,a0u];have S:=f.own;rw[Aet (T 15 (by simp)) (T 17 (by simp))] at S;have bm:=a0z S;have bo:=a0z (I.out.trans f.fp (by intro i hi;exact Or.inl hi));have ag:=bg.out;have bh:=a0z (L.out.trans ag);have bj:=a0z (s.out (P.out R));clear f T S ag u15 u17;go_wp2_with (fail)
        go_roundg k
        case measure=>have:=HK.out;omega
        case rel=>exact⟨k,_,rfl,rfl,by have:=HK.out;omega,by have:=HK.out;omega,bh.out,bj.out,bm.out,bo.out⟩
     ·have zr:¬(r<0):=R;go_wp2_with (fail);refine C9 (by kernel_rfl) (by kernel_rfl) ?_
      iterate 17
       first|apply Aw rfl rfl rfl|apply Hr 3 21 rfl rfl rfl rfl (by kernel_rfl) rfl rfl
       ·intro a w f d K m
        try have h9:=d.fr 9 rfl
        try have O:=d.fr 1 rfl
        try have ar:=d.eq 0 18 rfl
        try have aq:=d.eq 1 19 rfl
        try have ap:=d.eq 2 20 rfl
        try have h3:=d.fr 3 rfl
        try have h0:=d.fr 0 rfl
        try have be:=d.eq 5 23 rfl
        try have bd:=d.eq 6 24 rfl
        try have bc:=d.eq 7 25 rfl
        try have a8:=d.eq 10 28 rfl
        try have a9:=d.eq 9 27 rfl
        try have a7:=d.eq 11 29 rfl
        try have aS:=d.eq 12 30 rfl
        try have bf:=d.eq 4 22 rfl
        try have ba:=d.eq 8 26 rfl
        try have aF:=d.eq 13 31 rfl
        try have az:=d.eq 14 32 rfl
        try have ao:=d.eq 3 21 rfl
        try have an:=d.eq 15 33 rfl
        obtain⟨a0,Z,Y,X,W,V,U⟩:=ae.out _ f;obtain⟨b0,b1,b2,b3,b4,b5,b6⟩:=ad.out _ f;simp only at a0 Z Y X W V U b0 b1 b2 b3 b4 b5 b6;simp only[Oper.wp,execOp];go_simp
        first
        |exact m _ f (Fp.refl _ _)
        |(with_reducible refine(HC1'.out _).mono ?_);rintro e w2 ⟨rfl,z⟩;exact m _ (f.trans z (by simp)) z
      refine⟨?_,?_⟩
      ·repeat(first|exact trivial|refine B7 _ ?_ |refine⟨fun w1 w2 v _ z ⟨g,O,N⟩=>⟨g,O,(z.block g (Ac N) (by simp)).trans N⟩,?_⟩)
      ·intro w' f;simp only[a1z,a1x,a1v,a1w]
       iterate 17 (refine Am ?_)
       refine A0 ?_;simp only[Aj,Act.put,a0x,a0v,a0u];have I:=a0z (ac.out.trans f (by simp));have G:=a0z (Ae.kept o.out (fun k B=>f.block k (o.out.lt k B).2 (by simp)));clear f;go_wp2_with (fail)
       go_roundg (b-i)
       case measure=>omega
       case rel=>exact⟨i+1,u,by simp,by omega,by omega,L.out,t.out (E.out R),G.out,I.out⟩
  ·have zi:¬(i:Int)<(b:Int):=by omega
   have bi:Hid (G4 l1 a b):=fun p q O N h3=>HS.out p q O N (by omega)
   go_wp2_with (fail);go_end0;exact⟨rfl,⟨l1,HT.out,bi.out,au.out⟩,HF.out⟩
end
section
open Go.RowKit Go.Lib
theorem Aeu(w:World)(base g n cap:Nat)(l:List Ad)(o:Ae Bz w base (.slice (some ⟨g,0,none⟩) n cap) l)(h:Ce l)(x:l.length<20):
  Calls Tryz.prog 263 #[.slice (some ⟨g,0,none⟩) n cap,.int .i64 n,.func (.func 217) #[] #[]] w fun e w'=>e=.returned (.tuple #[])/\(∃f,Fq 0 n l f/\G4 f 0 n/\Ae Bz w' base (.slice (some ⟨g,0,none⟩) n cap) f)/\Fp [g] w w':=by
 have r:l.length=n:=by
  obtain⟨E,c',e,-⟩:=o.len;cases e;rfl
 have C:=a0z (dU w base g n cap 0 n l o h (Nat.zero_le _) (by omega) (by omega));rw[r] at x
 have z1:¬(20:Int)<=(n:Int):=by omega
 have z2:¬(20:Int)<(n:Int):=by omega
 clear r;go_enter Tryz.func263,Tryz.ntmps263;go_wp2_with (fail)
 go_loopg [7,8] 0 (fun y u d wr=>u=.int .i64 0/\d=.int .i64 20/\wr=w)
 case atStart=>exact⟨rfl,rfl,rfl⟩
 case round=>
  obtain⟨rfl,rfl,rfl⟩:=hrel;go_wp2_with (fail);rw[show(0:Int)=((0:Nat):Int) from rfl];(with_reducible refine C.out.mono ?_);rintro e t ⟨rfl,⟨v,k,m,a⟩,s⟩;have z:=a0z k;have A:=a0z m;have B:=a0z a;have D:=a0z s;clear k m a s;go_wp2_with (fail)
  go_loopg [6] 0 (fun y d wr=>d=.int .i64 20/\wr=t)
  case atStart=>exact⟨rfl,rfl⟩
  case round=>
   obtain⟨rfl,rfl⟩:=hrel;go_wp2_with (fail);go_end0;exact⟨rfl,⟨v,z.out,A.out,B.out⟩,D.out⟩
theorem Aev(w:World)(base g n cap:Nat)(l:List Ad)(f:Ae Bz w base (.slice (some ⟨g,0,none⟩) n cap) l)(a:Ce l)(k:l.length<20):
  Calls Tryz.prog 216 #[.slice (some ⟨g,0,none⟩) n cap,.func (.func 217) #[] #[]] w fun e w'=>e=.returned (.tuple #[])/\(∃d,Fq 0 n l d/\G4 d 0 n/\Ae Bz w' base (.slice (some ⟨g,0,none⟩) n cap) d)/\Fp [g] w w':=by
 have o:=a0z (Aeu w base g n cap l f a k);clear f a k;go_enter Tryz.func216,Tryz.ntmps216;go_wp2_with (fail);(with_reducible refine o.out.mono ?_);rintro e s ⟨rfl,h,m⟩;have H:=a0z h;have r:=a0z m;clear h m;go_wp2_with (fail);go_end0;exact⟨rfl,H.out,r.out⟩
end
section
open Go.RowKit Go.Lib
theorem Aew(w:World)(g k n m:Nat)(o:Array Value)(y:w.heap[g]?=some (.cells o 221 (0,0)))(D:k+n*7≤o.size)(E:0<n):∃z,∀u,(Builtin.clear_ #[162] u #[.slice (some ⟨g,k,none⟩) n m]).run Tryz.prog w=.ok (.tuple #[]) (w.setCells g k z):=by
 obtain⟨Z,t⟩:∃Z,(Builtin.zeroCells (Value.agg #[.string ⟨#[]⟩,.string ⟨#[]⟩,.int .u64 0,.int .u64 0,.bool false,.string ⟨#[]⟩,.int .i64 0]).cells n).toList=Z:=⟨_,rfl⟩
 have x:Z.length=n*7:=by rw[<-t];simp[Builtin.zeroCells,Value.cells]
 have d:∀v∈Z,v.oneCell'=true:=by
  intro v s;rw[<-t] at s;simp only[Builtin.zeroCells,Value.cells] at s;obtain⟨i,f⟩:=List.getElem?_of_mem s;simp only[Array.getElem?_toList] at f;obtain⟨A,f⟩:=Array.getElem?_eq_some_iff.1 f;simp at f;subst f;have C:i%7<7:=Nat.mod_lt _ (by decide)
  have r:∀j,j<7->(([Value.string ⟨#[]⟩,.string ⟨#[]⟩,.int .u64 0,.int .u64 0,.bool false,.string ⟨#[]⟩,.int .i64 0]:List Value)[j]?.getD default).oneCell'=true:=by
   intro j h
   match j,h with
   |0,_=>rfl
   |1,_=>rfl
   |2,_=>rfl
   |3,_=>rfl
   |4,_=>rfl
   |5,_=>rfl
   |6,_=>rfl
  exact r _ C
 refine⟨Z,fun u=>?_⟩
 have a:=run_storeCells_cells (P:=Tryz.prog) g k Z 0 w (by
  intro j B
  rw[Ab y,Array.getElem?_eq_getElem (by omega)];rfl) (by intro j B;exact Ar y _) d
 simp only[Nat.add_zero] at a
 obtain⟨m,rfl⟩:∃m,n=m+1:=⟨n-1,by omega⟩
 simp[Builtin.clear_,run_underlying Tryz.underlying162,Tryz.zeroValue221,t,a]
structure N9(l L:List Ad)(k j:Nat):Prop where
 len:L.length=l.length
 kept:L.take k=La l j
 rest:∀m,j-1<=m->Af L m=Af l m
 lt:k<j
 le:j<=l.length
 pos:1<=k
theorem N9.drop{l L:List Ad}{k j:Nat}(h:N9 l L k j)(f:j<l.length)(a:Ba (Af l j) (Af l (j-1))=true):N9 l L k (j+1):=by
 have d:=h.pos;have r:=h.lt;refine⟨h.len,?_,fun m o=>h.rest m (by omega),by omega,f,d⟩;rw[Vm,if_neg,List.append_nil]
 ·exact h.kept
 ·unfold P9;intro e
  rcases of_decide_eq_true e with e|e
  ·omega
  ·exact absurd (a.symm.trans e) (by decide)
theorem N9.keep{l L:List Ad}{k j:Nat}(h:N9 l L k j)(f:j<l.length)(d:Ba (Af l j) (Af l (j-1))=false):N9 l (L.set k (Af l j)) (k+1) (j+1):=by
 have o:=h.pos;have s:=h.lt
 have a:k<L.length:=by rw[h.len];omega
 refine⟨by rw[List.length_set];exact h.len,?_,fun m r=>?_,by omega,f,by omega⟩
 ·rw[Vm,if_pos (by unfold P9;exact decide_eq_true (Or.inr d)),<-h.kept];rw[a2z (by rw[List.length_set];exact a),List.getElem_set_self,List.take_set_of_le (a1u _)];rfl
 ·rw[aV _ _ _ _ a,if_neg (by omega)];exact h.rest m (by omega)
theorem Y5{l:List Ad}:∀k,k≤l.length→(∀i,i<k→0<i→Ba (Af l i) (Af l (i-1))=false)→La l k=l.take k
 |0,_,_=>by rw[List.take_zero];rfl
 |k+1,hk,h=>by
  rw[Vm,Y5 k (by omega) (fun i d a=>h i (by omega) a),if_pos,a2z (by omega),Q5 l (by omega)];unfold P9;refine decide_eq_true ?_
  by_cases e:k=0
  ·exact Or.inl e
  ·exact Or.inr (h k (by omega) (by omega))
theorem N9.start{l:List Ad}{k:Nat}(f:1<=k)(d:k<l.length)(a:Ba (Af l k) (Af l (k-1))=true)(h:∀i,i<k->0<i->Ba (Af l i) (Af l (i-1))=false):N9 l l k (k+1):=by
 refine⟨rfl,?_,fun _ _=>rfl,by omega,d,f⟩;rw[Vm,if_neg,List.append_nil,Y5 k (by omega) h];unfold P9;intro e
 rcases of_decide_eq_true e with e|e
 ·omega
 ·exact absurd (a.symm.trans e) (by decide)
theorem Aex(w:World)(base:Nat)(v:Value)(l:List Ad)(S:Ae Bz w base v l)(hn:l.length≤1000000):
  Calls Tryz.prog 218 #[v,.func (.func 219) #[] #[]] w fun e w'=>(∃v',e=.returned v'/\Ae Bz w' base v' (La l l.length))/\∃g,(v.ownBlock=some g∨l.length=0)/\Fp [g] w w':=by
 by_cases J:l.length<2
 ·obtain⟨a,cap,rfl,-,-⟩:=S.len
  have o:La l l.length=l:=by
   rw[Y5 l.length (a1u _) (fun i T J=>by omega),List.take_length]
  rw[o];have X:=a0z S
  have ay:∃g,((Value.slice a l.length cap).ownBlock=some g∨l.length=0):=by
   by_cases h0:l.length=0
   ·exact⟨0,Or.inr h0⟩
   ·obtain⟨g,bi,aS,e,-⟩:=S.open (by omega);exact⟨g,Or.inl (by rw[e];rfl)⟩
  obtain⟨g,hg⟩:=ay;have HG:=a0z hg
  obtain⟨n,B⟩:∃n,l.length=n:=⟨_,rfl⟩
  have HN:=a0z B;rw[B] at X HG J ⊢
  have z:(n:Int)<2:=by omega
  clear S o hg B hn;go_enter Tryz.func218,Tryz.ntmps218;go_wp2_with (fail);go_ret;exact⟨⟨_,rfl,X.out⟩,g,HG.out,Fp.refl _ _⟩
 obtain⟨g,cap,aS,rfl,bz,hh,aa,-⟩:=S.open (by omega);have bv:=Ac hh
 obtain⟨n,B⟩:∃n,l.length=n:=⟨_,rfl⟩
 have HN:=a0z B;have X:=a0z S;rw[B] at X J hn aa;rw[B]
 have z:¬(n:Int)<2:=by omega
 have al:=a0z pA;clear S hh B;go_enter Tryz.func218,Tryz.ntmps218;go_wp2_with (fail)
 go_loopg [5] n (fun gg vk wr=>∃k:Nat,vk=.int .i64 k/\gg+k=n+1/\1<=k/\k<=n/\(∀i,i<k->0<i->Ba (Af l i) (Af l (i-1))=false)/\Fp [] w wr)
 case atStart=>exact⟨1,rfl,by omega,a1u _,by omega,fun i T J=>by omega,Fp.refl _ _⟩
 case round=>
  obtain⟨k,rfl,bw,av,bp,W,t⟩:=hrel;have R:=a0z W;have HF:=a0z t;clear W t
  by_cases hk:k<n
  ·have zk:(k:Int)<(n:Int):=by omega
   have n1:IntKind.i64.wrap ((k:Int)-1)=((k-1:Nat):Int):=by rw[a0w];omega
   have n2:IntKind.i64.wrap ((k:Int)+1)=((k+1:Nat):Int):=by rw[a0w];omega
   obtain⟨p,Y⟩:∃p,k-1=p:=⟨_,rfl⟩
   rw[Y] at n1
   have zp:(p:Int)<(n:Int):=by omega
   have af:k<l.length:=by rw[HN.out];exact hk
   have ap:p<l.length:=by rw[HN.out];omega
   have E:Hid (∀w',Fp [] wr w'->Kw w' g (k*7) (Af l k)):=fun w' t=>Me ((X.out.fp HF.out (by simp)).fp t (by simp)) af
   have G:Hid (∀w',Fp [] wr w'->Kw w' g (p*7) (Af l p)):=fun w' t=>Me ((X.out.fp HF.out (by simp)).fp t (by simp)) ap
   have A:=a0z (fun w=>al.out (Af l k) (Af l p) w);have d:=a0z (fun h=>N9.start av af h R.out)
   have u:Hid (Ba (Af l k) (Af l p)=false->∀i,i<k+1->0<i->Ba (Af l i) (Af l (i-1))=false):=fun h i T J=>by
    by_cases e:i=k
    ·subst e;rw[Y];exact h
    ·exact R.out i (by omega) J
   rw[Y] at d
   obtain⟨x,hx⟩:∃x,Af l k=x:=⟨_,rfl⟩
   obtain⟨y,hy⟩:∃y,Af l p=y:=⟨_,rfl⟩
   rw[hx] at E A d u;rw[hy] at G A d u
   obtain⟨r,hr⟩:∃r,Ba x y=r:=⟨_,rfl⟩
   rw[hr] at A d u;obtain⟨⟨xr,xc,xt,xs,xd,xv⟩,xp⟩:=x;obtain⟨⟨yr,yc,yt,ys,yd,yv⟩,yp⟩:=y;have HC1':Hid (∀w,Calls Tryz.prog 219 #[.agg #[.string xr,.string xc,.int .u64 xt,.int .u64 xs,.bool xd,.string xv,.int .i64 xp],.agg #[.string yr,.string yc,.int .u64 yt,.int .u64 ys,.bool yd,.string yv,.int .i64 yp]] w fun e w'=>e=.returned (.bool r)/\Fp [] w w'):=A;clear hx hy hr A Y;go_wp2_with (fail);refine C9 (by kernel_rfl) (by kernel_rfl) ?_
   iterate 11
    apply Aw rfl rfl rfl
    ·intro a w C f K hK
     try have T:=f.fr 1 rfl
     try have h0:=f.fr 0 rfl
     try have h5:=f.fr 5 rfl
     try have cr:=f.eq 1 19 rfl
     try have cq:=f.eq 2 20 rfl
     try have aF:=f.eq 3 21 rfl
     try have cn:=f.eq 6 24 rfl
     try have co:=f.eq 5 23 rfl
     try have cm:=f.eq 7 25 rfl
     try have cl:=f.eq 8 26 rfl
     try have cs:=f.eq 0 18 rfl
     try have cp:=f.eq 4 22 rfl
     try have ck:=f.eq 9 27 rfl
     obtain⟨a0,a1,a2,a3,a4,a5,a6⟩:=E.out _ C;obtain⟨b0,b1,b2,b3,b4,b5,b6⟩:=G.out _ C;simp only at a0 a1 a2 a3 a4 a5 a6 b0 b1 b2 b3 b4 b5 b6;simp only[Oper.wp,execOp];go_simp
     first
     |exact hK _ C (Fp.refl _ _)
     |(with_reducible refine(HC1'.out _).mono ?_);rintro e w2 ⟨rfl,t⟩;exact hK _ (C.trans t (by simp)) t
   refine⟨?_,?_⟩
   ·repeat(first|exact trivial|refine B7 _ ?_ |refine⟨fun w1 w2 v _ t ⟨g,T,J⟩=>⟨g,T,(t.block g (Ac J) (by simp)).trans J⟩,?_⟩)
   ·intro w' C;simp only[a1z,a1x,a1v,a1w]
    iterate 11 (refine Am ?_)
    refine A0 ?_;simp only[Aj,Act.put,a0x,a0v,a0u];have U:=a0z (HF.out.trans C (by simp));clear C;cases r
    ·go_wp2_with (fail)
     go_roundg (gk-1)
     case measure=>omega
     case rel=>exact⟨k+1,by simp,by omega,by omega,by omega,u.out (by first|rfl|trivial),U.out⟩
    ·have bc:=a0z (d.out (by first|rfl|trivial));have am:=a0z (X.out.fp U.out (by simp))
     have bm:(k:Int)<=(cap:Int):=by omega
     have bk:(k:Int)<=(n:Int):=by omega
     have br:¬cap=k:=by omega
     obtain⟨w3,ac⟩:∃x,x=w':=⟨_,rfl⟩
     rw[<-ac] at U am ⊢;clear ac E G HC1' u d;go_wp2_with (fail)
     obtain⟨m,hm⟩:∃m,n-k=m:=⟨_,rfl⟩
     rw[hm]
     have bq:k+m=n:=by omega
     clear hm
     go_loopg [5,7] m (fun gg vk vj wt=>∃(kk s:Nat) (L:List Ad),vk=.int .i64 kk/\vj=.int .i64 s/\gg+s=m+1/\1<=s/\s<=m/\N9 l L kk (k+s)/\Ae Bz wt base (.slice (some ⟨g,0,none⟩) n cap) L/\Fp [g] w wt)
     case atStart=>exact⟨k,1,l,rfl,rfl,by omega,a1u _,by omega,bc.out,am.out,U.out.mono (by simp)⟩
     case round=>
      obtain⟨kk,s,L,rfl,rfl,bx,aF,cj,o,S,t⟩:=hrel;have I:=a0z o;have O:=a0z S;have an:=a0z t;have F:Hid (L.length=n):=o.len.trans HN.out;have bo:=o.pos;have bf:=o.lt;clear o S t
      by_cases bt:s<m
      ·have z2:(s:Int)<(m:Int):=by omega
       have n3:IntKind.i64.wrap ((s:Int)-1)=((s-1:Nat):Int):=by rw[a0w];omega
       have n4:IntKind.i64.wrap ((s:Int)+1)=((s+1:Nat):Int):=by rw[a0w];omega
       have n5:IntKind.i64.wrap ((kk:Int)+1)=((kk+1:Nat):Int):=by rw[a0w];omega
       obtain⟨p,Y⟩:∃p,s-1=p:=⟨_,rfl⟩
       rw[Y] at n3
       have zp:(p:Int)<(m:Int):=by omega
       have ax:k+s<L.length:=by rw[F.out];omega
       have aq:k+p<L.length:=by rw[F.out];omega
       have ag:k+s<l.length:=by rw[HN.out];omega
       have ab:kk<L.length:=by rw[F.out];omega
       have bj:(kk:Int)<(n:Int):=by omega
       have E:Hid (∀w',Fp [] wr w'->Kw w' g (k*7+s*7) (Af l (k+s))):=fun w' t=>by
        have h:=Me (O.out.fp t (by simp)) ax;rw[I.out.rest _ (by omega),Nat.add_mul] at h;exact h
       have G:Hid (∀w',Fp [] wr w'->Kw w' g (k*7+p*7) (Af l (k+p))):=fun w' t=>by
        have h:=Me (O.out.fp t (by simp)) aq;rw[I.out.rest _ (by omega),Nat.add_mul] at h;exact h
       have Q:=a0z (fun h=>I.out.drop ag h);have P:=a0z (fun h=>I.out.keep ag h);rw[show k+s-1=k+p by omega] at Q P;have A:=a0z (fun w=>al.out (Af l (k+s)) (Af l (k+p)) w)
       obtain⟨x,hx⟩:∃x,Af l (k+s)=x:=⟨_,rfl⟩
       obtain⟨y,hy⟩:∃y,Af l (k+p)=y:=⟨_,rfl⟩
       rw[hx] at E A Q P;rw[hy] at G A Q P
       obtain⟨r,hr⟩:∃r,Ba x y=r:=⟨_,rfl⟩
       rw[hr] at A Q P;obtain⟨⟨xr,xc,xt,xs,xd,xv⟩,xp⟩:=x;obtain⟨⟨yr,yc,yt,ys,yd,yv⟩,yp⟩:=y;have HC1':Hid (∀w,Calls Tryz.prog 219 #[.agg #[.string xr,.string xc,.int .u64 xt,.int .u64 xs,.bool xd,.string xv,.int .i64 xp],.agg #[.string yr,.string yc,.int .u64 yt,.int .u64 ys,.bool yd,.string yv,.int .i64 yp]] w fun e w'=>e=.returned (.bool r)/\Fp [] w w'):=A;clear hx hy hr A Y;go_wp2_with (fail);refine C9 (by kernel_rfl) (by kernel_rfl) ?_
       iterate 12
        apply Aw rfl rfl rfl
        ·intro a w C f K hK
         try have T:=f.fr 1 rfl
         try have h6:=f.fr 6 rfl
         try have h7:=f.fr 7 rfl
         try have ch:=f.eq 1 39 rfl
         try have cg:=f.eq 2 40 rfl
         try have cf:=f.eq 3 41 rfl
         try have cc:=f.eq 6 44 rfl
         try have cd:=f.eq 5 43 rfl
         try have ca:=f.eq 7 45 rfl
         try have b9:=f.eq 8 46 rfl
         try have ci:=f.eq 0 38 rfl
         try have ce:=f.eq 4 42 rfl
         try have b8:=f.eq 9 47 rfl
         try have b7:=f.eq 10 48 rfl
         obtain⟨a0,a1,a2,a3,a4,a5,a6⟩:=E.out _ C;obtain⟨b0,b1,b2,b3,b4,b5,b6⟩:=G.out _ C;simp only at a0 a1 a2 a3 a4 a5 a6 b0 b1 b2 b3 b4 b5 b6;simp only[Oper.wp,execOp];go_simp
         first
         |exact hK _ C (Fp.refl _ _)
         |(with_reducible refine(HC1'.out _).mono ?_);rintro e w2 ⟨rfl,t⟩;exact hK _ (C.trans t (by simp)) t
       refine⟨?_,?_⟩
       ·repeat(first|exact trivial|refine B7 _ ?_ |refine⟨fun w1 w2 v _ t ⟨g,T,J⟩=>⟨g,T,(t.block g (Ac J) (by simp)).trans J⟩,?_⟩)
       ·intro w' C;simp only[a1z,a1x,a1v,a1w]
        iterate 12 (refine Am ?_)
        refine A0 ?_;simp only[Aj,Act.put,a0x,a0v,a0u];obtain⟨a0,a1,a2,a3,a4,a5,a6⟩:=E.out _ C;simp only at a0 a1 a2 a3 a4 a5 a6;have M:=a0z (an.out.trans C (by simp));have D:=a0z (O.out.fp C (by simp))
        obtain⟨w5,N⟩:∃x,x=w':=⟨_,rfl⟩
        rw[<-N] at M D a0 a1 a2 a3 a4 a5 a6 ⊢;clear C N E G HC1';cases r
        ·obtain⟨c0,c1,c2,c3,c4,c5,c6⟩:=Me D.out ab;obtain⟨-,V,-,-,-,-⟩:=D.out.elem ab;have z0:=V (kk*7);have z1:=V (kk*7+1);have z2:=V (kk*7+2);have z3:=V (kk*7+3);have z4:=V (kk*7+4);have z5:=V (kk*7+5);have z6:=V (kk*7+6);obtain⟨ae,ai⟩:=dT ⟨⟨xr,xc,xt,xs,xd,xv⟩,xp⟩ D.out ab;have a7:=a0z ae;have ba:=a0z (M.out.trans ai (by simp));have a9:=a0z (P.out (by first|rfl|trivial));clear V ae ai;go_wp2_with (fail)
         go_roundg (gk-1)
         case measure=>omega
         case rel=>exact⟨kk+1,s+1,_,by simp,by simp,by omega,by omega,by omega,a9.out,a7.out,ba.out⟩
        ·have bb:=a0z (Q.out (by first|rfl|trivial));clear a0 a1 a2 a3 a4 a5 a6;go_wp2_with (fail)
         go_roundg (gk-1)
         case measure=>omega
         case rel=>exact⟨kk,s+1,L,rfl,by simp,by omega,by omega,by omega,bb.out,D.out,M.out⟩
      ·have z2:¬(s:Int)<(m:Int):=by omega
       have aw:k+s=n:=by omega
       have bd:kk<n:=by omega
       have a8:Hid (L.take kk=La l n):=by
        have h:=I.out.kept;rw[aw] at h;exact h
       obtain⟨g2,bh,ak,e2,bg,ah,ar,au,ad,ao⟩:=Ae.open O.out (by rw[F.out];omega);rw[F.out] at ar e2;cases e2
       have o:¬cap=kk:=by omega
       have zc:(n:Int)<=(cap:Int):=by omega
       have zi:(kk:Int)<=(n:Int):=by omega
       have bn:(kk:Int)<=(cap:Int):=by omega
       obtain⟨vs,az⟩:=Aew wr g (kk*7) (n-kk) (cap-kk) ak ah (by rw[ad];show kk*7+(n-kk)*7<=cap*7;omega) (by omega);obtain⟨Z,aj⟩:=Ae.cut (m:=kk) (p:=kk*7) vs O.out (by rw[F.out];omega) (by rw[F.out];omega) rfl;rw[a8.out] at Z;have M:=a0z (an.out.trans aj (by simp));have D:=a0z Z
       obtain⟨w5,N⟩:∃w5,wr.setCells g (kk*7) vs=w5:=⟨_,rfl⟩
       rw[N] at az M D;clear Z aj N ah ad ao au;go_wp2_with (fail);go_ret;exact⟨⟨_,rfl,D.out⟩,g,Or.inl rfl,M.out⟩
  ·have be:k=n:=by omega
   have o:La l n=l:=by
    have:=Y5 l.length (a1u _) (fun i T J=>R.out i (by have:=HN.out;omega) J);rw[List.take_length,HN.out] at this;exact this
   have I:=a0z o
   have zk:¬(k:Int)<(n:Int):=by omega
   clear o;go_wp2_with (fail);go_ret;exact⟨⟨_,rfl,by rw[I.out];exact X.out.fp HF.out (by simp)⟩,g,Or.inl rfl,HF.out.mono (by simp)⟩
end
section
open Go.RowKit Go.Lib
theorem Tryz.infoItm:(Tryz.prog.info? 221).map (fun i=>(i.zero,i.size,i.bytes))=some (some (.agg #[.string ⟨#[]⟩,.string ⟨#[]⟩,.int .u64 0,.int .u64 0,.bool false,.string ⟨#[]⟩,.int .i64 0]),7,80):=by kernel_rfl
theorem dV{w:World}{k:Array Oper}{rest:List Oper}{o:Oper}{a:Act}{Q:Exit→Act→World→Prop}(z:o.guard=none)(s x:Operand)
  (D:o.op=.call {callee:=.builtin .append,args:=#[s,x],argTypes:=#[162,162]})(base:Nat)(v:Value)(l:List Ad)(C:a.eval s=v)(r:Ae Bz w base v l)
  (y:Option Addr)(m c:Nat)(u:List Ad)(B:a.eval x=.slice y m c)(E:Cf Bz w y m u)(d:y=none->c=0)(t:l.length+u.length<=1000000000)(f:base<=w.heap.size)
  (h:∀A w',Ae Bz w' base A (l++u)->Below base w w'->w.grownBy w' v.ownBlock->wpList Tryz.prog k Q rest (a.put o.dst A) w'):wpList Tryz.prog k Q (o::rest) a w:=
 Yl (R:=Bz) 162 Tryz.underlying162 Tryz.infoItm rfl (by decide) z s x D base v l C r y m c u B E d t f h
def Jp(l:List Aa)(k:Nat):List Ad:=(List.range k).map fun i=>⟨l.getD i Az,i⟩
def Dj(l:List Aa):List Ad:=Jp l l.length
theorem pH(l:List Aa)(k:Nat):Jp l (k+1)=Jp l k++[⟨l.getD k Az,k⟩]:=by
 unfold Jp;rw[List.range_succ,List.map_append];rfl
theorem Qq(l:List Aa)(k:Nat):(Jp l k).length=k:=by simp[Jp]
theorem Aey(w:World)(a:Option Addr)(n cap:Nat)(l:List Aa)(D:Bh w a n l)(hn:n≤1000000):
  Calls Tryz.prog 141 #[.slice a n cap] w fun e w'=>∃v,e=.returned v/\Ae Bz w' w.heap.size v (Dj l)/\Fp [] w w':=by
 have HL:=a0z D;have x:=a0z D.len;clear D;go_enter Tryz.func141,Tryz.ntmps141;go_wp2_with (fail)
 go_loopg [2,7] n (fun g J P wr=>∃(k:Nat) (v:Value),g+k=n/\v=J/\P=.int .i64 k/\Ae Bz wr w.heap.size v (Jp l k)/\Fp [] w wr)
 case atStart=>exact⟨0,_,by omega,rfl,rfl,Ae.nil _ _,Fp.refl _ _⟩
 case round=>
  obtain⟨k,J,hg,rfl,rfl,K,L⟩:=hrel;have N:=a0z K;have A:=a0z L;clear K L;have X:w.heap.size<=wr.heap.size:=A.out.size
  by_cases W:k<n
  ·have O:(k:Int)<(n:Int):=by omega
   have t:k<l.length:=by rw[<-x.out];exact W
   have m:=pH l k;have s:=Qq l k;have G:=a0z s;rw[show l.getD k Az=l[k] by rw[List.getD_eq_getElem?_getD,List.getElem?_eq_getElem t];rfl] at m;obtain⟨b1,z,rfl,_,d⟩:=Lj HL.out t
   obtain⟨c,M⟩:∃c,l[k]=c:=⟨_,rfl⟩
   rw[M] at d m;obtain⟨r,Z,Q,R,Y,B⟩:=c;have F:=a0z m;obtain⟨q0,q1,V,U,T,S⟩:=d wr A.out;simp only at q0 q1 V U T S
   have n1:IntKind.i64.wrap ((k:Int)+1)=((k+1:Nat):Int):=by rw[a0w];omega
   have y:Hid (∀z C,Fp [] wr ((wr.alloc z).alloc C)):=fun z C=>(Fp.alloc wr z).alloc' C
   clear d M m s;go_wp2_with (at_builtin;(refine dV rfl _ _ rfl w.heap.size _ (Jp l k) rfl (N.out.fp (y.out _ _) (by simp)) _ _ _ [⟨⟨r,Z,Q,R,Y,B⟩,k⟩] rfl (Cf.one (Ai (by simp) _)) (fun h=>by cases h) (by have:=G.out;simp;omega) (by simp;omega) ?_);intro v2 w2 f u _;have o:=a0z f;have I:=a0z u;clear f u)
   go_roundg (gk-1)
   case measure=>omega
   case rel=>exact⟨k+1,_,by omega,rfl,by simp,by rw[F.out];exact o.out,(A.out.trans (y.out _ _) (by simp)).belowTrans I.out⟩
  ·have O:¬(k:Int)<(n:Int):=by omega
   have E:k=l.length:=by have:=x.out;omega
   have f:=N.out;rw[E] at f;have o:=a0z f;clear f;go_wp2_with (fail);go_ret;exact⟨_,rfl,o.out,A.out⟩
theorem pI(w:World)(a:Option Addr)(n cap:Nat)(l:List Ad)(m:Cf Bz w a n l)(d:a=none→cap=0)(C:n≤1000000):
  Calls Tryz.prog 144 #[.slice a n cap] w fun e w'=>∃z,e=.returned z/\Ae Bz w' w.heap.size z l/\Fp [] w w':=by
 have y:=a0z m;have v:=a0z m.len
 have A:∀(w:World) (a:Option Addr) (n c r c':Nat),(binOp .eql 162 (.slice a n c) (.slice none r c')).run Tryz.prog w=.ok (.bool a.isNone) w:=fun w a n c r c'=>Lib.run_eql_slice_nil w _ _ a n c r c' Tryz.underlying162
 cases a with
 |none=>
  obtain rfl:=d rfl
  have t:l=[]:=by
   rcases m.cells with h|⟨b,o,h,_⟩
   ·exact h
   ·cases h
  subst t;have s:n=0:=m.len;subst s;clear m d;go_enter Tryz.func144,Tryz.ntmps144;go_wp2_with (fail);go_ret;exact⟨_,rfl,Ae.nil _ _,Fp.refl _ _⟩
 |some ad=>
  clear m d;go_enter Tryz.func144,Tryz.ntmps144;go_wp2_with (at_builtin;refine dV rfl _ _ rfl w.heap.size _ [] rfl (Ae.made w _ (a1u _)) _ _ _ l rfl (y.out.fp (Fp.alloc _ _)) (by intro h;cases h) (by have:=v.out;simp;omega) (by simp) ?_;intro B w2 f k _;have u:=a0z f;have x:=a0z k;clear f k);go_ret;exact⟨_,rfl,u.out,(Fp.alloc w _).belowTrans (x.out.mono (by simp))⟩
end
end Go.Proofs.YtkagolpnaicdoaaGreatDoor
