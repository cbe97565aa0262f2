/- Lemmas. -/
import Derived.Test.YtkagolpnaicdoaaGreatDoorQRegionM
import Derived.RangeFuncWrites
import Derived.BigGuardIn
set_option maxRecDepth 100000
set_option maxHeartbeats 8000000
open Go.Lib renaming hid->X
open Go.IntKind renaming wrap_i64->Y
open List renaming setIfInBounds_toArray->a0z,set_cons_succ->a0x,set_cons_zero->a0w
open Nat renaming le_refl->a0v
namespace Go.Proofs.YtkagolpnaicdoaaGreatDoor
section
open Go.RowKit Go.Lib
theorem Acv(w:World)(base g n cap a m b:Nat)(l:List Ad)(N:Ag A8 w base (.slice (some ⟨g,0,none⟩) n cap) l)(ak:Be l)(ap:m=a+1)(bm:m<b)(hb:b≤l.length)(hn:l.length≤1000000)(ai:B5 l a m)(A:B5 l m b):
  Calls Tryz.prog 289 #[.slice (some ⟨g,0,none⟩) n cap,.int .i64 a,.int .i64 m,.int .i64 b,.func (.func 217) #[] #[]] w fun e w'=>e=.returned (.tuple #[])/\(∃l',Dl a b l l'/\B5 l' a b/\Ag A8 w' base (.slice (some ⟨g,0,none⟩) n cap) l')/\Fp [g] w w':=by
 have HO:=X N;have ba:=X ak;have aq:=X T8;have hm:l.length=n:=by
  obtain⟨a',c',e,-⟩:=N.len;cases e;rfl
 have HM:=X hm;rw[hm] at hb hn;have b9:=X ai;have a9:=X A;clear N ak hm ai A
 have n0:IntKind.i64.wrap ((m:Int)-(a:Int))=1:=by rw[Y];omega
 have R:=X ap
 have bg:a<m:=by omega
 clear ap;go_in;go_wp2_with fail
 go_loopg [10,11] (b-m) (fun gg vi vj wr=>∃i j:Nat,vi=.int .i64 i/\vj=.int .i64 j/\gg=j-i/\m<=i/\i<=j/\j<=b/\(i=m∨B8 (Af l (i-1)) (Af l a)<0)/\(j=b∨0<=B8 (Af l j) (Af l a))/\Ag A8 wr base (.slice (some ⟨g,0,none⟩) n cap) l/\Fp [] w wr)
 case atStart=>exact⟨m,b,rfl,rfl,rfl,a0v _,by omega,a0v _,Or.inl rfl,Or.inl rfl,HO.o,Fp.refl _ _⟩
 case round=>
  clear n0;obtain⟨i,j,rfl,rfl,I,au,am,av,S,F,N,z⟩:=hrel;have p:=X N;have B:=X z;have V:=X S;have J:=X F;have Q:=X I;clear N z S F I;by_cases bn:i<j
  .have ar:(i:Int)<(j:Int):=(by omega)
   obtain⟨h,hh⟩:=Aa ((i+j)/2)
   have e1:((i:Int)+(j:Int))/2=(h:Int):=(by omega)
   have aw:i<=h:=(by omega)
   have bp:h<j:=(by omega)
   have ao:h<l.length:=(by rw[HM.o];omega)
   have az:a<l.length:=by have:=R.o;rw[HM.o];omega
   have zh:(h:Int)<(n:Int):=(by omega)
   have za:(a:Int)<(n:Int):=by have:=R.o;omega
   have n1:IntKind.i64.wrap ((h:Int)+1)=((h+1:Nat):Int):=(by rw[Y];omega)
   clear hh;obtain⟨-,-,-,ay,-,-⟩:=p.o.elem ao;have C:Hid (∀w',Fp [] wr w'->Ie w' g (h*7) (Af l h)):=fun w' z=>Gx (p.o.kept (fun k O=>z.block k (p.o.lt k O).2 (by simp))) ao;have ah:Hid (∀w',Fp [] wr w'->Ie w' g (a*7) (Af l a)):=fun w' z=>Gx (p.o.kept (fun k O=>z.block k (p.o.lt k O).2 (by simp))) az;have L:=X (fun w=>aq.o (Af l h) (Af l a) w);obtain⟨x,hx⟩:=Aa (Af l h);obtain⟨y,hy⟩:=Aa (Af l a);rw[hx] at C L;rw[hy] at ah L;obtain⟨r,hr⟩:=Aa (B8 x y);rw[hr] at L
   have HR:Hid (B8 (Af l h) (Af l a)=r):=(by rw[hx,hy];exact hr)
   obtain⟨⟨xr,xc,xt,xs,xd,xv⟩,xp⟩:=x;obtain⟨⟨yr,yc,yt,ys,yd,yv⟩,yp⟩:=y;have HC1':Hid (∀w,Calls Tryz.prog 217 #[.agg #[.string xr,.string xc,.int .u64 xt,.int .u64 xs,.bool xd,.string xv,.int .i64 xp],.agg #[.string yr,.string yc,.int .u64 yt,.int .u64 ys,.bool yd,.string yv,.int .i64 yp]] w fun e w'=>e=.returned (.int .i64 r)/\Fp [] w w'):=L;clear hx hy hr L;by_cases aj:r<0
   .go_wp2_with fail;refine Bo (by kernel_rfl) (by kernel_rfl) ?_
    iterate 11
     apply A1 rfl rfl rfl
     .intro a w d c K s;have:=c.f 4;have:=c.f 0;have:=c.f 12;have:=c.f 1;(try have:=c.e 1 41);(try have:=c.e 2 42);(try have:=c.e 3 43);(try have:=c.e 5 45);(try have:=c.e 6 46);(try have:=c.e 7 47);(try have:=c.e 0 40);(try have:=c.e 4 44);(try have:=c.e 8 48);(try have:=c.e 9 49);obtain⟨a0,a1,a2,a3,a4,a5,a6⟩:=C.o _ d;obtain⟨b0,b1,b2,b3,b4,b5,b6⟩:=ah.o _ d;simp only at a0 a1 a2 a3 a4 a5 a6 b0 b1 b2 b3 b4 b5 b6;simp only[Oper.wp,execOp];go_simp
      first
      |exact s _ d (Fp.refl _ _)
      |(with_reducible refine(HC1'.o _).mono ?_);rintro e w2 ⟨rfl,z⟩;exact s _ (d.trans z) z
    refine Bn ?_
    iterate 11 refine Bm ?_
    refine Bl fun w' d=>?_
    .simp only[Aj,Act.put,a0z,a0x,a0w];have ag:=X (B.o.trans d);have ae:=X (Ag.kept p.o (fun k O=>d.block k (p.o.lt k O).2 (by simp)));clear d;go_wp2_with fail
     go_roundg (j-(h+1))
     case measure=>have:=Q.o;omega
     case rel=>exact⟨h+1,j,rfl,rfl,rfl,by omega,by omega,av,Or.inr (by rw[Nat.add_sub_cancel,HR.o];omega),J.o,ae.o,ag.o⟩
   .have zr:¬(r<0):=aj;have zd:decide (r<0)=false:=decide_eq_false aj;go_wp2_with fail;refine Bo (by kernel_rfl) (by kernel_rfl) ?_
    iterate 11
     apply A1 rfl rfl rfl
     .intro a w d c K s;have:=c.f 4;have:=c.f 0;have:=c.f 12;have:=c.f 1;(try have:=c.e 1 41);(try have:=c.e 2 42);(try have:=c.e 3 43);(try have:=c.e 5 45);(try have:=c.e 6 46);(try have:=c.e 7 47);(try have:=c.e 0 40);(try have:=c.e 4 44);(try have:=c.e 8 48);(try have:=c.e 9 49);obtain⟨a0,a1,a2,a3,a4,a5,a6⟩:=C.o _ d;obtain⟨b0,b1,b2,b3,b4,b5,b6⟩:=ah.o _ d;simp only at a0 a1 a2 a3 a4 a5 a6 b0 b1 b2 b3 b4 b5 b6;simp only[Oper.wp,execOp];go_simp
      first
      |exact s _ d (Fp.refl _ _)
      |(with_reducible refine(HC1'.o _).mono ?_);rintro e w2 ⟨rfl,z⟩;exact s _ (d.trans z) z
    refine Bn ?_
    iterate 11 refine Bm ?_
    refine Bl fun w' d=>?_
    .simp only[Aj,Act.put,a0z,a0x,a0w];have ag:=X (B.o.trans d);have ae:=X (Ag.kept p.o (fun k O=>d.block k (p.o.lt k O).2 (by simp)));clear d;go_wp2_with fail
     go_roundg (h-i)
     case measure=>have:=Q.o;omega
     case rel=>exact⟨i,h,rfl,rfl,rfl,au,aw,by omega,V.o,Or.inr (by rw[HR.o];omega),ae.o,ag.o⟩
  .have al:j=i:=(by omega)
   have ar:¬(i:Int)<(j:Int):=(by omega)
   have G:=J.o;rw[al] at G;have be:=X G
   have ax:i<=b:=(by omega)
   have n2:IntKind.i64.wrap ((i:Int)-1)=((i-1:Nat):Int):=(by rw[Y];omega)
   obtain⟨i1,ab⟩:=Aa (i-1);rw[ab] at n2;have bd:=X ab
   have U:a<=i1:=by have:=R.o;omega
   have an:i1<b:=(by omega)
   clear G al ab;go_wp2_with fail
   go_loopg [13] (i1-a) (fun gg vk wr=>∃(k:Nat) (l':List Ad),vk=.int .i64 k/\gg=i1-k/\a<=k/\k<=i1/\Ld a k l l'/\Ag A8 wr base (.slice (some ⟨g,0,none⟩) n cap) l'/\Fp [g] w wr)
   case atStart=>exact⟨a,l,rfl,rfl,a0v _,U,Ld.nil _ _,p.o,B.o.mono (by simp)⟩
   case round=>
    obtain⟨k,W,rfl,I,a7,bo,ac,N,z⟩:=hrel;have af:Hid (W.length=n):=ac.len.trans HM.o;have C:=X ac;have p:=X N;have B:=X z;have Q:=X I;clear ac N z I;by_cases O:k<i1
    .have zk:(k:Int)<(i1:Int):=(by omega)
     have t:=C.o.step a7 (by rw[af.o];omega)
     have n3:IntKind.i64.wrap ((k:Int)+1)=((k+1:Nat):Int):=(by rw[Y];omega)
     obtain⟨q,hq⟩:=Aa (k+1);rw[hq] at n3 t;have a8:=X t;have HQ:=X hq
     have D:k<W.length:=(by rw[af.o];omega)
     have M:q<W.length:=(by rw[af.o];omega)
     have bi:(k:Int)<(n:Int):=(by omega)
     have bh:(q:Int)<(n:Int):=(by omega)
     have am:k≠q:=(by omega)
     clear t hq;obtain⟨-,-,-,ay,-,-⟩:=p.o.elem D;obtain⟨xx,hx⟩:=Aa (Af W k);obtain⟨yy,hy⟩:=Aa (Af W q);have HX:=X hx;have HY:=X hy;obtain⟨⟨xr,xc,xt,xs,xd,xv⟩,xp⟩:=xx;obtain⟨⟨yr,yc,yt,ys,yd,yv⟩,yp⟩:=yy;clear hx hy;go_wp2_with fail;refine E3 (fun bb w'=>J6 wr base g n cap W k q 15 17 bb w') (fun _ _=>True) (by kernel_rfl) (by kernel_rfl) ⟨p.o.kept (fun k O=>rfl),(Fp.drew _).mono (by simp)⟩ ?_
     iterate 9
      apply A3 (fun _ _ h=>h.plain (by decide)) rfl rfl rfl
      .intro b a w d c K s;have:=c.f 0;have:=c.f 13;(try have:=c.e 3 64);(try have:=c.e 6 67);(try have:=c.e 5 66);(try have:=c.e 7 68);simp only[Oper.wp,execOp];go_simp;exact s _ d trivial
     apply A3 (fun _ _ h=>h.plain (by decide)) rfl rfl rfl
     .intro b a w d c K s;have bw:=c.e 8 69;obtain⟨b0,b1,b2,b3,b4,b5,b6⟩:=Qh (d.first (c.post 15 (by kernel_rfl)) (c.post 17 (by kernel_rfl))) M HY.o;simp only at b0 b1 b2 b3 b4 b5 b6;simp only[Oper.wp,execOp];go_simp;exact s _ d trivial
     iterate 3
      apply A3 (fun _ _ h=>h.plain (by decide)) rfl rfl rfl
      .intro b a w d c K s;have:=c.f 0;have:=c.f 13;(try have:=c.e 10 71);(try have:=c.e 11 72);simp only[Oper.wp,execOp];go_simp;exact s _ d trivial
     apply A3 (fun _ _ h=>h.plain (by decide)) rfl rfl rfl
     .intro b a w d c K s;have bt:=c.e 12 73;obtain⟨a0,a1,a2,a3,a4,a5,a6⟩:=Qh (d.first (c.post 15 (by kernel_rfl)) (c.post 17 (by kernel_rfl))) D HX.o;simp only at a0 a1 a2 a3 a4 a5 a6;simp only[Oper.wp,execOp];go_simp;exact s _ d trivial
     apply A3 (fun _ _ h=>h.plain (by decide)) rfl rfl rfl
     .intro b a w d c K s;have b8:=c.e 0 61;have b7:=c.e 1 62;simp only[Oper.wp,execOp];go_simp;exact s _ d trivial
     apply F3 (fun _=>True) rfl rfl
     .intro b a w d c K s;have br:=c.e 14 75;have bv:=c.e 9 70;obtain⟨a0,a1,a2,a3,a4,a5,a6⟩:=Gx d.own (i:=k) (by rw[Iq];exact D);obtain⟨-,u,-,-,-,-⟩:=d.own.elem (i:=k) (by rw[Iq];exact D);have z0:=u (k*7);have z1:=u (k*7+1);have z2:=u (k*7+2);have z3:=u (k*7+3);have z4:=u (k*7+4);have z5:=u (k*7+5);have z6:=u (k*7+6);have t:=d.storeP c.self D am (by decide);rw[HY.o] at t;clear u;simp only[Oper.wp,execOp];go_simp;exact s undef _ t trivial trivial
     apply A3 (fun _ _ h=>h.plain (by decide)) rfl rfl rfl
     .intro b a w d c K s;have bz:=c.e 2 63;have bx:=c.e 4 65;simp only[Oper.wp,execOp];go_simp;exact s _ d trivial
     apply F3 (fun _=>True) rfl rfl
     .intro b a w d c K s;have bq:=c.e 16 76;have bs:=c.e 13 74;obtain⟨a0,a1,a2,a3,a4,a5,a6⟩:=Gx d.own (i:=q) (by rw[Iq];exact M);obtain⟨-,u,-,-,-,-⟩:=d.own.elem (i:=q) (by rw[Iq];exact M);have z0:=u (q*7);have z1:=u (q*7+1);have z2:=u (q*7+2);have z3:=u (q*7+3);have z4:=u (q*7+4);have z5:=u (q*7+5);have z6:=u (q*7+6);have t:=d.storeQ c.self M (by decide);rw[HX.o] at t;clear u;simp only[Oper.wp,execOp];go_simp;exact s undef _ t trivial trivial
     refine⟨?_,?_⟩
     .refine⟨fun _ _ _ _ _=>trivial,?_⟩;refine Cb _ ?_;refine⟨fun _ _ _ _ _=>trivial,?_⟩
      iterate 15 refine Cb _ ?_
      exact trivial
     .intro w' bb d ad;simp only[List.reverse_cons,List.reverse_nil,List.nil_append,List.cons_append]
      iterate 15 (refine A2 ?_)
      refine As ?_;intro bk u15
      iterate 1 (refine A2 ?_)
      refine As ?_;intro bj u17;refine C7 ?_;simp only[Aj,Act.put,a0z,a0x,a0w];have aa:=d.own;rw[Yg (ad 15 (by simp)) (ad 17 (by simp))] at aa;have bc:=X aa;have bf:=X (B.o.trans d.fp (by intro i hi;exact Or.inl hi));clear d ad aa u15 u17;go_wp2_with fail
      go_roundg (i1-q)
      case measure=>have:=Q.o;have:=HQ.o;omega
      case rel=>have:=HQ.o;exact⟨q,_,rfl,rfl,by omega,by omega,a8.o,bc.o,bf.o⟩
    .have zk:¬(k:Int)<(i1:Int):=(by omega)
     have T:k=i1:=(by omega)
     have v:=C.o;rw[T] at v;have HT:=X (v.turned U an);rw[<-bd.o] at v;have h1:=R.o;have A:=a9.o;rw[h1] at A;have HS:=X (v.sort ba.o (by omega) A (by have:=V.o;rw[h1] at this;exact this) be.o ax);clear T v A h1;go_wp2_with fail;refine bodyPost_ret (results_none rfl _ _ _) rfl ?_;exact⟨rfl,⟨W,HT.o,HS.o,p.o⟩,B.o⟩
theorem Acw(w:World)(base g n cap a m b:Nat)(l:List Ad)(N:Ag A8 w base (.slice (some ⟨g,0,none⟩) n cap) l)(ak:Be l)(b7:a+1<m)(am:b=m+1)(hb:b≤l.length)(hn:l.length≤1000000)(ai:B5 l a m)(ah:B5 l m b):
  Calls Tryz.prog 289 #[.slice (some ⟨g,0,none⟩) n cap,.int .i64 a,.int .i64 m,.int .i64 b,.func (.func 217) #[] #[]] w fun e w'=>e=.returned (.tuple #[])/\(∃l',Dl a b l l'/\B5 l' a b/\Ag A8 w' base (.slice (some ⟨g,0,none⟩) n cap) l')/\Fp [g] w w':=by
 have HO:=X N;have ba:=X ak;have aq:=X T8;have hm:l.length=n:=by
  obtain⟨a',c',e,-⟩:=N.len;cases e;rfl
 have HM:=X hm;rw[hm] at hb hn;have a9:=X ai;have b8:=X ah;clear N ak hm ai ah
 have n0:IntKind.i64.wrap ((m:Int)-(a:Int))=((m-a:Nat):Int):=by rw[Y];omega
 have av:IntKind.i64.wrap ((b:Int)-(m:Int))=1:=by rw[Y];omega
 obtain⟨d,hd⟩:=Aa (m-a);rw[hd] at n0
 have zd:((d:Int)==1)=false:=by simp;omega
 have au:¬(d:Int)=1:=by omega
 have ap:=X am
 have bf:m<b:=by omega
 clear hd am;go_in;go_wp2_with fail
 go_loopg [14,15] (m-a) (fun gg vi vj wr=>∃i j:Nat,vi=.int .i64 i/\vj=.int .i64 j/\gg=j-i/\a<=i/\i<=j/\j<=m/\(i=a∨0<=B8 (Af l m) (Af l (i-1)))/\(j=m∨B8 (Af l m) (Af l j)<0)/\Ag A8 wr base (.slice (some ⟨g,0,none⟩) n cap) l/\Fp [] w wr)
 case atStart=>exact⟨a,m,rfl,rfl,rfl,a0v _,by omega,a0v _,Or.inl rfl,Or.inl rfl,HO.o,Fp.refl _ _⟩
 case round=>
  clear n0 av zd au;obtain⟨i,j,rfl,rfl,I,ac,ao,ax,R,F,N,z⟩:=hrel;have s:=X N;have B:=X z;have T:=X R;have J:=X F;have Q:=X I
  have al:m<l.length:=by rw[HM.o];omega
  have zm:(m:Int)<(n:Int):=by omega
  clear N z R F I;by_cases bw:i<j
  .have ar:(i:Int)<(j:Int):=(by omega)
   obtain⟨h,hh⟩:=Aa ((i+j)/2)
   have e1:((i:Int)+(j:Int))/2=(h:Int):=(by omega)
   have ay:i<=h:=(by omega)
   have bz:h<j:=(by omega)
   have az:h<l.length:=(by rw[HM.o];omega)
   have zh:(h:Int)<(n:Int):=(by omega)
   have n1:IntKind.i64.wrap ((h:Int)+1)=((h+1:Nat):Int):=(by rw[Y];omega)
   clear hh;obtain⟨-,-,-,a7,-,-⟩:=s.o.elem al;have C:Hid (∀w',Fp [] wr w'->Ie w' g (m*7) (Af l m)):=fun w' z=>Gx (s.o.kept (fun k O=>z.block k (s.o.lt k O).2 (by simp))) al;have ag:Hid (∀w',Fp [] wr w'->Ie w' g (h*7) (Af l h)):=fun w' z=>Gx (s.o.kept (fun k O=>z.block k (s.o.lt k O).2 (by simp))) az;have L:=X (fun w=>aq.o (Af l m) (Af l h) w);obtain⟨x,hx⟩:=Aa (Af l m);obtain⟨y,hy⟩:=Aa (Af l h);rw[hx] at C L;rw[hy] at ag L;obtain⟨r,hr⟩:=Aa (B8 x y);rw[hr] at L
   have HR:Hid (B8 (Af l m) (Af l h)=r):=(by rw[hx,hy];exact hr)
   obtain⟨⟨xr,xc,xt,xs,xd,xv⟩,xp⟩:=x;obtain⟨⟨yr,yc,yt,ys,yd,yv⟩,yp⟩:=y;have HC1':Hid (∀w,Calls Tryz.prog 217 #[.agg #[.string xr,.string xc,.int .u64 xt,.int .u64 xs,.bool xd,.string xv,.int .i64 xp],.agg #[.string yr,.string yc,.int .u64 yt,.int .u64 ys,.bool yd,.string yv,.int .i64 yp]] w fun e w'=>e=.returned (.int .i64 r)/\Fp [] w w'):=L;clear hx hy hr L;by_cases aj:r<0
   .go_wp2_with fail;refine Bo (by kernel_rfl) (by kernel_rfl) ?_
    iterate 12
     apply A1 rfl rfl rfl
     .intro a w p c K t;have:=c.f 4;have:=c.f 0;have:=c.f 2;have:=c.f 16;(try have:=c.e 1 93);(try have:=c.e 2 94);(try have:=c.e 3 95);(try have:=c.e 5 97);(try have:=c.e 6 98);(try have:=c.e 7 99);(try have:=c.e 0 92);(try have:=c.e 4 96);(try have:=c.e 8 100);(try have:=c.e 9 101);(try have:=c.e 10 102);obtain⟨a0,a1,a2,a3,a4,a5,a6⟩:=C.o _ p;obtain⟨b0,b1,b2,b3,b4,b5,b6⟩:=ag.o _ p;simp only at a0 a1 a2 a3 a4 a5 a6 b0 b1 b2 b3 b4 b5 b6;simp only[Oper.wp,execOp];go_simp
      first
      |exact t _ p (Fp.refl _ _)
      |(with_reducible refine(HC1'.o _).mono ?_);rintro e w2 ⟨rfl,z⟩;exact t _ (p.trans z) z
    refine Bn ?_
    iterate 12 refine Bm ?_
    refine Bl fun w' p=>?_
    .simp only[Aj,Act.put,a0z,a0x,a0w];have af:=X (B.o.trans p);have ad:=X (Ag.kept s.o (fun k O=>p.block k (s.o.lt k O).2 (by simp)));clear p;go_wp2_with fail
     go_roundg (h-i)
     case measure=>have:=Q.o;omega
     case rel=>exact⟨i,h,rfl,rfl,rfl,ac,ay,by omega,T.o,Or.inr (by rw[HR.o];omega),ad.o,af.o⟩
   .have zr:¬(r<0):=aj;have zd:decide (r<0)=false:=decide_eq_false aj;go_wp2_with fail;refine Bo (by kernel_rfl) (by kernel_rfl) ?_
    iterate 12
     apply A1 rfl rfl rfl
     .intro a w p c K t;have:=c.f 4;have:=c.f 0;have:=c.f 2;have:=c.f 16;(try have:=c.e 1 93);(try have:=c.e 2 94);(try have:=c.e 3 95);(try have:=c.e 5 97);(try have:=c.e 6 98);(try have:=c.e 7 99);(try have:=c.e 0 92);(try have:=c.e 4 96);(try have:=c.e 8 100);(try have:=c.e 9 101);(try have:=c.e 10 102);obtain⟨a0,a1,a2,a3,a4,a5,a6⟩:=C.o _ p;obtain⟨b0,b1,b2,b3,b4,b5,b6⟩:=ag.o _ p;simp only at a0 a1 a2 a3 a4 a5 a6 b0 b1 b2 b3 b4 b5 b6;simp only[Oper.wp,execOp];go_simp
      first
      |exact t _ p (Fp.refl _ _)
      |(with_reducible refine(HC1'.o _).mono ?_);rintro e w2 ⟨rfl,z⟩;exact t _ (p.trans z) z
    refine Bn ?_
    iterate 12 refine Bm ?_
    refine Bl fun w' p=>?_
    .simp only[Aj,Act.put,a0z,a0x,a0w];have af:=X (B.o.trans p);have ad:=X (Ag.kept s.o (fun k O=>p.block k (s.o.lt k O).2 (by simp)));clear p;go_wp2_with fail
     go_roundg (j-(h+1))
     case measure=>have:=Q.o;omega
     case rel=>exact⟨h+1,j,rfl,rfl,rfl,by omega,by omega,ax,Or.inr (by rw[Nat.add_sub_cancel,HR.o];omega),J.o,ad.o,af.o⟩
  .have an:j=i:=(by omega)
   have ar:¬(i:Int)<(j:Int):=(by omega)
   have G:=J.o;rw[an] at G;have bd:=X G
   have W:i<=m:=(by omega)
   clear G an;go_wp2_with fail
   go_loopg [17] (m-i) (fun gg vk wr=>∃(k:Nat) (l':List Ad),vk=.int .i64 k/\gg=k-i/\i<=k/\k<=m/\Le m k l l'/\Ag A8 wr base (.slice (some ⟨g,0,none⟩) n cap) l'/\Fp [g] w wr)
   case atStart=>exact⟨m,l,rfl,rfl,W,a0v _,Le.nil _ _,s.o,B.o.mono (by simp)⟩
   case round=>
    obtain⟨k,U,rfl,I,bx,aw,aa,N,z⟩:=hrel;have ae:Hid (U.length=n):=aa.len.trans HM.o;have C:=X aa;have s:=X N;have B:=X z;have Q:=X I;clear aa N z I;by_cases O:i<k
    .have zk:(k:Int)>(i:Int):=(by omega)
     have u:=C.o.step aw (by omega) (by rw[ae.o];omega)
     have n3:IntKind.i64.wrap ((k:Int)-1)=((k-1:Nat):Int):=(by rw[Y];omega)
     obtain⟨q,hq⟩:=Aa (k-1);rw[hq] at n3 u;have a8:=X u;have HQ:=X hq
     have D:k<U.length:=(by rw[ae.o];omega)
     have M:q<U.length:=(by rw[ae.o];omega)
     have bs:(k:Int)<(n:Int):=(by omega)
     have br:(q:Int)<(n:Int):=(by omega)
     have ao:k≠q:=(by omega)
     clear u hq;obtain⟨-,-,-,a7,-,-⟩:=s.o.elem D;obtain⟨xx,hx⟩:=Aa (Af U k);obtain⟨yy,hy⟩:=Aa (Af U q);have HX:=X hx;have HY:=X hy;obtain⟨⟨xr,xc,xt,xs,xd,xv⟩,xp⟩:=xx;obtain⟨⟨yr,yc,yt,ys,yd,yv⟩,yp⟩:=yy;clear hx hy;go_wp2_with fail;refine E3 (fun bb w'=>J6 wr base g n cap U k q 15 17 bb w') (fun _ _=>True) (by kernel_rfl) (by kernel_rfl) ⟨s.o.kept (fun k O=>rfl),(Fp.drew _).mono (by simp)⟩ ?_
     iterate 9
      apply A3 (fun _ _ h=>h.plain (by decide)) rfl rfl rfl
      .intro b a w p c K t;have:=c.f 0;have:=c.f 17;(try have:=c.e 3 116);(try have:=c.e 6 119);(try have:=c.e 5 118);(try have:=c.e 7 120);simp only[Oper.wp,execOp];go_simp;exact t _ p trivial
     apply A3 (fun _ _ h=>h.plain (by decide)) rfl rfl rfl
     .intro b a w p c K t;have bm:=c.e 8 121;obtain⟨b0,b1,b2,b3,b4,b5,b6⟩:=Qh (p.first (c.post 15 (by kernel_rfl)) (c.post 17 (by kernel_rfl))) M HY.o;simp only at b0 b1 b2 b3 b4 b5 b6;simp only[Oper.wp,execOp];go_simp;exact t _ p trivial
     iterate 3
      apply A3 (fun _ _ h=>h.plain (by decide)) rfl rfl rfl
      .intro b a w p c K t;have:=c.f 0;have:=c.f 17;(try have:=c.e 10 123);(try have:=c.e 11 124);simp only[Oper.wp,execOp];go_simp;exact t _ p trivial
     apply A3 (fun _ _ h=>h.plain (by decide)) rfl rfl rfl
     .intro b a w p c K t;have bj:=c.e 12 125;obtain⟨a0,a1,a2,a3,a4,a5,a6⟩:=Qh (p.first (c.post 15 (by kernel_rfl)) (c.post 17 (by kernel_rfl))) D HX.o;simp only at a0 a1 a2 a3 a4 a5 a6;simp only[Oper.wp,execOp];go_simp;exact t _ p trivial
     apply A3 (fun _ _ h=>h.plain (by decide)) rfl rfl rfl
     .intro b a w p c K t;have bq:=c.e 0 113;have bp:=c.e 1 114;simp only[Oper.wp,execOp];go_simp;exact t _ p trivial
     apply F3 (fun _=>True) rfl rfl
     .intro b a w p c K t;have bh:=c.e 14 127;have bk:=c.e 9 122;obtain⟨a0,a1,a2,a3,a4,a5,a6⟩:=Gx p.own (i:=k) (by rw[Iq];exact D);obtain⟨-,v,-,-,-,-⟩:=p.own.elem (i:=k) (by rw[Iq];exact D);have z0:=v (k*7);have z1:=v (k*7+1);have z2:=v (k*7+2);have z3:=v (k*7+3);have z4:=v (k*7+4);have z5:=v (k*7+5);have z6:=v (k*7+6);have u:=p.storeP c.self D ao (by decide);rw[HY.o] at u;clear v;simp only[Oper.wp,execOp];go_simp;exact t undef _ u trivial trivial
     apply A3 (fun _ _ h=>h.plain (by decide)) rfl rfl rfl
     .intro b a w p c K t;have bo:=c.e 2 115;have bn:=c.e 4 117;simp only[Oper.wp,execOp];go_simp;exact t _ p trivial
     apply F3 (fun _=>True) rfl rfl
     .intro b a w p c K t;have bg:=c.e 16 128;have bi:=c.e 13 126;obtain⟨a0,a1,a2,a3,a4,a5,a6⟩:=Gx p.own (i:=q) (by rw[Iq];exact M);obtain⟨-,v,-,-,-,-⟩:=p.own.elem (i:=q) (by rw[Iq];exact M);have z0:=v (q*7);have z1:=v (q*7+1);have z2:=v (q*7+2);have z3:=v (q*7+3);have z4:=v (q*7+4);have z5:=v (q*7+5);have z6:=v (q*7+6);have u:=p.storeQ c.self M (by decide);rw[HX.o] at u;clear v;simp only[Oper.wp,execOp];go_simp;exact t undef _ u trivial trivial
     refine⟨?_,?_⟩
     .refine⟨fun _ _ _ _ _=>trivial,?_⟩;refine Cb _ ?_;refine⟨fun _ _ _ _ _=>trivial,?_⟩
      iterate 15 refine Cb _ ?_
      exact trivial
     .intro w' bb p ab;simp only[List.reverse_cons,List.reverse_nil,List.nil_append,List.cons_append]
      iterate 15 (refine A2 ?_)
      refine As ?_;intro bv u15
      iterate 1 (refine A2 ?_)
      refine As ?_;intro bt u17;refine C7 ?_;simp only[Aj,Act.put,a0z,a0x,a0w];have V:=p.own;rw[Yg (ab 15 (by simp)) (ab 17 (by simp))] at V;have bc:=X V;have be:=X (B.o.trans p.fp (by intro i hi;exact Or.inl hi));clear p ab V u15 u17;go_wp2_with fail
      go_roundg (q-i)
      case measure=>have:=Q.o;have:=HQ.o;omega
      case rel=>have:=HQ.o;exact⟨q,_,rfl,rfl,by omega,by omega,a8.o,bc.o,be.o⟩
    .have zk:¬(k:Int)>(i:Int):=(by omega)
     have S:k=i:=(by omega)
     have A:=C.o;rw[S] at A;have HS:=X (A.sort ba.o ac W a9.o T.o bd.o);have HT:=X (A.turned ac W);clear S A;go_wp2_with fail;refine bodyPost_ret (results_none rfl _ _ _) rfl ?_;refine⟨rfl,⟨U,?_,?_,s.o⟩,B.o⟩
     .rw[ap.o];exact HT.o
     .rw[ap.o];exact HS.o
theorem Acx:∀(N:Nat) (w:World) (base g n cap a m b:Nat) (l:List Ad),b-a≤N→Ag A8 w base (.slice (some ⟨g,0,none⟩) n cap) l→Be l→a<m→m<b→b≤l.length→l.length≤1000000→B5 l a m→B5 l m b→
  Calls Tryz.prog 289 #[.slice (some ⟨g,0,none⟩) n cap,.int .i64 a,.int .i64 m,.int .i64 b,.func (.func 217) #[] #[]] w fun e w'=>e=.returned (.tuple #[])/\(∃l',Dl a b l l'/\B5 l' a b/\Ag A8 w' base (.slice (some ⟨g,0,none⟩) n cap) l')/\Fp [g] w w':=by
 intro N
 induction N with
 |zero=>intro w base g n cap a m b l hN;omega
 |succ N ih=>
  intro w base g n cap a m b l hN ho ao ap T hb hn an B;by_cases c1:m=a+1
  .exact Acv w base g n cap a m b l ho ao c1 T hb hn an B
  by_cases c2:b=m+1
  .exact Acw w base g n cap a m b l ho ao (by omega) c2 hb hn an B
  have cd:=X ih;clear ih;have HO:=X ho;have ar:=X ao;have cg:=X T8;have hm:l.length=n:=by
   obtain⟨a',c',e,-⟩:=ho.len;cases e;rfl
  have HM:=X hm;rw[hm] at hb hn;have c0:=X an;have bd:=X B;clear ho ao hm an B;have bx:=X (fun w a m b l ho ap T hb hn=>Acf w base g n cap a m b l ho ap T hb hn)
  have n0:IntKind.i64.wrap ((m:Int)-(a:Int))=((m-a:Nat):Int):=by rw[Y];omega
  have bh:IntKind.i64.wrap ((b:Int)-(m:Int))=((b-m:Nat):Int):=by rw[Y];omega
  obtain⟨d,hd⟩:=Aa (m-a);obtain⟨d2,br⟩:=Aa (b-m);rw[hd] at n0;rw[br] at bh
  have zd:((d:Int)==1)=false:=by simp;omega
  have cp:¬(d:Int)=1:=by omega
  have ze:((d2:Int)==1)=false:=by simp;omega
  have co:¬(d2:Int)=1:=by omega
  obtain⟨mid,I⟩:=Aa ((a+b)/2)
  have e1:((a:Int)+(b:Int))/2=(mid:Int):=by omega
  have n1:IntKind.i64.wrap ((mid:Int)+(m:Int))=((mid+m:Nat):Int):=by rw[Y];omega
  obtain⟨s,hs⟩:=Aa (mid+m);rw[hs] at n1
  have n2:IntKind.i64.wrap ((s:Int)-1)=((s-1:Nat):Int):=by rw[Y];omega
  obtain⟨p,hp⟩:=Aa (s-1);rw[hp] at n2
  have n3:mid<m->IntKind.i64.wrap ((s:Int)-(b:Int))=((s-b:Nat):Int):=fun h=>by rw[Y];omega
  obtain⟨Q,hi,u⟩:∃Q hi,Yf a m b mid s Q hi:=by
   by_cases h:mid<m
   .exact⟨s-b,mid,ap,T,I.symm,hs.symm,Or.inl ⟨h,rfl,rfl⟩⟩
   .exact⟨a,m,ap,T,I.symm,hs.symm,Or.inr ⟨by omega,rfl,rfl⟩⟩
  have G:=X u;have HP:=X hp;have c3:=X hs;have da:=X I;have HN:=X hN;have bt:=fun start h1 J=>u.bounds (start:=start) h1 J;have c5:=X bt
  have a8:Q<=hi:=by obtain⟨q1,q2,q3,q4,q5⟩:=u;omega
  have af:=X u.side;clear hd br I hs hp u hN c1 c2 bt;go_in
  go_upto_if 140 with(fail)
  go_cut [20,21] from 138 (fun cr cq L=>cr=.int .i64 (Q:Nat)/\cq=.int .i64 (hi:Nat)/\w=L)
  case first=>
   by_cases a7:mid<m
   .have zs:(m:Int)>(mid:Int):=(by omega)
    have n4:=n3 a7
    have V:Q=s-b/\hi=mid:=by rcases af.o with h|h<;>omega
    have ai:=X V;clear n3 V;go_wp2_with fail
    go_meet
    case rel=>rw[ai.o.1,ai.o.2];exact⟨rfl,rfl,rfl⟩
   .have zs:¬(m:Int)>(mid:Int):=(by omega)
    have V:Q=a/\hi=m:=by rcases af.o with h|h<;>omega
    have ai:=X V;clear n3 V;go_wp2_with fail
    go_meet
    case rel=>rw[ai.o.1,ai.o.2];exact⟨rfl,rfl,rfl⟩
  case rest=>
   obtain⟨rfl,rfl,rfl⟩:=hcut;clear n0 bh zd cp ze co n1 n3 e1;go_wp2_with fail;clear n2
   go_loopg [20,21] (hi-Q) (fun gg vi vj wr=>∃st rr:Nat,vi=.int .i64 st/\vj=.int .i64 rr/\gg=rr-st/\Q<=st/\st<=rr/\rr<=hi/\(st=Q∨Aw (Af l (st-1)) (Af l (s-st)))/\(rr=hi∨B8 (Af l (s-1-rr)) (Af l rr)<0)/\Ag A8 wr base (.slice (some ⟨g,0,none⟩) n cap) l/\Fp [] w wr)
   case atStart=>exact⟨Q,hi,rfl,rfl,rfl,a0v _,a8,a0v _,Or.inl rfl,Or.inl rfl,HO.o,Fp.refl _ _⟩
   case round=>
    obtain⟨st,rr,rfl,rfl,bp,U,c9,cu,ax,W,ho,O⟩:=hrel;have t:=X ho;have C:=X O;have az:=X ax;have aj:=X W;have ce:=X bp;clear ho O ax W bp;by_cases db:st<rr
    .have cn:(st:Int)<(rr:Int):=(by omega)
     obtain⟨h,hh⟩:=Aa ((st+rr)/2)
     have e1:((st:Int)+(rr:Int))/2=(h:Int):=(by omega)
     have cv:st<=h:=(by omega)
     have dc:h<rr:=(by omega)
     obtain⟨q,hq⟩:=Aa (p-h)
     have bs:h<=p/\q<b/\h<b:=by have h1:=G.o;have J:=HP.o;obtain⟨q1,q2,q3,q4,q5⟩:=h1;omega
     obtain⟨dg,df,de⟩:=bs
     have n5:IntKind.i64.wrap ((p:Int)-(h:Int))=(q:Int):=by have h1:=G.o;have J:=HP.o;obtain⟨q1,q2,q3,q4,q5⟩:=h1;rw[Y];omega
     have cw:h<l.length:=(by rw[HM.o];omega)
     have bn:q<l.length:=(by rw[HM.o];omega)
     have zh:(h:Int)<(n:Int):=(by omega)
     have zq:(q:Int)<(n:Int):=(by omega)
     have n1:IntKind.i64.wrap ((h:Int)+1)=((h+1:Nat):Int):=(by rw[Y];omega)
     have HQ:=X hq;clear hh hq;obtain⟨-,-,-,dd,-,-⟩:=t.o.elem bn;have bg:Hid (∀w',Fp [] wr w'->Ie w' g (q*7) (Af l q)):=fun w' O=>Gx (t.o.kept (fun k hk=>O.block k (t.o.lt k hk).2 (by simp))) bn;have bf:Hid (∀w',Fp [] wr w'->Ie w' g (h*7) (Af l h)):=fun w' O=>Gx (t.o.kept (fun k hk=>O.block k (t.o.lt k hk).2 (by simp))) cw;have al:=X (fun w=>cg.o (Af l q) (Af l h) w);obtain⟨x,hx⟩:=Aa (Af l q);obtain⟨y,hy⟩:=Aa (Af l h);rw[hx] at bg al;rw[hy] at bf al;obtain⟨r,hr⟩:=Aa (B8 x y);rw[hr] at al
     have HR:Hid (B8 (Af l q) (Af l h)=r):=(by rw[hx,hy];exact hr)
     obtain⟨⟨xr,xc,xt,xs,xd,xv⟩,xp⟩:=x;obtain⟨⟨yr,yc,yt,ys,yd,yv⟩,yp⟩:=y;have HC1':Hid (∀w,Calls Tryz.prog 217 #[.agg #[.string xr,.string xc,.int .u64 xt,.int .u64 xs,.bool xd,.string xv,.int .i64 xp],.agg #[.string yr,.string yc,.int .u64 yt,.int .u64 ys,.bool yd,.string yv,.int .i64 yp]] w fun e w'=>e=.returned (.int .i64 r)/\Fp [] w w'):=al;clear hx hy hr al;by_cases bm:r<0
     .go_wp2_with fail;refine Bo (by kernel_rfl) (by kernel_rfl) ?_
      iterate 14
       apply A1 rfl rfl rfl
       .intro a w D c K hK;have:=c.f 4;have:=c.f 0;have:=c.f 22;have:=c.f 23;(try have:=c.e 2 160);(try have:=c.e 3 161);(try have:=c.e 1 159);(try have:=c.e 4 162);(try have:=c.e 5 163);(try have:=c.e 7 165);(try have:=c.e 8 166);(try have:=c.e 9 167);(try have:=c.e 0 158);(try have:=c.e 6 164);(try have:=c.e 10 168);(try have:=c.e 11 169);(try have:=c.e 12 170);obtain⟨a0,a1,a2,a3,a4,a5,a6⟩:=bg.o _ D;obtain⟨b0,b1,b2,b3,b4,b5,b6⟩:=bf.o _ D;simp only at a0 a1 a2 a3 a4 a5 a6 b0 b1 b2 b3 b4 b5 b6;simp only[Oper.wp,execOp];go_simp
        first
        |exact hK _ D (Fp.refl _ _)
        |(with_reducible refine(HC1'.o _).mono ?_);rintro e w2 ⟨rfl,O⟩;exact hK _ (D.trans O) O
      refine Bn ?_
      iterate 14 refine Bm ?_
      refine Bl fun w' D=>?_
      .simp only[Aj,Act.put,a0z,a0x,a0w];have ak:=X (C.o.trans D);have ag:=X (Ag.kept t.o (fun k hk=>D.block k (t.o.lt k hk).2 (by simp)));clear D;go_wp2_with fail
       go_roundg (h-st)
       case measure=>have:=ce.o;omega
       case rel=>exact⟨st,h,rfl,rfl,rfl,U,cv,by omega,az.o,Or.inr (by rw[HP.o,HQ.o,HR.o];omega),ag.o,ak.o⟩
     .have zr:¬(r<0):=bm;have zd:decide (r<0)=false:=decide_eq_false bm;go_wp2_with fail;refine Bo (by kernel_rfl) (by kernel_rfl) ?_
      iterate 14
       apply A1 rfl rfl rfl
       .intro a w D c K hK;have:=c.f 4;have:=c.f 0;have:=c.f 22;have:=c.f 23;(try have:=c.e 2 160);(try have:=c.e 3 161);(try have:=c.e 1 159);(try have:=c.e 4 162);(try have:=c.e 5 163);(try have:=c.e 7 165);(try have:=c.e 8 166);(try have:=c.e 9 167);(try have:=c.e 0 158);(try have:=c.e 6 164);(try have:=c.e 10 168);(try have:=c.e 11 169);(try have:=c.e 12 170);obtain⟨a0,a1,a2,a3,a4,a5,a6⟩:=bg.o _ D;obtain⟨b0,b1,b2,b3,b4,b5,b6⟩:=bf.o _ D;simp only at a0 a1 a2 a3 a4 a5 a6 b0 b1 b2 b3 b4 b5 b6;simp only[Oper.wp,execOp];go_simp
        first
        |exact hK _ D (Fp.refl _ _)
        |(with_reducible refine(HC1'.o _).mono ?_);rintro e w2 ⟨rfl,O⟩;exact hK _ (D.trans O) O
      refine Bn ?_
      iterate 14 refine Bm ?_
      refine Bl fun w' D=>?_
      .simp only[Aj,Act.put,a0z,a0x,a0w];have ak:=X (C.o.trans D);have ag:=X (Ag.kept t.o (fun k hk=>D.block k (t.o.lt k hk).2 (by simp)));clear D;go_wp2_with fail
       go_roundg (rr-(h+1))
       case measure=>have:=ce.o;omega
       case rel=>exact⟨h+1,rr,rfl,rfl,rfl,by omega,by omega,cu,Or.inr (by have h1:=HP.o;have J:=HQ.o;rw[Nat.add_sub_cancel,show s-(h+1)=q by omega];exact Aw.not (ar.o.at _) (ar.o.at _) (by rw[HR.o];omega)),aj.o,ag.o,ak.o⟩
    .have bk:rr=st:=(by omega)
     have cn:¬(st:Int)<(rr:Int):=(by omega)
     have aa:=aj.o;rw[bk] at aa
     have aw:nT l a m b mid s Q hi st:=⟨U,by omega,az.o,aa⟩
     obtain⟨b1,b2,b3,b4,b5,b6,b7,b8,b9⟩:=c5.o st U (by omega);have bw:=X aw
     have n1:IntKind.i64.wrap ((s:Int)-(st:Int))=((s-st:Nat):Int):=by have h1:=c3.o;rw[Y];omega
     obtain⟨en,a9⟩:=Aa (s-st);rw[a9] at n1 b4 b5 b6 b7;have cf:=X a9;clear aa aw a9 bk
     go_upto_region 39 with(fail)
     go_cut [185] from 178 (fun v L=>v=.bool (decide (st<m/\m<en))/\wr=L)
     case first=>
      by_cases c1:st<m
      .have z1:(st:Int)<(m:Int):=(by omega)
       by_cases c2:m<en
       .have z2:(m:Int)<(en:Int):=(by omega)
        go_wp2_with fail
        go_meet
        case rel=>exact⟨by rw[decide_eq_true (And.intro c1 c2)],rfl⟩
       .have z2:¬(m:Int)<(en:Int):=(by omega)
        go_wp2_with fail
        go_meet
        case rel=>exact⟨by rw[decide_eq_false (fun h=>c2 h.2)],rfl⟩
      .have z1:¬(st:Int)<(m:Int):=(by omega)
       go_wp2_with fail
       go_meet
       case rel=>exact⟨by rw[decide_eq_false (fun h=>c1 h.1)],rfl⟩
     case rest=>
      obtain⟨rfl,rfl⟩:=hcut;obtain⟨bb,ba⟩:=Aa (decide (st<m/\m<en));rw[ba];have ci:=X ba;clear ba
      go_upto_if 185 with(fail)
      go_cut [] from 178 (fun L=>∃l1,Gh st m en l l1/\Ag A8 L base (.slice (some ⟨g,0,none⟩) n cap) l1/\Fp [g] w L)
      case first=>
       cases bb
       .have ah:Hid (st=m∨m=en):=by
         have h0:¬(st<m/\m<en):=of_decide_eq_false ci.o;by_cases h:st<m
         .right;have:¬m<en:=fun J=>h0 ⟨h,J⟩;omega
         .left;omega
        go_wp2_with fail
        go_meet
        case rel=>
         refine⟨l,?_,t.o,C.o.mono (by simp)⟩;rcases ah.o with h|h
         .rw[h];exact(Gh.none l (by omega)).1
         .rw[<-h];exact(Gh.none l b2).2
       .have hc:=of_decide_eq_true ci.o;have z:=X (bx.o wr st m en l t.o hc.1 hc.2 (by rw[HM.o];omega) (by rw[HM.o];omega));clear hc;go_wp2_with fail;refine z.o.mono ?_;rintro e w3 ⟨rfl,⟨l1,F,S⟩,ac⟩;have c4:=X F;have au:=X S;have av:=X ac;clear F S ac;go_wp2_with fail
        go_meet
        case rel=>exact⟨l1,c4.o,au.o,(C.o.mono (by simp)).trans av.o (by intro i hi;exact Or.inl hi)⟩
      case rest=>
       obtain⟨l1,F,S,ac⟩:=hcut;obtain⟨s1,s2,s3,s4,s5⟩:=Acd (l1:=l1) ar.o G.o bw.o c0.o bd.o (by rw[cf.o];exact F);rw[cf.o] at s3 s4;have be:Hid (l1.length=n):=F.len.trans HM.o;have bv:Hid (Dl a b l l1):=(F.turned b2 b4).wide b1 b6;have ay:=X (bv.o.ok ar.o);have au:=X S;have av:=X ac;have cm:=X s1;have cl:=X s2;have c8:=X s3;have c7:=X s4;have c6:=X s5;clear F S ac s1 s2 s3 s4 s5;obtain⟨wA,ct⟩:=Bz wc;subst ct
       go_upto_region 41 with(fail)
       go_cut [199] from 192 (fun v L=>v=.bool (decide (a<st/\st<mid))/\wA=L)
       case first=>
        by_cases c1:a<st
        .have z1:(a:Int)<(st:Int):=(by omega)
         by_cases c2:st<mid
         .have z2:(st:Int)<(mid:Int):=(by omega)
          go_wp2_with fail
          go_meet
          case rel=>exact⟨by rw[decide_eq_true (And.intro c1 c2)],rfl⟩
         .have z2:¬(st:Int)<(mid:Int):=(by omega)
          go_wp2_with fail
          go_meet
          case rel=>exact⟨by rw[decide_eq_false (fun h=>c2 h.2)],rfl⟩
        .have z1:¬(a:Int)<(st:Int):=(by omega)
         go_wp2_with fail
         go_meet
         case rel=>exact⟨by rw[decide_eq_false (fun h=>c1 h.1)],rfl⟩
       case rest=>
        obtain⟨rfl,rfl⟩:=hcut
        obtain⟨cy,ae⟩:∃bb,decide (a<st/\st<mid)=bb:=⟨_,rfl⟩
        rw[ae];have am:=X ae;clear ae
        go_upto_if 199 with(fail)
        go_cut [] from 192 (fun L=>∃M,Dl a mid l1 M/\B5 M a mid/\Ag A8 L base (.slice (some ⟨g,0,none⟩) n cap) M/\Fp [g] w L)
        case first=>
         cases cy
         .have ah:Hid (st=a∨st=mid):=by
           have h0:¬(a<st/\st<mid):=of_decide_eq_false am.o;by_cases h:a<st
           .right;have:¬st<mid:=fun J=>h0 ⟨h,J⟩;omega
           .left;omega
          go_wp2_with fail
          go_meet
          case rel=>
           refine⟨l1,Dl.refl _ _ _,?_,au.o,av.o⟩;rcases ah.o with h|h
           .have:=cl.o;rw[h] at this;exact this
           .have:=cm.o;rw[h] at this;exact this
         .have hc:=of_decide_eq_true am.o;have z:=X (cd.o wA base g n cap a st mid l1 (by have:=HN.o;omega) au.o ay.o hc.1 hc.2 (by rw[be.o];omega) (by rw[be.o];omega) cm.o cl.o);clear hc;go_wp2_with fail;refine z.o.mono ?_;rintro e w3 ⟨rfl,⟨M,A,B,R⟩,ab⟩;have aq:=X A;have bd:=X B;have t:=X R;have C:=X ab;clear A B R ab;go_wp2_with fail
          go_meet
          case rel=>exact⟨M,aq.o,bd.o,t.o,av.o.trans C.o (by intro i hi;exact Or.inl hi)⟩
        case rest=>
         obtain⟨M,A,B,R,ab⟩:=hcut;have cc:Hid (M.length=n):=A.len.trans be.o;have bz:=X (A.ok ay.o);have am:Hid (B5 M mid en):=c8.o.frame fun p h1 J=>A.o p (Or.inr h1);have ck:Hid (B5 M en b):=c7.o.frame fun p h1 J=>A.o p (Or.inr (by omega));have cj:=X (c6.o.left A);have aq:Hid (Dl a b l M):=bv.o.trans (A.wide (a0v _) (by omega));have ch:=X B;have t:=X R;have C:=X ab;clear A B R ab;obtain⟨wB,cs⟩:=Bz wc;subst cs
         go_upto_region 43 with(fail)
         go_cut [213] from 206 (fun v L=>v=.bool (decide (mid<en/\en<b))/\wB=L)
         case first=>
          by_cases c1:mid<en
          .have z1:(mid:Int)<(en:Int):=(by omega)
           by_cases c2:en<b
           .have z2:(en:Int)<(b:Int):=(by omega)
            go_wp2_with fail
            go_meet
            case rel=>exact⟨by rw[decide_eq_true (And.intro c1 c2)],rfl⟩
           .have z2:¬(en:Int)<(b:Int):=(by omega)
            go_wp2_with fail
            go_meet
            case rel=>exact⟨by rw[decide_eq_false (fun h=>c2 h.2)],rfl⟩
          .have z1:¬(mid:Int)<(en:Int):=(by omega)
           go_wp2_with fail
           go_meet
           case rel=>exact⟨by rw[decide_eq_false (fun h=>c1 h.1)],rfl⟩
         case rest=>
          obtain⟨rfl,rfl⟩:=hcut
          obtain⟨cx,ad⟩:∃bb,decide (mid<en/\en<b)=bb:=⟨_,rfl⟩
          rw[ad];have HB4':=X ad;clear ad;cases cx
          .have ah:Hid (mid=en∨en=b):=by
            have h0:¬(mid<en/\en<b):=of_decide_eq_false HB4'.o;by_cases h:mid<en
            .right;have:¬en<b:=fun J=>h0 ⟨h,J⟩;omega
            .left;omega
           go_wp2_with fail;go_end0;refine⟨rfl,⟨M,aq.o,B5.join ch.o ?_ cj.o,t.o⟩,C.o⟩;rcases ah.o with h|h
           .rw[h];exact ck.o
           .rw[<-h];exact am.o
          .have hc:=of_decide_eq_true HB4'.o;have z:=X (cd.o wB base g n cap mid en b M (by have:=HN.o;omega) t.o bz.o hc.1 hc.2 (by rw[cc.o];omega) (by rw[cc.o];omega) am.o ck.o);clear hc;go_wp2_with fail;refine z.o.mono ?_;rintro e w3 ⟨rfl,⟨l3,bi,bj,bo⟩,bq⟩;have bc:=X bi;have cz:=X bj;have ag:=X bo;have ak:=X bq;clear bi bj bo bq;go_wp2_with fail;go_end0;exact⟨rfl,⟨l3,aq.o.trans (bc.o.wide (by omega) (a0v _)),B5.join (ch.o.frame fun p h1 J=>bc.o.o p (Or.inl J)) cz.o (cj.o.right bc.o),ag.o⟩,C.o.trans ak.o (by intro i hi;exact Or.inl hi)⟩
inductive Hz(l:List Ad)(bs n:Nat):Nat->Prop
 |fin (a:Nat):n<=a+bs->B5 l a n->Hz l bs n a
 |cons (a:Nat):a+bs<=n->B5 l a (a+bs)->Hz l bs n (a+bs)->Hz l bs n a
inductive N8(l:List Ad)(bs:Nat):Nat->Prop
 |zero:N8 l bs 0
 |snoc (a:Nat):N8 l bs a->B5 l a (a+bs)->N8 l bs (a+bs)
theorem B5.empty(l:List Ad){a b:Nat}(h:b<=a):B5 l a b:=fun p q g d c=>by omega
theorem N8.join{l:List Ad}{c n a:Nat}(h:N8 l c a):a<=n->Hz l c n a->Hz l c n 0:=by
 induction h with
 |zero=>exact fun _ h=>h
 |snoc a _ hs ih=>exact fun d g=>ih (by omega) (.cons a d hs g)
theorem Hz.frame{l g:List Ad}{k n a:Nat}(h:Hz l k n a):(∀p,a<=p->Af g p=Af l p)->Hz g k n a:=by
 induction h with
 |fin a h1 h2=>exact fun d=>.fin a h1 (h2.frame fun p c _=>d p c)
 |cons a h1 h2 _ ih=>exact fun d=>.cons a h1 (h2.frame fun p c _=>d p c) (ih fun p c=>d p (by omega))
theorem N8.frame{l c:List Ad}{k a:Nat}(h:N8 l k a):(∀p,p<a->Af c p=Af l p)->N8 c k a:=by
 induction h with
 |zero=>exact fun _=>.zero
 |snoc a _ hs ih=>exact fun g=>.snoc a (ih fun p d=>g p (by omega)) (hs.frame fun p _ d=>g p d)
theorem Hz.head{l:List Ad}{c n a:Nat}(h:Hz l c n a)(k:a+c<=n):B5 l a (a+c):=by
 cases h with
 |fin _ h1 h2=>exact fun p q g d m=>h2 p q g d (by omega)
 |cons _ h1 h2 _=>exact h2
theorem Hz.tail{l:List Ad}{c n a:Nat}(h:Hz l c n a)(d:a+c<=n):Hz l c n (a+c):=by
 cases h with
 |fin _ h1 h2=>exact .fin _ (by omega) (B5.empty l (by omega))
 |cons _ _ _ h3=>exact h3
theorem Hz.last{l:List Ad}{c n a:Nat}(h:Hz l c n a)(k:n<=a+c):B5 l a n:=by
 cases h with
 |fin _ _ h2=>exact h2
 |cons _ h1 h2 _=>exact fun p q g d m=>h2 p q g d (by omega)
theorem Acy(w:World)(base g n cap:Nat)(l:List Ad)(z:Ag A8 w base (.slice (some ⟨g,0,none⟩) n cap) l)(B:Be l)(hn:l.length≤1000000):
  Calls Tryz.prog 263 #[.slice (some ⟨g,0,none⟩) n cap,.int .i64 n,.func (.func 217) #[] #[]] w fun e w'=>e=.returned (.tuple #[])/\(∃y,Dl 0 n l y/\B5 y 0 n/\Ag A8 w' base (.slice (some ⟨g,0,none⟩) n cap) y)/\Fp [g] w w':=by
 have O:l.length=n:=by
  obtain⟨a',c',e,-⟩:=z.len;cases e;rfl
 have HM:=X O;have HO:=X z;have aq:=X B;have aa:=X (fun w a b l z B ax u hn=>Acj w base g n cap a b l z B ax u hn);have V:=X (fun w a m b l z B aw Q u hn h1 h2=>Acx (b-a) w base g n cap a m b l (a0v _) z B aw Q u hn h1 h2);rw[O] at hn;clear O z B;go_in;go_wp2_with fail
 go_loopg [7,8] n (fun gg va vb wr=>∃(a:Nat) (y:List Ad),va=.int .i64 a/\vb=.int .i64 (a+20:Nat)/\gg=n-a/\a<=n/\Dl 0 n l y/\N8 y 20 a/\Ag A8 wr base (.slice (some ⟨g,0,none⟩) n cap) y/\Fp [g] w wr)
 case atStart=>exact⟨0,l,rfl,rfl,by omega,Nat.zero_le _,Dl.refl _ _ _,.zero,HO.o,Fp.refl _ _⟩
 case round=>
  obtain⟨a,l1,rfl,rfl,x,G,D,A,z,U⟩:=hrel;have HT:=X D;have HP:=X A;have aj:=X z;have an:=X U;have N:=X x;have K:Hid (l1.length=n):=D.len.trans HM.o;have J:=X (D.ok aq.o);obtain⟨b,u⟩:=Aa (a+20);rw[u];clear D A z U x;by_cases ad:b<=n
  .have zb:(b:Int)≤(n:Int):=(by omega)
   have n1:IntKind.i64.wrap ((b:Int)+20)=((b+20:Nat):Int):=(by rw[Y];omega)
   have HC:=X (aa.o wr a b l1 aj.o J.o (by omega) (by rw[K.o];omega) (by rw[K.o];omega));have HB:=X u;clear u;go_wp2_with fail;refine HC.o.mono ?_;rintro e w2 ⟨rfl,⟨l2,d,h,k⟩,q⟩;have R:=X d;have az:=X h;have ai:=X k;have am:=X q;clear d h k q;go_wp2_with fail
   go_roundg (n-b)
   case measure=>have:=N.o;have:=HB.o;omega
   case rel=>
    have u:=HB.o;refine⟨b,l2,rfl,rfl,rfl,ad,HT.o.trans (R.o.wide (by omega) (by omega)),?_,ai.o,an.o.trans am.o (by intro i hi;exact Or.inl hi)⟩;subst u;exact .snoc a (HP.o.frame fun p A=>R.o.o p (Or.inl A)) az.o
  .have zb:¬(b:Int)≤(n:Int):=(by omega)
   have HC:=X (aa.o wr a n l1 aj.o J.o (by omega) (by rw[K.o];omega) (by rw[K.o];omega));have HB:=X u
   have F:n<a+20:=(by omega)
   clear u;go_wp2_with fail;refine HC.o.mono ?_;rintro e w2 ⟨rfl,⟨l2,d,h,k⟩,q⟩;have a2:Hid (Hz l2 20 n 0):=(HP.o.frame fun p A=>d.o p (Or.inl A)).join G (.fin a (by omega) h);have R:Hid (Dl 0 n l l2):=HT.o.trans (d.wide (by omega) (by omega));have ai:=X k;have am:Hid (Fp [g] w w2):=an.o.trans q (by intro i hi;exact Or.inl hi);clear d h k q zb ad F G N HB HC J K an aj HP HT;go_wp2_with fail
   go_loopg [6] (n-20) (fun gg vs wr=>∃(t:Nat) (y:List Ad),vs=.int .i64 t/\gg=n-t/\0<t/\t<=2000000/\Dl 0 n l y/\Hz y t n 0/\Ag A8 wr base (.slice (some ⟨g,0,none⟩) n cap) y/\Fp [g] w wr)
   case atStart=>exact⟨20,l2,rfl,by omega,by omega,by omega,R.o,a2.o,ai.o,am.o⟩
   case round=>
    obtain⟨t,l3,rfl,x,a4,a3,D,T,z,U⟩:=hrel;have HT:=X D;have HK:=X T;have ar:=X z;have au:=X U;have N:=X x;clear D T z U x;by_cases ad:t<n
    .have zb:(t:Int)<(n:Int):=(by omega)
     have n1:IntKind.i64.wrap (2*(t:Int))=((2*t:Nat):Int):=(by rw[Y];omega)
     have n2:IntKind.i64.wrap ((t:Int)*2)=((2*t:Nat):Int):=(by rw[Y];omega)
     obtain⟨c,hc⟩:=Aa (2*t);rw[hc] at n1 n2;have av:=X hc
     have ap:0<c:=(by omega)
     have ao:c<=2000000:=(by omega)
     have a6:t<c:=(by omega)
     clear hc;go_wp2_with fail
     go_loopg [7,8] n (fun gg va vb wr=>∃(a:Nat) (y:List Ad),va=.int .i64 a/\vb=.int .i64 (a+c:Nat)/\gg=n-a/\a<=n/\Dl 0 n l y/\N8 y c a/\Hz y t n a/\Ag A8 wr base (.slice (some ⟨g,0,none⟩) n cap) y/\Fp [g] w wr)
     case atStart=>exact⟨0,l3,rfl,by simp,by omega,Nat.zero_le _,HT.o,.zero,HK.o,ar.o,au.o⟩
     case round=>
      obtain⟨a,l4,rfl,rfl,x,G,D,A,T,z,U⟩:=hrel;have ae:=X D;have af:=X A;have M:=X T;have ah:=X z;have al:=X U;have a1:=X x;have S:Hid (l4.length=n):=D.len.trans HM.o;have W:=X (D.ok aq.o)
      have n3:IntKind.i64.wrap ((a:Int)+(t:Int))=((a+t:Nat):Int):=(by rw[Y];omega)
      obtain⟨b,u⟩:=Aa (a+c);obtain⟨m,O⟩:=Aa (a+t);rw[u];rw[O] at n3;clear D A T z U x;by_cases F:b<=n
      .have z2:(b:Int)≤(n:Int):=(by omega)
       have n4:IntKind.i64.wrap ((b:Int)+(c:Int))=((b+c:Nat):Int):=(by rw[Y];omega)
       have h2:=av.o;have s:=M.o.head (by omega);have v:=M.o.tail (by omega);rw[O] at s v
       have Q:m+t=b:=(by omega)
       have C:=v.head (by omega);have ac:=v.tail (by omega);rw[Q] at C ac;have L:=X ac;have HC:=X (V.o wr a m b l4 ah.o W.o (by omega) (by omega) (by rw[S.o];omega) (by rw[S.o];omega) s C);have HB:=X u;clear u s v C ac Q O h2;go_wp2_with fail;refine HC.o.mono ?_;rintro e w2 ⟨rfl,⟨l5,d,h,k⟩,q⟩;have I:=X d;have ay:=X h;have ag:=X k;have ak:=X q;clear d h k q;go_wp2_with fail
       go_roundg (n-b)
       case measure=>have:=a1.o;have:=HB.o;omega
       case rel=>
        have u:=HB.o;refine⟨b,l5,rfl,rfl,rfl,F,ae.o.trans (I.o.wide (by omega) (by omega)),?_,L.o.frame fun p A=>I.o.o p (Or.inr A),ag.o,al.o.trans ak.o (by intro i hi;exact Or.inl hi)⟩;have h6:=ay.o;rw[<-u] at h6 ⊢;exact .snoc a (af.o.frame fun p A=>I.o.o p (Or.inl A)) h6
      .have z2:¬(b:Int)≤(n:Int):=(by omega)
       by_cases a5:m<n
       .have z3:(m:Int)<(n:Int):=(by omega)
        have s:=M.o.head (by omega);have v:=M.o.tail (by omega);rw[O] at s v;have h2:=av.o;have C:=v.last (by omega);have HC:=X (V.o wr a m n l4 ah.o W.o (by omega) (by omega) (by rw[S.o];omega) (by rw[S.o];omega) s C)
        have ab:n<=a+c:=(by omega)
        clear s v C h2 u O;go_wp2_with fail;refine HC.o.mono ?_;rintro e w2 ⟨rfl,⟨l5,d,h,k⟩,q⟩;have L:Hid (Hz l5 c n 0):=(af.o.frame fun p A=>d.o p (Or.inl A)).join G (.fin a ab h);have I:=X (ae.o.trans (d.wide (by omega) (by omega)));have ag:=X k;have ak:Hid (Fp [g] w w2):=al.o.trans q (by intro i hi;exact Or.inl hi);clear d h k q;go_wp2_with fail
        go_roundg (n-c)
        case measure=>have:=N.o;omega
        case rel=>exact⟨c,l5,rfl,rfl,ap,ao,I.o,L.o,ag.o,ak.o⟩
       .have z3:¬(m:Int)<(n:Int):=(by omega)
        have s:=M.o.last (by omega);have L:Hid (Hz l4 c n 0):=af.o.join G (.fin a (by omega) s);clear s u O;go_wp2_with fail
        go_roundg (n-c)
        case measure=>have:=N.o;omega
        case rel=>exact⟨c,l4,rfl,rfl,ap,ao,ae.o,L.o,ah.o,al.o⟩
    .have zb:¬(t:Int)<(n:Int):=(by omega)
     have T:=HK.o.last (by omega);have a0:=X T;clear T;go_wp2_with fail;go_end0;exact⟨rfl,⟨l3,HT.o,a0.o,ar.o⟩,au.o⟩
theorem Acz(w:World)(base g n cap:Nat)(l:List Ad)(d:Ag A8 w base (.slice (some ⟨g,0,none⟩) n cap) l)(a:Be l)(k:l.length≤1000000):
  Calls Tryz.prog 216 #[.slice (some ⟨g,0,none⟩) n cap,.func (.func 217) #[] #[]] w fun e w'=>e=.returned (.tuple #[])/\(∃c,Dl 0 n l c/\B5 c 0 n/\Ag A8 w' base (.slice (some ⟨g,0,none⟩) n cap) c)/\Fp [g] w w':=by
 have p:=X (Acy w base g n cap l d a k);clear d a k;go_in;go_wp2_with fail;refine p.o.mono ?_;rintro e s ⟨rfl,h,m⟩;have H:=X h;have q:=X m;clear h m;go_wp2_with fail;go_end0;exact⟨rfl,H.o,q.o⟩
theorem Ac0(w:World)(a:Option Addr)(n cap:Nat)(l:List Ad)(T:Bj A8 w a n l)(c:a=none→cap=0)(t:Be l)(d:(l.map (·.pos)).Nodup)(h0:¬l.length=0)(hn:n≤1000000):
  Calls Tryz.prog 142 #[.slice a n cap] w fun e w'=>∃v' r,e=.returned v'/\Bf l r/\Ag A8 w' w.heap.size v' r/\Fp [] w w':=by
 have L:=X T.len;have ag:=X (nX w a n cap l T c (by omega));have K:=X t;have aa:=X d;clear T c t d;go_in;go_wp2_with fail;refine ag.o.mono ?_;rintro e w1 ⟨v1,rfl,z,F⟩;have ae:=X F;have q:=X z;clear F z;obtain⟨a1,c1,e1,-,-⟩:=q.o.len;subst e1;obtain⟨g,ah,aj,e2,ai,V,-⟩:=q.o.open (by omega);cases e2;have G:=X (Acz w1 w.heap.size g l.length c1 l q.o K.o (by have:=L.o;omega));obtain⟨m,N⟩:=Aa l.length;rw[N] at G;rw[N];have O:=X N;clear N V;go_wp2_with fail;refine G.o.mono ?_;rintro e w2 ⟨rfl,⟨s,k,M,v⟩,D⟩;have p:=k.len;have W:Hid (Sz s):=B5.rising (by rw[p,O.o];exact M) ((k.perm.map _).nodup_iff.2 aa.o);have J:=X (k.ok K.o);have af:=X (Acl w2 w.heap.size (.slice (some ⟨g,0,none⟩) m c1) s v (by have:=O.o;have:=L.o;omega));have I:Hid (Bf l (Lr s s.length)):=by
  have h:=vB J.o W.o;exact⟨h.ris,fun x R=>k.perm.mem_iff.1 (h.sub x R),fun x R y Q M=>h.last x R y (k.perm.mem_iff.2 Q) M,fun y Q=>h.cov y (k.perm.mem_iff.2 Q)⟩
 have ad:=X (ae.o.trans D (by intro i U;right;simp at U;omega))
 have S:¬s.length=0:=by rw[p,O.o];have:=O.o;omega
 clear k M v p D;go_wp2_with fail;refine af.o.mono ?_;rintro e w3 ⟨⟨v3,rfl,u⟩,g3,B,C⟩;have A:g3=g:=by
  rcases B with h|h
  .simpa [Value.ownBlock] using h.symm
  .exact absurd h S
 subst A;have ac:=X (ad.o.trans C (by intro i U;right;simp at U;omega));have ab:=X u;clear C u B;go_wp2_with fail;go_ret;exact⟨_,_,rfl,I.o,ab.o,ac.o⟩
theorem Dv.next{l:List Ad}(h:Dv l){k:Nat}(a:k+1<l.length):B8 (Af l k) (Af l (k+1))<0/\Bc (Af l k) (Af l (k+1))=false:=by
 have d:=List.pairwise_iff_getElem.1 h k (k+1) (by omega) a (by omega);rw[Md (by omega),Md a];refine⟨?_,?_⟩
 .rcases Nu l[k] l[k+1] with⟨_,c⟩|⟨c,_⟩<;>omega
 .rw[U2];omega
theorem Ac1(w:World)(a:Option Addr)(n cap:Nat)(l:List Ad)(Q:Bj A8 w a n l)(hr:Dv l)(z:Be l)(hn:n≤1000000):
  Calls Tryz.prog 268 #[.slice a n cap] w fun e w'=>e=.returned (.bool true)/\Fp [] w w':=by
 have HL:=X Q;have T:=X Q.len;have HR:=X hr;have M:=X T8;have S:=X nV;clear Q hr;go_in;go_wp2_with fail
 go_loopg [6] n (fun g vi wr=>∃k:Nat,g+k=n/\vi=.int .i64 k/\Fp [] w wr)
 case atStart=>exact⟨0,by omega,rfl,Fp.refl _ _⟩
 case round=>
  obtain⟨k,hg,rfl,m⟩:=hrel;have J:=X m;clear m;by_cases hk:k<n
  .have U:(k:Int)<(n:Int):=(by omega)
   have n1:IntKind.i64.wrap ((k:Int)+1)=((k+1:Nat):Int):=(by rw[Y];omega)
   by_cases R:k=0
   .subst R;rw[show((0:Nat):Int)=0 from rfl];rw[show((0:Nat):Int)=0 from rfl] at U;go_wp2_with fail;refine Bo (by kernel_rfl) (by kernel_rfl) ?_
    iterate 27
     first
     |apply Yc _ _ rfl rfl rfl rfl (by kernel_rfl) rfl
     |apply Jq _ _ rfl rfl rfl rfl (by kernel_rfl) rfl rfl
     |apply A1 rfl rfl rfl
      .intro a w d c K I;have:=c.f 3;(try have:=c.e 0 9);(try have:=c.e 1 10);(try have:=c.e 2 11);(try have:=c.e 25 34);simp only[Oper.wp,execOp];go_simp;exact I _ d (Fp.refl _ _)
    refine Bn ?_
    iterate 27 refine Bm ?_
    refine Bl fun w' d=>?_
    .simp only[Aj,Act.put,a0z,a0x,a0w];have u:=X (J.o.trans d);clear d;go_wp2_with fail
     go_roundg (gk-1)
     case measure=>omega
     case rel=>exact⟨0+1,by omega,by simp,u.o⟩
   .have aa:0<k:=(by omega)
    have n2:IntKind.i64.wrap ((k:Int)-1)=((k-1:Nat):Int):=(by rw[Y];omega)
    obtain⟨p,hp⟩:=Aa (k-1);rw[hp] at n2
    have B:p+1=k:=(by omega)
    have zp:(p:Int)<(n:Int):=(by omega)
    have C:k<l.length:=(by rw[<-T.o];exact hk)
    have v:p<l.length:=(by omega)
    obtain⟨O,o0,e0,_,F⟩:=HL.o.get C;obtain⟨b1,o1,e1,_,D⟩:=HL.o.get v;subst e0;cases e1;obtain⟨G,t⟩:=HR.o.next (k:=p) (by omega);rw[B] at G t;have A:B8 (Af l p) (Af l k)= -1:=by
     rcases uZ (z.at p) (z.at k) with h|h|h<;>omega
    have N:Hid (∀w',Fp [] wr w'->Ie w' O (o0+k*7) (Af l k)):=fun w' m=>by
     rw[Md C];exact Vv (F w' (J.o.trans m))
    have L:Hid (∀w',Fp [] wr w'->Ie w' O (o0+p*7) (Af l p)):=fun w' m=>by
     rw[Md v];exact Vv (D w' (J.o.trans m))
    have s:=X (fun w=>M.o (Af l p) (Af l k) w);have q:=X (fun w=>S.o (Af l p) (Af l k) w);rw[t] at q;rw[A] at s;obtain⟨x,hx⟩:=Aa (Af l k);obtain⟨y,hy⟩:=Aa (Af l p);rw[hx] at N s q;rw[hy] at L s q;obtain⟨⟨xr,xc,xt,xs,xd,xv⟩,xp⟩:=x;obtain⟨⟨yr,yc,W,ys,yd,V⟩,yp⟩:=y;have HC1':Hid (∀w,Calls Tryz.prog 217 #[.agg #[.string yr,.string yc,.int .u64 W,.int .u64 ys,.bool yd,.string V,.int .i64 yp],.agg #[.string xr,.string xc,.int .u64 xt,.int .u64 xs,.bool xd,.string xv,.int .i64 xp]] w fun e w'=>e=.returned (.int .i64 (-1))/\Fp [] w w'):=s;have HC2':Hid (∀w,Calls Tryz.prog 219 #[.agg #[.string yr,.string yc,.int .u64 W,.int .u64 ys,.bool yd,.string V,.int .i64 yp],.agg #[.string xr,.string xc,.int .u64 xt,.int .u64 xs,.bool xd,.string xv,.int .i64 xp]] w fun e w'=>e=.returned (.bool false)/\Fp [] w w'):=q;clear hx hy A t G F D hp B s q;go_wp2_with fail;refine Bo (by kernel_rfl) (by kernel_rfl) ?_
    iterate 27
     first|apply A1 rfl rfl rfl|apply Gw _ _ rfl rfl rfl rfl (by kernel_rfl) rfl rfl
     .intro a w d c K I;have:=c.f 3;have:=c.f 0;(try have:=c.e 0 9);(try have:=c.e 1 10);(try have:=c.e 4 13);(try have:=c.e 3 12);(try have:=c.e 5 14);(try have:=c.e 6 15);(try have:=c.e 8 17);(try have:=c.e 9 18);(try have:=c.e 10 19);(try have:=c.e 7 16);(try have:=c.e 11 20);(try have:=c.e 12 21);(try have:=c.e 13 22);(try have:=c.e 16 25);(try have:=c.e 15 24);(try have:=c.e 17 26);(try have:=c.e 18 27);(try have:=c.e 20 29);(try have:=c.e 21 30);(try have:=c.e 22 31);(try have:=c.e 19 28);(try have:=c.e 23 32);(try have:=c.e 14 23);(try have:=c.e 24 33);(try have:=c.e 2 11);(try have:=c.e 25 34);obtain⟨a0,a1,a2,a3,a4,a5,a6⟩:=N.o _ d;obtain⟨O,b1,b2,b3,b4,b5,b6⟩:=L.o _ d;simp only at a0 a1 a2 a3 a4 a5 a6 O b1 b2 b3 b4 b5 b6;simp only[Oper.wp,execOp];go_simp
      first
      |exact I _ d (Fp.refl _ _)
      |first
        |((with_reducible refine(HC1'.o _).mono ?_);rintro e w2 ⟨rfl,m⟩;exact I _ (d.trans m) m)
        |((with_reducible refine(HC2'.o _).mono ?_);rintro e w2 ⟨rfl,m⟩;exact I _ (d.trans m) m)
    refine Bn ?_
    iterate 27 refine Bm ?_
    refine Bl fun w' d=>?_
    .simp only[Aj,Act.put,a0z,a0x,a0w];have u:=X (J.o.trans d);clear d;go_wp2_with fail
     go_roundg (gk-1)
     case measure=>omega
     case rel=>exact⟨k+1,by omega,by simp,u.o⟩
  .have U:¬(k:Int)<(n:Int):=(by omega)
   go_wp2_with fail;go_ret;exact⟨rfl,J.o⟩
end
section
open Go.RowKit
structure Rb where
 rest:ByteArray
 ok:Bool
def Rb.take(r:Rb)(n:Nat):ByteArray × Rb:=
 if n<=r.rest.size then(r.rest.extract 0 n,⟨r.rest.extract n r.rest.size,r.ok⟩) else(ByteArray.empty,⟨r.rest,false⟩)
def N9(w:World)(b:Nat)(r:Rb):Prop:=w.heap[b]?=some (.cells #[.string r.rest,.bool r.ok] 203 (0,0))
theorem N9.fp{w w':World}{b:Nat}{r:Rb}{S:List Nat}(h:N9 w b r)(a:Fp S w w')(c:b∉S:=by simp):N9 w' b r:=(a.block b (Ae h) c).trans h
theorem Fp.putObj(W:World)(l:Nat)(o:Obj):Fp [l] W (W.putObj l o):=by
 refine⟨rfl,rfl,rfl,by simp,fun k _ a=>World.putObj_heap_other (by simpa using a)⟩
structure Ao(T:TypeId)(base:Nat)(S:List Nat)(W W':World):Prop where
 size:W.heap.size<=W'.heap.size
 low:∀k,k<base->k<W.heap.size->k∉S->W'.heap[k]?=W.heap[k]?
 high:∀k c fz,base<=k->W.heap[k]?=some (.cells c T fz)->W'.heap[k]?=W.heap[k]?
theorem Ao.of{T:TypeId}{base:Nat}{S:List Nat}{W W':World}(h:Fp S W W')(g:∀k∈S,k<base):Ao T base S W W':=
 ⟨h.size,fun k _ a l=>h.block k a l,fun k c n m a=>h.block k (Array.getElem?_eq_some_iff.1 a).1 (fun d=>by have:=g k d;omega)⟩
theorem Ao.trans{T:TypeId}{base:Nat}{S S':List Nat}{a b c:World}(h:Ao T base S a b)(k:Ao T base S' b c)(n:∀i∈S',i∈S:=by simp):Ao T base S a c:=
 ⟨Nat.le_trans h.size k.size,fun i g d m=>(k.low i g (Nat.lt_of_lt_of_le d h.size) (fun p=>m (n i p))).trans (h.low i g d m),
  fun i x l g d=>(k.high i x l g ((h.high i x l g d).trans d)).trans (h.high i x l g d)⟩
theorem Ao.mono{T:TypeId}{base:Nat}{S S':List Nat}{a b:World}(h:Ao T base S a b)(c:∀i∈S,i∈S'):Ao T base S' a b:=
 ⟨h.size,fun i l k g=>h.low i l k (fun d=>g (c i d)),h.high⟩
section
variable {P : Program}
theorem Vw{α:Type}{g:Operand}{ps:Array Tmp}{assign body:Code}{Q:Exit→Act→World→Prop}{a:Act}{w:World}{n:Nat}{gf:Nat}{lb:Array Value}
  (hg:a.eval g=.func (.func gf) #[] lb)(eg:∀args w,(callFunc gf args).run P w=.ok (.enter gf args) w)
  {encs:α->Array Value}(an:∀x,(encs x).size=ps.size)(T:TypeId)(S0 Sx:List Nat)(aj:∀k∈S0,k<w.heap.size)(av:∀k∈Sx,k<w.heap.size)(rb:Nat)(a1:rb<w.heap.size)(cx:Nat)
  (V:List α->α->Prop)(I Ix SS:List α->World->Prop)
  (Z:World->Prop)(hI:∀s A B k,I s A->Fp [k] A B->(k=w.heap.size∨k=w.heap.size+1)->I s B)(ay:∀s A B,I s A->Fp [rb] A B->Z B->I s B)
  (al:∀s A B,Ix s A->Fp [w.heap.size+1] A B->Ix s B)
  (aw:∀s A B,SS s A->Fp [w.heap.size+1] A B->SS s B)
  (aa:∀(J Jx:List α->World->Prop) (W1:World),Fp [] w W1->w.heap.size+2<=W1.heap.size->(∀s A B,J s A->Fp [rb] A B->Z B->J s B)->
   (∀c x W,V c x->J c W->YieldAt Fence.wide (n-1-1) P (w.heap.size+1) (encs x) W fun e W'=>(e=.returned (.bool true)/\J (c++[x]) W'/\Ao T (w.heap.size+2) ((w.heap.size+1)::S0) W W')∨(e=.returned (.bool false)/\Jx (c++[x]) W'))->
   J [] W1->CallsIn Fence.wide (n-1) P gf (#[.func (.yield (w.heap.size+1)) #[] #[]]++lb) W1 fun e W'=>(∃v,e=.returned v)/\((∃xs,SS xs W'/\J xs W')∨(∃c,Jx c W')))
  (h0:I [] w)(Ax:α->Act->World->Prop)(a0:∀x F A B,Ax x F A->Fp [w.heap.size+1] A B->Ax x F B)
  (C:∀(l:Nat) (x:α) (W:World) (K:Act->World->Prop),w.heap.size+2<=W.heap.size->(∀F W',Fp [] W W'->Ax x F W'->K F W')->
   assign.wpIn (Fence.wide.inRound l) (n-1-1) P (Exit.then K (fun _ _ _=>False)) {tmps:=(ps.zip (encs x)).foldl (fun t (p,v)=>t.setIfInBounds p v) a.tmps,defers:=[]} W)
  (ad:∀(l:Nat) (c:List α) (x:α) (F:Act) (W:World),V c x→I c W→w.heap.size+2≤W.heap.size→Ax x F W→body.wpIn (Fence.wide.inRound l) (n-1-1) P (fun e _ W'=>match e with
    |.normal=>Ao T (w.heap.size+2) S0 W W'/\I (c++[x]) W'
    |.exit id=>id=cx/\Ao T (w.heap.size+2) Sx W W'/\Ix (c++[x]) W'
    |_=>False) F W)
  (ac:∀(xs:List α) (W:World),SS xs W->I xs W->W.heap[w.heap.size]?=some (.deferred (some []))->Q .normal {a with defers:={target:=.collected w.heap.size,args:=#[]}::a.defers} W)
  (R:∀(c:List α) (W:World),Ix c W->W.heap[w.heap.size]?=some (.deferred (some []))->(Code.exit cx).wpIn Fence.wide n P Q {a with defers:={target:=.collected w.heap.size,args:=#[]}::a.defers} W):
  (Code.rangeFunc g ps assign body).wpIn Fence.wide n P Q a w:=by
 refine wpIn_rangeFunc ?_;intro fn ar
 obtain⟨m,q⟩:∃m:LoopState->Option Code->Loop,m=fun st pe=>{state:=st,pending:=pe,fn,tmps:=a.tmps,params:=ps,assign,body,defers:=w.heap.size}:=⟨_,rfl⟩
 obtain⟨W1,L⟩:=Aa ((w.alloc (.deferred (some []))).alloc (.loop (m .ready none)));have ak:W1.heap[w.heap.size+1]?=some (.loop (m .ready none)):=by
  rw[<-L];have:=World.alloc_heap_new (w.alloc (.deferred (some []))) (.loop (m .ready none));rwa [World.size_alloc] at this
 have ax:W1.heap[w.heap.size]?=some (.deferred (some [])):=by
  rw[<-L];exact(Below.heap_alloc _ _ _ (by simp)).trans (World.alloc_heap_new w _)
 have ai:Fp [] w W1:=by rw[<-L];exact(Fp.alloc w _).alloc' _
 have az:I [] W1:=hI [] w W1 w.heap.size h0 (ai.mono (by simp)) (Or.inl rfl)
 refine⟨w.heap.size+1,[{target:=.collected w.heap.size,args:=#[]}],W1,{target:=.fn (.func gf) lb,args:=#[.func (.yield (w.heap.size+1)) #[] #[]]},W1,gf,
  #[.func (.yield (w.heap.size+1)) #[] #[]]++lb,W1,?_,?_,?_,?_,(fun h=>by cases h),?_⟩
 .rw[<-L,q];exact run_enterLoop_outer _ _ _ _ _
 .simp only[resolve,hg];simp[go_sem]
 .intro f' _;trivial
 .simp[invoke,go_sem,eg]
 .refine(aa
   (fun c W=>I c W/\W.heap[w.heap.size+1]?=some (.loop (m .ready none))/\W.heap[w.heap.size]?=some (.deferred (some [])))
   (fun c W=>Ix c W/\W.heap[w.heap.size+1]?=some (.loop (m .done (some (.exit cx))))/\W.heap[w.heap.size]?=some (.deferred (some [])))
   W1 ai (Ae ak) ?_ ?_ ⟨az,ak,ax⟩).mono ?_
  .rintro s A B ⟨h1,h2,h3⟩ hf hz;exact⟨ay s A B h1 hf hz,(hf.block _ (Ae h2) (by simp;omega)).trans h2,(hf.block _ (Ae h3) (by simp;omega)).trans h3⟩
  .rintro c x W hV ⟨hi,O,D⟩;have ao:w.heap.size+1<W.heap.size:=(Array.getElem?_eq_some_iff.1 O).1;have hy:=run_yield (P:=P) (args:=encs x) O (by rw[q];exact an x);rw[q] at hy;refine⟨fn,_,assign,body,hy,roundIn_of_wpIn ar (C _ x W _ ao fun F W2 G au=>?_)⟩;have ae:W2.heap[w.heap.size+1]?=some (.loop (m .ready none)):=(G.block _ (Ae O) (by simp)).trans O;have ap:W2.heap[w.heap.size]?=some (.deferred (some [])):=(G.block _ (Ae D) (by simp)).trans D;have aq:I c W2:=hI c W W2 w.heap.size hi (G.mono (by simp)) (Or.inl rfl);have N:w.heap.size+1<W2.heap.size:=Ae ae;refine⟨_,run_beginRound ae (by rw[q]),?_⟩;have ag:(W2.putObj (w.heap.size+1) (.loop {m .ready none with state:=.busy})).heap[w.heap.size+1]?=some (.loop {m .ready none with state:=.busy}):=World.putObj_heap_same N;have ah:(W2.putObj (w.heap.size+1) (.loop {m .ready none with state:=.busy})).heap[w.heap.size]?=some (.deferred (some [])):=(World.putObj_heap_other (by omega)).trans ap;have y:=Fp.putObj W2 (w.heap.size+1) (.loop {m .ready none with state:=.busy});refine wpIn_mono (ad _ c x F _ hV (hI c _ _ (w.heap.size+1) aq y (Or.inr rfl)) (Nat.le_trans N y.size) (a0 _ _ _ _ au y)) ?_
   have am:∀(d:Option Code) (M:World) (S:List Nat),(∀k∈S,k<w.heap.size)→Ao T (w.heap.size+2) S (W2.putObj (w.heap.size+1) (.loop {m .ready none with state:=.busy})) M→
     (Instr.endRound (w.heap.size+1) d).run P M=.ok (.bool d.isNone) (M.putObj (w.heap.size+1) (.loop (m (if d.isNone then .ready else .done) d)))/\
     (M.putObj (w.heap.size+1) (.loop (m (if d.isNone then .ready else .done) d))).heap[w.heap.size+1]?=some (.loop (m (if d.isNone then .ready else .done) d))/\
     (M.putObj (w.heap.size+1) (.loop (m (if d.isNone then .ready else .done) d))).heap[w.heap.size]?=some (.deferred (some [])):=fun d M S hS u=>by
    have af:=(u.low _ (by omega) (Ae ag) (fun hm=>by have:=hS _ hm;omega)).trans ag;have z:=(u.low _ (by omega) (Ae ah) (fun hm=>by have:=hS _ hm;omega)).trans ah;have:=run_endRound (P:=P) d af;rw[q] at this ⊢;exact⟨this,World.putObj_heap_same (Ae af),(World.putObj_heap_other (by omega)).trans z⟩
   rintro e a3 M hp
   cases e with
   |normal=>
    obtain⟨u,ab⟩:=hp;obtain⟨hr,U,z⟩:=am none M S0 aj u;refine⟨_,_,hr,.inl ⟨rfl,⟨hI _ _ _ _ ab (Fp.putObj _ _ _) (Or.inr rfl),U,z⟩,?_⟩⟩;exact((Ao.of ((G.mono (by simp)).trans y:Fp ((w.heap.size+1)::S0) _ _) (by intro k D;rcases List.mem_cons.1 D with h|h;omega;have:=aj k h;omega)).trans u (fun k D=>by simp[D])).trans (Ao.of (Fp.putObj _ _ _) (by simp))
   |exit id=>
    obtain⟨rfl,u,ab⟩:=hp;obtain⟨hr,U,z⟩:=am (some (.exit id)) M Sx av u;exact⟨_,_,hr,.inr ⟨rfl,al _ _ _ ab (Fp.putObj _ _ _),U,z⟩⟩
   |ret=>exact hp.elim
   |goto t=>exact hp.elim
   |panic ch=>exact hp.elim
   |outgrown=>exact hp.elim
  .rintro e W2 ⟨⟨v,rfl⟩,(⟨xs,hS,hi,O,D⟩|⟨c,hi,O,D⟩)⟩
   .exact⟨none,_,by have:=run_endLoop (P:=P) O (by rw[q];simp);rw[q] at this;exact this,ac xs _ (aw _ _ _ hS (Fp.putObj _ _ _)) (hI _ _ _ _ hi (Fp.putObj _ _ _) (Or.inr rfl)) ((World.putObj_heap_other (by omega)).trans D)⟩
   .exact⟨some (.exit cx),_,by have:=run_endLoop (P:=P) O (by rw[q];simp);rw[q] at this;exact this,R c _ (al _ _ _ hi (Fp.putObj _ _ _)) ((World.putObj_heap_other (by omega)).trans D)⟩
end
def Ac2:Bool->Bool->Rb->Rb->Rb->Rb
 |false,_,r,_,_=>r
 |true,false,_,r,_=>r
 |true,true,_,_,r=>r
def C2(i j:Nat)(E:List Nat)(w0:World)(rb:Nat)(r r' r'':Rb)(b:Nat->Bool)(w:World):Prop:=Fp (rb::E) w0 w/\N9 w rb (Ac2 (b i) (b j) r r' r'')
section
variable {i j : Nat} {E : List Nat} {w0 w w' : World} {rb : Nat} {r r' r'' : Rb} {b : Nat -> Bool}
theorem C2.fp(h:C2 i j E w0 rb r r' r'' b w):Fp (rb::E) w0 w:=h.1
theorem C2.first(h:C2 i j E w0 rb r r' r'' b w)(a:b i=false):N9 w rb r:=by have:=h.2;rw[a] at this;exact this
theorem C2.last(h:C2 i j E w0 rb r r' r'' b w)(c:b i=true)(a:b j=true):N9 w rb r'':=by have:=h.2;rw[c,a] at this;exact this
theorem Ac3:Ak b i i=true:=if_pos rfl
theorem Ac4(h:j≠i):Ak b i j=b j:=if_neg h
end
end
end Go.Proofs.YtkagolpnaicdoaaGreatDoor
