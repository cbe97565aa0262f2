/-
 runs.Sorted, of items that are in order.
-/
import Derived.Test.YtkagolpnaicdoaaGreatDoorPAppG
set_option maxRecDepth 100000
set_option maxHeartbeats 8000000
open Go.Lib renaming hid->a0z
open List renaming setIfInBounds_toArray->a0x
namespace Go.Proofs.YtkagolpnaicdoaaGreatDoor
open Go.RowKit Go.Lib
theorem D3.next{l:List Ad}(h:D3 l){k:Nat}(a:k+1<l.length):D2 (Af l k) (Af l (k+1))<0/\Ba (Af l k) (Af l (k+1))=false:=by
 have d:=List.pairwise_iff_getElem.1 h k (k+1) (by omega) a (by omega);rw[L2 (by omega),L2 a];refine⟨?_,?_⟩
 ·rcases Oo l[k] l[k+1] with⟨_,b⟩|⟨b,_⟩<;>omega
 ·rw[Vk];omega
theorem Aeo(w:World)(a:Option Addr)(n cap:Nat)(l:List Ad)(L:Cf Bz w a n l)(hr:D3 l)(s:Ce l)(hn:n≤1000000):
  Calls Tryz.prog 268 #[.slice a n cap] w fun e w'=>e=.returned (.bool true)/\Fp [] w w':=by
 have HL:=a0z L;have S:=a0z L.len;have HR:=a0z hr;have G:=a0z dR;have R:=a0z pA;clear L hr;go_enter Tryz.func268,Tryz.ntmps268;go_wp2_with (fail)
 go_loopg [6] n (fun g vi wr=>∃k:Nat,g+k=n/\vi=.int .i64 k/\Fp [] w wr)
 case atStart=>exact⟨0,by omega,rfl,Fp.refl _ _⟩
 case round=>
  obtain⟨k,hg,rfl,d⟩:=hrel;have E:=a0z d;clear d
  by_cases hk:k<n
  ·have T:(k:Int)<(n:Int):=by omega
   have n1:IntKind.i64.wrap ((k:Int)+1)=((k+1:Nat):Int):=by rw[IntKind.wrap_i64];omega
   by_cases M:k=0
   ·subst M;rw[show((0:Nat):Int)=0 from rfl];rw[show((0:Nat):Int)=0 from rfl] at T;go_wp2_with (fail);refine C9 (by kernel_rfl) (by kernel_rfl) ?_
    iterate 3
     apply Aw rfl rfl rfl
     ·intro a w f b K o
      try have h3:=b.fr 3 rfl
      try have h9:=b.eq 0 9 rfl
      try have P:=b.eq 1 10 rfl
      simp only[Oper.wp,execOp];go_simp;exact o _ f (Fp.refl _ _)
    apply An 2 11 rfl rfl rfl rfl (by kernel_rfl) rfl rfl;apply An 2 11 rfl rfl rfl rfl (by kernel_rfl) rfl rfl;apply An 2 11 rfl rfl rfl rfl (by kernel_rfl) rfl rfl;apply An 2 11 rfl rfl rfl rfl (by kernel_rfl) rfl rfl;apply An 2 11 rfl rfl rfl rfl (by kernel_rfl) rfl rfl;apply An 2 11 rfl rfl rfl rfl (by kernel_rfl) rfl rfl;apply An 2 11 rfl rfl rfl rfl (by kernel_rfl) rfl rfl;apply An 2 11 rfl rfl rfl rfl (by kernel_rfl) rfl rfl;apply An 2 11 rfl rfl rfl rfl (by kernel_rfl) rfl rfl;apply An 2 11 rfl rfl rfl rfl (by kernel_rfl) rfl rfl;apply An 2 11 rfl rfl rfl rfl (by kernel_rfl) rfl rfl;apply An 2 11 rfl rfl rfl rfl (by kernel_rfl) rfl rfl;apply G9 14 23 rfl rfl rfl rfl (by kernel_rfl) rfl;apply G9 14 23 rfl rfl rfl rfl (by kernel_rfl) rfl;apply G9 14 23 rfl rfl rfl rfl (by kernel_rfl) rfl;apply G9 14 23 rfl rfl rfl rfl (by kernel_rfl) rfl;apply G9 14 23 rfl rfl rfl rfl (by kernel_rfl) rfl;apply G9 14 23 rfl rfl rfl rfl (by kernel_rfl) rfl;apply G9 14 23 rfl rfl rfl rfl (by kernel_rfl) rfl;apply G9 14 23 rfl rfl rfl rfl (by kernel_rfl) rfl;apply G9 14 23 rfl rfl rfl rfl (by kernel_rfl) rfl;apply G9 14 23 rfl rfl rfl rfl (by kernel_rfl) rfl;apply An 2 11 rfl rfl rfl rfl (by kernel_rfl) rfl rfl;apply Aw rfl rfl rfl
    ·intro a w f b K o;have O:=b.eq 2 11 rfl;have N:=b.eq 25 34 rfl;simp only[Oper.wp,execOp];go_simp;exact o _ f (Fp.refl _ _)
    refine⟨?_,?_⟩
    ·repeat(first|exact trivial|refine B7 _ ?_ |refine⟨fun w1 w2 v _ d ⟨g,Q,D⟩=>⟨g,Q,(d.block g (Ac D) (by simp)).trans D⟩,?_⟩)
    ·intro w' f;simp only[List.reverse_cons,List.reverse_nil,List.nil_append,List.cons_append]
     iterate 27 (refine Am ?_)
     refine A0 ?_;simp only[Aj,Act.put,a0x,List.set_cons_succ,List.set_cons_zero];have q:=a0z (E.out.trans f (by simp));clear f;go_wp2_with (fail)
     go_roundg (gk-1)
     case measure=>omega
     case rel=>exact⟨0+1,by omega,by simp,q.out⟩
   ·have aa:0<k:=by omega
    have n2:IntKind.i64.wrap ((k:Int)-1)=((k-1:Nat):Int):=by rw[IntKind.wrap_i64];omega
    obtain⟨p,hp⟩:∃p,k-1=p:=⟨_,rfl⟩
    rw[hp] at n2
    have u:p+1=k:=by omega
    have zp:(p:Int)<(n:Int):=by omega
    have z:k<l.length:=by rw[<-S.out];exact hk
    have r:p<l.length:=by omega
    obtain⟨J,o0,e0,_,B⟩:=HL.out.get z;obtain⟨b1,o1,e1,_,A⟩:=HL.out.get r;subst e0;cases e1;obtain⟨C,m⟩:=HR.out.next (k:=p) (by omega);rw[u] at C m
    have t:D2 (Af l p) (Af l k)= -1:=by
     rcases vK (s.at p) (s.at k) with h|h|h<;>omega
    have I:Hid (∀w',Fp [] wr w'->Kw w' J (o0+k*7) (Af l k)):=fun w' d=>by
     rw[L2 z];exact Wm (B w' (E.out.trans d (by simp)))
    have F:Hid (∀w',Fp [] wr w'->Kw w' J (o0+p*7) (Af l p)):=fun w' d=>by
     rw[L2 r];exact Wm (A w' (E.out.trans d (by simp)))
    have j:=a0z (fun w=>G.out (Af l p) (Af l k) w);have i:=a0z (fun w=>R.out (Af l p) (Af l k) w);rw[m] at i;rw[t] at j
    obtain⟨x,hx⟩:∃x,Af l k=x:=⟨_,rfl⟩
    obtain⟨y,hy⟩:∃y,Af l p=y:=⟨_,rfl⟩
    rw[hx] at I j i;rw[hy] at F j i;obtain⟨⟨xr,xc,xt,xs,xd,xv⟩,xp⟩:=x;obtain⟨⟨W,Z,V,ys,Y,U⟩,X⟩:=y;have HC1':Hid (∀w,Calls Tryz.prog 217 #[.agg #[.string W,.string Z,.int .u64 V,.int .u64 ys,.bool Y,.string U,.int .i64 X],.agg #[.string xr,.string xc,.int .u64 xt,.int .u64 xs,.bool xd,.string xv,.int .i64 xp]] w fun e w'=>e=.returned (.int .i64 (-1))/\Fp [] w w'):=j;have HC2':Hid (∀w,Calls Tryz.prog 219 #[.agg #[.string W,.string Z,.int .u64 V,.int .u64 ys,.bool Y,.string U,.int .i64 X],.agg #[.string xr,.string xc,.int .u64 xt,.int .u64 xs,.bool xd,.string xv,.int .i64 xp]] w fun e w'=>e=.returned (.bool false)/\Fp [] w w'):=i;clear hx hy t m C B A hp u j i;go_wp2_with (fail);refine C9 (by kernel_rfl) (by kernel_rfl) ?_
    iterate 27
     first|apply Aw rfl rfl rfl|apply Hr 2 11 rfl rfl rfl rfl (by kernel_rfl) rfl rfl|apply Hr 14 23 rfl rfl rfl rfl (by kernel_rfl) rfl rfl
     ·intro a w f b K o
      try have h3:=b.fr 3 rfl
      try have h9:=b.eq 0 9 rfl
      try have P:=b.eq 1 10 rfl
      try have h0:=b.fr 0 rfl
      try have ax:=b.eq 4 13 rfl
      try have ay:=b.eq 3 12 rfl
      try have aw:=b.eq 5 14 rfl
      try have av:=b.eq 6 15 rfl
      try have ar:=b.eq 8 17 rfl
      try have aq:=b.eq 9 18 rfl
      try have ap:=b.eq 10 19 rfl
      try have au:=b.eq 7 16 rfl
      try have ao:=b.eq 11 20 rfl
      try have an:=b.eq 12 21 rfl
      try have am:=b.eq 13 22 rfl
      try have aj:=b.eq 16 25 rfl
      try have ak:=b.eq 15 24 rfl
      try have ai:=b.eq 17 26 rfl
      try have ah:=b.eq 18 27 rfl
      try have af:=b.eq 20 29 rfl
      try have ae:=b.eq 21 30 rfl
      try have ad:=b.eq 22 31 rfl
      try have ag:=b.eq 19 28 rfl
      try have ac:=b.eq 23 32 rfl
      try have al:=b.eq 14 23 rfl
      try have ab:=b.eq 24 33 rfl
      try have O:=b.eq 2 11 rfl
      try have N:=b.eq 25 34 rfl
      obtain⟨a0,a1,a2,a3,a4,a5,a6⟩:=I.out _ f;obtain⟨J,b1,b2,b3,b4,b5,b6⟩:=F.out _ f;simp only at a0 a1 a2 a3 a4 a5 a6 J b1 b2 b3 b4 b5 b6;simp only[Oper.wp,execOp];go_simp
      first
      |exact o _ f (Fp.refl _ _)
      |first
        |((with_reducible refine(HC1'.out _).mono ?_);rintro e w2 ⟨rfl,d⟩;exact o _ (f.trans d (by simp)) d)
        |((with_reducible refine(HC2'.out _).mono ?_);rintro e w2 ⟨rfl,d⟩;exact o _ (f.trans d (by simp)) d)
    refine⟨?_,?_⟩
    ·repeat(first|exact trivial|refine B7 _ ?_ |refine⟨fun w1 w2 v _ d ⟨g,Q,D⟩=>⟨g,Q,(d.block g (Ac D) (by simp)).trans D⟩,?_⟩)
    ·intro w' f;simp only[List.reverse_cons,List.reverse_nil,List.nil_append,List.cons_append]
     iterate 27 (refine Am ?_)
     refine A0 ?_;simp only[Aj,Act.put,a0x,List.set_cons_succ,List.set_cons_zero];have q:=a0z (E.out.trans f (by simp));clear f;go_wp2_with (fail)
     go_roundg (gk-1)
     case measure=>omega
     case rel=>exact⟨k+1,by omega,by simp,q.out⟩
  ·have T:¬(k:Int)<(n:Int):=by omega
   go_wp2_with (fail);go_ret;exact⟨rfl,E.out⟩
end Go.Proofs.YtkagolpnaicdoaaGreatDoor
