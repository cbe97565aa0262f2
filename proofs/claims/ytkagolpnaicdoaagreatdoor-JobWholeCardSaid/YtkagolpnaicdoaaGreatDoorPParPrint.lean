/-
 Print. Maps as lists of entries: laws on the model's map operations, over any program. The disk as data, and where it lies in memory.
-/
import Derived.Test.YtkagolpnaicdoaaGreatDoorPPlc
set_option maxRecDepth 100000
set_option maxHeartbeats 8000000
open Go.Lib renaming hid->a0z
open List renaming getElem?_eq_getElem->a0x,mem_of_getElem?->a0w,nodup_cons->a0u,getElem?_map->a1z,filter_cons->a1x,find?_cons->a1w,getElem_of_mem->a1v,map_congr_left->a1u,setIfInBounds_toArray->a2x,map_cons->a2w,map_set->a2v
open ByteArray renaming size_append->a0v
open Nat renaming le_refl->a2z
namespace Go.Proofs.YtkagolpnaicdoaaGreatDoor
section
open Go.RowKit Go.Lib
theorem Acl(c:Aa)(d:c.ts<18446744073709551616)(h:c.row.size+c.col.size+c.val.size≤10000000)(w:World)(g:Nat)(f:w.heap[g]?=some (.cells #[.string c.row,.string c.col,.string (O6 c.ts),.string (N6 c)] 9 (0,0))):
  Calls Tryz.prog 68 #[.slice (some ⟨g,0,none⟩) 4 4,.string ⟨#[32]⟩] w fun e w'=>e=.returned (.string (E1 c))/\Fp [] w w':=by
 have b:(join ([c.row,c.col,O6 c.ts,N6 c].map (·.data.toList)) [32]).length=(E1 c).size:=by
  rw[<-oK c];rfl
 have l:=oJ c d;refine(Tryz.strings_Join g 0 4 [c.row,c.col,O6 c.ts,N6 c] ⟨#[32]⟩ w ?_ (Ac f) (by show 4<=_;decide) (a2z _) ?_).mono ?_
 ·intro j x a;rw[Ab f,Nat.zero_add]
  match j,a with
  |0,a=>simp at a;subst a;rfl
  |1,a=>simp at a;subst a;rfl
  |2,a=>simp at a;subst a;rfl
  |3,a=>simp at a;subst a;rfl
  |j+4,a=>simp at a
 ·show(join ([c.row,c.col,O6 c.ts,N6 c].map (·.data.toList)) [32]).length<=_;rw[b];omega
 ·rintro e w' ⟨rfl,i⟩;exact⟨by rw[<-oK c],Below.toFp i⟩
theorem Acm{c x:Aa}(h:D5 (E1 c)=some x)(d:O5 x c=true):0<c.row.size:=by
 obtain rfl:=(Yw _ _).1 d;unfold D5 at h;split at h
 ·unfold I9 at h;split at h
  ·rename_i b;obtain⟨u,_,e⟩:=Option.map_eq_some_iff.1 h;have a:=b.1;unfold Ku J6 at a;simp only[Bool.and_eq_true,decide_eq_true_eq] at a;have f:=a.1.1;have g:=congrArg Aa.row e;rw[<-g];exact Nat.pos_of_ne_zero f
  ·cases h
 ·cases h
theorem nH(x:Aa):Bm x=.agg #[.string x.row,.string x.col,.int .u64 x.ts,.int .u64 x.seq,.bool x.del,.string x.val]:=rfl
theorem nI:liesAt Tryz.prog Tryz.prog.depth 131 (2/Tryz.prog.cellsOf 131) 0 131 1=true:=by kernel_rfl
theorem Acn(w:World)(a:Option Addr)(len cap:Nat)(l:List Aa)(hl:Bh w a len l)(hb:∀c∈l,c.row.size+c.col.size+c.val.size≤10000000)(hn:len≤90)(hp:Jm w)(a2:Mc w):
  Calls Tryz.prog 36 #[.slice a len cap] w fun e w'=>e=.returned (.tuple #[.string (Wb l).1,.int .i64 ((Wb l).2:Nat)])/\Fp [] w w':=by
 have HL:=a0z hl;have HP:=a0z hp;have a7:=a0z a2;have a8:=a0z hb;have ai:=a0z hl.len;have ae:=a0z (fun l s w h1 h2=>Su nI (show 131≠5 by decide) w.heap.size w.heap.size l s w h1 h2);clear hl hp a2 hb ae
 obtain⟨B,hB⟩:∃B,w.heap.size=B:=⟨_,rfl⟩
 have aS:=a0z hB;have ae:=a0z (fun l s w h1 h2=>Su nI (show 131≠5 by decide) B B l s w h1 h2);have bk:=a0z (fun l w h=>aD (T:=131) B B l w h);go_enter Tryz.func36,Tryz.ntmps36;go_wp2_with (fail)
 have HI:Hid (Dp 131 B B [] (w.alloc (.cells #[.pointer none,.slice none 0 0] 131))):=by unfold Hid;rw[<-hB];exact Dp.fresh _ w
 clear hB
 go_loopg [13] len (fun g vi wr=>∃k D,g+k=len/\vi=.int .i64 (k:Nat)/\Fp [] w wr/\Dp 131 B B D wr/\Wb l=Ll ⟨D.toArray⟩ (l.drop k)/\D.length<=k*10000100)
 case atStart=>exact⟨0,[],rfl,rfl,Fp.alloc _ _,HI.out,rfl,Nat.zero_le _⟩
 case round=>
  obtain⟨k,D,hg,rfl,u,ag,a3,bp⟩:=hrel;have HF:=a0z u;have HB:=a0z ag;have o:=a0z a3;clear u ag a3
  by_cases hk:k<len
  ·have ap:k<l.length:=by rw[←ai.out];exact hk
   obtain⟨b1,o1,rfl,bv,C⟩:=Lj HL.out ap
   obtain⟨c,hc⟩:∃c,l[k]=c:=⟨_,rfl⟩
   have z:Hid (l.drop k=c::l.drop (k+1)):=by unfold Hid;rw[<-hc];exact List.drop_eq_getElem_cons ap
   have au:c∈l:=by rw[<-hc];exact List.getElem_mem ap
   have al:=a8.out c au;have bm:=a0z (HL.out.ok c au);rw[hc] at C;have HQ:=a0z (C wr HF.out);have ak:=bm.out.ts;have HJ:=a0z (Acl c ak al);have a6:=a0z (oJ c ak);have y:Hid (Hq c=match D5 (E1 c) with|none=>false|some x=>O5 x c&&!(c.row.data.toList.head?==some 35)):=rfl;have av:=a0z (fun x=>Acm (c:=c) (x:=x));have ax:Hid (N6 c=(if c.del=true then⟨#[45]⟩ else⟨#[61]⟩)++c.val):=rfl
   have aw:Hid (∀w,Mc w->Calls Tryz.prog 69 #[.int .u64 c.ts,.int .i64 10] w fun e w'=>e=.returned (.string (O6 c.ts))/\Fp [] w w'):=fun w h=>Ad5 c.ts ak w h
   obtain⟨q0,q1,q2,q3,q4,q5⟩:=HQ.out;clear C hc au a8
   obtain⟨tx,ad⟩:∃tx,E1 c=tx:=⟨_,rfl⟩
   obtain⟨dc,ar⟩:∃dc,O6 c.ts=dc:=⟨_,rfl⟩
   obtain⟨en,aq⟩:∃en,N6 c=en:=⟨_,rfl⟩
   rw[ad,ar,aq] at HJ;rw[ad] at a6 y av;rw[ar] at aw;rw[aq] at ax;have ah:=a0z ad
   have af:Hid (tx.size<=10000024):=by have:=a6.out;unfold Hid;omega
   have a0:tx.size<=100000000:=by have:=af.out;omega
   have bo:tx.size<=10000024:=af.out;clear ar ad aq;obtain⟨d,j,ts,seq,bj,m⟩:=c;cases bj
   all_goals
    have a1:d.size+j.size+m.size<=10000000:=al
    have bq:(m.size:Int)<=10000000:=by omega
    have br:(d.size:Int)<=10000000:=by omega
    have bt:(j.size:Int)<=10000000:=by omega
    clear al a1
   ·have a4:⟨#[61]⟩++m=en:=ax.out.symm;go_wp2_with (fail)
    obtain⟨w8,A⟩:∃w8,wr.alloc (.cells #[.string d,.string j,.int .u64 ts,.int .u64 seq,.bool false,.string m] 80)=w8:=⟨_,rfl⟩
    rw[A]
    have N:Hid (Di w8 wr.heap.size ⟨d,j,ts,seq,false,m⟩):=by rw[<-A];exact Ai rfl _
    have J:Fp [] wr w8:=by rw[<-A];exact Fp.alloc _ _
    have Y:=a0z (HF.out.trans J (by simp));have aF:=a0z (HB.out.fp J (by simp))
    obtain⟨CB,L⟩:∃CB,wr.heap.size=CB:=⟨_,rfl⟩
    rw[L] at N;rw[L];clear J A L q0 q1 q2 q3 q4 q5;refine C9 (by kernel_rfl) (by kernel_rfl) ?_
    iterate 8
     apply Aw rfl rfl rfl
     ·intro a w p q K E
      try have h6:=q.fr 6 rfl
      try have bi:=q.eq 0 25 rfl
      try have bg:=q.eq 2 27 rfl
      try have be:=q.eq 4 29 rfl
      try have bd:=q.eq 5 30 rfl
      try have h7:=q.fr 7 rfl
      obtain⟨k0,k1,k2,k3,k4,k5,_⟩:=(N.out.fp p (by simp)).facts0;simp only[Oper.wp,execOp];go_simp
      first
      |exact E _ p (Fp.refl _ _)
      |(with_reducible refine(aw.out _ (a7.out.fp (Y.out.trans p (by simp)))).mono ?_);rintro e w2 ⟨rfl,u⟩;exact E _ (p.trans u (by simp)) u
    apply Qp (fun w' v=>∃g,v=.slice (some ⟨g,0,none⟩) 4 4/\w'.heap[g]?=some (.cells #[.string d,.string j,.string dc,.string en] 9 (0,0))) rfl rfl rfl
    ·intro a w p q K E;have bh:=q.eq 1 26 rfl;have bf:=q.eq 3 28 rfl;have bc:=q.eq 6 31 rfl;have bb:=q.eq 7 32 rfl;simp only[Oper.wp,execOp];go_simp;exact E _ _ (p.alloc' _) (Fp.alloc _ _) ⟨_,rfl,Ai rfl _⟩
    apply Aw rfl rfl rfl
    ·intro a w p q K E;have V:=q.dep 8 33 _ (by kernel_rfl) rfl;obtain⟨g,V,hg⟩:=V;simp only[Oper.wp,execOp];go_simp
     (with_reducible refine(HJ.out w g hg).mono ?_);rintro e w2 ⟨rfl,u⟩;exact E _ (p.trans u (by simp)) u
    apply Aw rfl rfl rfl
    ·intro a w p q K E;have ba:=q.eq 9 34 rfl;simp only[Oper.wp,execOp];go_simp;exact E _ p (Fp.refl _ _)
    refine⟨?_,?_⟩
    ·repeat(first|exact trivial|refine B7 _ ?_ |refine⟨fun w1 w2 v _ u ⟨g,h1,h2⟩=>⟨g,h1,(u.block g (Ac h2) (by simp)).trans h2⟩,?_⟩)
    ·intro w' p;simp only[List.reverse_cons,List.reverse_nil,List.nil_append,List.cons_append]
     iterate 8 (refine Am ?_)
     refine Ap ?_;intro v8 u8
     iterate 2 (refine Am ?_)
     refine A0 ?_;simp only[Aj,Act.put,a2x,List.set_cons_succ,List.set_cons_zero];have X:=a0z (Y.out.trans p (by simp));have ay:=a0z (N.out.fp p (by simp));have az:=a0z (aF.out.fp p (by simp));clear p;go_wp2_with (fail);(with_reducible refine(dF tx _ a0 (HP.out.fp X.out)).mono ?_);rintro e a9 ⟨rfl,u⟩;have f:=a0z (X.out.trans u (by simp));have aa:=a0z (ay.out.fp u (by simp));have ac:=a0z (az.out.fp u (by simp));clear u;obtain⟨y0,y1,y2,y3,y4,y5,_⟩:=aa.out.facts
     cases hlp:D5 tx with
     |none=>
      have i:Hid (Hq ⟨d,j,ts,seq,false,m⟩=false):=by unfold Hid;rw[y.out,hlp]
      clear hlp;rw[show(Option.none:Option Aa).getD Az=Az from rfl,show(Option.none:Option Aa).isSome=false from rfl,show Bm Az=.agg #[.string ⟨#[]⟩,.string ⟨#[]⟩,.int .u64 0,.int .u64 0,.bool false,.string ⟨#[]⟩] from rfl];go_wp2_with (fail);go_ret2;rw[o.out,z.out,It i.out];exact⟨rfl,f.out.alloc' _⟩
     |some x=>
      obtain⟨xr,xc,xt,xq,xd,O⟩:=x;rw[show(Option.some (⟨xr,xc,xt,xq,xd,O⟩:Aa)).getD Az=⟨xr,xc,xt,xq,xd,O⟩ from rfl,show(Option.some (⟨xr,xc,xt,xq,xd,O⟩:Aa)).isSome=true from rfl,nH];have W:=a0z (av.out _ hlp);cases he:O5 ⟨xr,xc,xt,xq,xd,O⟩ ⟨d,j,ts,seq,false,m⟩
      ·have i:Hid (Hq ⟨d,j,ts,seq,false,m⟩=false):=by unfold Hid;rw[y.out,hlp];simp only[he,Bool.false_and]
       have h:=oI _ _ he;clear hlp he
       rcases h with h|⟨n,h⟩
       ·have G:¬xr.toList=d.toList:=beq_eq_false_iff_ne.1 h;have Q:(xr.toList==d.toList)=false:=h;go_wp2_with (fail);go_ret2;rw[o.out,z.out,It i.out];exact⟨rfl,f.out.alloc' _⟩
       have r:d=xr:=n.symm;clear n;subst r
       rcases h with h|⟨n,h⟩
       ·have G:¬xc.toList=j.toList:=beq_eq_false_iff_ne.1 h;have Q:(xc.toList==j.toList)=false:=h;go_wp2_with (fail);go_ret2;rw[o.out,z.out,It i.out];exact⟨rfl,f.out.alloc' _⟩
       have r:j=xc:=n.symm;clear n;subst r
       rcases h with h|⟨n,h⟩
       ·have n0:¬xt=ts:=beq_eq_false_iff_ne.1 h
        have G:¬(xt:Int)=(ts:Int):=by omega
        have Q:((xt:Int)==(ts:Int))=false:=beq_eq_false_iff_ne.2 G;go_wp2_with (fail);go_ret2;rw[o.out,z.out,It i.out];exact⟨rfl,f.out.alloc' _⟩
       have r:ts=xt:=n.symm;clear n;subst r
       rcases h with h|⟨n,h⟩
       ·have n0:¬xq=seq:=beq_eq_false_iff_ne.1 h
        have G:¬(xq:Int)=(seq:Int):=by omega
        have Q:((xq:Int)==(seq:Int))=false:=beq_eq_false_iff_ne.2 G;go_wp2_with (fail);go_ret2;rw[o.out,z.out,It i.out];exact⟨rfl,f.out.alloc' _⟩
       have r:seq=xq:=n.symm;clear n;subst r
       rcases h with h|⟨n,h⟩
       ·have G:¬xd=false:=beq_eq_false_iff_ne.1 h;have Q:(xd==false)=false:=h;go_wp2_with (fail);go_ret2;rw[o.out,z.out,It i.out];exact⟨rfl,f.out.alloc' _⟩
       have r:false=xd:=n.symm;clear n;subst r;have G:¬O.toList=m.toList:=beq_eq_false_iff_ne.1 h;have Q:(O.toList==m.toList)=false:=h;go_wp2_with (fail);go_ret2;rw[o.out,z.out,It i.out];exact⟨rfl,f.out.alloc' _⟩
      ·have am:0<d.size:=W.out he;have an:(⟨#[10]⟩:ByteArray).size=1:=rfl;have S:=(Yw _ _).1 he
       obtain⟨sk,I⟩:∃sk,((d[0].toNat:Int)==35)=sk:=⟨_,rfl⟩
       have F:Hid (Hq ⟨d,j,ts,seq,false,m⟩=!sk):=by
        unfold Hid;rw[y.out,hlp];simp only[he,Bool.true_and];rw[<-I,<-dH am];unfold Ja;rw[beq_eq_false_iff_ne.2 (by omega:d.size≠0),Bool.false_or]
       simp only[Aa.mk.injEq] at S;obtain⟨n,r,e3,e4,e5,e6⟩:=S;have n:=n.symm;have r:=r.symm;have e3:=e3.symm;have e4:=e4.symm;have e6:=e6.symm;clear hlp he W;subst n r e3 e4 e5 e6;cases sk
       ·have ao:¬(d[0].toNat:Int)=35:=beq_eq_false_iff_ne.1 I;go_wp2_with (fail);(with_reducible refine(ae.out D (tx++⟨#[10]⟩) _ (ac.out.fp (Fp.alloc _ _) (by simp)) (by rw[a0v,an];omega)).mono ?_);rintro e aj ⟨rfl,U,R⟩;have Z:Hid (Fp [] w aj):=(f.out.alloc' _).bfp R (by rw[aS.out];exact a2z _);have ab:=a0z U;clear U R;go_wp2_with (fail)
        go_roundg (gk-1)
        case measure=>omega
        case rel=>
         refine⟨k+1,D++(tx++⟨#[10]⟩).data.toList,by omega,by simp,Z.out,ab.out,?_,?_⟩
         ·rw[o.out,z.out,dI (by rw[F.out];rfl),ah.out];refine congrArg (fun b=>Ll b _) (Qm ?_);rw[Rq]
         ·have n:(tx++⟨#[10]⟩).data.toList.length=tx.size+1:=by rw[<-size_eq,a0v];rfl
          have r:=af.out;rw[List.length_append,n];omega
       ·have a5:(d[0].toNat:Int)=35:=beq_iff_eq.1 I;go_wp2_with (fail);go_ret2;rw[o.out,z.out,It (by rw[F.out];rfl)];exact⟨rfl,f.out.alloc' _⟩
   ·have a4:⟨#[45]⟩++m=en:=ax.out.symm;go_wp2_with (fail)
    obtain⟨w8,A⟩:∃w8,wr.alloc (.cells #[.string d,.string j,.int .u64 ts,.int .u64 seq,.bool true,.string m] 80)=w8:=⟨_,rfl⟩
    rw[A]
    have N:Hid (Di w8 wr.heap.size ⟨d,j,ts,seq,true,m⟩):=by rw[<-A];exact Ai rfl _
    have J:Fp [] wr w8:=by rw[<-A];exact Fp.alloc _ _
    have Y:=a0z (HF.out.trans J (by simp));have aF:=a0z (HB.out.fp J (by simp))
    obtain⟨CB,L⟩:∃CB,wr.heap.size=CB:=⟨_,rfl⟩
    rw[L] at N;rw[L];clear J A L q0 q1 q2 q3 q4 q5;refine C9 (by kernel_rfl) (by kernel_rfl) ?_
    iterate 8
     apply Aw rfl rfl rfl
     ·intro a w p q K E
      try have h6:=q.fr 6 rfl
      try have bi:=q.eq 0 25 rfl
      try have bg:=q.eq 2 27 rfl
      try have be:=q.eq 4 29 rfl
      try have bd:=q.eq 5 30 rfl
      try have h7:=q.fr 7 rfl
      obtain⟨k0,k1,k2,k3,k4,k5,_⟩:=(N.out.fp p (by simp)).facts0;simp only[Oper.wp,execOp];go_simp
      first
      |exact E _ p (Fp.refl _ _)
      |(with_reducible refine(aw.out _ (a7.out.fp (Y.out.trans p (by simp)))).mono ?_);rintro e w2 ⟨rfl,u⟩;exact E _ (p.trans u (by simp)) u
    apply Qp (fun w' v=>∃g,v=.slice (some ⟨g,0,none⟩) 4 4/\w'.heap[g]?=some (.cells #[.string d,.string j,.string dc,.string en] 9 (0,0))) rfl rfl rfl
    ·intro a w p q K E;have bh:=q.eq 1 26 rfl;have bf:=q.eq 3 28 rfl;have bc:=q.eq 6 31 rfl;have bb:=q.eq 7 32 rfl;simp only[Oper.wp,execOp];go_simp;exact E _ _ (p.alloc' _) (Fp.alloc _ _) ⟨_,rfl,Ai rfl _⟩
    apply Aw rfl rfl rfl
    ·intro a w p q K E;have V:=q.dep 8 33 _ (by kernel_rfl) rfl;obtain⟨g,V,hg⟩:=V;simp only[Oper.wp,execOp];go_simp
     (with_reducible refine(HJ.out w g hg).mono ?_);rintro e w2 ⟨rfl,u⟩;exact E _ (p.trans u (by simp)) u
    apply Aw rfl rfl rfl
    ·intro a w p q K E;have ba:=q.eq 9 34 rfl;simp only[Oper.wp,execOp];go_simp;exact E _ p (Fp.refl _ _)
    refine⟨?_,?_⟩
    ·repeat(first|exact trivial|refine B7 _ ?_ |refine⟨fun w1 w2 v _ u ⟨g,h1,h2⟩=>⟨g,h1,(u.block g (Ac h2) (by simp)).trans h2⟩,?_⟩)
    ·intro w' p;simp only[List.reverse_cons,List.reverse_nil,List.nil_append,List.cons_append]
     iterate 8 (refine Am ?_)
     refine Ap ?_;intro v8 u8
     iterate 2 (refine Am ?_)
     refine A0 ?_;simp only[Aj,Act.put,a2x,List.set_cons_succ,List.set_cons_zero];have X:=a0z (Y.out.trans p (by simp));have ay:=a0z (N.out.fp p (by simp));have az:=a0z (aF.out.fp p (by simp));clear p;go_wp2_with (fail);(with_reducible refine(dF tx _ a0 (HP.out.fp X.out)).mono ?_);rintro e a9 ⟨rfl,u⟩;have f:=a0z (X.out.trans u (by simp));have aa:=a0z (ay.out.fp u (by simp));have ac:=a0z (az.out.fp u (by simp));clear u;obtain⟨y0,y1,y2,y3,y4,y5,_⟩:=aa.out.facts
     cases hlp:D5 tx with
     |none=>
      have i:Hid (Hq ⟨d,j,ts,seq,true,m⟩=false):=by unfold Hid;rw[y.out,hlp]
      clear hlp;rw[show(Option.none:Option Aa).getD Az=Az from rfl,show(Option.none:Option Aa).isSome=false from rfl,show Bm Az=.agg #[.string ⟨#[]⟩,.string ⟨#[]⟩,.int .u64 0,.int .u64 0,.bool false,.string ⟨#[]⟩] from rfl];go_wp2_with (fail);go_ret2;rw[o.out,z.out,It i.out];exact⟨rfl,f.out.alloc' _⟩
     |some x=>
      obtain⟨xr,xc,xt,xq,xd,O⟩:=x;rw[show(Option.some (⟨xr,xc,xt,xq,xd,O⟩:Aa)).getD Az=⟨xr,xc,xt,xq,xd,O⟩ from rfl,show(Option.some (⟨xr,xc,xt,xq,xd,O⟩:Aa)).isSome=true from rfl,nH];have W:=a0z (av.out _ hlp);cases he:O5 ⟨xr,xc,xt,xq,xd,O⟩ ⟨d,j,ts,seq,true,m⟩
      ·have i:Hid (Hq ⟨d,j,ts,seq,true,m⟩=false):=by unfold Hid;rw[y.out,hlp];simp only[he,Bool.false_and]
       have h:=oI _ _ he;clear hlp he
       rcases h with h|⟨n,h⟩
       ·have G:¬xr.toList=d.toList:=beq_eq_false_iff_ne.1 h;have Q:(xr.toList==d.toList)=false:=h;go_wp2_with (fail);go_ret2;rw[o.out,z.out,It i.out];exact⟨rfl,f.out.alloc' _⟩
       have r:d=xr:=n.symm;clear n;subst r
       rcases h with h|⟨n,h⟩
       ·have G:¬xc.toList=j.toList:=beq_eq_false_iff_ne.1 h;have Q:(xc.toList==j.toList)=false:=h;go_wp2_with (fail);go_ret2;rw[o.out,z.out,It i.out];exact⟨rfl,f.out.alloc' _⟩
       have r:j=xc:=n.symm;clear n;subst r
       rcases h with h|⟨n,h⟩
       ·have n0:¬xt=ts:=beq_eq_false_iff_ne.1 h
        have G:¬(xt:Int)=(ts:Int):=by omega
        have Q:((xt:Int)==(ts:Int))=false:=beq_eq_false_iff_ne.2 G;go_wp2_with (fail);go_ret2;rw[o.out,z.out,It i.out];exact⟨rfl,f.out.alloc' _⟩
       have r:ts=xt:=n.symm;clear n;subst r
       rcases h with h|⟨n,h⟩
       ·have n0:¬xq=seq:=beq_eq_false_iff_ne.1 h
        have G:¬(xq:Int)=(seq:Int):=by omega
        have Q:((xq:Int)==(seq:Int))=false:=beq_eq_false_iff_ne.2 G;go_wp2_with (fail);go_ret2;rw[o.out,z.out,It i.out];exact⟨rfl,f.out.alloc' _⟩
       have r:seq=xq:=n.symm;clear n;subst r
       rcases h with h|⟨n,h⟩
       ·have G:¬xd=true:=beq_eq_false_iff_ne.1 h;have Q:(xd==true)=false:=h;go_wp2_with (fail);go_ret2;rw[o.out,z.out,It i.out];exact⟨rfl,f.out.alloc' _⟩
       have r:true=xd:=n.symm;clear n;subst r;have G:¬O.toList=m.toList:=beq_eq_false_iff_ne.1 h;have Q:(O.toList==m.toList)=false:=h;go_wp2_with (fail);go_ret2;rw[o.out,z.out,It i.out];exact⟨rfl,f.out.alloc' _⟩
      ·have am:0<d.size:=W.out he;have an:(⟨#[10]⟩:ByteArray).size=1:=rfl;have S:=(Yw _ _).1 he
       obtain⟨sk,I⟩:∃sk,((d[0].toNat:Int)==35)=sk:=⟨_,rfl⟩
       have F:Hid (Hq ⟨d,j,ts,seq,true,m⟩=!sk):=by
        unfold Hid;rw[y.out,hlp];simp only[he,Bool.true_and];rw[<-I,<-dH am];unfold Ja;rw[beq_eq_false_iff_ne.2 (by omega:d.size≠0),Bool.false_or]
       simp only[Aa.mk.injEq] at S;obtain⟨n,r,e3,e4,e5,e6⟩:=S;have n:=n.symm;have r:=r.symm;have e3:=e3.symm;have e4:=e4.symm;have e6:=e6.symm;clear hlp he W;subst n r e3 e4 e5 e6;cases sk
       ·have ao:¬(d[0].toNat:Int)=35:=beq_eq_false_iff_ne.1 I;go_wp2_with (fail);(with_reducible refine(ae.out D (tx++⟨#[10]⟩) _ (ac.out.fp (Fp.alloc _ _) (by simp)) (by rw[a0v,an];omega)).mono ?_);rintro e aj ⟨rfl,U,R⟩;have Z:Hid (Fp [] w aj):=(f.out.alloc' _).bfp R (by rw[aS.out];exact a2z _);have ab:=a0z U;clear U R;go_wp2_with (fail)
        go_roundg (gk-1)
        case measure=>omega
        case rel=>
         refine⟨k+1,D++(tx++⟨#[10]⟩).data.toList,by omega,by simp,Z.out,ab.out,?_,?_⟩
         ·rw[o.out,z.out,dI (by rw[F.out];rfl),ah.out];refine congrArg (fun b=>Ll b _) (Qm ?_);rw[Rq]
         ·have n:(tx++⟨#[10]⟩).data.toList.length=tx.size+1:=by rw[<-size_eq,a0v];rfl
          have r:=af.out;rw[List.length_append,n];omega
       ·have a5:(d[0].toNat:Int)=35:=beq_iff_eq.1 I;go_wp2_with (fail);go_ret2;rw[o.out,z.out,It (by rw[F.out];rfl)];exact⟨rfl,f.out.alloc' _⟩
  ·have z:Hid (l.drop k=[]):=List.drop_eq_nil_of_le (by rw[<-ai.out];omega);go_wp2_with (fail);(with_reducible refine(bk.out D _ HB.out).mono ?_);rintro e w2 ⟨rfl,hb⟩;have bn:Hid (Fp [] w w2):=HF.out.belowTrans (by rw[aS.out];exact hb);clear hb;go_wp2_with (fail);go_ret2;rw[o.out,z.out];exact⟨rfl,bn.out⟩
end
section
open Go.RowKit Go.Maps Go.MapKept Go.ChangeMaps
section
variable {κ ν : Type}
def Au[DecidableEq κ](F:List (κ × ν))(x:κ):Option ν:=(F.find? (fun p=>p.1==x)).map (·.2)
def Bf[DecidableEq κ]:List (κ × ν)->κ->ν->List (κ × ν)
 |[],x,v=>[(x,v)]
 |p::r,x,v=>if p.1=x then(x,v)::r else p::Bf r x v
def Dt[DecidableEq κ](F:List (κ × ν))(x:κ):List (κ × ν):=F.filter (fun p=>p.1≠x)
def Br(F:List (κ × ν)):List κ:=F.map (·.1)
structure Ie(P:Program)(t k e:TypeId)(κ ν:Type) where
 K:Keyed P k
 ht:P.underlying t=some (.map k e)
 kv:κ->Value
 mv:ν->Value
 ok:κ->Prop
 inj:∀{a b},kv a=kv b->a=b
 key:∀{a},ok a->∃l,keyOf P k (kv a)=some l
 zero:ν
 hz:∀w,(zeroValue e).run P w=.ok (mv zero) w
variable {P : Program} {t k e : TypeId} (M : Ie P t k e κ ν)
def Ec(w:World)(b:Nat)(F:List (κ × ν)):Prop:=
 ∃es clock,w.heap[b]?=some (.map es clock)/\Stamped es clock/\es.toList.map (fun x=>(x.key,x.val))=F.map (fun p=>(M.kv p.1,M.mv p.2))/\∀p∈F,M.ok p.1
theorem cV{M:Ie P t k e κ ν}{b:List MapEntry}{F:List (κ × ν)}(h:b.map (fun x=>(x.key,x.val))=F.map (fun p=>(M.kv p.1,M.mv p.2))){j:Nat}{x:MapEntry}(d:b[j]?=some x):
  ∃p,F[j]?=some p/\x.key=M.kv p.1/\x.val=M.mv p.2:=by
 have a:=congrArg (fun l=>l[j]?) h;simp only[a1z,d,Option.map_some] at a
 cases hF:F[j]? with
 |none=>rw[hF] at a;cases a
 |some p=>rw[hF] at a;simp at a;exact⟨p,rfl,a.1,a.2⟩
theorem Ec.keys_nodup{M:Ie P t k e κ ν}{w:World}{b:Nat}{F:List (κ × ν)}(h:Ec M w b F):(Br F).Nodup:=by
 obtain⟨i,a,n,d,l,j⟩:=h;have m:=((stamped_iff i a).1 d).2.2;unfold Br List.Nodup;rw[List.pairwise_map]
 have g:(i.toList.map (fun x=>(x.key,x.val))).Pairwise (fun p q=>p.1≠q.1):=by rw[List.pairwise_map];exact m
 rw[l,List.pairwise_map] at g;exact g.imp (fun f e=>f (by rw[e]))
theorem Ec.lt{M:Ie P t k e κ ν}{w:World}{b:Nat}{F:List (κ × ν)}(h:Ec M w b F):b<w.heap.size:=by
 obtain⟨f,a,d,_⟩:=h;exact(Array.getElem?_eq_some_iff.1 d).1
theorem Ec.key_ok{M:Ie P t k e κ ν}{w:World}{b:Nat}{F:List (κ × ν)}(h:Ec M w b F){p:κ × ν}(f:p∈F):M.ok p.1:=by
 obtain⟨g,d,_,_,_,a⟩:=h;exact a p f
theorem Ec.of_block{M:Ie P t k e κ ν}{w w':World}{b:Nat}{F:List (κ × ν)}(h:Ec M w b F)(d:w'.heap[b]?=w.heap[b]?):Ec M w' b F:=by
 obtain⟨i,a,g,f⟩:=h;exact⟨i,a,d.trans g,f⟩
theorem Ec.made(w:World):Ec M (w.alloc (.map #[] 0)) w.heap.size []:=
 ⟨#[],0,(MapKept.heap_alloc w _).1,stamped_empty 0,rfl,by simp⟩
theorem Ym[DecidableEq κ]{F:List (κ × ν)}{x:κ}(h:∀p∈F,p.1≠x):Au F x=none:=by
 unfold Au;rw[List.find?_eq_none.2]
 ·rfl
 ·intro p a;simpa using h p a
theorem Yn[DecidableEq κ]:∀{F:List (κ × ν)} (_ :(Br F).Nodup) {x:κ} {v:ν} (_ :(x,v)∈F),Au F x=some v
 |[],_,_,_,h=>by cases h
 |p::r,hn,x,v,h=>by
  unfold Br at hn;rw[a2w,a0u] at hn;unfold Au
  rcases List.mem_cons.1 h with rfl|h
  ·simp
  ·have:p.1≠x:=fun e=>hn.1 (List.mem_map.2 ⟨(x,v),h,e.symm⟩)
   rw[a1w];simp only[beq_eq_false_iff_ne.2 this];exact Yn hn.2 h
theorem nJ[DecidableEq κ]{F:List (κ × ν)}{x:κ}{v:ν}(h:Au F x=some v):(x,v)∈F:=by
 unfold Au at h
 cases hf:F.find? (fun p=>p.1==x) with
 |none=>rw[hf] at h;cases h
 |some p=>
  rw[hf] at h;have b:=List.mem_of_find?_eq_some hf;have a:=List.find?_some hf;simp at a h;subst a;subst h;exact b
theorem Yo[DecidableEq κ]{F:List (κ × ν)}{x:κ}:Au F x=none↔∀p∈F,p.1≠x:=by
 constructor
 ·intro h p a e;unfold Au at h;rw[Option.map_eq_none_iff,List.find?_eq_none] at h;have:=h p a;simp[e] at this
 ·exact Ym
theorem Ec.find{M:Ie P t k e κ ν}{F:List (κ × ν)}{w:World}{a:Array MapEntry}(h:a.toList.map (fun x=>(x.key,x.val))=F.map (fun p=>(M.kv p.1,M.mv p.2)))(g:∀p∈F,M.ok p.1){x:κ}(m:M.ok x):
  ((Instr.findKey k (M.kv x) a.toList).run P w=.ok none w/\(∀y∈a.toList,y.key≠M.kv x)/\∀p∈F,p.1≠x)∨
  ∃j y v,(Instr.findKey k (M.kv x) a.toList).run P w=.ok (some (j,y.val)) w/\a.toList[j]?=some y/\F[j]?=some (x,v)/\y.key=M.kv x/\y.val=M.mv v:=by
 obtain⟨l,n⟩:=M.key m
 rcases M.K.find w n a.toList (fun y f=>by
  obtain⟨j,o,rfl⟩:=a1v f;obtain⟨p,b,d,_⟩:=cV h (a0x o);rw[d]
  exact M.key (g p (a0w b))) with⟨d,h2⟩|⟨j,y,d,h2,h3⟩
 ·refine Or.inl ⟨d,h2,fun p b e=>?_⟩;have i:(M.kv p.1,M.mv p.2)∈F.map (fun p=>(M.kv p.1,M.mv p.2)):=List.mem_map.2 ⟨p,b,rfl⟩;rw[<-h] at i;obtain⟨y,f,q⟩:=List.mem_map.1 i;have:y.key=M.kv p.1:=congrArg Prod.fst q;exact h2 y f (by rw[this,e])
 ·obtain⟨p,b,s,r⟩:=cV h h2;have:p.1=x:=M.inj (s.symm.trans h3);exact Or.inr ⟨j,y,p.2,d,h2,by rw[b,<-this],h3,r⟩
theorem Ec.lookup[DecidableEq κ]{M:Ie P t k e κ ν}{w:World}{b:Nat}{F:List (κ × ν)}(h:Ec M w b F)(c:Bool){x:κ}(i:M.ok x):
  (Instr.lookup t (.map (some b)) (M.kv x) c).run P w=.ok (if c then .tuple #[M.mv ((Au F x).getD M.zero),.bool (Au F x).isSome] else M.mv ((Au F x).getD M.zero)) w:=by
 have d:=h.keys_nodup;obtain⟨z,g,n,p,q,a⟩:=h;obtain⟨l,m⟩:=M.key i
 rcases Ec.find (w:=w) q a i with⟨f,_,o⟩|⟨j,y,v,f,o,s,u,r⟩
 ·rw[Ym o]
  cases c<;>simp[Instr.lookup,run_underlying M.ht,MapKept.run_getObj_map n,M.K.check w _ m,f,M.hz,Result.andThen]
 ·rw[Yn d (a0w s)]
  cases c<;>simp[Instr.lookup,run_underlying M.ht,MapKept.run_getObj_map n,M.K.check w _ m,f,r,Result.andThen]
theorem V9[DecidableEq κ]:∀{F:List (κ × ν)} {x:κ} {v:ν} (_ :∀p∈F,p.1≠x),Bf F x v=F++[(x,v)]
 |[],_,_,_=>rfl
 |p::r,x,v,h=>by
  unfold Bf;rw[if_neg (h p (by simp)),V9 (fun q a=>h q (by simp[a]))];rfl
theorem nK[DecidableEq κ]:∀{F:List (κ × ν)} (_ :(Br F).Nodup) {x:κ} {v a:ν} {j:Nat} (_ :F[j]?=some (x,a)),Bf F x v=F.set j (x,v)
 |[],_,_,_,_,_,h=>by simp at h
 |p::r,hn,x,v,a,j,h=>by
  unfold Br at hn;rw[a2w,a0u] at hn;unfold Bf
  cases j with
  |zero=>simp at h;subst h;simp
  |succ j=>
   simp at h
   have:p.1≠x:=fun e=>hn.1 (List.mem_map.2 ⟨(x,a),a0w h,e.symm⟩)
   rw[if_neg this,nK hn.2 h];rfl
theorem cW[DecidableEq κ]{F:List (κ × ν)}{x:κ}{v:ν}{p:κ × ν}:p∈Bf F x v→p∈F∨p=(x,v):=by
 induction F with
 |nil=>intro h;right;simpa [Bf] using h
 |cons q r ih=>
  intro h;unfold Bf at h;split at h
  ·rcases List.mem_cons.1 h with rfl|h
   ·exact Or.inr rfl
   ·exact Or.inl (by simp[h])
  ·rcases List.mem_cons.1 h with rfl|h
   ·exact Or.inl (by simp)
   ·rcases ih h with h|h
    ·exact Or.inl (by simp[h])
    ·exact Or.inr h
theorem Ec.update[DecidableEq κ]{M:Ie P t k e κ ν}{w:World}{b:Nat}{F:List (κ × ν)}(h:Ec M w b F){x:κ}(D:M.ok x)(v:ν):
  ∃r d,(Instr.mapUpdate t (.map (some b)) (M.kv x) (M.mv v)).run P w=.ok () (setBlock w b (.map r d))/\Ec M (setBlock w b (.map r d)) b (Bf F x v)/\
   (∀g a,w.heap[b]?=some (.map g a)->(Au F x).isSome=true->d=a/\r.toList.map (·.born)=g.toList.map (·.born)):=by
 have E:=h.keys_nodup;obtain⟨B,f,o,s,J,u⟩:=h;obtain⟨l,I⟩:=M.key D
 have m:∀p∈Bf F x v,M.ok p.1:=fun p R=>by
  rcases cW R with h|rfl
  ·exact u p h
  ·exact D
 rcases Ec.find (w:=w) J u D with⟨L,T,q⟩|⟨j,y,U,L,q,S,Q,V⟩
 ·refine⟨B.push ⟨M.kv x,M.mv v,f⟩,f+1,?_,⟨_,_,heap_setBlock_same o _,stamped_push s T,?_,m⟩,?_⟩
  ·simp[Instr.mapUpdate,run_underlying M.ht,MapKept.run_getObj_map o,M.K.check w false I,L,MapKept.run_setObj_map _ o,Result.andThen,setBlock]
  ·rw[V9 q];simp[J]
  ·intro g a _ N;rw[Ym q] at N;cases N
 ·have O:B[j]?=some y:=by simpa using q
  have n:(B.modify j (fun C=>{C with key:=M.kv x,val:=M.mv v})).toList=B.toList.set j {y with key:=M.kv x,val:=M.mv v}:=by rw[Array.toList_modify,modify_eq_set _ _ _ _ q]
  refine⟨B.modify j (fun C=>{C with key:=M.kv x,val:=M.mv v}),f,?_,⟨_,_,heap_setBlock_same o _,stamped_modify s _ _ (fun _ _=>rfl) (fun C _ z=>by rw[O] at z;cases z;exact Q.symm),?_,m⟩,?_⟩
  ·simp[Instr.mapUpdate,run_underlying M.ht,MapKept.run_getObj_map o,M.K.check w false I,L,O,Q,M.K.stays w I,MapKept.run_setObj_map _ o,Result.andThen,setBlock]
  ·rw[nK E S,n,a2v,a2v,J]
  ·intro g a A _;rw[o] at A;cases A;refine⟨rfl,?_⟩;rw[n,a2v];apply List.ext_getElem?;intro i;rw[List.getElem?_set];split
   ·rename_i e;subst e;rw[a1z,q];split
    ·rfl
    ·rename_i G;exact absurd (by simpa using(List.getElem?_eq_some_iff.1 q).1) G
   ·rfl
theorem Yp[DecidableEq κ]{F:List (κ × ν)}{x:κ}(h:∀p∈F,p.1≠x):Dt F x=F:=by
 unfold Dt;rw[List.filter_eq_self];intro p a
 simpa using h p a
theorem nL[DecidableEq κ]:∀{F:List (κ × ν)} (_ :(Br F).Nodup) {x:κ} {a:ν} {j:Nat} (_ :F[j]?=some (x,a)),Dt F x=F.eraseIdx j
 |[],_,_,_,_,h=>by simp at h
 |p::r,hn,x,a,j,h=>by
  unfold Br at hn;rw[a2w,a0u] at hn;unfold Dt
  cases j with
  |zero=>
   simp at h;subst h;rw[a1x];simp only[ne_eq,not_true_eq_false,decide_false,Bool.false_eq_true,if_false,List.eraseIdx_zero,List.tail_cons];exact Yp (fun q b e=>hn.1 (List.mem_map.2 ⟨q,b,e⟩))
  |succ j=>
   simp at h
   have:p.1≠x:=fun e=>hn.1 (List.mem_map.2 ⟨(x,a),a0w h,e.symm⟩)
   rw[a1x,if_pos (by simpa using this),List.eraseIdx_cons_succ];exact congrArg _ (nL hn.2 h)
theorem Ec.delete[DecidableEq κ]{M:Ie P t k e κ ν}{w:World}{b:Nat}{F:List (κ × ν)}(h:Ec M w b F){x:κ}(A:M.ok x)(C:TypeId):
  ∃o a,(Builtin.delete_ #[t,k] C #[.map (some b),M.kv x]).run P w=.ok (.tuple #[]) (setBlock w b (.map o a))/\Ec M (setBlock w b (.map o a)) b (Dt F x):=by
 have q:=h.keys_nodup;obtain⟨i,d,g,m,u,n⟩:=h;obtain⟨l,B⟩:=M.key A
 have f:∀p∈Dt F x,M.ok p.1:=fun p D=>n p ((List.mem_filter.1 D).1)
 rcases Ec.find (w:=w) u n A with⟨z,L,v⟩|⟨j,y,G,z,v,E,J,I⟩
 ·refine⟨i,d,?_,_,_,heap_setBlock_same g _,m,?_,f⟩
  ·simp[Builtin.delete_,run_underlying M.ht,MapKept.run_getObj_map g,M.K.check w _ B,z,MapKept.run_setObj_map _ g,Result.andThen,setBlock]
  ·rw[Yp v];exact u
 ·refine⟨i.eraseIdxIfInBounds j,d,?_,_,_,heap_setBlock_same g _,stamped_erase m j,?_,f⟩
  ·simp[Builtin.delete_,run_underlying M.ht,MapKept.run_getObj_map g,M.K.check w _ B,z,MapKept.run_setObj_map _ g,Result.andThen,setBlock]
  ·rw[nL q E];have s:j<i.toList.length:=(List.getElem?_eq_some_iff.1 v).1
   have:(i.eraseIdxIfInBounds j).toList=i.toList.eraseIdx j:=by
    have r:j<i.size:=by simpa using s
    simp only[Array.eraseIdxIfInBounds,dif_pos r,Array.toList_eraseIdx]
   rw[this,map_eraseIdx,map_eraseIdx,u]
theorem Ec.len{M:Ie P t k e κ ν}{w:World}{b:Nat}{F:List (κ × ν)}(h:Ec M w b F)(d:TypeId):
  (Builtin.len_ #[t] d #[.map (some b)]).run P w=.ok (.int .i64 F.length) w:=by
 obtain⟨l,a,i,f,j,g⟩:=h
 have:l.size=F.length:=by have:=congrArg List.length j;simpa using this
 simp[Builtin.len_,run_underlying M.ht,MapKept.run_getObj_map i,Result.andThen,goInt,this]
def Ig(w:World)(b r:Nat)(F:List (κ × ν))(done:List κ):Prop:=
 ∃es clock since seen c0,w.heap[b]?=some (.map es clock)/\Stamped es clock/\es.toList.map (fun x=>(x.key,x.val))=F.map (fun p=>(M.kv p.1,M.mv p.2))/\(∀p∈F,M.ok p.1)/\
  w.heap[r]?=some (.mapIter (some b) since seen c0)/\(∀x∈es.toList,x.born<since)/\since<=c0/\since<=clock/\
  (∀(j:Nat) (x:MapEntry) (p:κ × ν),es.toList[j]?=some x->F[j]?=some p->(seen.contains x.born=true↔p.1∈done))
theorem Ig.map{M:Ie P t k e κ ν}{w:World}{b r:Nat}{F:List (κ × ν)}{done:List κ}(h:Ig M w b r F done):Ec M w b F:=by
 obtain⟨m,a,d,f,n,l,j,i,g,_⟩:=h;exact⟨m,a,l,j,i,g⟩
theorem Ig.ne{M:Ie P t k e κ ν}{w:World}{b r:Nat}{F:List (κ × ν)}{done:List κ}(h:Ig M w b r F done):r≠b:=by
 obtain⟨j,d,a,f,l,i,_,_,_,g,_⟩:=h;rintro rfl;rw[i] at g;cases g
theorem Ig.of_block{M:Ie P t k e κ ν}{w w':World}{b r:Nat}{F:List (κ × ν)}{done:List κ}(h:Ig M w b r F done)(i:w'.heap[b]?=w.heap[b]?)(g:w'.heap[r]?=w.heap[r]?):Ig M w' b r F done:=by
 obtain⟨q,d,a,f,s,p,o,n,m,l,j⟩:=h;exact⟨q,d,a,f,s,i.trans p,o,n,m,g.trans l,j⟩
theorem Ec.range{M:Ie P t k e κ ν}{w:World}{b:Nat}{F:List (κ × ν)}(h:Ec M w b F):
  ∃o,(Instr.range t (.map (some b))).run P w=.ok (.pointer (some ⟨w.heap.size,0,none⟩)) (w.alloc o)/\Ig M (w.alloc o) b w.heap.size F []:=by
 have g:=h.lt;obtain⟨i,a,l,d,m,f⟩:=h;refine⟨_,run_range_map w t k e b i a M.ht l,i,a,a,#[],a,((MapKept.heap_alloc w _).2 b g).trans l,d,m,f,(MapKept.heap_alloc w _).1,((stamped_iff i a).1 d).1,a2z _,a2z _,?_⟩;intro j x p _ _;simp
theorem Ig.next{M:Ie P t k e κ ν}{w:World}{b r:Nat}{F:List (κ × ν)}{done:List κ}(h:Ig M w b r F done)(W:TypeId):
  ((∀x∈Br F,x∈done)/\(Instr.next (.pointer (some ⟨r,0,none⟩)) false W).run P w=.ok (.tuple #[.bool false]) w)∨
  ∃x v n o,(x,v)∈F/\x∉done/\(n=w∨n=w.drew)/\(Instr.next (.pointer (some ⟨r,0,none⟩)) false W).run P w=.ok (.tuple #[.bool true,M.kv x,M.mv v]) (setBlock n r o)/\
   Ig M (setBlock n r o) b r F (done++[x])/\(Instr.entry (.pointer (some ⟨r,0,none⟩))).run P (setBlock n r o)=.ok (.tuple #[M.kv x,M.mv v]) (setBlock n r o):=by
 have ac:=h.map.keys_nodup;have ab:=h.ne;obtain⟨m,a,d,f,c0,hb,C,hF,aa,hr,z,Y,K,g⟩:=h
 rcases run_next_at (P:=P) w W r b d c0 f m a hr hb z Y with⟨h0,l⟩|⟨y,V,n,T,l⟩
 ·refine Or.inl ⟨fun x B=>?_,l⟩;obtain⟨p,D,rfl⟩:=List.mem_map.1 B;obtain⟨j,I,rfl⟩:=a1v D
  have ag:m.toList.length=F.length:=by have:=congrArg List.length hF;simpa using this
  have Q:j<m.toList.length:=by omega
  refine(g j m.toList[j] F[j] (a0x Q) (a0x I)).1 ?_;exact all_seen m f h0 _ (List.getElem_mem Q)
 ·have A:y∈m.toList∧f.contains y.born=false:=by
   unfold leftOf at V;simp at V;refine⟨by simpa using V.1,by simpa using V.2⟩
  obtain⟨j,I,u⟩:=a1v A.1;obtain⟨p,D,hk,X⟩:=cV hF (a0x I);rw[u] at hk X
  have O:p.1∉done:=fun hd=>by
   have:=(g j y p (by rw[<-u];exact a0x I) D).2 hd;rw[A.2] at this;cases this
  have J:n.heap=w.heap:=by rcases T with rfl|rfl<;>rfl
  rw[hk,X] at l
  have S:(setBlock n r (.mapIter (some b) d (f.push y.born) a)).heap[b]?=some (.map m a):=by
   simp only[setBlock,J,Array.getElem?_setIfInBounds,if_neg ab];exact hb
  have L:(setBlock n r (.mapIter (some b) d (f.push y.born) a)).heap[r]?=some (.mapIter (some b) d (f.push y.born) a):=by
   have ad:=(Array.getElem?_eq_some_iff.1 hr).1;simp[setBlock,J,ad]
  refine Or.inr ⟨p.1,p.2,n,_,a0w D,O,T,l,⟨m,a,d,f.push y.born,a,S,C,hF,aa,L,z,K,K,?_⟩,?_⟩
  ·intro i x q B N;have s:=g i x q B N;rw[Array.contains_push];simp only[Bool.or_eq_true,List.mem_append,List.mem_singleton];rw[s];refine or_congr Iff.rfl ?_;have E:=((stamped_iff m a).1 C).2.1;constructor
   ·intro af
    have R:x.born=y.born:=by simpa using af
    have:i=j:=by
     have hi:i<m.toList.length:=(List.getElem?_eq_some_iff.1 B).1;have U:=List.getElem?_eq_some_iff.1 B;obtain⟨_,U⟩:=U
     have G:(m.toList.map (·.born))[i]'(by simpa using hi)=(m.toList.map (·.born))[j]'(by simpa using I):=by
      simp only[List.getElem_map,U,u,R]
     exact(List.getElem_inj E).1 G
    subst this;rw[D] at N;cases N;rfl
   ·intro Z
    have:i=j:=by
     have hi:i<F.length:=(List.getElem?_eq_some_iff.1 N).1;obtain⟨_,U⟩:=List.getElem?_eq_some_iff.1 N;have ae:j<F.length:=(List.getElem?_eq_some_iff.1 D).1;obtain⟨_,e2⟩:=List.getElem?_eq_some_iff.1 D
     have G:(Br F)[i]'(by simpa [Br] using hi)=(Br F)[j]'(by simpa [Br] using ae):=by
      simp only[Br,List.getElem_map,U,e2,Z]
     exact(List.getElem_inj ac).1 G
    subst this;rw[a0x I,u] at B;cases B;simp
  ·rw[<-hk,<-X];exact run_entry_at _ r b d f m a y L S A.1 ((stamped_iff m a).1 C).2.1
theorem Yq[DecidableEq κ]:∀{F:List (κ × ν)} {x:κ} {v:ν} (_ :(Au F x).isSome=true),Br (Bf F x v)=Br F
 |[],_,_,h=>by cases h
 |p::r,x,v,h=>by
  unfold Bf
  by_cases e:p.1=x
  ·rw[if_pos e];simp[Br,e]
  ·rw[if_neg e]
   have a:(Au r x).isSome=true:=by
    unfold Au at h ⊢;rw[a1w,beq_eq_false_iff_ne.2 e] at h;exact h
   have:=Yq (v:=v) a;unfold Br at this ⊢;simp[this]
theorem Ig.put[DecidableEq κ]{M:Ie P t k e κ ν}{w w':World}{b r:Nat}{F:List (κ × ν)}{done:List κ}(h:Ig M w b r F done){x:κ}{v:ν}(G:(Au F x).isSome=true)
  {g:Array MapEntry}{a:Nat}(I:w'.heap[b]?=some (.map g a))(L:w'.heap[r]?=w.heap[r]?)(O:Ec M w' b (Bf F x v))
  (Q:∀B d,w.heap[b]?=some (.map B d)->(Au F x).isSome=true->a=d/\g.toList.map (·.born)=B.toList.map (·.born)):Ig M w' b r (Bf F x v) done:=by
 obtain⟨K,n,i,u,c0,W,h2,h3,h4,V,U,T,S,R⟩:=h;obtain⟨rfl,f⟩:=Q K n W G;obtain⟨aa,C,J,Z,Y,X⟩:=O;rw[I] at J;cases J;have m:=Yq (v:=v) G;refine⟨g,a,i,u,c0,I,Z,Y,X,L.trans V,?_,T,S,?_⟩
 ·intro y E;have:y.born∈g.toList.map (·.born):=List.mem_map.2 ⟨y,E,rfl⟩;rw[f] at this;obtain⟨z,A,D⟩:=List.mem_map.1 this;rw[<-D];exact U z A
 ·intro j y p E N;have s:=congrArg (fun l=>l[j]?) f;simp only[a1z,E,Option.map_some] at s
  cases A:K.toList[j]? with
  |none=>rw[A] at s;cases s
  |some z=>
   rw[A] at s;simp only[Option.map_some,Option.some.injEq] at s;have o:=congrArg (fun l=>l[j]?) m;simp only[Br,a1z,N,Option.map_some] at o
   cases hq:F[j]? with
   |none=>rw[hq] at o;cases o
   |some q=>
    rw[hq] at o;simp only[Option.map_some,Option.some.injEq] at o;rw[s,o];exact R j z q A hq
theorem I8[DecidableEq κ]{p:κ × ν}{r:List (κ × ν)}{x:κ}(h:p.1=x):Au (p::r) x=some p.2:=by
 unfold Au;rw[a1w];simp[h]
theorem Kt[DecidableEq κ]{p:κ × ν}{r:List (κ × ν)}{x:κ}(h:p.1≠x):Au (p::r) x=Au r x:=by
 unfold Au;rw[a1w,beq_eq_false_iff_ne.2 h]
theorem Yr[DecidableEq κ](F:List (κ × ν))(x:κ)(v:ν):Au (Bf F x v) x=some v:=by
 induction F with
 |nil=>simp[Bf,Au]
 |cons p r ih=>
  unfold Bf
  by_cases e:p.1=x
  ·rw[if_pos e];exact I8 rfl
  ·rw[if_neg e,Kt e];exact ih
theorem Aco[DecidableEq κ](F:List (κ × ν)){x y:κ}(h:x≠y)(v:ν):Au (Bf F x v) y=Au F y:=by
 induction F with
 |nil=>simp[Bf,Au,h]
 |cons p r ih=>
  unfold Bf
  by_cases e:p.1=x
  ·rw[if_pos e,Kt (p:=(x,v)) h,Kt (by rw[e];exact h)]
  ·rw[if_neg e]
   by_cases a:p.1=y
   ·rw[I8 a,I8 a]
   ·rw[Kt a,Kt a,ih]
theorem Acp[DecidableEq κ](F:List (κ × ν))(x:κ):Au (Dt F x) x=none:=by
 refine Ym fun p a=>?_
 have:=(List.mem_filter.1 a).2
 simpa using this
theorem Acr[DecidableEq κ](F:List (κ × ν)){x y:κ}(h:x≠y):Au (Dt F x) y=Au F y:=by
 induction F with
 |nil=>rfl
 |cons p r ih=>
  unfold Dt at ih ⊢
  by_cases e:p.1=x
  ·rw[a1x,if_neg (by simp[e]),Kt (by rw[e];exact h)];exact ih
  ·rw[a1x,if_pos (by simpa using e)]
   by_cases a:p.1=y
   ·rw[I8 a,I8 a]
   ·rw[Kt a,Kt a,ih]
def Ff[DecidableEq κ](g:ν->ν)(done:List κ)(F:List (κ × ν)):List (κ × ν):=F.map (fun p=>if p.1∈done then(p.1,g p.2) else p)
def L8(g:ν->ν)(F:List (κ × ν)):List (κ × ν):=F.map (fun p=>(p.1,g p.2))
theorem cX[DecidableEq κ](g:ν->ν)(done:List κ)(F:List (κ × ν)):Br (Ff g done F)=Br F:=by
 unfold Br Ff;rw[List.map_map]
 exact a1u fun p _=>by simp only[Function.comp];split<;>rfl
theorem Acs[DecidableEq κ]{g:ν->ν}{done:List κ}{F:List (κ × ν)}{x:κ}{v:ν}(h:(x,v)∈Ff g done F)(b:x∉done):(x,v)∈F:=by
 unfold Ff at h;obtain⟨p,d,a⟩:=List.mem_map.1 h;split at a
 ·rename_i f;have:p.1=x:=congrArg Prod.fst a;exact absurd (this▸f) b
 ·exact a▸d
theorem nM[DecidableEq κ]{g:ν→ν}{done:List κ}:∀{F:List (κ × ν)} (_ :(Br F).Nodup) {x:κ} {v:ν} (_ :(x,v)∈F) (_ :x∉done),Bf (Ff g done F) x (g v)=Ff g (done++[x]) F
 |[],_,_,_,h,_=>by cases h
 |p::r,hn,x,v,h,hx=>by
  unfold Br at hn;rw[a2w,a0u] at hn
  have b:∀d,Ff g d (p::r)=(if p.1∈d then(p.1,g p.2) else p)::Ff g d r:=fun d=>rfl
  rw[b,b]
  rcases List.mem_cons.1 h with rfl|h
  ·rw[if_neg hx,if_pos (by simp)];unfold Bf;rw[if_pos rfl];refine congrArg _ ?_;unfold Ff
   refine a1u fun q f=>?_
   have:q.1≠x:=fun e=>hn.1 (List.mem_map.2 ⟨q,f,e⟩)
   simp[this]
  ·have a:p.1≠x:=fun e=>hn.1 (List.mem_map.2 ⟨(x,v),h,e.symm⟩)
   have i:(if p.1∈done++[x] then(p.1,g p.2) else p)=if p.1∈done then(p.1,g p.2) else p:=by simp[a]
   rw[i];unfold Bf;rw[if_neg (by split<;>exact a),nM hn.2 h hx]
theorem nN[DecidableEq κ]{g:ν->ν}{done:List κ}{F:List (κ × ν)}(h:∀x∈Br F,x∈done):Ff g done F=L8 g F:=by
 unfold Ff L8
 exact a1u fun p a=>if_pos (h _ (List.mem_map.2 ⟨p,a,rfl⟩))
theorem Acu[DecidableEq κ](g:ν->ν)(done:List κ)(p:κ × ν)(r:List (κ × ν)):(p.1∈done/\Ff g done (p::r)=(p.1,g p.2)::Ff g done r)∨(p.1∉done/\Ff g done (p::r)=p::Ff g done r):=by
 have a:Ff g done (p::r)=(if p.1∈done then(p.1,g p.2) else p)::Ff g done r:=rfl
 by_cases h:p.1∈done
 ·left;rw[a,if_pos h];exact⟨h,rfl⟩
 ·right;rw[a,if_neg h];exact⟨h,rfl⟩
theorem nO[DecidableEq κ]{g:ν->ν}{done:List κ}{F:List (κ × ν)}{x:κ}{v:ν}(h:(x,v)∈F)(a:x∉done):(x,v)∈Ff g done F:=by
 unfold Ff;exact List.mem_map.2 ⟨(x,v),h,if_neg a⟩
theorem cY[DecidableEq κ]:∀{a b:List κ} (_ :a.Nodup) (_ :∀x∈a,x∈b),a.length≤b.length
 |[],_,_,_=>Nat.zero_le _
 |x::r,b,ha,h=>by
  rw[a0u] at ha;have i:=cY (b:=b.erase x) ha.2 (fun y d=>(List.mem_erase_of_ne (by rintro rfl;exact ha.1 d)).2 (h y (by simp[d])));have g:=List.length_erase_of_mem (h x (by simp));have f:=List.length_pos_of_mem (h x (by simp));simp only[List.length_cons];omega
theorem nP[DecidableEq κ](g:ν->ν)(F:List (κ × ν)):Ff g ([]:List κ) F=F:=by
 unfold Ff;simp
end
end
section
open Go.RowKit Go.Maps Go.MapKept Go.ChangeMaps
structure A7 where
 s:ByteArray
 synced:Nat
structure Dk where
 cap:Int
 size:Int
 files:List (ByteArray × A7)
 off:Bool
 left:Int
 keep:Int
def cZ(f:A7):Value:=.agg #[.string f.s,.int .i64 f.synced]
noncomputable def fileTy:Ie Tryz.prog 116 9 251 ByteArray A7 where
 K:=string_keyed Tryz.underlying9
 ht:=Tryz.underlying116
 kv:=.string
 mv:=cZ
 ok:=fun s=>s.size<=maxLen
 inj:=fun h=>by cases h;rfl
 key:=fun h=>⟨_,Go.WideMaps.keyOf_string_mk Tryz.underlying9 h⟩
 zero:=⟨⟨#[]⟩,0⟩
 hz:=fun w=>by kernel_rfl
def Acv(d:Dk)(bm:Nat):Array Value:=#[.int .i64 d.cap,.int .i64 d.size,.map (some bm),.bool d.off,.int .i64 d.left,.int .i64 d.keep]
structure Ak(w:World)(b bm:Nat)(d:Dk):Prop where
 cells:w.heap[b]?=some (.cells (Acv d bm) 118 (0,0))
 files:Ec fileTy w bm d.files
theorem Ak.ne{w:World}{b bm:Nat}{d:Dk}(h:Ak w b bm d):b≠bm:=by
 rintro rfl;obtain⟨g,a,f,_⟩:=h.files;rw[h.cells] at f;cases f
theorem Ak.of_fp{w w':World}{S:List Nat}{b a:Nat}{d:Dk}(h:Ak w b a d)(f:Fp S w w')(i:b∉S)(g:a∉S):Ak w' b a d:=
 ⟨(f.block b (Ac h.cells) i).trans h.cells,h.files.of_block (f.block a h.files.lt g)⟩
def A6:A7:=⟨⟨#[]⟩,0⟩
def B5(d:Dk)(name:ByteArray):A7:=(Au d.files name).getD A6
def Dk.set(d:Dk)(name:ByteArray)(f:A7)(gone:Bool):Dk:=
 {d with size:=d.size+(f.s.size-(B5 d name).s.size),files:=if gone then Dt (Bf d.files name f) name else Bf d.files name f}
end
end Go.Proofs.YtkagolpnaicdoaaGreatDoor
