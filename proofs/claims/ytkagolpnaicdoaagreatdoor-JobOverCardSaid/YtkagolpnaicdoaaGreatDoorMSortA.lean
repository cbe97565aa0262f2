/-
 slices.insertionSortCmpFunc of items. slices.SortStableFunc of fewer than 20 items.
-/
import Derived.Test.YtkagolpnaicdoaaGreatDoorMItem
import Derived.Test.YtkagolpnaicdoaaGreatDoorMRunA
import Derived.Test.YtkagolpnaicdoaaGreatDoorMRegionG
set_option maxRecDepth 100000
set_option maxHeartbeats 8000000
open Go.Lib renaming hid→a0z
open List renaming setIfInBounds_toArray→a0x,set_cons_succ→a0w,set_cons_zero→a0v,reverse_cons→a0u,reverse_nil→a1z,cons_append→a1x,nil_append→a1w
open Bool renaming false_eq_true→a1v
open Go.IntKind renaming wrap_i64→a1u
namespace Go.Proofs.YtkagolpnaicdoaaGreatDoor
section
open Go.RowKit Go.Lib
structure Ja(w:World)(b o:Nat)(x:Ad):Prop where
 c0:w.cell? ⟨b,o,none⟩=some (.string x.c.row)
 c1:w.cell? ⟨b,o+1,none⟩=some (.string x.c.col)
 c2:w.cell? ⟨b,o+2,none⟩=some (.int .u64 x.c.ts)
 c3:w.cell? ⟨b,o+3,none⟩=some (.int .u64 x.c.seq)
 c4:w.cell? ⟨b,o+4,none⟩=some (.bool x.c.del)
 c5:w.cell? ⟨b,o+5,none⟩=some (.string x.c.val)
 c6:w.cell? ⟨b,o+6,none⟩=some (.int .i64 x.pos)
theorem Rx{w:World}{b o:Nat}{x:Ad}(h:Nc Bq w b o x):Ja w b o x:=⟨h 0 _ rfl,h 1 _ rfl,h 2 _ rfl,h 3 _ rfl,h 4 _ rfl,h 5 _ rfl,h 6 _ rfl⟩
theorem Kt{w:World}{base g n cap i:Nat}{l:List Ad}(h:Ag Bq w base (.slice (some ⟨g,0,none⟩) n cap) l)(hi:i<l.length):Ja w g (i*7) (Ae l i):=by
 rw[J9 hi];exact Rx (h.elem hi).1
theorem eY{w:World}{base g n cap i:Nat}{l:List Ad}{x:Ad}(h:Ag Bq w base (.slice (some ⟨g,0,none⟩) n cap) l)(hi:i<l.length)(hx:Ae l i=x):Ja w g (i*7) x:=by
 rw[←hx];exact Kt h hi
theorem X1{w:World}{base g n cap i:Nat}{l:List Ad}(x:Ad)(h:Ag Bq w base (.slice (some ⟨g,0,none⟩) n cap) l)(hi:i<l.length):
  Ag Bq (w.setCells g (i*7) (Kr x)) base (.slice (some ⟨g,0,none⟩) n cap) (l.set i x)∧Fp [g] w (w.setCells g (i*7) (Kr x)):=h.setQ x hi
def Hy(l:List Ad)(i j p q:Nat)(b:Nat→Bool):List Ad:=
 let l1:=if b p=true then l.set i (Ae l j) else l
 if b q=true then l1.set j (Ae l i) else l1
structure Jv(w0:World)(base g n cap:Nat)(l:List Ad)(i j p q:Nat)(b:Nat→Bool)(w:World):Prop where
 own:Ag Bq w base (.slice (some ⟨g,0,none⟩) n cap) (Hy l i j p q b)
 fp:Fp [g] w0 w
variable {w0 w : World} {base g n cap i j p q : Nat} {l : List Ad} {b : Nat → Bool}
theorem Jv.first(h:Jv w0 base g n cap l i j p q b w)(hp:b p=false)(hq:b q=false):Ag Bq w base (.slice (some ⟨g,0,none⟩) n cap) l:=by
 have:=h.own;unfold Hy at this;rw[hp,hq] at this;exact this
theorem P8:(Hy l i j p q b).length=l.length:=by
 unfold Hy;simp only
 split<;>split<;>simp
theorem uD(hb:b p=true)(hb2:b q=true):Hy l i j p q b=Im l i j:=by
 unfold Hy Im;simp only;rw[if_pos hb,if_pos hb2]
theorem Jv.storeP(h:Jv w0 base g n cap l i j p q b w)(hp:b p=false)(hi:i<l.length)(hij:i≠j)(hpq:p≠q):
  Jv w0 base g n cap l i j p q (Ao b p) (w.setCells g (i*7) (Kr (Ae l j))):=by
 obtain⟨h1,h2⟩:=X1 (Ae l j) h.own (i:=i) (by rw[P8];exact hi);refine⟨?_,h.fp.trans h2 (by intro k hk;exact Or.inl hk)⟩
 have e:(Hy l i j p q b).set i (Ae l j)=Hy l i j p q (Ao b p):=by
  cases hq:b q with
  |true=>simp only[Hy,Ao,hp,hq,if_neg (Ne.symm hpq),if_true,a1v,if_false];exact List.set_comm _ _ hij.symm
  |false=>simp only[Hy,Ao,hp,hq,if_neg (Ne.symm hpq),if_true,a1v,if_false]
 rw[←e];exact h1
theorem Jv.storeQ(h:Jv w0 base g n cap l i j p q b w)(hq:b q=false)(hj:j<l.length)(hpq:p≠q):
  Jv w0 base g n cap l i j p q (Ao b q) (w.setCells g (j*7) (Kr (Ae l i))):=by
 obtain⟨h1,h2⟩:=X1 (Ae l i) h.own (i:=j) (by rw[P8];exact hj);refine⟨?_,h.fp.trans h2 (by intro k hk;exact Or.inl hk)⟩
 have e:(Hy l i j p q b).set j (Ae l i)=Hy l i j p q (Ao b q):=by
  simp only[Hy,Ao,hq,if_neg hpq,if_true,a1v,if_false]
 rw[←e];exact h1
theorem Jv.plain{k:Nat}(h:Jv w0 base g n cap l i j p q b w)(hk:k≠p∧k≠q):Jv w0 base g n cap l i j p q (Ao b k) w:=by
 refine⟨?_,h.fp⟩
 have e:Hy l i j p q (Ao b k)=Hy l i j p q b:=by
  unfold Hy Ao;simp only;rw[if_neg hk.1.symm,if_neg hk.2.symm]
 rw[e];exact h.own
theorem uE(w:World)(base g n cap a b:Nat)(l:List Ad)(ho:Ag Bq w base (.slice (some ⟨g,0,none⟩) n cap) l)(hok:B8 l)(hab:a≤b)(hb:b≤l.length)(hn:l.length≤1000000):
  Calls Tryz.prog 288 #[.slice (some ⟨g,0,none⟩) n cap,.int .i64 a,.int .i64 b,.func (.func 217) #[] #[]] w fun e w'=>e=.returned (.tuple #[])∧(∃l',Fq a b l l'∧G8 l' a b∧Ag Bq w' base (.slice (some ⟨g,0,none⟩) n cap) l')∧Fp [g] w w':=by
 have HO:=a0z ho;have HOK:=a0z hok;have HCMP:=a0z Xz
 have hm:l.length=n:=by
  obtain⟨a',c',e,-⟩:=ho.len;cases e;rfl
 have HM:=a0z hm;rw[hm] at hb hn;clear ho hok hm;go_enter Tryz.func288,Tryz.ntmps288
 have n1:IntKind.i64.wrap ((a:Int)+1)=((a+1:Nat):Int):=by rw[a1u];omega
 go_wp2_with (fail)
 go_loopg [8] (b-a) (fun gg vi wr=>∃(i:Nat) (l':List Ad),vi=.int .i64 i∧a<i∧gg+i=b+1∧Fq a b l l'∧G8 l' a i∧Ag Bq wr base (.slice (some ⟨g,0,none⟩) n cap) l'∧Fp [g] w wr)
 case atStart=>exact⟨a+1,l,by simp,by omega,by omega,Fq.refl _ _ _,G8.one _ _,HO.out,Fp.refl _ _⟩
 case round=>
  clear n1;obtain⟨i,l1,rfl,hai,hgi,ht,hs,ho,hf⟩:=hrel;have HT:=a0z ht;have HS:=a0z hs;have HO1:=a0z ho;have HF:=a0z hf;clear ht hs ho hf
  by_cases hib:i<b
  ·have zi:(i:Int)<(b:Int):=by omega
   have HL1:Hid (l1.length=n):=HT.out.len.trans HM.out;go_wp2_with (fail)
   go_loopg [9] i (fun gg vj wt=>∃(j:Nat) (l2:List Ad),vj=.int .i64 j∧gg=j∧a≤j∧j≤i∧Fq a b l l2∧Ny l2 a (i+1) j∧Ag Bq wt base (.slice (some ⟨g,0,none⟩) n cap) l2∧Fp [g] w wt)
   case atStart=>exact⟨i,l1,rfl,rfl,by omega,Nat.le_refl _,HT.out,HS.out.but,HO1.out,HF.out⟩
   case round=>
    obtain⟨j,l2,rfl,hgj,haj,hji,ht2,hs2,ho2,hf2⟩:=hrel;have HT2:=a0z ht2;have HS2:=a0z hs2;have HO2:=a0z ho2;have HF2:=a0z hf2;have HL2:Hid (l2.length=n):=HT2.out.len.trans HM.out;have HOK2:=a0z (HT2.out.ok HOK.out);clear ht2 hs2 ho2 hf2
    have n3:IntKind.i64.wrap ((i:Int)+1)=((i+1:Nat):Int):=by rw[a1u];omega
    by_cases hja:j=a
    ·subst hja
     have zj:¬(j:Int)>(j:Int):=by omega
     go_wp2_with (fail);refine Dy (by kernel_rfl) (by kernel_rfl) ?_
     iterate 4
      apply A9 rfl rfl rfl
      ·intro a w hC hA K hK
       try have h9:=hA.fr 9 rfl
       try have h1:=hA.fr 1 rfl
       try have h18:=hA.eq 0 18 rfl
       try have h19:=hA.eq 1 19 rfl
       try have h20:=hA.eq 2 20 rfl
       simp only[Oper.wp,execOp];go_simp;exact hK _ hC (Fp.refl _ _)
     apply Az 3 21 rfl rfl rfl rfl (by kernel_rfl) rfl rfl;apply Az 3 21 rfl rfl rfl rfl (by kernel_rfl) rfl rfl;apply Az 3 21 rfl rfl rfl rfl (by kernel_rfl) rfl rfl;apply Az 3 21 rfl rfl rfl rfl (by kernel_rfl) rfl rfl;apply Az 3 21 rfl rfl rfl rfl (by kernel_rfl) rfl rfl;apply Az 3 21 rfl rfl rfl rfl (by kernel_rfl) rfl rfl;apply Az 3 21 rfl rfl rfl rfl (by kernel_rfl) rfl rfl;apply Az 3 21 rfl rfl rfl rfl (by kernel_rfl) rfl rfl;apply Az 3 21 rfl rfl rfl rfl (by kernel_rfl) rfl rfl;apply Az 3 21 rfl rfl rfl rfl (by kernel_rfl) rfl rfl;apply Az 3 21 rfl rfl rfl rfl (by kernel_rfl) rfl rfl;apply Az 3 21 rfl rfl rfl rfl (by kernel_rfl) rfl rfl;apply A9 rfl rfl rfl
     ·intro a w hC hA K hK;have h21:=hA.eq 3 21 rfl;have h33:=hA.eq 15 33 rfl;simp only[Oper.wp,execOp];go_simp;exact hK _ hC (Fp.refl _ _)
     refine⟨?_,?_⟩
     ·repeat(first|exact trivial|refine Dj _ ?_ |refine⟨fun w1 w2 v _ hf ⟨g,h1,h2⟩=>⟨g,h1,(hf.block g (Ab h2) (by simp)).trans h2⟩,?_⟩)
     ·intro w' hC;simp only[a0u,a1z,a1w,a1x]
      iterate 17 (refine Aq ?_)
      refine A8 ?_;simp only[Am,Act.put,a0x,a0w,a0v];have HF3:=a0z (HF2.out.trans hC (by simp));have HO3:=a0z (Ag.kept HO2.out (fun k hk=>hC.block k (HO2.out.lt k hk).2 (by simp)));clear hC;go_wp2_with (fail)
      go_roundg (b-i)
      case measure=>omega
      case rel=>exact⟨i+1,l2,by simp,by omega,by omega,HT2.out,HS2.out.done HOK2.out (Or.inl rfl) (Nat.le_refl _),HO3.out,HF3.out⟩
    ·have zj:(j:Int)>(a:Int):=by omega
     have n2:IntKind.i64.wrap ((j:Int)-1)=((j-1:Nat):Int):=by rw[a1u];omega
     obtain⟨k,hk⟩:∃k,j-1=k:=⟨_,rfl⟩
     rw[hk] at n2
     have hjl:j<l2.length:=by rw[HL2.out];omega
     have hkl:k<l2.length:=by rw[HL2.out];omega
     obtain⟨-,-,-,hgw,-,-⟩:=HO2.out.elem hjl
     have zjn:(j:Int)<(n:Int):=by omega
     have zkn:(k:Int)<(n:Int):=by omega
     have HCJ:Hid (∀w',Fp [] wr w'→Ja w' g (j*7) (Ae l2 j)):=fun w' hf=>Kt (HO2.out.kept (fun k hk=>hf.block k (HO2.out.lt k hk).2 (by simp))) hjl
     have HCK:Hid (∀w',Fp [] wr w'→Ja w' g (k*7) (Ae l2 k)):=fun w' hf=>Kt (HO2.out.kept (fun k hk=>hf.block k (HO2.out.lt k hk).2 (by simp))) hkl
     have HDONE:=a0z (fun h=>HS2.out.done HOK2.out (Or.inr h) haj);have HSTEP:=a0z (fun h=>HS2.out.step (by rw[HL2.out];omega) (by omega) (by omega) h);rw[hk] at HDONE HSTEP;have HNOT:=a0z (fun h=>A7.not (HOK2.out.at j) (HOK2.out.at k) h);have HLT:=a0z (fun h=>A7.lt (x:=Ae l2 j) (y:=Ae l2 k) h);have HTS:=a0z (Fq.swap (a:=a) (b:=b) hjl hkl haj (by omega) (by omega) (by omega));have HC1:=a0z (fun w=>HCMP.out (Ae l2 j) (Ae l2 k) w)
     obtain⟨x,hx⟩:∃x,Ae l2 j=x:=⟨_,rfl⟩
     obtain⟨y,hy⟩:∃y,Ae l2 k=y:=⟨_,rfl⟩
     rw[hx] at HCJ HNOT HLT HC1 HDONE HSTEP;rw[hy] at HCK HNOT HLT HC1 HDONE HSTEP;have HX:=a0z hx;have HY:=a0z hy
     obtain⟨r,hr⟩:∃r,D2 x y=r:=⟨_,rfl⟩
     rw[hr] at HNOT HLT HC1;have HK:=a0z hk
     have hjk:j≠k:=by omega
     have n4:IntKind.i64.wrap ((j:Int)-1)=(k:Int):=n2;obtain⟨⟨xr,xc,xt,xs,xd,xv⟩,xp⟩:=x;obtain⟨⟨yr,yc,yt,ys,yd,yv⟩,yp⟩:=y;have HC1':Hid (∀w,Calls Tryz.prog 217 #[.agg #[.string xr,.string xc,.int .u64 xt,.int .u64 xs,.bool xd,.string xv,.int .i64 xp],.agg #[.string yr,.string yc,.int .u64 yt,.int .u64 ys,.bool yd,.string yv,.int .i64 yp]] w fun e w'=>e=.returned (.int .i64 r)∧Fp [] w w'):=HC1;clear hk hx hy hr HC1
     by_cases hr0:r<0
     ·go_wp2_with (fail);refine Dy (by kernel_rfl) (by kernel_rfl) ?_
      iterate 17
       first|apply A9 rfl rfl rfl|apply I7 3 21 rfl rfl rfl rfl (by kernel_rfl) rfl rfl
       ·intro a w hC hA K hK
        try have h9:=hA.fr 9 rfl
        try have h1:=hA.fr 1 rfl
        try have h18:=hA.eq 0 18 rfl
        try have h19:=hA.eq 1 19 rfl
        try have h20:=hA.eq 2 20 rfl
        try have h3:=hA.fr 3 rfl
        try have h0:=hA.fr 0 rfl
        try have h23:=hA.eq 5 23 rfl
        try have h24:=hA.eq 6 24 rfl
        try have h25:=hA.eq 7 25 rfl
        try have h28:=hA.eq 10 28 rfl
        try have h27:=hA.eq 9 27 rfl
        try have h29:=hA.eq 11 29 rfl
        try have h30:=hA.eq 12 30 rfl
        try have h22:=hA.eq 4 22 rfl
        try have h26:=hA.eq 8 26 rfl
        try have h31:=hA.eq 13 31 rfl
        try have h32:=hA.eq 14 32 rfl
        try have h21:=hA.eq 3 21 rfl
        try have h33:=hA.eq 15 33 rfl
        obtain⟨a0,a1,a2,a3,a4,a5,a6⟩:=HCJ.out _ hC;obtain⟨b0,b1,b2,b3,b4,b5,b6⟩:=HCK.out _ hC;simp only at a0 a1 a2 a3 a4 a5 a6 b0 b1 b2 b3 b4 b5 b6;simp only[Oper.wp,execOp];go_simp
        first
        |exact hK _ hC (Fp.refl _ _)
        |(with_reducible refine(HC1'.out _).mono ?_);rintro e w2 ⟨rfl,hf⟩;exact hK _ (hC.trans hf (by simp)) hf
      refine⟨?_,?_⟩
      ·repeat(first|exact trivial|refine Dj _ ?_ |refine⟨fun w1 w2 v _ hf ⟨g,h1,h2⟩=>⟨g,h1,(hf.block g (Ab h2) (by simp)).trans h2⟩,?_⟩)
      ·intro w' hC;simp only[a0u,a1z,a1w,a1x]
       iterate 17 (refine Aq ?_)
       refine A8 ?_;simp only[Am,Act.put,a0x,a0w,a0v];have HF3:=a0z (HF2.out.trans hC (by simp));have HO3:=a0z (Ag.kept HO2.out (fun k hk=>hC.block k (HO2.out.lt k hk).2 (by simp)));have HFR:=a0z hC;clear hC
       obtain⟨w'0,hw0⟩:∃x,x=w':=⟨_,rfl⟩
       rw[←hw0] at HF3 HO3 HFR ⊢;clear hw0;go_wp2_with (fail);refine Gj (fun bb w'=>Jv w'0 base g n cap l2 j k 15 17 bb w') (fun _ _=>True) (by kernel_rfl) (by kernel_rfl) ⟨HO3.out.kept (fun k hk=>rfl),(Fp.drew _).mono (by simp)⟩ ?_
       iterate 9
        apply Bm (fun _ _ h=>h.plain (by decide)) rfl rfl rfl
        ·intro b a w hC hA K hK
         try have h0:=hA.fr 0 rfl
         try have h9:=hA.fr 9 rfl
         try have h40:=hA.eq 3 40 rfl
         try have h43:=hA.eq 6 43 rfl
         try have h42:=hA.eq 5 42 rfl
         try have h44:=hA.eq 7 44 rfl
         simp only[Oper.wp,execOp];go_simp;exact hK _ hC trivial
       apply Bm (fun _ _ h=>h.plain (by decide)) rfl rfl rfl
       ·intro b a w hC hA K hK;have h45:=hA.eq 8 45 rfl;obtain⟨b0,b1,b2,b3,b4,b5,b6⟩:=eY (hC.first (hA.post 15 (by kernel_rfl)) (hA.post 17 (by kernel_rfl))) hkl HY.out;simp only at b0 b1 b2 b3 b4 b5 b6;simp only[Oper.wp,execOp];go_simp;exact hK _ hC trivial
       iterate 3
        apply Bm (fun _ _ h=>h.plain (by decide)) rfl rfl rfl
        ·intro b a w hC hA K hK
         try have h0:=hA.fr 0 rfl
         try have h9:=hA.fr 9 rfl
         try have h47:=hA.eq 10 47 rfl
         try have h48:=hA.eq 11 48 rfl
         simp only[Oper.wp,execOp];go_simp;exact hK _ hC trivial
       apply Bm (fun _ _ h=>h.plain (by decide)) rfl rfl rfl
       ·intro b a w hC hA K hK;have h49:=hA.eq 12 49 rfl;obtain⟨a0,a1,a2,a3,a4,a5,a6⟩:=eY (hC.first (hA.post 15 (by kernel_rfl)) (hA.post 17 (by kernel_rfl))) hjl HX.out;simp only at a0 a1 a2 a3 a4 a5 a6;simp only[Oper.wp,execOp];go_simp;exact hK _ hC trivial
       apply Bm (fun _ _ h=>h.plain (by decide)) rfl rfl rfl
       ·intro b a w hC hA K hK;have h37:=hA.eq 0 37 rfl;have h38:=hA.eq 1 38 rfl;simp only[Oper.wp,execOp];go_simp;exact hK _ hC trivial
       apply Gn (fun _=>True) rfl rfl
       ·intro b a w hC hA K hK;have h51:=hA.eq 14 51 rfl;have h46:=hA.eq 9 46 rfl;obtain⟨a0,a1,a2,a3,a4,a5,a6⟩:=Kt hC.own (i:=j) (by rw[P8];exact hjl);obtain⟨-,hz,-,-,-,-⟩:=hC.own.elem (i:=j) (by rw[P8];exact hjl);have z0:=hz (j*7);have z1:=hz (j*7+1);have z2:=hz (j*7+2);have z3:=hz (j*7+3);have z4:=hz (j*7+4);have z5:=hz (j*7+5);have z6:=hz (j*7+6);have hst:=hC.storeP hA.self hjl hjk (by decide);rw[HY.out] at hst;clear hz;simp only[Oper.wp,execOp];go_simp;exact hK undef _ hst trivial trivial
       apply Bm (fun _ _ h=>h.plain (by decide)) rfl rfl rfl
       ·intro b a w hC hA K hK;have h39:=hA.eq 2 39 rfl;have h41:=hA.eq 4 41 rfl;simp only[Oper.wp,execOp];go_simp;exact hK _ hC trivial
       apply Gn (fun _=>True) rfl rfl
       ·intro b a w hC hA K hK;have h52:=hA.eq 16 52 rfl;have h50:=hA.eq 13 50 rfl;obtain⟨a0,a1,a2,a3,a4,a5,a6⟩:=Kt hC.own (i:=k) (by rw[P8];exact hkl);obtain⟨-,hz,-,-,-,-⟩:=hC.own.elem (i:=k) (by rw[P8];exact hkl);have z0:=hz (k*7);have z1:=hz (k*7+1);have z2:=hz (k*7+2);have z3:=hz (k*7+3);have z4:=hz (k*7+4);have z5:=hz (k*7+5);have z6:=hz (k*7+6);have hst:=hC.storeQ hA.self hkl (by decide);rw[HX.out] at hst;clear hz;simp only[Oper.wp,execOp];go_simp;exact hK undef _ hst trivial trivial
       refine⟨?_,?_⟩
       ·refine⟨fun _ _ _ _ _=>trivial,?_⟩;refine B6 _ ?_;refine⟨fun _ _ _ _ _=>trivial,?_⟩
        iterate 15 refine B6 _ ?_
        exact trivial
       ·intro w' bb hC hbb;simp only[a0u,a1z,a1w,a1x]
        iterate 15 (refine Aq ?_)
        refine Av ?_;intro v15 u15
        iterate 1 (refine Aq ?_)
        refine Av ?_;intro v17 u17;refine A8 ?_;simp only[Am,Act.put,a0x,a0w,a0v];have ho4:=hC.own;rw[uD (hbb 15 (by simp)) (hbb 17 (by simp))] at ho4;have HO4:=a0z ho4;have HF4:=a0z (HF3.out.trans hC.fp (by intro i hi;exact Or.inl hi));have hts:=HTS.out;have HT4:=a0z (HT2.out.trans hts);have HS4:=a0z (HSTEP.out (HLT.out hr0));clear hC hbb ho4 hts u15 u17;go_wp2_with (fail)
        go_roundg k
        case measure=>have:=HK.out;omega
        case rel=>exact⟨k,_,rfl,rfl,by have:=HK.out;omega,by have:=HK.out;omega,HT4.out,HS4.out,HO4.out,HF4.out⟩
     ·have zr:¬(r<0):=hr0;go_wp2_with (fail);refine Dy (by kernel_rfl) (by kernel_rfl) ?_
      iterate 17
       first|apply A9 rfl rfl rfl|apply I7 3 21 rfl rfl rfl rfl (by kernel_rfl) rfl rfl
       ·intro a w hC hA K hK
        try have h9:=hA.fr 9 rfl
        try have h1:=hA.fr 1 rfl
        try have h18:=hA.eq 0 18 rfl
        try have h19:=hA.eq 1 19 rfl
        try have h20:=hA.eq 2 20 rfl
        try have h3:=hA.fr 3 rfl
        try have h0:=hA.fr 0 rfl
        try have h23:=hA.eq 5 23 rfl
        try have h24:=hA.eq 6 24 rfl
        try have h25:=hA.eq 7 25 rfl
        try have h28:=hA.eq 10 28 rfl
        try have h27:=hA.eq 9 27 rfl
        try have h29:=hA.eq 11 29 rfl
        try have h30:=hA.eq 12 30 rfl
        try have h22:=hA.eq 4 22 rfl
        try have h26:=hA.eq 8 26 rfl
        try have h31:=hA.eq 13 31 rfl
        try have h32:=hA.eq 14 32 rfl
        try have h21:=hA.eq 3 21 rfl
        try have h33:=hA.eq 15 33 rfl
        obtain⟨a0,a1,a2,a3,a4,a5,a6⟩:=HCJ.out _ hC;obtain⟨b0,b1,b2,b3,b4,b5,b6⟩:=HCK.out _ hC;simp only at a0 a1 a2 a3 a4 a5 a6 b0 b1 b2 b3 b4 b5 b6;simp only[Oper.wp,execOp];go_simp
        first
        |exact hK _ hC (Fp.refl _ _)
        |(with_reducible refine(HC1'.out _).mono ?_);rintro e w2 ⟨rfl,hf⟩;exact hK _ (hC.trans hf (by simp)) hf
      refine⟨?_,?_⟩
      ·repeat(first|exact trivial|refine Dj _ ?_ |refine⟨fun w1 w2 v _ hf ⟨g,h1,h2⟩=>⟨g,h1,(hf.block g (Ab h2) (by simp)).trans h2⟩,?_⟩)
      ·intro w' hC;simp only[a0u,a1z,a1w,a1x]
       iterate 17 (refine Aq ?_)
       refine A8 ?_;simp only[Am,Act.put,a0x,a0w,a0v];have HF3:=a0z (HF2.out.trans hC (by simp));have HO3:=a0z (Ag.kept HO2.out (fun k hk=>hC.block k (HO2.out.lt k hk).2 (by simp)));clear hC;go_wp2_with (fail)
       go_roundg (b-i)
       case measure=>omega
       case rel=>exact⟨i+1,l2,by simp,by omega,by omega,HT2.out,HDONE.out (HNOT.out hr0),HO3.out,HF3.out⟩
  ·have zi:¬(i:Int)<(b:Int):=by omega
   have HS5:Hid (G8 l1 a b):=fun p q h1 h2 h3=>HS.out p q h1 h2 (by omega)
   go_wp2_with (fail);go_end0;exact⟨rfl,⟨l1,HT.out,HS5.out,HO1.out⟩,HF.out⟩
end
section
open Go.RowKit Go.Lib
theorem uF(w:World)(base g n cap:Nat)(l:List Ad)(ho:Ag Bq w base (.slice (some ⟨g,0,none⟩) n cap) l)(hok:B8 l)(hn:l.length<20):
  Calls Tryz.prog 263 #[.slice (some ⟨g,0,none⟩) n cap,.int .i64 n,.func (.func 217) #[] #[]] w fun e w'=>e=.returned (.tuple #[])∧(∃l',Fq 0 n l l'∧G8 l' 0 n∧Ag Bq w' base (.slice (some ⟨g,0,none⟩) n cap) l')∧Fp [g] w w':=by
 have hm:l.length=n:=by
  obtain⟨a',c',e,-⟩:=ho.len;cases e;rfl
 have HI:=a0z (uE w base g n cap 0 n l ho hok (Nat.zero_le _) (by omega) (by omega));rw[hm] at hn
 have z1:¬(20:Int)≤(n:Int):=by omega
 have z2:¬(20:Int)<(n:Int):=by omega
 clear hm;go_enter Tryz.func263,Tryz.ntmps263;go_wp2_with (fail)
 go_loopg [7,8] 0 (fun gg va vb wr=>va=.int .i64 0∧vb=.int .i64 20∧wr=w)
 case atStart=>exact⟨rfl,rfl,rfl⟩
 case round=>
  obtain⟨rfl,rfl,rfl⟩:=hrel;go_wp2_with (fail);rw[show(0:Int)=((0:Nat):Int) from rfl];(with_reducible refine HI.out.mono ?_);rintro e w1 ⟨rfl,⟨l1,ht,hs,ho1⟩,hf⟩;have HT:=a0z ht;have HS:=a0z hs;have HO:=a0z ho1;have HF:=a0z hf;clear ht hs ho1 hf;go_wp2_with (fail)
  go_loopg [6] 0 (fun gg vb wr=>vb=.int .i64 20∧wr=w1)
  case atStart=>exact⟨rfl,rfl⟩
  case round=>
   obtain⟨rfl,rfl⟩:=hrel;go_wp2_with (fail);go_end0;exact⟨rfl,⟨l1,HT.out,HS.out,HO.out⟩,HF.out⟩
theorem uG(w:World)(base g n cap:Nat)(l:List Ad)(ho:Ag Bq w base (.slice (some ⟨g,0,none⟩) n cap) l)(hok:B8 l)(hn:l.length<20):
  Calls Tryz.prog 216 #[.slice (some ⟨g,0,none⟩) n cap,.func (.func 217) #[] #[]] w fun e w'=>e=.returned (.tuple #[])∧(∃l',Fq 0 n l l'∧G8 l' 0 n∧Ag Bq w' base (.slice (some ⟨g,0,none⟩) n cap) l')∧Fp [g] w w':=by
 have HI:=a0z (uF w base g n cap l ho hok hn);clear ho hok hn;go_enter Tryz.func216,Tryz.ntmps216;go_wp2_with (fail);(with_reducible refine HI.out.mono ?_);rintro e w1 ⟨rfl,h,hf⟩;have H:=a0z h;have HF:=a0z hf;clear h hf;go_wp2_with (fail);go_end0;exact⟨rfl,H.out,HF.out⟩
end
end Go.Proofs.YtkagolpnaicdoaaGreatDoor
