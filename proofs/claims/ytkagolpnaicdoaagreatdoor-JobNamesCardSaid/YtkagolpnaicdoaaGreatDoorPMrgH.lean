/-
 merge.Group.
-/
import Derived.Test.YtkagolpnaicdoaaGreatDoorPRunE
set_option maxRecDepth 100000
set_option maxHeartbeats 8000000
open Go.Lib renaming hid→a0z
open List renaming mem_cons_self→a0x,getElem?_cons_zero→a0w,setIfInBounds_toArray→a0v,length_cons→a0u,getElem?_toArray→a1z,set_cons_succ→a1w,set_cons_zero→a1v,reverse_cons→a1u,mem_cons_of_mem→a2z,reverse_nil→a2x,cons_append→a2w,map_cons→a2v,nil_append→a2u,nodup_cons→a3z,eq_nil_of_length_eq_zero→a3x,getElem?_eq_getElem→a3w
open Nat renaming le_refl→a1x
namespace Go.Proofs.YtkagolpnaicdoaaGreatDoor
open Go.RowKit Go.Lib
def Fq:List Ei→Nat
 |[]=>0
 |x::l=>x.2.length+Fq l
theorem M7{l m:List Ei}(h:l.Perm m):Fq l=Fq m:=by
 induction h with
 |nil=>rfl
 |cons x _ ih=>simp only[Fq,ih]
 |swap x y l=>simp only[Fq];omega
 |trans _ _ h1 h2=>exact h1.trans h2
structure Qh(all:List Ad)(es:List Ei)(done out:List Ad):Prop where
 ris:∀x∈es,Dx x.2
 mrg:Kp done out
 ok:Ci done
 le:∀y∈done,∀x∈es,A7 y (E2 x)
 mem:∀z,z∈all↔z∈done∨∃x∈es,z∈x.2
theorem Qh.none{all done out:List Ad}(h:Qh all [] done out):B7 all out:=
 h.mrg.res.perm fun z=>by rw[h.mem z];simp
theorem Qh.step{all done out out' r:List Ad}{es es1 es2:List Ei}{s:Is}{y:Ad}(h:Qh all es done out)(hp:((s,y::r)::es1).Perm es)(hok:∀x∈es,Ci x.2)(hmin:∀x∈es,A7 y (E2 x))
  (hm:Kp (done++[y]) out')(h2:(r=[]∧es2=es1)∨(r≠[]∧es2.Perm ((s,r)::es1))):Qh all es2 (done++[y]) out':=by
 have hx:(s,y::r)∈es:=hp.mem_iff.1 a0x
 have h1:∀x∈es1,x∈es:=fun x hx=>hp.mem_iff.1 (a2z _ hx)
 have oy:B6 y:=hok _ hx y a0x;have hry:=h.ris _ hx;have hr:Dx r:=(List.pairwise_cons.1 hry).2
 have hm2:∀x,x∈es2↔x∈es1∨(r≠[]∧x=(s,r)):=fun x=>by
  rcases h2 with⟨e1,e2⟩|⟨e1,e2⟩
  ·rw[e2];simp[e1]
  ·rw[e2.mem_iff];simp[e1,or_comm]
 have hin:∀z,(∃x∈es,z∈x.2)↔z=y∨∃x∈es2,z∈x.2:=fun z=>by
  constructor
  ·rintro⟨x,hx,hz⟩
   rcases List.mem_cons.1 (hp.mem_iff.2 hx) with e|e
   ·subst e
    rcases List.mem_cons.1 hz with e|e
    ·exact Or.inl e
    ·exact Or.inr ⟨(s,r),(hm2 _).2 (Or.inr ⟨List.ne_nil_of_mem e,rfl⟩),e⟩
   ·exact Or.inr ⟨x,(hm2 _).2 (Or.inl e),hz⟩
  ·rintro(e|⟨x,hx2,hz⟩)
   ·exact⟨_,hx,by rw[e];exact a0x⟩
   ·rcases(hm2 _).1 hx2 with e|⟨_,e⟩
    ·exact⟨x,h1 x e,hz⟩
    ·subst e;exact⟨_,hx,a2z _ hz⟩
 refine⟨fun x hx2=>?_,hm,fun z hz=>?_,fun z hz x hx2=>?_,fun z=>?_⟩
 ·rcases(hm2 _).1 hx2 with e|⟨_,e⟩
  ·exact h.ris x (h1 x e)
  ·subst e;exact hr
 ·rcases List.mem_append.1 hz with hz|hz
  ·exact h.ok z hz
  ·rw[List.mem_singleton.1 hz];exact oy
 ·have hyx:A7 y (E2 x):=by
   rcases(hm2 _).1 hx2 with e|⟨e0,e⟩
   ·exact hmin x (h1 x e)
   ·subst e
    obtain⟨x0,r0,rfl⟩:∃x0 r0,r=x0::r0:=by
     cases r with
     |nil=>exact absurd rfl e0
     |cons x0 r0=>exact⟨x0,r0,rfl⟩
    exact hry.first oy x0 (by simp)
  rcases List.mem_append.1 hz with hz|hz
  ·have hzy:A7 z y:=h.le z hz _ hx
   have ox:B6 (E2 x):=by
    rcases(hm2 _).1 hx2 with e|⟨e0,e⟩
    ·have ho:=hok x (h1 x e);unfold E2
     cases hx3:x.2 with
     |nil=>exact Yo
     |cons x0 r0=>rw[hx3] at ho;exact ho x0 a0x
    ·subst e;have ho:=hok _ hx;unfold E2
     cases r with
     |nil=>exact Yo
     |cons x0 r0=>exact ho x0 (by simp)
   exact A7.trans (h.ok z hz) oy ox hzy hyx
  ·rw[List.mem_singleton.1 hz];exact hyx
 ·rw[h.mem z,hin z,List.mem_append,List.mem_singleton,or_assoc]
theorem uD(w:World)(x y:Value):(Instr.typeAssert (.iface 331 (.agg #[x,y])) 20 331 false).run Tryz.prog w=.ok (.agg #[x,y]) w:=by kernel_rfl
structure Ho(wB:World)(xq:Nat)(nv:Value)(b:Nat→Bool)(w:World):Prop where
 pre:b 10=false→Fp [] wB w
 post:b 10=true→Fp [xq] wB w∧w.heap[xq]?=some (.cells #[nv] 329 (0,0))
 o1:b 10=true→b 7=true
 o2:b 7=true→b 6=true
theorem Ho.any{wB w:World}{xq:Nat}{nv:Value}{b:Nat→Bool}(h:Ho wB xq nv b w):Fp [xq] wB w:=by
 cases e:b 10 with
 |false=>exact(h.pre e).mono (by simp)
 |true=>exact(h.post e).1
theorem Ho.plain{wB w:World}{xq k:Nat}{nv:Value}{b:Nat→Bool}(h:Ho wB xq nv b w)(hk:k≠10∧(k=7→b 6=true)):Ho wB xq nv (Ap b k) w:=by
 refine⟨fun e=>?_,fun e=>?_,fun e=>?_,fun e=>?_⟩
 ·rw[Af hk.1.symm] at e;exact h.pre e
 ·rw[Af hk.1.symm] at e;exact h.post e
 ·rw[Af hk.1.symm] at e;exact Pm (h.o1 e)
 ·by_cases e7:k=7
  ·exact Pm (hk.2 e7)
  ·rw[Af (Ne.symm e7)] at e;exact Pm (h.o2 e)
theorem Ho.store{wB w:World}{xq:Nat}{nv ov:Value}{b:Nat→Bool}(h:Ho wB xq nv b w)(hs:b 10=false)(h7:b 7=true)(hB:wB.heap[xq]?=some (.cells #[ov] 329 (0,0))):Ho wB xq nv (Ap b 10) (w.setCell ⟨xq,0,none⟩ nv):=by
 have hf:=h.pre hs;have h1:w.heap[xq]?=some (.cells #[ov] 329 (0,0)):=(hf.block _ (Ab hB) (by simp)).trans hB;refine⟨fun e=>?_,fun _=>⟨(hf.mono (by simp)).trans (Fp.setCell w ⟨xq,0,none⟩ nv) (by simp),(Bm h1 _).trans rfl⟩,fun _=>?_,fun e=>?_⟩
 ·rw[Ej] at e;cases e
 ·exact Pm h7
 ·exact Pm (h.o2 h7)
structure fQ(W0:World)(B:Nat)(all:List Ad)(v:Value)(g:Nat)(W:World):Prop where
 ex:∃es done out,g=Fq es∧Dm W W0.heap.size B es∧Gm (B4 es) es.length∧Ae Bz W W0.heap.size v out∧Qh all es done out∧out.length≤done.length∧done.length+Fq es≤1000000∧es.length≤1000000
 fp:Fp [] W0 W
structure uE(W0:World)(B:Nat)(rs:List (List Ad))(k:Nat)(W:World):Prop where
 ex:∃es,Dm W W0.heap.size B es∧Gm (B4 es) es.length∧(∀x∈es,x.2∈rs)∧(∀i (h:i<rs.length),i<k→rs[i]≠[]→∃x∈es,x.2=rs[i])∧es.length≤k∧Fq es=((rs.take k).map (·.length)).sum
 fp:Fp [] W0 W
theorem uF(W0:World)(a:Option Addr)(n cap:Nat)(rs:List (List Ad))(h:G1 W0 a n rs)(hr:∀r∈rs,Dx r∧Ci r∧r.length≤1000000)(hn:n≤900000)(htot:(rs.map (·.length)).sum≤1000000):
  Calls Tryz.prog 222 #[.slice a n cap] W0 fun e W'=>∃v out,e=.returned v∧B7 rs.flatten out∧Ae Bz W' W0.heap.size v out∧Fp [] W0 W':=by
 have HSO:=a0z (iJ W0 a n cap rs h hr (by omega));have HR:=a0z h;have HRR:=a0z hr;have HLN:=a0z h.len;have HTO:=a0z htot;clear h hr htot;go_enter Tryz.func222,Tryz.ntmps222;go_wp2_with (fail);(with_reducible refine HSO.out.mono ?_);rintro e w1 ⟨rfl,hf1⟩;have HF1:=a0z hf1;clear hf1
 have hB0:Dm ((w1.alloc (.cells #[] 331)).alloc (.cells #[.slice (some ⟨w1.heap.size,0,none⟩) 0 0] 325)) W0.heap.size (w1.heap.size+1) []:=by
  refine⟨⟨_,Ai (by simp) _,?_⟩,(fun x hx=>by cases hx),(fun x hx=>by cases hx),?_,List.nodup_nil⟩
  ·exact Ae.fp (S:=[]) (Ae.made (R:=Hf) w1 _ HF1.out.size) (Fp.alloc _ _) (by simp)
  ·have:=HF1.out.size;omega
 have HB0:=a0z hB0;have hF2:Fp [] W0 ((w1.alloc (.cells #[] 331)).alloc (.cells #[.slice (some ⟨w1.heap.size,0,none⟩) 0 0] 325)):=(HF1.out.alloc' _).alloc' _;have HF2:=a0z hF2
 obtain⟨W2,hW2⟩:∃W2,(w1.alloc (.cells #[] 331)).alloc (.cells #[.slice (some ⟨w1.heap.size,0,none⟩) 0 0] 325)=W2:=⟨_,rfl⟩
 rw[hW2] at HB0 HF2
 obtain⟨B,hB⟩:∃B,w1.heap.size+1=B:=⟨_,rfl⟩
 rw[hB] at HB0
 have hBw:W0.heap.size<B:=by have:=HF1.out.size;omega
 clear hB0 hF2;go_wp2_with (fail);clear hW2 hB
 go_loopg [16] n (fun gg vi wr=>∃k:Nat,vi=.int .i64 k∧gg+k=n∧uE W0 B rs k wr)
 case atStart=>exact⟨0,rfl,by omega,⟨[],HB0.out,(fun i h1 h2=>by cases h2),(fun x hx=>by cases hx),(fun i _ h=>by omega),a1x _,by simp[Fq]⟩,HF2.out⟩
 case round=>
  obtain⟨k,rfl,hg,hga⟩:=hrel;have HGA:=a0z hga;clear hga
  by_cases hk:k<n
  ·have zk:(k:Int)<(n:Int):=by omega
   have n1:IntKind.i64.wrap ((k:Int)+1)=((k+1:Nat):Int):=by rw[IntKind.wrap_i64];omega
   have hkl:k<rs.length:=by have:=HLN.out;omega
   obtain⟨b,o,v,e,hc⟩:=HR.out.get hkl;subst e;obtain⟨q,hv⟩:=hc wr HGA.out.fp;obtain⟨-,hv0⟩:=hc W0 (Fp.refl _ _);obtain⟨av,nv,cv,rfl,hnc,hnone,hq⟩:=hv;have hnv:nv=rs[k].length:=hq.len;have HNV:=a0z hnv;have HQ:=a0z hq;have HV0:=a0z hv0;have hcap:nv≤cv:=hnc;clear hc hnv hq hv0 hnc hnone
   by_cases h0:0<nv
   ·have z0:(nv:Int)>0:=by omega
    obtain⟨es,hh,ho,hm1,hm2,hl,ht⟩:=HGA.out.ex;obtain⟨a2,n2,c2,e2,hnc2,-,hq2⟩:=HV0.out;cases e2
    have hqb:∃b2 o2,av=some ⟨b2,o2,none⟩∧b2<W0.heap.size:=by
     rcases hq2.cells with h1|⟨b2,o2,h1,h2,_⟩
     ·have:=hq2.len;rw[h1] at this;simp at this;omega
     ·exact⟨b2,o2,h1,h2⟩
    obtain⟨b2,o2,rfl,hb2⟩:=hqb;have hs1:W0.heap.size≤wr.heap.size:=HGA.out.fp.size
    have hnew:wr.heap.size∉es.map (·.1.q):=by
     intro hm;obtain⟨x,hx,e⟩:=List.mem_map.1 hm;obtain⟨_,_,_,_,h1,_⟩:=(hh.qs x hx).1.ex;have:=Ab h1;omega
    have hqa:Ib (wr.alloc (.cells #[.slice (some ⟨b2,o2,none⟩) nv cv] 329)) W0.heap.size wr.heap.size rs[k]:=
     ⟨hs1,b2,o2,nv,cv,Ai rfl _,hcap,hb2,HQ.out.fp (Fp.alloc _ _)⟩
    have HPU:=a0z (fB (wr.alloc (.cells #[.slice (some ⟨b2,o2,none⟩) nv cv] 329)) W0.heap.size B es (⟨wr.heap.size,k⟩,rs[k]) (hh.fp (Fp.alloc _ _)) ho hqa (by have:=HNV.out;show 0<rs[k].length;omega) (HRR.out _ (List.getElem_mem hkl)).2.1 hnew (by simp;omega) (by omega));unfold Qg at HPU;simp only at HPU;have HM1:=a0z hm1;have HM2:=a0z hm2;have HL:=a0z hl;have HT:=a0z ht;clear hh ho hm1 hm2 hl ht hq2 hqa hnew;go_wp2_with (fail);(with_reducible refine HPU.out.mono ?_);rintro e w3 ⟨rfl,es',hp,hon,hh3,ht3⟩;have hpl:=hp.length_eq;have HX1:=a0z hp;have HX2:=a0z hon;have HX3:=a0z hh3;have HX4:=a0z (ht3.onto (HGA.out.fp.alloc' _) (a1x _) (by intro i hi;right;simp at hi;omega));clear hp hon hh3 ht3;go_wp2_with (fail)
    go_roundg (gk-1)
    case measure=>omega
    case rel=>
     refine⟨k+1,by simp,by omega,⟨es',HX3.out,HX2.out,fun x hx=>?_,fun i hi hik hne=>?_,?_,?_⟩,HX4.out⟩
     ·rcases List.mem_cons.1 (HX1.out.mem_iff.1 hx) with e|e
      ·rw[e];exact List.getElem_mem hkl
      ·exact HM1.out x e
     ·by_cases e:i=k
      ·subst e;exact⟨_,HX1.out.mem_iff.2 a0x,rfl⟩
      ·obtain⟨x,hx,e2⟩:=HM2.out i hi (by omega) hne;exact⟨x,HX1.out.mem_iff.2 (a2z _ hx),e2⟩
     ·rw[hpl,a0u];have:=HL.out;omega
     ·rw[M7 HX1.out,Fq,HT.out,List.take_add_one,a3w hkl];simp only[Option.toList,List.map_append,a2v,List.map_nil,List.sum_append,List.sum_cons,List.sum_nil];omega
   ·have z0:¬(nv:Int)>0:=by omega
    go_wp2_with (fail)
    go_roundg (gk-1)
    case measure=>omega
    case rel=>
     obtain⟨es,hh,ho,hm1,hm2,hl,ht⟩:=HGA.out.ex;refine⟨k+1,by simp,by omega,⟨es,hh,ho,hm1,fun i hi hik hne=>?_,by omega,?_⟩,HGA.out.fp⟩
     ·by_cases e:i=k
      ·subst e;exfalso;have:=HNV.out;exact hne (a3x (by omega))
      ·exact hm2 i hi (by omega) hne
     ·rw[ht,List.take_add_one,a3w hkl];have:=HNV.out;simp only[Option.toList,List.map_append,a2v,List.map_nil,List.sum_append,List.sum_cons,List.sum_nil];omega
  ·have zk:¬(k:Int)<(n:Int):=by omega
   have hst:∃es,fQ W0 B rs.flatten (.slice none 0 0) (Fq es) wr:=by
    obtain⟨es,hh,ho,hm1,hm2,hl,ht⟩:=HGA.out.ex
    have hkn:k=rs.length:=by have:=HLN.out;omega
    rw[hkn,List.take_length] at ht;refine⟨es,⟨es,[],[],rfl,hh,ho,Ae.nil _ _,⟨fun x hx=>(HRR.out _ (hm1 x hx)).1,Kp.nil,(fun x hx=>by cases hx),(fun y hy=>by cases hy),fun z=>?_⟩,a1x _,by have:=HTO.out;simp;omega,by omega⟩,HGA.out.fp⟩;rw[List.mem_flatten];constructor
    ·rintro⟨r,hr,hz⟩;obtain⟨i,hi,e⟩:=List.mem_iff_getElem.1 hr;obtain⟨x,hx,e2⟩:=hm2 i hi (by omega) (by rw[e];exact List.ne_nil_of_mem hz);exact Or.inr ⟨x,hx,by rw[e2,e];exact hz⟩
    ·rintro(h|⟨x,hx,hz⟩)
     ·cases h
     ·exact⟨_,hm1 x hx,hz⟩
   obtain⟨es0,hst⟩:=hst;have HST:=a0z hst;clear hst;go_wp2_with (fail)
   go_loopg [2] (Fq es0) (fun gg v wr=>fQ W0 B rs.flatten v gg wr)
   case atStart=>exact HST.out
   case round=>
    obtain⟨es,done,out,hgg,hh,ho,hown,hgp,hod,htl,hesl⟩:=hrel.ex;have HFP:=a0z hrel.fp;have HH:=a0z hh;have HO:=a0z ho;have HOW:=a0z hown;have HGP:=a0z hgp;have HGG:=a0z hgg;obtain⟨ao,co,e,hno,hco⟩:=hown.len;subst e;obtain⟨vb,hvb1,hvb2⟩:=hh.box;obtain⟨sb,cb,rfl,-,-⟩:=hvb2.len;rw[List.length_map] at hvb1;have q0:wr.cell? ⟨B,0,none⟩=some (.slice sb es.length cb):=Aa hvb1 0;have HLEN:=a0z (Y0 wr sb es.length cb);clear hvb1 hvb2 hrel hh ho hown hgp hgg
    by_cases he:es.length=0
    ·have ze:¬(es.length:Int)>0:=by omega
     have HE:Hid (es=[]):=a3x he;clear he;go_wp2_with (fail);(with_reducible refine HLEN.out.mono ?_);rintro e w4 ⟨rfl,rfl⟩;go_wp2_with (fail);go_ret;have hg:=HGP.out;rw[HE.out] at hg;exact⟨_,out,rfl,hg.none,HOW.out,HFP.out⟩
    ·have ze:(es.length:Int)>0:=by omega
     have HPOP:=a0z (tH wr W0.heap.size B es HH.out HO.out (by omega) hesl);clear he;go_wp2_with (fail);(with_reducible refine HLEN.out.mono ?_);rintro e w4 ⟨rfl,rfl⟩;go_wp2_with (fail);(with_reducible refine HPOP.out.mono ?_);rintro e wp ⟨⟨⟨xq,xa⟩,xr⟩,es1,rfl,hp1,ho1,hh1,hqx,hmin,ht1⟩;have hx:(⟨⟨xq,xa⟩,xr⟩:Ei)∈es:=hp1.mem_iff.1 a0x;obtain⟨r,hr⟩:=Qw (HH.out.qs _ hx).2
     obtain⟨y,hy⟩:∃y,xr.headD H8=y:=⟨_,rfl⟩
     simp only at hr;rw[hy] at hr;clear hy;subst hr;have HP1:=a0z hp1;have HO1:=a0z ho1;have HH1:=a0z hh1;have HQX:=a0z hqx;have HMIN:Hid (∀x∈es,A7 y (E2 x)):=hmin;have HT1:=a0z ht1;clear hp1 ho1 hh1 hqx hmin ht1 hx q0;have hta:=uD wp (.pointer (some ⟨xq,0,none⟩)) (.int .i64 xa);obtain⟨⟨yr,yc,yt,ys,yd,yv⟩,yp⟩:=y
     have HFI:Hid (∀W',Fp [] wp W'→Calls Tryz.prog 273 #[.pointer (some ⟨xq,0,none⟩)] W' fun e W''=>e=.returned (.agg #[.string yr,.string yc,.int .u64 yt,.int .u64 ys,.bool yd,.string yv,.int .i64 yp])∧Fp [] W' W''):=fun W' hf=>Yz W' W0.heap.size xq _ r (HQX.out.fp hf)
     have q1:(wp.alloc (.cells #[.pointer (some ⟨xq,0,none⟩),.int .i64 xa] 331)).cell? ⟨wp.heap.size,0,none⟩=some (.pointer (some ⟨xq,0,none⟩)):=Aa (Ai rfl _) 0;unfold Qg;simp only;go_wp2_with (fail);(with_reducible refine(HFI.out _ (Fp.alloc _ _)).mono ?_);rintro e w5 ⟨rfl,hf5⟩;have hS:w5.heap[wp.heap.size]?=some (.cells #[.pointer (some ⟨xq,0,none⟩),.int .i64 xa] 331 (0,0)):=(hf5.block _ (by simp) (by simp)).trans (Ai rfl _);have HS:=a0z hS;have HF5:Hid (Fp [] wp w5):=(Fp.alloc _ _).trans hf5 (by simp)
     obtain⟨S,hSS⟩:∃S,wp.heap.size=S:=⟨_,rfl⟩
     have HSS:=a0z hSS
     have HOP:Hid (Ae Bz w5 W0.heap.size (.slice ao out.length co) out):=(HOW.out.tf HT1.out (by decide) (fun k hk hm=>by
      obtain rfl:=List.mem_singleton.1 hm;obtain⟨v1,h1,_⟩:=HH.out.box
      rcases HOW.out.2 with⟨e,_⟩|⟨g,cap',cur,e,_,hh,_⟩
      ·rw[e] at hk;cases hk
      ·rw[e] at hk
       obtain rfl:g=k:=by simpa [Value.ownBlock] using hk
       rw[hh] at h1
       cases h1)).fp HF5.out (by simp)
     rw[hSS] at HS ⊢;clear hf5 hta q1 hS hSS
     go_upto_region 14 with(fail)
     obtain⟨w6,hw6⟩:∃w6,w5.alloc (.cells #[.string yr,.string yc,.int .u64 yt,.int .u64 ys,.bool yd,.string yv,.int .i64 yp] 221)=w6:=⟨_,rfl⟩
     have hX:w6.heap[w5.heap.size]?=some (.cells #[.string yr,.string yc,.int .u64 yt,.int .u64 ys,.bool yd,.string yv,.int .i64 yp] 221 (0,0)):=by rw[←hw6];exact Ai rfl _
     have hf6:Fp [] w5 w6:=by rw[←hw6];exact Fp.alloc _ _
     rw[hw6]
     obtain⟨X,hXX⟩:∃X,w5.heap.size=X:=⟨_,rfl⟩
     rw[hXX] at hX ⊢;have HX:=a0z hX;have HF6:=a0z hf6;have HO6:=a0z (HOP.out.fp hf6 (by simp))
     have HXC:Hid (∀w',Fp [] w6 w'→w'.cell? ⟨X,0,none⟩=some (.string yr)∧w'.cell? ⟨X,1,none⟩=some (.string yc)∧w'.cell? ⟨X,2,none⟩=some (.int .u64 yt)∧w'.cell? ⟨X,3,none⟩=some (.int .u64 ys)∧w'.cell? ⟨X,4,none⟩=some (.bool yd)∧w'.cell? ⟨X,5,none⟩=some (.string yv)∧w'.cell? ⟨X,6,none⟩=some (.int .i64 yp)):=fun w' hf=>by
      have h1:=(hf.block _ (Ab hX) (by simp)).trans hX;exact⟨Aa h1 0,Aa h1 1,Aa h1 2,Aa h1 3,Aa h1 4,Aa h1 5,Aa h1 6⟩
     clear hw6 hX hf6 hXX
     go_cut [61] from 34 to 87 (fun v wx=>∃bb:Bool,v=.bool bb∧(bb=true→out.length=0∨Bl (Ag out (out.length-1)) ⟨⟨yr,yc,yt,ys,yd,yv⟩,yp⟩=false)∧(bb=false→0<out.length∧Bl (Ag out (out.length-1)) ⟨⟨yr,yc,yt,ys,yd,yv⟩,yp⟩=true)∧Fp [] w6 wx)
     case first=>
      by_cases hz:out.length=0
      ·have hz1:((out.length:Int)==0)=true:=by rw[hz];rfl
       have HZ:=a0z hz;clear hz;go_wp2_with (fail);refine Df (by kernel_rfl) (by kernel_rfl) ?_
       iterate 3
        apply A9 rfl rfl rfl
        ·intro a w hC hA K hK
         try have h8:=hA.fr 8 rfl
         try have h48:=hA.eq 0 48 rfl
         try have h49:=hA.eq 1 49 rfl
         simp only[Oper.wp,execOp];go_simp;exact hK _ hC (Fp.refl _ _)
       apply A1 2 50 rfl rfl rfl rfl (by kernel_rfl) rfl rfl;apply A1 2 50 rfl rfl rfl rfl (by kernel_rfl) rfl rfl;apply A1 2 50 rfl rfl rfl rfl (by kernel_rfl) rfl rfl;apply A1 2 50 rfl rfl rfl rfl (by kernel_rfl) rfl rfl;apply A1 2 50 rfl rfl rfl rfl (by kernel_rfl) rfl rfl;apply A1 2 50 rfl rfl rfl rfl (by kernel_rfl) rfl rfl;apply A1 2 50 rfl rfl rfl rfl (by kernel_rfl) rfl rfl;apply A1 2 50 rfl rfl rfl rfl (by kernel_rfl) rfl rfl;apply A1 2 50 rfl rfl rfl rfl (by kernel_rfl) rfl rfl;apply A1 2 50 rfl rfl rfl rfl (by kernel_rfl) rfl rfl;apply A9 rfl rfl rfl
       ·intro a w hC hA K hK;have h50:=hA.eq 2 50 rfl;have h60:=hA.eq 12 60 rfl;simp only[Oper.wp,execOp];go_simp;exact hK _ hC (Fp.refl _ _)
       refine⟨?_,?_⟩
       ·repeat(first|exact trivial|refine C3 _ ?_ |refine⟨fun w1 w2 v _ hf ⟨g,h1,h2⟩=>⟨g,h1,(hf.block g (Ab h2) (by simp)).trans h2⟩,?_⟩)
       ·intro w' hC;simp only[a1u,a2x,a2u,a2w]
        iterate 14 (refine Au ?_)
        refine A6 ?_;simp only[Am,Act.put,a0v,a1w,a1v];have HC:=a0z hC;clear hC;go_wp2_with (fail)
        go_meet
        case rel=>exact⟨true,rfl,fun _=>Or.inl HZ.out,(fun h=>by cases h),HC.out⟩
      ·have hz1:((out.length:Int)==0)=false:=by simpa using hz
       have n2:IntKind.i64.wrap ((out.length:Int)-1)=((out.length-1:Nat):Int):=by rw[IntKind.wrap_i64];omega
       obtain⟨p,hp⟩:∃p,out.length-1=p:=⟨_,rfl⟩
       rw[hp] at n2
       have zp:(p:Int)<(out.length:Int):=by omega
       have hpl:p<out.length:=by omega
       obtain⟨g,cap',cur,e,-⟩:=HO6.out.open (by omega);cases e
       have HOC:Hid (∀w',Fp [] w6 w'→Jl w' g (p*7) (Ag out p)):=fun w' hf=>K6 (HO6.out.fp hf (by simp)) hpl
       have hcs:=fun w=>aW (Ag out p).c ⟨yr,yc,yt,ys,yd,yv⟩ w
       obtain⟨x,hx⟩:∃x,Ag out p=x:=⟨_,rfl⟩
       obtain⟨bs,hbs⟩:∃bs,Bl x ⟨⟨yr,yc,yt,ys,yd,yv⟩,yp⟩=bs:=⟨_,rfl⟩
       have hbs2:Nr x.c ⟨yr,yc,yt,ys,yd,yv⟩=bs:=hbs;rw[hx] at HOC hcs;rw[hbs2] at hcs
       have HBS:Hid (Bl (Ag out (out.length-1)) ⟨⟨yr,yc,yt,ys,yd,yv⟩,yp⟩=bs):=by rw[hp,hx];exact hbs
       obtain⟨⟨lr,lc,lt,ls,ld,lv⟩,lp⟩:=x;have HCS:Hid (∀w,Calls Tryz.prog 265 #[.agg #[.string lr,.string lc,.int .u64 lt,.int .u64 ls,.bool ld,.string lv],.agg #[.string yr,.string yc,.int .u64 yt,.int .u64 ys,.bool yd,.string yv]] w fun e w'=>e=.returned (.bool bs)∧Fp [] w w'):=hcs;clear hz hp hcs hx hbs hbs2;go_wp2_with (fail);refine Df (by kernel_rfl) (by kernel_rfl) ?_
       iterate 14
        first|apply A9 rfl rfl rfl|apply Jj 2 50 rfl rfl rfl rfl (by kernel_rfl) rfl rfl
        ·intro a w hC hA K hK
         try have h8:=hA.fr 8 rfl
         try have h48:=hA.eq 0 48 rfl
         try have h49:=hA.eq 1 49 rfl
         try have h2:=hA.fr 2 rfl
         try have h52:=hA.eq 4 52 rfl
         try have h51:=hA.eq 3 51 rfl
         try have h53:=hA.eq 5 53 rfl
         try have h54:=hA.eq 6 54 rfl
         try have h55:=hA.eq 7 55 rfl
         try have h7:=hA.fr 7 rfl
         try have h57:=hA.eq 9 57 rfl
         try have h56:=hA.eq 8 56 rfl
         try have h58:=hA.eq 10 58 rfl
         try have h59:=hA.eq 11 59 rfl
         try have h50:=hA.eq 2 50 rfl
         try have h60:=hA.eq 12 60 rfl
         obtain⟨a0,a1,a2,a3,a4,a5,a6⟩:=HOC.out _ hC;obtain⟨b0,b1,b2,b3,b4,b5,b6⟩:=HXC.out _ hC;simp only at a0 a1 a2 a3 a4 a5 a6;simp only[Oper.wp,execOp];go_simp
         first
         |exact hK _ hC (Fp.refl _ _)
         |(with_reducible refine(HCS.out _).mono ?_);rintro e w2 ⟨rfl,hf⟩;exact hK _ (hC.trans hf (by simp)) hf
       refine⟨?_,?_⟩
       ·repeat(first|exact trivial|refine C3 _ ?_ |refine⟨fun w1 w2 v _ hf ⟨g,h1,h2⟩=>⟨g,h1,(hf.block g (Ab h2) (by simp)).trans h2⟩,?_⟩)
       ·intro w' hC;simp only[a1u,a2x,a2u,a2w]
        iterate 14 (refine Au ?_)
        refine A6 ?_;simp only[Am,Act.put,a0v,a1w,a1v];have HC:=a0z hC;clear hC;go_wp2_with (fail)
        go_meet
        case rel=>exact⟨!bs,rfl,fun h=>Or.inr (HBS.out.trans (by cases bs<;>simp_all)),fun h=>⟨by omega,HBS.out.trans (by cases bs<;>simp_all)⟩,HC.out⟩
     case rest=>
      obtain⟨bb,rfl,hb1,hb2,hf7⟩:=hcut;have HB1:=a0z hb1;have HB2:=a0z hb2;have HF7:=a0z hf7;have HO7:=a0z (HO6.out.fp hf7 (by simp));clear hb1 hb2 hf7 HO6 HOP HOW HB0 HST HXC HLEN HPOP HFI;have oy:B6 ⟨⟨yr,yc,yt,ys,yd,yv⟩,yp⟩:=HH.out.ok _ (HP1.out.mem_iff.1 a0x) _ a0x
      have HLE:Hid (∀z∈done,A7 z ⟨⟨yr,yc,yt,ys,yd,yv⟩,yp⟩):=fun z hz=>HGP.out.le z hz _ (HP1.out.mem_iff.1 a0x)
      have HOY:=a0z oy
      have hb0:W0.heap.size≤wc.heap.size:=by
       have h1:=HFP.out.size;have h2:=HT1.out.size;have h3:=HF5.out.size;have h4:=HF6.out.size;have h5:=HF7.out.size;omega
      have q2:wc.cell? ⟨X,0,none⟩=some (.string yr)∧wc.cell? ⟨X,1,none⟩=some (.string yc)∧wc.cell? ⟨X,2,none⟩=some (.int .u64 yt)∧wc.cell? ⟨X,3,none⟩=some (.int .u64 ys)∧wc.cell? ⟨X,4,none⟩=some (.bool yd)∧wc.cell? ⟨X,5,none⟩=some (.string yv)∧wc.cell? ⟨X,6,none⟩=some (.int .i64 yp):=by
       have h1:=(HF7.out.block _ (Ab HX.out) (by simp)).trans HX.out;exact⟨Aa h1 0,Aa h1 1,Aa h1 2,Aa h1 3,Aa h1 4,Aa h1 5,Aa h1 6⟩
      obtain⟨x0,x1,x2,x3,x4,x5,x6⟩:=q2
      obtain⟨wA,hwA⟩:∃x,x=wc:=⟨_,rfl⟩
      subst hwA;clear oy
      go_upto_if 61 with(fail)
      go_cut [2] from 34 to 87 (fun v wx=>∃out',Ae Bz wx W0.heap.size v out'∧Kp (done++[⟨⟨yr,yc,yt,ys,yd,yv⟩,yp⟩]) out'∧out'.length≤done.length+1∧Tf W0.heap.size [221] [] wA wx)
      case first=>
       cases bb
       ·have hb:=(by first|exact HB2.out rfl|exact HB2.out trivial:0<out.length∧Bl (Ag out (out.length-1)) ⟨⟨yr,yc,yt,ys,yd,yv⟩,yp⟩=true)
        have HM:=a0z (HGP.out.mrg.skip HLE.out hb.1 hb.2);clear hb;go_wp2_with (fail)
        go_meet
        case rel=>exact⟨out,HO7.out,HM.out,by omega,Tf.refl _⟩
       ·have hb:=(by first|exact HB1.out rfl|exact HB1.out trivial:out.length=0∨Bl (Ag out (out.length-1)) ⟨⟨yr,yc,yt,ys,yd,yv⟩,yp⟩=false)
        have HM:=a0z (HGP.out.mrg.take HGP.out.ok HOY.out HLE.out hb);clear hb;go_wp2_with (at_builtin;(refine Yy rfl _ _ rfl W0.heap.size _ out rfl (HO7.out.fp (Fp.alloc _ _) (by simp)) _ _ _ [⟨⟨yr,yc,yt,ys,yd,yv⟩,yp⟩] rfl (Bf.one (Ai rfl _)) (fun h=>by cases h) (by simp;omega) (by simp;omega) ?_);intro v2 w2 ho2 hb2 hg2;have HO2:=a0z ho2;have HG2:=a0z hg2;clear ho2 hb2 hg2)
        go_meet
        case rel=>exact⟨_,HO2.out,HM.out,by simp;omega,(Tf.of (Fp.alloc _ _)).trans (Tf.grown (S:=[]) (HO7.out.fp (Fp.alloc _ _) (by simp)) HG2.out (by simp[Bz])) (by simp)⟩
      case rest=>
       obtain⟨out',ho8,hm8,hl8,ht8⟩:=hcut;have HO8:=a0z ho8;have HM8:=a0z hm8;have HT8:=a0z ht8;clear ho8 hm8 ht8 x0 x1 x2 x3 x4 x5 x6
       obtain⟨wB,hwB⟩:∃x,x=wc:=⟨_,rfl⟩
       subst hwB;have hf8:Fp [] wp wA:=(HF5.out.trans HF6.out (by simp)).trans HF7.out (by simp);have hqb:Ib wB W0.heap.size xq (⟨⟨yr,yc,yt,ys,yd,yv⟩,yp⟩::r):=(HQX.out.fp hf8).tf HT8.out (a1x _) (by decide) (by simp);have hhb:Dm wB W0.heap.size B es1:=(HH1.out.fp hf8).tf HT8.out (a1x _) (by decide) (by decide) (by decide) (by simp);have hsb:wB.heap[S]?=some (.cells #[.pointer (some ⟨xq,0,none⟩),.int .i64 xa] 331 (0,0)):=HT8.out.cells (((HF6.out.trans HF7.out (by simp)).block _ (Ab HS.out) (by simp)).trans HS.out) (by simp) (by decide)
       have hfb:Fp [] W0 wB:=(HT8.out.onto ((HT1.out.onto HFP.out (a1x _) (by intro i hi;right;simp at hi;omega)).trans hf8 (by simp)) (a1x _) (by simp))
       obtain⟨b2,o2,n2,c2,hq1,hq2,hq3,hq4⟩:=hqb.ex;have hn2:n2=r.length+1:=hq4.len
       have hxS:xq≠S:=by
        intro e;rw[e,hsb] at hq1;cases hq1
       have hqB:xq≠B:=hhb.noB hqb;have HSB:=a0z hsb;have HHB:=a0z hhb;have HQB:=a0z hq1;have HQ4:=a0z hq4;have HFB:=a0z hfb;have HQX1:=a0z hqb
       have s0:∀w',Fp [xq] wB w'→w'.cell? ⟨S,0,none⟩=some (.pointer (some ⟨xq,0,none⟩))∧w'.cell? ⟨S,1,none⟩=some (.int .i64 xa):=fun w' hf=>by
        have h1:=(hf.block _ (Ab hsb) (by simpa using Ne.symm hxS)).trans hsb;exact⟨Aa h1 0,Aa h1 1⟩
       have HSC:=a0z s0;have hxw:=Ab hq1
       have z2:(1:Int)≤(n2:Int):=by omega
       have z3:(n2:Int)≤(c2:Int):=by omega
       obtain⟨n3,hn3⟩:∃n3,n2-1=n3:=⟨_,rfl⟩
       obtain⟨c3,hc3⟩:∃c3,c2-1=c3:=⟨_,rfl⟩
       clear hsb hhb hq1 hq4 hfb hqb s0 hf8
       by_cases hre:r=[]
       ·have HRE:=a0z hre
        have hn0:n3=0:=by rw[hre] at hn2;simp at hn2;omega
        have z4:¬(n3:Int)>0:=by omega
        clear hre hn2 hn0
        by_cases hci:c2=1
        ·subst hci
         obtain rfl:c3=0:=by omega
         have z5:(n2:Int)≤1:=by omega
         clear hc3
         go_upto_region 16 with(fail)
         refine F9 (fun bb w'=>Ho wB xq (.slice (some ⟨b2,o2,none⟩) n3 0) bb w') (fun _ _=>True) (by kernel_rfl) (by kernel_rfl) ⟨fun _=>Fp.drew _,(fun e=>by cases e),(fun e=>by cases e),(fun e=>by cases e)⟩ ?_
         iterate 6
          apply Bi (fun _ _ h=>h.plain ⟨by decide,fun e=>absurd e (by decide)⟩) rfl rfl rfl
          ·intro b a w hC hA K hK
           try have h6:=hA.fr 6 rfl
           try have h66:=hA.eq 0 66 rfl
           try have h68:=hA.eq 2 68 rfl
           try have h69:=hA.eq 3 69 rfl
           try have h70:=hA.eq 4 70 rfl
           obtain⟨p0,p1⟩:=HSC.out _ hC.any;simp only[Oper.wp,execOp];go_simp;exact hK _ hC trivial
         apply He (B0 (.slice (some ⟨b2,o2,none⟩) n2 1)) rfl rfl rfl
         ·intro b a w hC hA K hK;have h71:=hA.eq 5 71 rfl;obtain⟨p0,p1⟩:=HSC.out _ hC.any;have h10:=Et hC.o1 (Et hC.o2 hA.self);have p2:=Aa (((hC.pre h10).block _ hxw (by simp)).trans HQB.out) 0;simp only[a1z,a0w] at p2;have hst:Ho wB xq (.slice (some ⟨b2,o2,none⟩) n3 0) (Ap b 6) w:=hC.plain ⟨by decide,fun e=>absurd e (by decide)⟩;simp only[Oper.wp,execOp];go_simp;exact hK _ _ hst trivial rfl
         apply He (B0 (.slice (some ⟨b2,o2,none⟩) n3 0)) rfl rfl rfl
         ·intro b a w hC hA K hK;have h72:=hA.eq 6 72 rfl;have hst:Ho wB xq (.slice (some ⟨b2,o2,none⟩) n3 0) (Ap b 7) w:=hC.plain ⟨by decide,fun _=>hA.pre 6 (by kernel_rfl)⟩;simp only[Oper.wp,execOp];go_simp;exact hK _ _ hst trivial rfl
         iterate 2
          apply Bi (fun _ _ h=>h.plain ⟨by decide,fun e=>absurd e (by decide)⟩) rfl rfl rfl
          ·intro b a w hC hA K hK
           try have h67:=hA.eq 1 67 rfl
           try have h74:=hA.eq 8 74 rfl
           simp only[Oper.wp,execOp];go_simp;exact hK _ hC trivial
         apply Gw (fun _=>True) rfl rfl
         ·intro b a w hC hA K hK;have h75:=hA.eq 9 75 rfl;have h73:=hA.eq 7 73 rfl;have h1:=((hC.pre hA.self).block _ hxw (by simp)).trans HQB.out;have p2:=Aa h1 0;have f2:=Ar h1 0;have hst:=hC.store hA.self (hA.pre 7 (by kernel_rfl)) HQB.out;simp only[Oper.wp,execOp];go_simp;exact hK undef _ hst trivial trivial
         refine⟨?_,?_⟩
         ·refine⟨fun _ _ _ _ _=>trivial,?_⟩
          iterate 10 refine Cc _ ?_
          exact trivial
         ·intro w' bb hC hbb;simp only[a1u,a2x,a2u,a2w]
          iterate 6 (refine Au ?_)
          refine Az ?_;intro v6 u6;obtain rfl:=u6;refine Az ?_;intro v7 u7;obtain rfl:=u7
          iterate 2 (refine Au ?_)
          refine Az ?_;intro v10 u10;refine A6 ?_;simp only[Am,Act.put,a0v,a1w,a1v];have hps:=hC.post (hbb 10 (by simp));have HFW:=a0z hps.1;have HQW:=a0z hps.2;obtain⟨p0,p1⟩:=HSC.out _ hps.1;have p2:=Aa hps.2 0;simp only[a1z,a0w] at p2
          have HHW:Hid (Dm w' W0.heap.size B es1):=HHB.out.tf (Tf.of (base:=W0.heap.size) (D:=[]) hps.1) (a1x _) (by simp) (by simp) (by simp) (fun k hk=>by
           obtain rfl:=List.mem_singleton.1 hk;refine⟨HQX1.out.ge,hqB,fun x hx e=>?_,fun c fz e=>?_⟩
           ·have h1:=(HP1.out.map (·.1.q)).nodup_iff.2 HH.out.nd;rw[a2v,a3z] at h1;exact h1.1 (List.mem_map.2 ⟨x,hx,e.symm⟩)
           ·rw[HQB.out] at e
            cases e)
          have HOO:Hid (Ae Bz w' W0.heap.size u2 out'):=HO8.out.tf (Tf.of (base:=W0.heap.size) (D:=[]) hps.1) (by simp) (fun k hk hm=>by
           obtain rfl:=List.mem_singleton.1 hm
           rcases HO8.out.2 with⟨e,_⟩|⟨g,cap',cur,e,_,hh,_⟩
           ·rw[e] at hk;cases hk
           ·rw[e] at hk
            obtain rfl:g=k:=by simpa [Value.ownBlock] using hk
            have:=HQB.out;rw[hh] at this
            cases this)
          have HFW2:Hid (Fp [] W0 w'):=HFB.out.trans hps.1 (by intro i hi;right;rw[List.mem_singleton.1 hi];exact HQX1.out.ge);clear hC hbb hps u10;go_wp2_with (fail)
          go_roundg (Fq es1)
          case measure=>have h1:=HGG.out;have h2:=M7 HP1.out;simp only[Fq,a0u] at h2;omega
          case rel=>
           have h1:=HGG.out;have h2:=M7 HP1.out;simp only[Fq,a0u] at h2;exact⟨⟨es1,done++[⟨⟨yr,yc,yt,ys,yd,yv⟩,yp⟩],out',rfl,HHW.out,HO1.out,HOO.out,HGP.out.step HP1.out HH.out.ok HMIN.out HM8.out (Or.inl ⟨HRE.out,rfl⟩),by simp;omega,by simp;omega,by have:=HP1.out.length_eq;simp at this;omega⟩,HFW2.out⟩
        ·go_upto_region 16 with(fail)
         refine F9 (fun bb w'=>Ho wB xq (.slice (some ⟨b2,o2+7,none⟩) n3 c3) bb w') (fun _ _=>True) (by kernel_rfl) (by kernel_rfl) ⟨fun _=>Fp.drew _,(fun e=>by cases e),(fun e=>by cases e),(fun e=>by cases e)⟩ ?_
         iterate 6
          apply Bi (fun _ _ h=>h.plain ⟨by decide,fun e=>absurd e (by decide)⟩) rfl rfl rfl
          ·intro b a w hC hA K hK
           try have h6:=hA.fr 6 rfl
           try have h66:=hA.eq 0 66 rfl
           try have h68:=hA.eq 2 68 rfl
           try have h69:=hA.eq 3 69 rfl
           try have h70:=hA.eq 4 70 rfl
           obtain⟨p0,p1⟩:=HSC.out _ hC.any;simp only[Oper.wp,execOp];go_simp;exact hK _ hC trivial
         apply He (B0 (.slice (some ⟨b2,o2,none⟩) n2 c2)) rfl rfl rfl
         ·intro b a w hC hA K hK;have h71:=hA.eq 5 71 rfl;obtain⟨p0,p1⟩:=HSC.out _ hC.any;have h10:=Et hC.o1 (Et hC.o2 hA.self);have p2:=Aa (((hC.pre h10).block _ hxw (by simp)).trans HQB.out) 0;simp only[a1z,a0w] at p2;have hst:Ho wB xq (.slice (some ⟨b2,o2+7,none⟩) n3 c3) (Ap b 6) w:=hC.plain ⟨by decide,fun e=>absurd e (by decide)⟩;simp only[Oper.wp,execOp];go_simp;exact hK _ _ hst trivial rfl
         apply He (B0 (.slice (some ⟨b2,o2+7,none⟩) n3 c3)) rfl rfl rfl
         ·intro b a w hC hA K hK;have h72:=hA.eq 6 72 rfl;have hst:Ho wB xq (.slice (some ⟨b2,o2+7,none⟩) n3 c3) (Ap b 7) w:=hC.plain ⟨by decide,fun _=>hA.pre 6 (by kernel_rfl)⟩;simp only[Oper.wp,execOp];go_simp;exact hK _ _ hst trivial rfl
         iterate 2
          apply Bi (fun _ _ h=>h.plain ⟨by decide,fun e=>absurd e (by decide)⟩) rfl rfl rfl
          ·intro b a w hC hA K hK
           try have h67:=hA.eq 1 67 rfl
           try have h74:=hA.eq 8 74 rfl
           simp only[Oper.wp,execOp];go_simp;exact hK _ hC trivial
         apply Gw (fun _=>True) rfl rfl
         ·intro b a w hC hA K hK;have h75:=hA.eq 9 75 rfl;have h73:=hA.eq 7 73 rfl;have h1:=((hC.pre hA.self).block _ hxw (by simp)).trans HQB.out;have p2:=Aa h1 0;have f2:=Ar h1 0;have hst:=hC.store hA.self (hA.pre 7 (by kernel_rfl)) HQB.out;simp only[Oper.wp,execOp];go_simp;exact hK undef _ hst trivial trivial
         refine⟨?_,?_⟩
         ·refine⟨fun _ _ _ _ _=>trivial,?_⟩
          iterate 10 refine Cc _ ?_
          exact trivial
         ·intro w' bb hC hbb;simp only[a1u,a2x,a2u,a2w]
          iterate 6 (refine Au ?_)
          refine Az ?_;intro v6 u6;obtain rfl:=u6;refine Az ?_;intro v7 u7;obtain rfl:=u7
          iterate 2 (refine Au ?_)
          refine Az ?_;intro v10 u10;refine A6 ?_;simp only[Am,Act.put,a0v,a1w,a1v];have hps:=hC.post (hbb 10 (by simp));have HFW:=a0z hps.1;have HQW:=a0z hps.2;obtain⟨p0,p1⟩:=HSC.out _ hps.1;have p2:=Aa hps.2 0;simp only[a1z,a0w] at p2
          have HHW:Hid (Dm w' W0.heap.size B es1):=HHB.out.tf (Tf.of (base:=W0.heap.size) (D:=[]) hps.1) (a1x _) (by simp) (by simp) (by simp) (fun k hk=>by
           obtain rfl:=List.mem_singleton.1 hk;refine⟨HQX1.out.ge,hqB,fun x hx e=>?_,fun c fz e=>?_⟩
           ·have h1:=(HP1.out.map (·.1.q)).nodup_iff.2 HH.out.nd;rw[a2v,a3z] at h1;exact h1.1 (List.mem_map.2 ⟨x,hx,e.symm⟩)
           ·rw[HQB.out] at e
            cases e)
          have HOO:Hid (Ae Bz w' W0.heap.size u2 out'):=HO8.out.tf (Tf.of (base:=W0.heap.size) (D:=[]) hps.1) (by simp) (fun k hk hm=>by
           obtain rfl:=List.mem_singleton.1 hm
           rcases HO8.out.2 with⟨e,_⟩|⟨g,cap',cur,e,_,hh,_⟩
           ·rw[e] at hk;cases hk
           ·rw[e] at hk
            obtain rfl:g=k:=by simpa [Value.ownBlock] using hk
            have:=HQB.out;rw[hh] at this
            cases this)
          have HFW2:Hid (Fp [] W0 w'):=HFB.out.trans hps.1 (by intro i hi;right;rw[List.mem_singleton.1 hi];exact HQX1.out.ge);clear hC hbb hps u10;go_wp2_with (fail)
          go_roundg (Fq es1)
          case measure=>have h1:=HGG.out;have h2:=M7 HP1.out;simp only[Fq,a0u] at h2;omega
          case rel=>
           have h1:=HGG.out;have h2:=M7 HP1.out;simp only[Fq,a0u] at h2;exact⟨⟨es1,done++[⟨⟨yr,yc,yt,ys,yd,yv⟩,yp⟩],out',rfl,HHW.out,HO1.out,HOO.out,HGP.out.step HP1.out HH.out.ok HMIN.out HM8.out (Or.inl ⟨HRE.out,rfl⟩),by simp;omega,by simp;omega,by have:=HP1.out.length_eq;simp at this;omega⟩,HFW2.out⟩
       ·have HRE:=a0z hre;have hr0:0<r.length:=List.length_pos_iff.2 hre
        have hci:¬c2=1:=by omega
        have z4:(n3:Int)>0:=by omega
        have HN2:=a0z hn2;clear hre hn2
        go_upto_region 16 with(fail)
        refine F9 (fun bb w'=>Ho wB xq (.slice (some ⟨b2,o2+7,none⟩) n3 c3) bb w') (fun _ _=>True) (by kernel_rfl) (by kernel_rfl) ⟨fun _=>Fp.drew _,(fun e=>by cases e),(fun e=>by cases e),(fun e=>by cases e)⟩ ?_
        iterate 6
         apply Bi (fun _ _ h=>h.plain ⟨by decide,fun e=>absurd e (by decide)⟩) rfl rfl rfl
         ·intro b a w hC hA K hK
          try have h6:=hA.fr 6 rfl
          try have h66:=hA.eq 0 66 rfl
          try have h68:=hA.eq 2 68 rfl
          try have h69:=hA.eq 3 69 rfl
          try have h70:=hA.eq 4 70 rfl
          obtain⟨p0,p1⟩:=HSC.out _ hC.any;simp only[Oper.wp,execOp];go_simp;exact hK _ hC trivial
        apply He (B0 (.slice (some ⟨b2,o2,none⟩) n2 c2)) rfl rfl rfl
        ·intro b a w hC hA K hK;have h71:=hA.eq 5 71 rfl;obtain⟨p0,p1⟩:=HSC.out _ hC.any;have h10:=Et hC.o1 (Et hC.o2 hA.self);have p2:=Aa (((hC.pre h10).block _ hxw (by simp)).trans HQB.out) 0;simp only[a1z,a0w] at p2;have hst:Ho wB xq (.slice (some ⟨b2,o2+7,none⟩) n3 c3) (Ap b 6) w:=hC.plain ⟨by decide,fun e=>absurd e (by decide)⟩;simp only[Oper.wp,execOp];go_simp;exact hK _ _ hst trivial rfl
        apply He (B0 (.slice (some ⟨b2,o2+7,none⟩) n3 c3)) rfl rfl rfl
        ·intro b a w hC hA K hK;have h72:=hA.eq 6 72 rfl;have hst:Ho wB xq (.slice (some ⟨b2,o2+7,none⟩) n3 c3) (Ap b 7) w:=hC.plain ⟨by decide,fun _=>hA.pre 6 (by kernel_rfl)⟩;simp only[Oper.wp,execOp];go_simp;exact hK _ _ hst trivial rfl
        iterate 2
         apply Bi (fun _ _ h=>h.plain ⟨by decide,fun e=>absurd e (by decide)⟩) rfl rfl rfl
         ·intro b a w hC hA K hK
          try have h67:=hA.eq 1 67 rfl
          try have h74:=hA.eq 8 74 rfl
          simp only[Oper.wp,execOp];go_simp;exact hK _ hC trivial
        apply Gw (fun _=>True) rfl rfl
        ·intro b a w hC hA K hK;have h75:=hA.eq 9 75 rfl;have h73:=hA.eq 7 73 rfl;have h1:=((hC.pre hA.self).block _ hxw (by simp)).trans HQB.out;have p2:=Aa h1 0;have f2:=Ar h1 0;have hst:=hC.store hA.self (hA.pre 7 (by kernel_rfl)) HQB.out;simp only[Oper.wp,execOp];go_simp;exact hK undef _ hst trivial trivial
        refine⟨?_,?_⟩
        ·refine⟨fun _ _ _ _ _=>trivial,?_⟩
         iterate 10 refine Cc _ ?_
         exact trivial
        ·intro w' bb hC hbb;simp only[a1u,a2x,a2u,a2w]
         iterate 6 (refine Au ?_)
         refine Az ?_;intro v6 u6;obtain rfl:=u6;refine Az ?_;intro v7 u7;obtain rfl:=u7
         iterate 2 (refine Au ?_)
         refine Az ?_;intro v10 u10;refine A6 ?_;simp only[Am,Act.put,a0v,a1w,a1v];have hps:=hC.post (hbb 10 (by simp));have HFW:=a0z hps.1;have HQW:=a0z hps.2;obtain⟨p0,p1⟩:=HSC.out _ hps.1;have p2:=Aa hps.2 0;simp only[a1z,a0w] at p2
         have HHW:Hid (Dm w' W0.heap.size B es1):=HHB.out.tf (Tf.of (base:=W0.heap.size) (D:=[]) hps.1) (a1x _) (by simp) (by simp) (by simp) (fun k hk=>by
          obtain rfl:=List.mem_singleton.1 hk;refine⟨HQX1.out.ge,hqB,fun x hx e=>?_,fun c fz e=>?_⟩
          ·have h1:=(HP1.out.map (·.1.q)).nodup_iff.2 HH.out.nd;rw[a2v,a3z] at h1;exact h1.1 (List.mem_map.2 ⟨x,hx,e.symm⟩)
          ·rw[HQB.out] at e
           cases e)
         have HOO:Hid (Ae Bz w' W0.heap.size u2 out'):=HO8.out.tf (Tf.of (base:=W0.heap.size) (D:=[]) hps.1) (by simp) (fun k hk hm=>by
          obtain rfl:=List.mem_singleton.1 hm
          rcases HO8.out.2 with⟨e,_⟩|⟨g,cap',cur,e,_,hh,_⟩
          ·rw[e] at hk;cases hk
          ·rw[e] at hk
           obtain rfl:g=k:=by simpa [Value.ownBlock] using hk
           have:=HQB.out;rw[hh] at this
           cases this)
         have HFW2:Hid (Fp [] W0 w'):=HFB.out.trans hps.1 (by intro i hi;right;rw[List.mem_singleton.1 hi];exact HQX1.out.ge);clear hC hbb hps u10
         have hqr:Ib w' W0.heap.size xq r:=by
          have hn2:=HN2.out;refine⟨HQX1.out.ge,b2,o2+7,n3,c3,HQW.out,by omega,hq3,?_⟩
          have h1:=(HQ4.out.drop 1 n3 (by omega))
          rw[List.drop_one,List.tail_cons] at h1;exact h1.fpS HFW.out (by have:=HQX1.out.ge;simp;omega)
         have hnew:xq∉es1.map (·.1.q):=by
          have h1:=(HP1.out.map (·.1.q)).nodup_iff.2 HH.out.nd;rw[a2v,a3z] at h1;exact h1.1
         have HPU:=a0z (fB w' W0.heap.size B es1 (⟨xq,xa⟩,r) HHW.out HO1.out hqr (by show 0<r.length;omega) (fun z hz=>HH.out.ok _ (HP1.out.mem_iff.1 a0x) z (a2z _ hz)) hnew HFW2.out.size (by have:=HP1.out.length_eq;simp at this;omega));unfold Qg at HPU;simp only at HPU;clear hqr hnew;go_wp2_with (fail);(with_reducible refine HPU.out.mono ?_);rintro e wD ⟨rfl,es2,hp2,hon2,hh2,ht2⟩;have HP2:=a0z hp2;have HO2:=a0z hon2;have HH2:=a0z hh2;have HFD:=a0z (ht2.onto HFW2.out (a1x _) (by intro i hi;right;simp at hi;omega))
         have HOD:Hid (Ae Bz wD W0.heap.size u2 out'):=HOO.out.tf ht2 (by decide) (fun k hk hm=>by
          obtain rfl:=List.mem_singleton.1 hm;obtain⟨v1,h1,_⟩:=HHW.out.box
          rcases HOO.out.2 with⟨e,_⟩|⟨g,cap',cur,e,_,hh,_⟩
          ·rw[e] at hk;cases hk
          ·rw[e] at hk
           obtain rfl:g=k:=by simpa [Value.ownBlock] using hk
           rw[hh] at h1
           cases h1)
         clear hp2 hon2 hh2 ht2;go_wp2_with (fail)
         go_roundg (Fq es2)
         case measure=>
          have h1:=HGG.out;have h2:=M7 HP1.out;simp only[Fq,a0u] at h2;have h3:=M7 HP2.out;simp only[Fq] at h3;omega
         case rel=>
          have h1:=HGG.out;have h2:=M7 HP1.out;simp only[Fq,a0u] at h2;have h3:=M7 HP2.out;simp only[Fq] at h3;have h4:=HP1.out.length_eq;have h5:=HP2.out.length_eq;simp only[a0u] at h4 h5;exact⟨⟨es2,done++[⟨⟨yr,yc,yt,ys,yd,yv⟩,yp⟩],out',rfl,HH2.out,HO2.out,HOD.out,HGP.out.step HP1.out HH.out.ok HMIN.out HM8.out (Or.inr ⟨HRE.out,HP2.out⟩),by simp;omega,by simp;omega,by omega⟩,HFD.out⟩
end Go.Proofs.YtkagolpnaicdoaaGreatDoor
