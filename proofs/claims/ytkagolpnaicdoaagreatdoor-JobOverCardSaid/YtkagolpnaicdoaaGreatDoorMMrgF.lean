/-
 slices.Chunk of runs: a list's parts of so many, as the iterator hands them out. merge.Pass, of runs that are in order. merge.All, Cells, Sort.
-/
import Derived.Test.YtkagolpnaicdoaaGreatDoorMRunD
import Derived.Test.YtkagolpnaicdoaaGreatDoorMMrgH
set_option maxRecDepth 100000
set_option maxHeartbeats 8000000
open Go.Lib renaming hid→a0z
open List renaming mem_cons_of_mem→a0x,mem_cons_self→a0w,take_of_length_le→a0u,length_cons→a1x,take_append_drop→a1w,sum_append→a1v,setIfInBounds_toArray→a1u,cons_append→a2z,length_drop→a2x,getElem?_cons_zero→a2w,nil_append→a2v,map_append→a2u,getElem?_toArray→a3z,map_cons→a3x,sum_cons→a3w
open Nat renaming le_trans→a0v
open Go.IntKind renaming wrap_i64→a1z
namespace Go.Proofs.YtkagolpnaicdoaaGreatDoor
section
open Go.RowKit Go.Lib
def Q6(b o:Nat)(x:Nat × Nat):Value:=.slice (some ⟨b,o+x.1,none⟩) x.2 x.2
def encR(b o:Nat)(x:Nat × Nat):Array Value:=#[Q6 b o x]
theorem qE(base L n bs bn sz:Nat)(hsz0:0<sz)(hszm:sz<2^63)(w:World)(b o len cap:Nat)(hn:1≤n)(hbs:w.heap[bs]?=some (.cells #[.slice (some ⟨b,o,none⟩) len cap] 159 (0,0)))(hbn:w.heap[bn]?=some (.cells #[.int .i64 sz] 3 (0,0)))
  (hlc:len≤cap)(hcm:len≤1000000000)(hbsl:bs<base)(hbnl:bn<base)(hsL:bs≠L)(hnL:bn≠L)
  (S0:List Nat)(hS0:∀k∈S0,k<base∧k≠bs∧k≠bn)(J Jx:List (Nat × Nat)→World→Prop)
  (hJ:∀s A B,J s A→Fp [] A B→J s B)
  (hy:∀pre x W,(∃post,C3 sz len 0=pre++x::post)→J pre W→YieldAt Fence.wide (n-1) Tryz.prog L (encR b o x) W fun e W'=>(e=.returned (.bool true)∧J (pre++[x]) W'∧An 221 base (L::S0) W W')∨(e=.returned (.bool false)∧Jx (pre++[x]) W'))
  (h0:J [] w):
  CallsIn Fence.wide n Tryz.prog 269 #[.func (.yield L) #[] #[],.pointer (some ⟨bs,0,none⟩),.pointer (some ⟨bn,0,none⟩)] w fun e w'=>(∃v,e=.returned v)∧((∃xs,xs=C3 sz len 0∧J xs w')∨∃pre,Jx pre w'):=by
 rw[callsIn_wide];have HY:=a0z hy;have HJ:=a0z hJ;have HS0:=a0z hS0;have HBS:=a0z hbs;have HBN:=a0z hbn;clear hy hJ hS0 hbs hbn;go_enter Tryz.func269,Tryz.ntmps269;go_wp2_with (fail)
 go_loopg [4] len (fun g vi wr=>∃(i:Nat) (pre:List (Nat × Nat)),g=len-i∧(i=0∨sz≤i)∧vi=.int .i64 i∧C3 sz len 0=pre++C3 sz len i∧J pre wr∧An 221 base (L::S0) w wr)
 case atStart=>exact⟨0,[],rfl,.inl rfl,rfl,rfl,h0,An.of (Fp.refl [] _) (by simp) |>.mono (by simp)⟩
 case round=>
  obtain⟨i,pre,hg,hi0,rfl,hpre,hj,hf⟩:=hrel;have HFW:=a0z hf;have HJK:=a0z hj;clear hf hj;have hbs1:wr.heap[bs]?=some (.cells #[.slice (some ⟨b,o,none⟩) len cap] 159 (0,0)):=(HFW.out.low _ hbsl (Ab HBS.out) (by intro h;rcases List.mem_cons.1 h with h|h;exact hsL h;exact(HS0.out _ h).2.1 rfl)).trans HBS.out;have hbn1:wr.heap[bn]?=some (.cells #[.int .i64 sz] 3 (0,0)):=(HFW.out.low _ hbnl (Ab HBN.out) (by intro h;rcases List.mem_cons.1 h with h|h;exact hnL h;exact(HS0.out _ h).2.2 rfl)).trans HBN.out;have q0:wr.cell? ⟨bs,0,none⟩=some (.slice (some ⟨b,o,none⟩) len cap):=Aa hbs1 0;have HBS1:=a0z hbs1;have HBN1:=a0z hbn1;clear hbs1 hbn1
  by_cases hlt:i<len
  ·have z0:(i:Int)<(len:Int):=by omega
   have z1:(i:Int)≤(len:Int):=by omega
   have z2:(len:Int)≤(cap:Int):=by omega
   have hci:¬cap=i:=by omega
   rw[Nj hlt hsz0] at hpre
   obtain⟨m,hm⟩:∃m,min sz (len-i)=m:=⟨_,rfl⟩
   have hmin:min (sz:Int) ((len-i:Nat):Int)=(m:Int):=by omega
   have hm0:0<m:=by omega
   rw[hm] at hpre;have HSP:=a0z hpre
   obtain⟨d,hd⟩:∃d,len-i=d:=⟨_,rfl⟩
   rw[hd] at hmin
   obtain⟨e2,he2⟩:∃e2,i+m=e2:=⟨_,rfl⟩
   have n1:IntKind.i64.wrap ((i:Int)+(m:Int))=(e2:Int):=by rw[a1z];omega
   have z3:(e2:Int)≤(cap:Int):=by omega
   have z4:(i:Int)≤(e2:Int):=by omega
   have hde:e2-i=m:=by omega
   have hei:¬e2=i:=by omega
   have n2:IntKind.i64.wrap ((i:Int)+(sz:Int))=((i+sz:Nat):Int):=by rw[a1z];omega
   obtain⟨j,hj2⟩:∃j,i+sz=j:=⟨_,rfl⟩
   rw[hj2] at n2;have HG:=a0z hg;have HE2:=a0z he2;have HJJ:=a0z hj2;clear hg hi0 hpre hm he2 hj2;go_wp2_with (fail);refine Dy (by kernel_rfl) (by kernel_rfl) ?_
   iterate 7
    apply A9 rfl rfl rfl
    ·intro a w hC hA K hK
     try have h2:=hA.fr 2 rfl
     try have h1:=hA.fr 1 rfl
     try have h4:=hA.fr 4 rfl
     try have h14:=hA.eq 1 14 rfl
     try have h15:=hA.eq 2 15 rfl
     try have h16:=hA.eq 3 16 rfl
     try have h13:=hA.eq 0 13 rfl
     try have h17:=hA.eq 4 17 rfl
     try have h18:=hA.eq 5 18 rfl
     have r0:=Aa ((hC.block _ (Ab HBS1.out) (by simp)).trans HBS1.out) 0;have r1:=Aa ((hC.block _ (Ab HBN1.out) (by simp)).trans HBN1.out) 0;simp only[a3z,a2w] at r0 r1;simp only[Oper.wp,execOp];go_simp;exact hK _ hC (Fp.refl _ _)
   refine⟨?_,?_⟩
   ·repeat(first|exact trivial|refine Dj _ ?_ |refine⟨fun w1 w2 v _ hf ⟨g,h1,h2⟩=>⟨g,h1,(hf.block g (Ab h2) (by simp)).trans h2⟩,?_⟩)
   ·intro w' hC;simp only[List.reverse_cons,List.reverse_nil,a2v,a2z]
    iterate 7 (refine Aq ?_)
    refine A8 ?_;simp only[Am,Act.put,a1u,List.set_cons_succ,List.set_cons_zero];have HF1:=a0z (HFW.out.trans (An.of (hC.mono (by simp):Fp [] wr w') (by simp)) (by simp));have HJ1:=a0z (HJ.out _ _ _ HJK.out hC);have hbs2:=(hC.block _ (Ab HBS1.out) (by simp)).trans HBS1.out;have q1:w'.cell? ⟨bs,0,none⟩=some (.slice (some ⟨b,o,none⟩) len cap):=Aa hbs2 0;have HBN2:=a0z ((hC.block _ (Ab HBN1.out) (by simp)).trans HBN1.out);clear hC hbs2;obtain⟨fn,tm,asg,bd,hyl,hrd⟩:=HY.out pre (i,m) w' ⟨_,HSP.out⟩ HJ1.out;have HRD:=a0z hrd;clear hrd;unfold encR Q6 at hyl;simp only at hyl
    go_upto_region 4 with(fail)
    refine(wpIn_wide (n:=n)).1 ?_
    gi_wp2_with (fail)
    (with_reducible refine HRD.out.mono ?_);rintro e W1 (⟨rfl,hj1,hf1⟩|⟨rfl,hjx⟩)
    ·have HJ2:=a0z hj1;have HFW2:=a0z (HF1.out.trans hf1 (by intro i hi;exact hi));have r2:W1.cell? ⟨bn,0,none⟩=some (.int .i64 sz):=Aa ((HFW2.out.low _ hbnl (Ab HBN.out) (by intro h;rcases List.mem_cons.1 h with h|h;exact hnL h;exact(HS0.out _ h).2.2 rfl)).trans HBN.out) 0;clear hj1 hf1
     gi_wp2_with (fail)
     go_wp2_with (fail)
     go_roundg (len-j)
     case measure=>have:=HG.out;have:=HJJ.out;omega
     case rel=>
      refine⟨j,pre++[(i,m)],rfl,.inr (by have:=HJJ.out;omega),rfl,?_,HJ2.out,HFW2.out⟩;have h2:=HSP.out;rw[HJJ.out] at h2;rw[h2,List.append_assoc];rfl
    ·have HJX:=a0z hjx;clear hjx
     gi_wp2_with (fail)
     go_wp2_with (fail);refine bodyPost_ret (results_none rfl _ _ _) rfl ?_;exact⟨⟨_,rfl⟩,Or.inr ⟨_,HJX.out⟩⟩
  ·have z0:¬(i:Int)<(len:Int):=by omega
   rw[Uw hlt,List.append_nil] at hpre;have HP:=a0z hpre;have HG:=a0z hg;clear hpre hg hi0;go_wp2_with (fail);go_end0;refine⟨⟨_,rfl⟩,Or.inl ?_⟩;rw[HP.out];exact HJK.out
theorem qF(w:World)(sz:Nat)(hsz0:0<sz)(v:Value)(a:Option Addr)(len cap:Nat)(hv:v=.slice a len cap):Calls Tryz.prog 221 #[v,.int .i64 sz] w fun e w'=>e=.returned (.func (.func 269) #[] #[.pointer (some ⟨w.heap.size,0,none⟩),.pointer (some ⟨w.heap.size+1,0,none⟩)])∧
  w'.heap[w.heap.size]?=some (.cells #[v] 159 (0,0))∧w'.heap[w.heap.size+1]?=some (.cells #[.int .i64 sz] 3 (0,0))∧Fp [] w w':=by
 subst hv
 have z1:¬(sz:Int)<1:=by omega
 have q:((w.alloc (.cells #[.slice a len cap] 159)).alloc (.cells #[.int .i64 sz] 3)).cell? ⟨w.heap.size+1,0,none⟩=some (.int .i64 sz):=Aa (Aj (by simp) _) 0;go_enter Tryz.func221,Tryz.ntmps221;go_wp2_with (fail);go_ret;exact⟨rfl,C7 (Aj rfl _),Aj (by simp) _,(Fp.alloc _ _).alloc' _⟩
end
section
open Go.RowKit Go.Lib
def Ic(rs:List (List Ad))(x:Nat × Nat):List (List Ad):=(rs.drop x.1).take x.2
structure Ud(w:World)(base:Nat)(rs:List (List Ad))(pre:List (Nat × Nat))(W:World):Prop where
 ex:∃v out,W.heap[w.heap.size]?=some (.cells #[v] 159 (0,0))∧E3 W base v out∧C9 (fun x r=>B7 (Ic rs x).flatten r) pre out
 fp:Fp [] w W
theorem Ud.on{w A B:World}{base:Nat}{rs:List (List Ad)}{pre:List (Nat × Nat)}{S:List Nat}(h:Ud w base rs pre A)(hf:Fp S A B)(hS:∀k∈S,w.heap.size<k∧k<base):Ud w base rs pre B:=by
 obtain⟨v,out,hv,ho,ha⟩:=h.ex;exact⟨⟨v,out,(hf.block _ (Ab hv) fun hm=>by have:=hS _ hm;omega).trans hv,ho.fp hf fun k hk=>(hS k hk).2,ha⟩,h.fp.trans hf fun k hk=>Or.inr (by have:=hS k hk;omega)⟩
theorem qG(l:List Nat)(k:Nat):(l.take k).sum≤l.sum:=by
 have h:(l.take k++l.drop k).sum=l.sum:=by rw[a1w]
 rw[a1v] at h;omega
theorem qH(l:List Nat)(k:Nat):(l.drop k).sum≤l.sum:=by
 have h:(l.take k++l.drop k).sum=l.sum:=by rw[a1w]
 rw[a1v] at h;omega
theorem qI(rs:List (List Ad))(x:Nat × Nat):((Ic rs x).map (·.length)).sum≤(rs.map (·.length)).sum:=by
 unfold Ic;rw[List.map_take,List.map_drop];exact a0v (qG _ _) (qH _ _)
theorem cQ{rs:List (List Ad)}{x:Nat × Nat}{r:List Ad}(h:r∈Ic rs x):r∈rs:=List.mem_of_mem_drop (List.mem_of_mem_take h)
def cR(a:Option Addr)(b o n cap m c1 c2:Nat)(x:Nat × Nat):Act:={tmps:=#[.slice a n cap,.int .i64 m,undef,undef,.pointer (some ⟨c1,0,none⟩),.int .i64 0,Q6 b o x,.bool false,.int .i64 m,.bool false,.bool false,.slice a n cap,.bool true,.bool false,.slice a n cap,.int .i64 m,.func (.func 269) #[] #[.pointer (some ⟨c2,0,none⟩),.pointer (some ⟨c2+1,0,none⟩)],Q6 b o x,undef,undef,undef,undef,undef,undef],defers:=[]}
attribute [local go_sem] Oper.semAt_some
theorem qJ(w:World)(a:Option Addr)(n cap m:Nat)(rs0:List (List Ad))(h:Gt w a n rs0)(hr:∀r∈rs0,Ds r∧B8 r∧r.length≤1000000)(hn:n≤900000)(htot:(rs0.map (·.length)).sum≤1000000)(hlc:n≤cap)(hm0:2≤m)(hm:m<2^63)(h0:0<n):
  Calls Tryz.prog 143 #[.slice a n cap,.int .i64 m] w fun e w'=>∃v rs,e=.returned (.tuple #[v,.int .i64 0])∧E3 w' w.heap.size v rs∧C9 (fun x r=>B7 (Ic rs0 x).flatten r) (C3 m n 0) rs∧Fp [] w w':=by
 have HFN:=a0z (fun w v a len cap (hv:v=.slice a len cap)=>qF w m (by omega) v a len cap hv);have HSO:=a0z (fun w (h:Gt w a n rs0)=>eX w a n cap rs0 h hr (by omega));have HL:=a0z h;have HRR:=a0z hr;have HTO:=a0z htot;have hln:n=rs0.length:=h.len
 obtain⟨b,o,rfl,hb1,hb0⟩:∃b o,a=some ⟨b,o,none⟩∧b<w.heap.size∧True:=by
  rcases h.cells with h|⟨b,o,h1,h2,_⟩
  ·rw[h] at hln;simp at hln;omega
  ·exact⟨b,o,h1,h2,trivial⟩
 have HLN:=a0z hln;have HLC:=a0z hlc;clear h hr htot hln hlc hb0
 have z1:¬(m:Int)<2:=by omega
 rw[←callsIn_wide (n:=5)];refine callsIn_of_wp_marks Tryz.func143 rfl trivial ?_ rfl;simp only[Tryz.ntmps143,List.size_toArray,a1x,List.length_nil,Nat.reduceAdd,Nat.reduceSub,Array.replicate_succ,Array.replicate_zero,List.push_toArray,List.append_toArray,a2v,a2z]
 gi_wp2_with (fail)
 refine⟨trivial,?_⟩;(with_reducible refine((callsIn_wide (n:=4)).2 (HSO.out _ (HL.out.fp (Fp.alloc _ _)))).mono ?_);rintro e w1 ⟨rfl,hf1⟩;have HL0:=a0z ((hf1.block _ (by simp) (by simp)).trans (Aj rfl _):w1.heap[w.heap.size]?=some (.cells #[.slice none 0 0] 159 (0,0)));have HF1:Hid (Fp [] w w1):=(Fp.alloc _ _).trans hf1 (by simp);clear hf1
 gi_wp2_with (fail)
 refine⟨trivial,?_⟩;(with_reducible refine((callsIn_wide (n:=4)).2 (HFN.out _ _ _ _ _ rfl)).mono ?_);rintro e w2 ⟨rfl,hbs,hbn,hf2⟩;have HBS:=a0z hbs;have HBN:=a0z hbn;have HF2:=a0z hf2;clear hbs hbn hf2
 gi_wp2_with (fail)
 have hz1:w.heap.size<w1.heap.size:=Ab HL0.out;have hz2:w1.heap.size+1<w2.heap.size:=Ab HBN.out
 refine Rq (α:=Nat × Nat) (encs:=encR b o) rfl (enters_of Tryz.func269 (by kernel_rfl) rfl) (fun _=>rfl) 221 [w.heap.size] [] (by simp;omega) (by simp) (w1.heap.size) (by omega) 0
  (fun pre x=>∃post,C3 m n 0=pre++x::post) (Ud w (w2.heap.size+2) rs0) (fun _ _=>False) (fun xs _=>xs=C3 m n 0)
  (fun _=>True) (fun s A B k h hf hk=>h.on hf (by simp;omega)) (fun s A B h hf _=>h.on hf (by simp;omega)) (fun _ _ _ h _=>h) (fun _ _ _ h _=>h) ?_ ?_ (fun x a' _=>a'=cR (some ⟨b,o,none⟩) b o n cap m w.heap.size w1.heap.size x) (fun _ _ _ _ h _=>h) ?_ ?_ ?_ (fun _ _ h=>h.elim)
 ·intro J Jx W1 hf1 hsz1 hJ hY hJ0;exact qE (w2.heap.size+2) (w2.heap.size+1) (5-1) w1.heap.size (w1.heap.size+1) m (by omega) hm W1 b o n cap (by decide) ((hf1.block _ (by omega) (by simp)).trans HBS.out) ((hf1.block _ (by omega) (by simp)).trans HBN.out) HLC.out (by omega) (by omega) (by omega) (by omega) (by omega) [w.heap.size] (by intro k hk;simp only[List.mem_cons,List.not_mem_nil,or_false] at hk;omega) J Jx (fun s A B h hf=>hJ s A B h (hf.mono (by simp)) trivial) hY hJ0
 ·exact⟨⟨.slice none 0 0,[],(HF2.out.block _ hz1 (by simp)).trans HL0.out,E3.nil _ _,.nil⟩,HF1.out.trans HF2.out (by simp)⟩
 ·intro l x W K hW hK;simp only[encR]
  gi_wp2_with (fail)
  exact hK _ _ (Fp.refl _ _) rfl
 ·rintro l' pre ⟨xi,xm⟩ a' W ⟨post,hpost⟩ hI hW rfl;have hx:=X0 m n 0 (xi,xm) (by rw[hpost];simp);obtain⟨hx1,hx2,hx3⟩:=hx;simp only at hx1 hx2 hx3;obtain⟨v,rs,hv,ho,ha⟩:=hI.ex;have hrl:rs.length=pre.length:=ha.length_eq.symm
  have hpl:pre.length+1≤1000000000:=by
   have h1:=Ux m n 0;rw[hpost,List.length_append,a1x] at h1;omega
  have HRE:=a0z (fun w2' (h:Fp [] w w2')=>qQ w2' (some ⟨b,o+xi,none⟩) xm xm (Ic rs0 (xi,xm)) (((HL.out.fp h).drop xi (n-xi) (by omega)).take xm (by omega)) (fun r hr=>HRR.out r (cQ hr)) (by omega) (a0v (qI _ _) HTO.out));have HI:=a0z hI;have HV:=a0z hv;have HO:=a0z ho;have HA:=a0z ha;have hW:w2.heap.size+2≤W.heap.size:=hW;clear hI hv ho ha hpost;unfold cR Q6;simp only
  gi_wp2_with (fail)
  refine Rt (Et (fun r=>B7 (Ic rs0 (xi,xm)).flatten r) w W (w2.heap.size+2) w.heap.size v rs) (fun _ _=>True) (by kernel_rfl) (by kernel_rfl) (by kernel_rfl) (fun _=>Et.start HO.out HV.out HI.out.fp hW (by omega)) ?_;apply Cc (fun _ _ _ h _=>h.plain (by decide)) rfl rfl rfl
  ·intro b a w hC hA K hK;have h4:=hA.fr 4 rfl;have q0:=Aa (hC.first (hA.post 4 (by kernel_rfl))) 0;simp only[a3z,a2w] at q0;simp only[Oper.wp,execOp];go_simp;exact hK _ hC trivial
  apply Cc (fun _ _ _ h _=>h.plain (by decide)) rfl rfl rfl
  ·intro b a w hC hA K hK;have h6:=hA.fr 6 rfl;simp only[Oper.wp,execOp];go_simp;exact hK _ hC trivial
  apply Dv (fun _ _=>True) rfl rfl rfl
  ·intro b a w hC hA K hK;have h19:=hA.eq 1 19 rfl;simp only[Oper.wp,execOp];go_simp;(with_reducible refine(HRE.out _ hC.fp).mono ?_);rintro e w3 ⟨vr,r,rfl,hr,ho3,hf3⟩;exact hK _ _ (hC.call hA.self hf3 hr ho3) trivial trivial
  apply Dv (fun _ _=>True) rfl rfl rfl
  ·intro b a w hC hA K hK;have h20:=hA.dep 2 20 _ (by kernel_rfl) rfl;obtain⟨r,hg,hr⟩:=hC.res (hA.pre 2 (by kernel_rfl)) (hA.post 4 (by kernel_rfl));obtain⟨a2,c2,e2,-,-⟩:=hr.len;have hv:=hA.val 2 20 (by kernel_rfl);rw[e2] at hv;have hst:=hC.build (hA.pre 2 (by kernel_rfl)) hA.self;rw[e2] at hst;simp only[Oper.wp,execOp];go_simp;exact hK _ _ hst trivial trivial
  apply Dv (fun _ _=>True) rfl rfl rfl
  ·intro b a w hC hA K hK;have h18:=hA.eq 0 18 rfl;have h21:=hA.dep 3 21 _ (by kernel_rfl) rfl;obtain⟨g,hg1,hg2⟩:=hC.bld (hA.pre 3 (by kernel_rfl)) hA.self;obtain⟨r,hg,hr⟩:=hC.res (hC.o32 (hA.pre 3 (by kernel_rfl))) hA.self;obtain⟨a2,c2,e2,-,-⟩:=hr.len;refine eT (.tmp 18) (.tmp 21) rfl _ v rs (F5 h18) (hC.own0 hA.self) g _ r (by rw[e2];rfl) hr (F5 ((hA.val 3 21 (by kernel_rfl)).trans hg1)) hg2 (by omega) hC.sz ?_;intro v' w' h1 h2 h3;exact hK _ _ (hC.append (hA.pre 3 (by kernel_rfl)) hA.self hg h1 h2 h3 (by omega) (by omega)) trivial trivial
  apply I8 (fun _=>True) rfl rfl rfl
  ·intro b a w hC hA K hK;have h4:=hA.fr 4 rfl;have h22:=hA.dep 4 22 _ (by kernel_rfl) rfl;obtain⟨a2,n2,c2,e2⟩:=hC.slice (hA.pre 4 (by kernel_rfl));have hv:=(hA.val 4 22 (by kernel_rfl)).trans e2;have hst:=hC.store (hA.pre 4 (by kernel_rfl)) (by omega) (Nat.le_refl _);rw[e2] at hst;have f0:=Aw hC.cel 0;have q0:=Aa hC.cel 0;simp only[Oper.wp,execOp];go_simp;exact hK undef _ hst trivial trivial
  refine⟨?_,?_⟩
  ·refine⟨fun _ _ _ _ _=>trivial,?_⟩;refine⟨fun _ _ _ _ _=>trivial,?_⟩;refine⟨fun _ _ _ _ _=>trivial,?_⟩;refine⟨fun _ _ _ _ _=>trivial,?_⟩;refine E2 _ ?_;refine E2 _ ?_;exact trivial
  ·intro w' bb hbb;simp only[List.reverse_cons,List.reverse_nil,a2v,a2z]
   iterate 2 (refine Aq ?_)
   refine Av ?_;intro v2 u2;refine Av ?_;intro v3 u3;refine Av ?_;intro v4 u4;refine Av ?_;intro v5 u5;refine A8 ?_;intro hC;simp only[Am,Act.put,a1u,List.set_cons_succ,List.set_cons_zero]
   gi_wp2_with (fail)
   have hcel:=hC.cel;rw[hbb 5 (by simp)] at hcel;obtain⟨r,hr,ho5⟩:=hC.own1 (hbb 4 (by simp));exact⟨hC.kept,⟨⟨_,_,hcel,ho5,Rw HA.out hr⟩,hC.fp⟩⟩
 ·rintro xs W rfl hI hK;obtain⟨v,rs,hv,ho,ha⟩:=hI.ex;obtain⟨va,vn,vc,rfl⟩:=ho.slice;have HI:=a0z hI;have HK:=a0z hK;have HA:=a0z ha;have q0:W.cell? ⟨w.heap.size,0,none⟩=some (.slice va vn vc):=Aa hv 0;have f0:W.frozen? ⟨w.heap.size,0,none⟩=false:=Aw hv 0;have HV:=a0z hv;have HO:=a0z ho;clear hI hK hv ho ha
  gi_wp2_with (fail)
  have hf5:Fp [w.heap.size] W (W.setCell ⟨w.heap.size,0,none⟩ (.slice va vn vc)):=Fp.setCell W ⟨w.heap.size,0,none⟩ (.slice va vn vc);have h4:(W.setCell ⟨w.heap.size,0,none⟩ (.slice va vn vc)).heap[w.heap.size]?=some (.cells #[.slice va vn vc] 159 (0,0)):=(Bt HV.out _).trans rfl
  obtain⟨wa,hwa⟩:∃wa,W.setCell ⟨w.heap.size,0,none⟩ (.slice va vn vc)=wa:=⟨_,rfl⟩
  rw[hwa] at hf5 h4 ⊢;have hk2:wa.heap[w2.heap.size]?=some (.deferred (some [])):=(hf5.block _ (Ab HK.out) (by simp;omega)).trans HK.out;have hp:=Fp.putObj wa w2.heap.size (.deferred none);refine⟨by simp,.inl ⟨_,_,rfl,run_takeDeferred hk2,?_⟩⟩;have c0:(wa.putObj w2.heap.size (.deferred none)).cell? ⟨w.heap.size,0,none⟩=some (.slice va vn vc):=Aa ((hp.block _ (Ab h4) (by simp;omega)).trans h4) 0;have hoo:=(HO.out.fp hf5 (by simp;omega)).fp hp (by simp);refine⟨.tuple #[.slice va vn vc,.int .i64 0],by simp[results,Tryz.results143,go_sem,c0],.slice va vn vc,rs,rfl,?_,HA.out,((HI.out.fp.trans hf5 (by intro i hi;right;simp at hi;omega)).trans hp (by intro i hi;right;simp at hi;omega))⟩;exact hoo.mono (by omega)
end
section
open Go.RowKit Go.Lib
theorem Xg(sz len s:Nat)(hs:0<sz)(i:Nat)(h1:s≤i)(h2:i<len):∃x∈C3 sz len s,x.1≤i∧i<x.1+x.2:=by
 rw[Nj (show s<len by omega) hs]
 by_cases h:i<s+sz
 ·exact⟨_,a0w,h1,by show i<s+min sz (len-s);omega⟩
 ·obtain⟨x,hx,h3⟩:=Xg sz len (s+sz) hs i (by omega) h2;exact⟨x,a0x _ hx,h3⟩
 termination_by len-s
theorem cS(sz len s:Nat)(hs:2≤sz):(C3 sz len s).length≤(len-s+1)/2:=by
 by_cases h:s<len
 ·rw[Nj h (by omega),a1x];have:=cS sz len (s+sz) hs;omega
 ·rw[Uw h];simp
 termination_by len-s
theorem cT{α:Type}{x:α}{l:List α}(h:x∈l):∃s t,l=s++x::t:=List.append_of_mem h
theorem cU{α:Type}:∀{r l:List α},r.Nodup→(∀x∈r,x∈l)→r.length≤l.length
 |[],_,_,_=>Nat.zero_le _
 |x::r,l,hn,hs=>by
  obtain⟨s,t,rfl⟩:=cT (hs x a0w);have h1:=List.nodup_cons.1 hn
  have:=cU (r:=r) (l:=s++t) h1.2 fun y hy=>by
   have h2:=hs y (a0x _ hy);rw[List.mem_append,List.mem_cons] at h2;rw[List.mem_append]
   rcases h2 with h2|h2|h2
   ·exact Or.inl h2
   ·exact absurd (h2▸hy) h1.1
   ·exact Or.inr h2
  simp at this ⊢;omega
theorem Ds.nodup{r:List Ad}(hok:B8 r)(h:Ds r):r.Nodup:=by
 induction r with
 |nil=>exact List.nodup_nil
 |cons x r ih=>exact List.nodup_cons.2 ⟨h.irr (hok x a0w),ih (fun y hy=>hok y (a0x _ hy)) (List.pairwise_cons.1 h).2⟩
theorem B7.len{all r:List Ad}(hok:B8 all)(h:B7 all r):r.length≤all.length:=cU (h.ris.nodup fun x hx=>hok x (h.sub x hx)) h.sub
theorem qK(rs:List (List Ad)):rs.flatten.length=(rs.map (·.length)).sum:=by
 induction rs with
 |nil=>rfl
 |cons x r ih=>rw[List.flatten_cons,List.length_append,ih];rfl
theorem cV(rs:List (List Ad))(sz:Nat):∀(fuel s:Nat),rs.length-s≤fuel→((C3 sz rs.length s).map fun x=>((Ic rs x).map (·.length)).sum).sum≤((rs.drop s).map (·.length)).sum
 |0,s,h=>by rw[Uw (by omega)];simp
 |fuel+1,s,h=>by
  by_cases hs:s<rs.length∧0<sz
  ·rw[Nj hs.1 hs.2,a3x,a3w];have ih:=cV rs sz fuel (s+sz) (by omega)
   have e:((rs.drop s).map (·.length)).sum=(((rs.drop s).take sz).map (·.length)).sum+((rs.drop (s+sz)).map (·.length)).sum:=by
    rw[←a1v,←a2u];congr 2;rw[←List.drop_drop,a1w]
   have e2:Ic rs (s,min sz (rs.length-s))=(rs.drop s).take sz:=by
    unfold Ic;simp only
    rcases Nat.le_total sz (rs.length-s) with h1|h1
    ·rw[Nat.min_eq_left h1]
    ·rw[Nat.min_eq_right h1,a0u (by rw[a2x];exact Nat.le_refl _),a0u (by rw[a2x];exact h1)]
   rw[e2,e];omega
  ·rw[C3,if_neg hs];simp
theorem cW{P:Nat × Nat→List Ad→Prop}{f:Nat × Nat→Nat}{l:List (Nat × Nat)}{m:List (List Ad)}(h:C9 P l m)(hp:∀x r,P x r→r.length≤f x):(m.map (·.length)).sum≤(l.map f).sum:=by
 induction h with
 |nil=>exact Nat.le_refl _
 |cons h _ ih=>
  simp only[a3x,a3w];have:=hp _ _ h;omega
theorem C9.memR{α β:Type}{P:α→β→Prop}{l:List α}{m:List β}(h:C9 P l m){r:β}(hr:r∈m):∃x∈l,P x r:=by
 induction h with
 |nil=>cases hr
 |cons hp _ ih=>
  rcases List.mem_cons.1 hr with e|e
  ·rw[e];exact⟨_,a0w,hp⟩
  ·obtain⟨x,h1,h2⟩:=ih e;exact⟨x,a0x _ h1,h2⟩
theorem C9.memL{α β:Type}{P:α→β→Prop}{l:List α}{m:List β}(h:C9 P l m){x:α}(hx:x∈l):∃r∈m,P x r:=by
 induction h with
 |nil=>cases hx
 |cons hp _ ih=>
  rcases List.mem_cons.1 hx with e|e
  ·rw[e];exact⟨_,a0w,hp⟩
  ·obtain⟨r,h1,h2⟩:=ih e;exact⟨r,a0x _ h1,h2⟩
theorem Jj.ok{all:List Ad}{rs:List (List Ad)}(h:Jj all rs)(ho:B8 all):∀r∈rs,B8 r:=fun r hr x hx=>ho x (h.sub r hr x hx)
theorem Jj.pass{all:List Ad}{rs out:List (List Ad)}{m:Nat}(ho:B8 all)(h:Jj all rs)(hm:0<m)(ha:C9 (fun x r=>B7 (Ic rs x).flatten r) (C3 m rs.length 0) out):
  Jj all out∧(out.map (·.length)).sum≤(rs.map (·.length)).sum:=by
 have hsub:∀x z,z∈(Ic rs x).flatten→z∈all:=fun x z hz=>by
  obtain⟨r0,h0,h1⟩:=List.mem_flatten.1 hz;exact h.sub r0 (cQ h0) z h1
 refine⟨⟨fun r hr=>?_,fun r hr z hz=>?_,fun y hy=>?_⟩,?_⟩
 ·obtain⟨x,_,h1⟩:=ha.memR hr;exact h1.ris
 ·obtain⟨x,_,h1⟩:=ha.memR hr;exact hsub x z (h1.sub z hz)
 ·obtain⟨r0,hr0,z,hz,hs,hp⟩:=h.cov y hy;obtain⟨i,hi,e⟩:=List.mem_iff_getElem.1 hr0;obtain⟨x,hx,h1,h2⟩:=Xg m rs.length 0 hm i (Nat.zero_le _) hi;obtain⟨r,hr,hres⟩:=ha.memL hx
  have hzf:z∈(Ic rs x).flatten:=by
   refine List.mem_flatten.2 ⟨r0,?_,hz⟩;unfold Ic;refine List.mem_iff_getElem.2 ⟨i-x.1,?_,?_⟩
   ·rw[List.length_take,a2x];omega
   ·rw[List.getElem_take,List.getElem_drop]
    have:x.1+(i-x.1)=i:=by omega
    simp only[this];exact e
  obtain⟨z2,hz2,hs2,hp2⟩:=hres.cover z hzf;exact⟨r,hr,z2,hz2,Ti hs2 hs,a0v hp hp2⟩
 ·have h1:=cW (f:=fun x=>((Ic rs x).map (·.length)).sum) ha fun x r hr=>by
   have:=hr.len fun z hz=>ho z (hsub x z hz)
   rw[qK] at this;exact this
  have h2:=cV rs m rs.length 0 (by omega);rw[List.drop_zero] at h2;exact a0v h1 h2
theorem qL{rs:List (List Ad)}{r:List Ad}(h:r∈rs):r.length≤(rs.map (·.length)).sum:=by
 obtain⟨s,t,rfl⟩:=cT h;rw[a2u,a1v,a3x,a3w];omega
theorem Bn.one{W:World}{g:Nat}{c:Ac}(h:W.heap[g]?=some (.cells #[.string c.row,.string c.col,.int .u64 c.ts,.int .u64 c.seq,.bool c.del,.string c.val] 80 (0,0)))(hok:Dm c):Bn W (some ⟨g,0,none⟩) 1 [c]:=by
 refine⟨rfl,Or.inr ⟨g,0,rfl,Ab h,fun i hi=>?_⟩,by intro x hx;rw[List.mem_singleton.1 hx];exact hok⟩
 have:i=0:=by simpa using hi
 subst this;exact⟨Aa h 0,Aa h 1,Aa h 2,Aa h 3,Aa h 4,Aa h 5⟩
structure qM(w:World)(all:List Ad)(n0:Nat)(v:Value)(g k:Nat)(W:World):Prop where
 ex:∃a n cap rs,v=.slice a n cap∧g=n∧n≤cap∧Gt W a n rs∧Jj all rs∧0<n∧k+n≤n0∧(rs.map (·.length)).sum≤1000000
 fp:Fp [] w W
theorem Jj.form{all:List Ad}{rs:List (List Ad)}(h:Jj all rs)(ho:B8 all)(hs:(rs.map (·.length)).sum≤1000000):∀r∈rs,Ds r∧B8 r∧r.length≤1000000:=fun r hr=>⟨h.ris r hr,h.ok ho r hr,a0v (qL hr) hs⟩
theorem qN(w:World)(a:Option Addr)(n cap m:Nat)(all:List Ad)(rs:List (List Ad))(h:Gt w a n rs)(hro:Jj all rs)(ho:B8 all)(hn:n≤900000)(htot:(rs.map (·.length)).sum≤1000000)(hlc:n≤cap)(hm0:2≤m)(hm:m<2^63)(h0:0<n):
  Calls Tryz.prog 86 #[.slice a n cap,.int .i64 m] w fun e w'=>∃v r k,e=.returned (.tuple #[v,.int .i64 k,.int .i64 0])∧B7 all r∧Ag Bq w' w.heap.size v r∧Fp [] w w':=by
 have HP:=a0z (fun w a n cap rs h hr hn htot hlc h0=>qJ w a n cap m rs h hr hn htot hlc hm0 hm h0);have HR:=a0z h;have HRO:=a0z hro;have HOK:=a0z ho;have HTO:=a0z htot;have HLC:=a0z hlc;have HP1:=a0z (HP.out w a n cap rs h (hro.form ho htot) hn htot hlc h0);clear h hro ho htot hlc;go_enter Tryz.func86,Tryz.ntmps86;go_wp2_with (fail);(with_reducible refine HP1.out.mono ?_);rintro e w1 ⟨v1,rs1,rfl,-,-,hf1⟩;have HF1:=a0z hf1;clear hf1 HP1;go_wp2_with (fail)
 go_loopg [0,5] n (fun g v vk wr=>∃k:Nat,vk=.int .i64 k∧qM w all n v g k wr)
 case atStart=>exact⟨0,rfl,⟨a,n,cap,rs,rfl,rfl,HLC.out,HR.out.fp HF1.out,HRO.out,h0,by omega,HTO.out⟩,HF1.out⟩
 case round=>
  obtain⟨k,rfl,hrel⟩:=hrel;obtain⟨a2,n2,cap2,rs2,rfl,hg,hc2,hr2,hro2,h02,hk,hs2⟩:=hrel.ex;have HFP:=a0z hrel.fp;have HR2:=a0z hr2;have HRO2:=a0z hro2;have HG:=a0z hg;have hl2:n2=rs2.length:=hr2.len;have HL2:=a0z hl2;have HS2:=a0z hs2;clear hrel hr2 hro2 hg hl2
  by_cases h1:1<n2
  ·have z1:(n2:Int)>1:=by omega
   have HPP:=a0z (HP.out wr a2 n2 cap2 rs2 HR2.out (HRO2.out.form HOK.out hs2) (by omega) hs2 hc2 h02)
   have n1:IntKind.i64.wrap ((k:Int)+1)=((k+1:Nat):Int):=by rw[a1z];omega
   clear hs2;go_wp2_with (fail);(with_reducible refine HPP.out.mono ?_);rintro e w3 ⟨v3,rs3,rfl,ho3,ha3,hf3⟩;rw[HL2.out] at ha3;obtain⟨a3,c3,rfl,hc3,hno3,hr3⟩:=ho3.at;have hpass:=HRO2.out.pass HOK.out (by omega) ha3;have hl3:rs3.length=(C3 m rs2.length 0).length:=ha3.length_eq.symm;have hh:=cS m rs2.length 0 hm0
   have hpos:0<(C3 m rs2.length 0).length:=by
    have:=HL2.out;rw[Nj (by omega) (by omega)];simp
   have H1:=a0z hpass;have H2:=a0z hr3;have H3:=a0z hf3;have H4:=a0z hc3
   have H5:Hid (0<rs3.length∧rs3.length<n2):=by
    have:=HL2.out;show 0<rs3.length∧rs3.length<n2;omega
   clear hpass hr3 hf3 hc3 ha3 ho3 hl3 hh hpos hno3;go_wp2_with (fail)
   go_roundg rs3.length
   case measure=>have:=HG.out;have:=H5.out;omega
   case rel=>exact⟨k+1,by simp,⟨a3,_,c3,rs3,rfl,rfl,H4.out,H2.out,H1.out.1,H5.out.1,by have:=H5.out;omega,a0v H1.out.2 HS2.out⟩,HFP.out.trans H3.out (by simp)⟩
  ·obtain rfl:n2=1:=by omega
   have hr1:∃r,rs2=[r]:=by
    have:=HL2.out
    cases rs2 with
    |nil=>simp at this
    |cons r t=>cases t with
     |nil=>exact⟨r,rfl⟩
     |cons r2 t=>simp at this
   obtain⟨r,rfl⟩:=hr1;obtain⟨b,o,v,e,hc⟩:=HR2.out.get (i:=0) (by simp);subst e;obtain⟨q,hv⟩:=hc wr (Fp.refl _ _);obtain⟨av,nv,cv,rfl,hnc,hnone,hq⟩:=hv;rw[Nat.add_zero] at q;have hrs:=HRO2.out.one HOK.out;have hnv:nv=r.length:=hq.len
   have hrl:r.length≤1000000:=by have:=HS2.out;simp at this;omega
   have HRES:=a0z hrs;have HCL:=a0z (eZ wr av nv cv r hq hnone (by omega));clear hc hq hnone hrs hs2 hnc hnv h1;go_wp2_with (fail);(with_reducible refine HCL.out.mono ?_);rintro e w3 ⟨v3,rfl,ho3,hf3⟩;have H1:=a0z ho3;have H2:=a0z hf3;clear ho3 hf3;go_wp2_with (fail);refine bodyPost_ret (v:=.tuple #[v3,.int .i64 k,.int .i64 0]) (by simp[results,Tryz.results86,go_sem]) rfl ?_;exact⟨v3,r,k,rfl,HRES.out,H1.out.mono HFP.out.size,HFP.out.trans H2.out (by simp)⟩
theorem cX(w:World)(a:Option Addr)(n cap:Nat)(l:List Ad)(h:Bz Bq w a n l)(hok:B8 l)(hn:n≤1000000):
  Calls Tryz.prog 87 #[.slice a n cap] w fun e w'=>∃v,e=.returned v∧A4 w' w.heap.size v (l.map (·.c))∧Fp [] w w':=by
 have HL:=a0z h;have HLN:=a0z h.len;have HOK:=a0z hok;clear h hok;go_enter Tryz.func87,Tryz.ntmps87;go_wp2_with (fail)
 go_loopg [2,7] n (fun g va vi wr=>∃(k:Nat) (v:Value),g+k=n∧v=va∧vi=.int .i64 k∧A4 wr w.heap.size v ((l.take k).map (·.c))∧Fp [] w wr)
 case atStart=>exact⟨0,_,by omega,rfl,rfl,A4.nil _ _,Fp.refl _ _⟩
 case round=>
  obtain⟨k,va,hg,rfl,rfl,ho,hf⟩:=hrel;have HO:=a0z ho;have HF:=a0z hf;clear ho hf;have hbw:w.heap.size≤wr.heap.size:=HF.out.size
  by_cases hk:k<n
  ·have zk:(k:Int)<(n:Int):=by omega
   have n1:IntKind.i64.wrap ((k:Int)+1)=((k+1:Nat):Int):=by rw[a1z];omega
   have hkl:k<l.length:=by have:=HLN.out;omega
   obtain⟨b,o,e,_,hc⟩:=HL.out.get hkl;subst e;have hx:Ja wr b (o+k*7) l[k]:=Rx (hc wr HF.out);have hox:=HOK.out _ (List.getElem_mem hkl)
   have htk:(l.take (k+1)).map (·.c)=(l.take k).map (·.c)++[l[k].c]:=by
    rw[List.take_add_one,List.getElem?_eq_getElem hkl,a2u];rfl
   obtain⟨x,hxx⟩:∃x,l[k]=x:=⟨_,rfl⟩
   rw[hxx] at hx hox htk;obtain⟨⟨xr,xc,xt,xs,xd,xv⟩,xp⟩:=x;obtain⟨q0,q1,q2,q3,q4,q5,q6⟩:=hx;simp only at q0 q1 q2 q3 q4 q5 q6;have HTK:=a0z htk;have HOX:=a0z hox.c
   have hlt:((l.take k).map (·.c)).length≤1000000:=by simp;omega
   have HLT:=a0z hlt;clear hc hxx htk hox hlt;go_wp2_with (at_builtin;(refine X8 rfl _ _ rfl w.heap.size _ ((l.take k).map (·.c)) rfl (HO.out.fp ((Fp.alloc _ _).alloc' _) (by simp)) _ _ _ [⟨xr,xc,xt,xs,xd,xv⟩] rfl (Bn.one (Aj (by simp) _) HOX.out) (fun h=>by cases h) (by have:=HLT.out;simp only[a1x,List.length_nil];omega) (by simp;omega) ?_);intro v2 w2 ho2 hb2;have HO2:=a0z ho2;have HB2:=a0z hb2;clear ho2 hb2)
   go_roundg (gk-1)
   case measure=>omega
   case rel=>exact⟨k+1,_,by omega,rfl,by simp,by rw[HTK.out];exact HO2.out,(HF.out.trans ((Fp.alloc _ _).alloc' _) (by simp)).belowTrans HB2.out⟩
  ·have zk:¬(k:Int)<(n:Int):=by omega
   have ho2:=HO.out;rw[a0u (by have:=HLN.out;omega)] at ho2;have HO2:=a0z ho2;clear ho2;go_wp2_with (fail);go_ret;exact⟨_,rfl,HO2.out,HF.out⟩
end
end Go.Proofs.YtkagolpnaicdoaaGreatDoor
