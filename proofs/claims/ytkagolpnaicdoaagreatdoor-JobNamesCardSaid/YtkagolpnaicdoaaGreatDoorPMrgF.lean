/-
 slices.Chunk of runs: a list's parts of so many, as the iterator hands them out. merge.Pass, of runs that are in order. merge.All, Cells, Sort. merge.Sort. cut: Borders.
-/
import Derived.Test.YtkagolpnaicdoaaGreatDoorPRunE
import Derived.Test.YtkagolpnaicdoaaGreatDoorPMrgH
import Derived.Test.YtkagolpnaicdoaaGreatDoorPWalB
set_option maxRecDepth 100000
set_option maxHeartbeats 8000000
open Go.Lib renaming hid→a0z
open List renaming mem_cons_of_mem→a0x,mem_cons_self→a0u,take_of_length_le→a1z,length_cons→a1x,length_drop→a1w,take_append_drop→a1v,sum_append→a1u,setIfInBounds_toArray→a2z,map_cons→a2x,sum_cons→a2w,cons_append→a2v,length_take→a2u,getElem?_eq_getElem→a3z,getElem?_cons_zero→a3x,nil_append→a3w,map_append→a3v,getElem?_toArray→a3u,mem_of_mem_drop→a4z,mem_of_mem_take→a4x
open Go.IntKind renaming wrap_i64→a0w
open Nat renaming le_trans→a0v
namespace Go.Proofs.YtkagolpnaicdoaaGreatDoor
section
open Go.RowKit Go.Lib
def R8(b o:Nat)(x:Nat × Nat):Value:=.slice (some ⟨b,o+x.1,none⟩) x.2 x.2
def encRs(b o:Nat)(x:Nat × Nat):Array Value:=#[R8 b o x]
theorem tK(base L n bs bn sz:Nat)(hsz0:0<sz)(hszm:sz<2^63)(w:World)(b o len cap:Nat)(hn:1≤n)(hbs:w.heap[bs]?=some (.cells #[.slice (some ⟨b,o,none⟩) len cap] 159 (0,0)))(hbn:w.heap[bn]?=some (.cells #[.int .i64 sz] 3 (0,0)))
  (hlc:len≤cap)(hcm:len≤1000000000)(hbsl:bs<base)(hbnl:bn<base)(hsL:bs≠L)(hnL:bn≠L)
  (S0:List Nat)(hS0:∀k∈S0,k<base∧k≠bs∧k≠bn)(J Jx:List (Nat × Nat)→World→Prop)
  (hJ:∀s A B,J s A→Fp [] A B→J s B)
  (hy:∀pre x W,(∃post,C9 sz len 0=pre++x::post)→J pre W→YieldAt Fence.wide (n-1) Tryz.prog L (encRs b o x) W fun e W'=>(e=.returned (.bool true)∧J (pre++[x]) W'∧Av 221 base (L::S0) W W')∨(e=.returned (.bool false)∧Jx (pre++[x]) W'))
  (h0:J [] w):
  CallsIn Fence.wide n Tryz.prog 269 #[.func (.yield L) #[] #[],.pointer (some ⟨bs,0,none⟩),.pointer (some ⟨bn,0,none⟩)] w fun e w'=>(∃v,e=.returned v)∧((∃xs,xs=C9 sz len 0∧J xs w')∨∃pre,Jx pre w'):=by
 rw[callsIn_wide];have HY:=a0z hy;have HJ:=a0z hJ;have HS0:=a0z hS0;have HBS:=a0z hbs;have HBN:=a0z hbn;clear hy hJ hS0 hbs hbn;go_enter Tryz.func269,Tryz.ntmps269;go_wp2_with (fail)
 go_loopg [4] len (fun g vi wr=>∃(i:Nat) (pre:List (Nat × Nat)),g=len-i∧(i=0∨sz≤i)∧vi=.int .i64 i∧C9 sz len 0=pre++C9 sz len i∧J pre wr∧Av 221 base (L::S0) w wr)
 case atStart=>exact⟨0,[],rfl,.inl rfl,rfl,rfl,h0,Av.of (Fp.refl [] _) (by simp) |>.mono (by simp)⟩
 case round=>
  obtain⟨i,pre,hg,hi0,rfl,hpre,hj,hf⟩:=hrel;have HFW:=a0z hf;have HJK:=a0z hj;clear hf hj;have hbs1:wr.heap[bs]?=some (.cells #[.slice (some ⟨b,o,none⟩) len cap] 159 (0,0)):=(HFW.out.low _ hbsl (Ab HBS.out) (by intro h;rcases List.mem_cons.1 h with h|h;exact hsL h;exact(HS0.out _ h).2.1 rfl)).trans HBS.out;have hbn1:wr.heap[bn]?=some (.cells #[.int .i64 sz] 3 (0,0)):=(HFW.out.low _ hbnl (Ab HBN.out) (by intro h;rcases List.mem_cons.1 h with h|h;exact hnL h;exact(HS0.out _ h).2.2 rfl)).trans HBN.out;have q0:wr.cell? ⟨bs,0,none⟩=some (.slice (some ⟨b,o,none⟩) len cap):=Aa hbs1 0;have HBS1:=a0z hbs1;have HBN1:=a0z hbn1;clear hbs1 hbn1
  by_cases hlt:i<len
  ·have z0:(i:Int)<(len:Int):=by omega
   have z1:(i:Int)≤(len:Int):=by omega
   have z2:(len:Int)≤(cap:Int):=by omega
   have hci:¬cap=i:=by omega
   rw[N8 hlt hsz0] at hpre
   obtain⟨m,hm⟩:∃m,min sz (len-i)=m:=⟨_,rfl⟩
   have hmin:min (sz:Int) ((len-i:Nat):Int)=(m:Int):=by omega
   have hm0:0<m:=by omega
   rw[hm] at hpre;have HSP:=a0z hpre
   obtain⟨d,hd⟩:∃d,len-i=d:=⟨_,rfl⟩
   rw[hd] at hmin
   obtain⟨e2,he2⟩:∃e2,i+m=e2:=⟨_,rfl⟩
   have n1:IntKind.i64.wrap ((i:Int)+(m:Int))=(e2:Int):=by rw[a0w];omega
   have z3:(e2:Int)≤(cap:Int):=by omega
   have z4:(i:Int)≤(e2:Int):=by omega
   have hde:e2-i=m:=by omega
   have hei:¬e2=i:=by omega
   have n2:IntKind.i64.wrap ((i:Int)+(sz:Int))=((i+sz:Nat):Int):=by rw[a0w];omega
   obtain⟨j,hj2⟩:∃j,i+sz=j:=⟨_,rfl⟩
   rw[hj2] at n2;have HG:=a0z hg;have HE2:=a0z he2;have HJJ:=a0z hj2;clear hg hi0 hpre hm he2 hj2;go_wp2_with (fail);refine Df (by kernel_rfl) (by kernel_rfl) ?_
   iterate 7
    apply A9 rfl rfl rfl
    ·intro a w hC hA K hK
     try have h2:=hA.fr 2 rfl
     try have h1:=hA.fr 1 rfl
     try have h4:=hA.fr 4 rfl
     try have h14:=hA.eq 1 14 rfl
     try have h15:=hA.eq 2 15 rfl
     try have h16:=hA.eq 3 16 rfl
     try have h13:=hA.eq 0 13 rfl
     try have h17:=hA.eq 4 17 rfl
     try have h18:=hA.eq 5 18 rfl
     have r0:=Aa ((hC.block _ (Ab HBS1.out) (by simp)).trans HBS1.out) 0;have r1:=Aa ((hC.block _ (Ab HBN1.out) (by simp)).trans HBN1.out) 0;simp only[a3u,a3x] at r0 r1;simp only[Oper.wp,execOp];go_simp;exact hK _ hC (Fp.refl _ _)
   refine⟨?_,?_⟩
   ·repeat(first|exact trivial|refine C3 _ ?_ |refine⟨fun w1 w2 v _ hf ⟨g,h1,h2⟩=>⟨g,h1,(hf.block g (Ab h2) (by simp)).trans h2⟩,?_⟩)
   ·intro w' hC;simp only[List.reverse_cons,List.reverse_nil,a3w,a2v]
    iterate 7 (refine Au ?_)
    refine A6 ?_;simp only[Am,Act.put,a2z,List.set_cons_succ,List.set_cons_zero];have HF1:=a0z (HFW.out.trans (Av.of (hC.mono (by simp):Fp [] wr w') (by simp)) (by simp));have HJ1:=a0z (HJ.out _ _ _ HJK.out hC);have hbs2:=(hC.block _ (Ab HBS1.out) (by simp)).trans HBS1.out;have q1:w'.cell? ⟨bs,0,none⟩=some (.slice (some ⟨b,o,none⟩) len cap):=Aa hbs2 0;have HBN2:=a0z ((hC.block _ (Ab HBN1.out) (by simp)).trans HBN1.out);clear hC hbs2;obtain⟨fn,tm,asg,bd,hyl,hrd⟩:=HY.out pre (i,m) w' ⟨_,HSP.out⟩ HJ1.out;have HRD:=a0z hrd;clear hrd;unfold encRs R8 at hyl;simp only at hyl
    go_upto_region 4 with(fail)
    refine(wpIn_wide (n:=n)).1 ?_
    gi_wp2_with (fail)
    (with_reducible refine HRD.out.mono ?_);rintro e W1 (⟨rfl,hj1,hf1⟩|⟨rfl,hjx⟩)
    ·have HJ2:=a0z hj1;have HFW2:=a0z (HF1.out.trans hf1 (by intro i hi;exact hi));have r2:W1.cell? ⟨bn,0,none⟩=some (.int .i64 sz):=Aa ((HFW2.out.low _ hbnl (Ab HBN.out) (by intro h;rcases List.mem_cons.1 h with h|h;exact hnL h;exact(HS0.out _ h).2.2 rfl)).trans HBN.out) 0;clear hj1 hf1
     gi_wp2_with (fail)
     go_wp2_with (fail)
     go_roundg (len-j)
     case measure=>have:=HG.out;have:=HJJ.out;omega
     case rel=>
      refine⟨j,pre++[(i,m)],rfl,.inr (by have:=HJJ.out;omega),rfl,?_,HJ2.out,HFW2.out⟩;have h2:=HSP.out;rw[HJJ.out] at h2;rw[h2,List.append_assoc];rfl
    ·have HJX:=a0z hjx;clear hjx
     gi_wp2_with (fail)
     go_wp2_with (fail);refine bodyPost_ret (results_none rfl _ _ _) rfl ?_;exact⟨⟨_,rfl⟩,Or.inr ⟨_,HJX.out⟩⟩
  ·have z0:¬(i:Int)<(len:Int):=by omega
   rw[Vo hlt,List.append_nil] at hpre;have HP:=a0z hpre;have HG:=a0z hg;clear hpre hg hi0;go_wp2_with (fail);go_end0;refine⟨⟨_,rfl⟩,Or.inl ?_⟩;rw[HP.out];exact HJK.out
theorem tL(w:World)(sz:Nat)(hsz0:0<sz)(v:Value)(a:Option Addr)(len cap:Nat)(hv:v=.slice a len cap):Calls Tryz.prog 221 #[v,.int .i64 sz] w fun e w'=>e=.returned (.func (.func 269) #[] #[.pointer (some ⟨w.heap.size,0,none⟩),.pointer (some ⟨w.heap.size+1,0,none⟩)])∧
  w'.heap[w.heap.size]?=some (.cells #[v] 159 (0,0))∧w'.heap[w.heap.size+1]?=some (.cells #[.int .i64 sz] 3 (0,0))∧Fp [] w w':=by
 subst hv
 have z1:¬(sz:Int)<1:=by omega
 have q:((w.alloc (.cells #[.slice a len cap] 159)).alloc (.cells #[.int .i64 sz] 3)).cell? ⟨w.heap.size+1,0,none⟩=some (.int .i64 sz):=Aa (Ai (by simp) _) 0;go_enter Tryz.func221,Tryz.ntmps221;go_wp2_with (fail);go_ret;exact⟨rfl,Cb (Ai rfl _),Ai (by simp) _,(Fp.alloc _ _).alloc' _⟩
end
section
open Go.RowKit Go.Lib
def Ip(rs:List (List Ad))(x:Nat × Nat):List (List Ad):=(rs.drop x.1).take x.2
structure Ve(w:World)(base:Nat)(rs:List (List Ad))(pre:List (Nat × Nat))(W:World):Prop where
 ex:∃v out,W.heap[w.heap.size]?=some (.cells #[v] 159 (0,0))∧Fa W base v out∧Dh (fun x r=>B7 (Ip rs x).flatten r) pre out
 fp:Fp [] w W
theorem Ve.on{w A B:World}{base:Nat}{rs:List (List Ad)}{pre:List (Nat × Nat)}{S:List Nat}(h:Ve w base rs pre A)(hf:Fp S A B)(hS:∀k∈S,w.heap.size<k∧k<base):Ve w base rs pre B:=by
 obtain⟨v,out,hv,ho,ha⟩:=h.ex;exact⟨⟨v,out,(hf.block _ (Ab hv) fun hm=>by have:=hS _ hm;omega).trans hv,ho.fp hf fun k hk=>(hS k hk).2,ha⟩,h.fp.trans hf fun k hk=>Or.inr (by have:=hS k hk;omega)⟩
theorem tM(l:List Nat)(k:Nat):(l.take k).sum≤l.sum:=by
 have h:(l.take k++l.drop k).sum=l.sum:=by rw[a1v]
 rw[a1u] at h;omega
theorem tN(l:List Nat)(k:Nat):(l.drop k).sum≤l.sum:=by
 have h:(l.take k++l.drop k).sum=l.sum:=by rw[a1v]
 rw[a1u] at h;omega
theorem tO(rs:List (List Ad))(x:Nat × Nat):((Ip rs x).map (·.length)).sum≤(rs.map (·.length)).sum:=by
 unfold Ip;rw[List.map_take,List.map_drop];exact a0v (tM _ _) (tN _ _)
theorem fC{rs:List (List Ad)}{x:Nat × Nat}{r:List Ad}(h:r∈Ip rs x):r∈rs:=a4z (a4x h)
def fD(a:Option Addr)(b o n cap m c1 c2:Nat)(x:Nat × Nat):Act:={tmps:=#[.slice a n cap,.int .i64 m,undef,undef,.pointer (some ⟨c1,0,none⟩),.int .i64 0,R8 b o x,.bool false,.int .i64 m,.bool false,.bool false,.slice a n cap,.bool true,.bool false,.slice a n cap,.int .i64 m,.func (.func 269) #[] #[.pointer (some ⟨c2,0,none⟩),.pointer (some ⟨c2+1,0,none⟩)],R8 b o x,undef,undef,undef,undef,undef,undef],defers:=[]}
attribute [local go_sem] Oper.semAt_some
theorem tP(w:World)(a:Option Addr)(n cap m:Nat)(rs0:List (List Ad))(h:G1 w a n rs0)(hr:∀r∈rs0,Dx r∧Ci r∧r.length≤1000000)(hn:n≤900000)(htot:(rs0.map (·.length)).sum≤1000000)(hlc:n≤cap)(hm0:2≤m)(hm:m<2^63)(h0:0<n):
  Calls Tryz.prog 143 #[.slice a n cap,.int .i64 m] w fun e w'=>∃v rs,e=.returned (.tuple #[v,.int .i64 0])∧Fa w' w.heap.size v rs∧Dh (fun x r=>B7 (Ip rs0 x).flatten r) (C9 m n 0) rs∧Fp [] w w':=by
 have HFN:=a0z (fun w v a len cap (hv:v=.slice a len cap)=>tL w m (by omega) v a len cap hv);have HSO:=a0z (fun w (h:G1 w a n rs0)=>iJ w a n cap rs0 h hr (by omega));have HL:=a0z h;have HRR:=a0z hr;have HTO:=a0z htot;have hln:n=rs0.length:=h.len
 obtain⟨b,o,rfl,hb1,hb0⟩:∃b o,a=some ⟨b,o,none⟩∧b<w.heap.size∧True:=by
  rcases h.cells with h|⟨b,o,h1,h2,_⟩
  ·rw[h] at hln;simp at hln;omega
  ·exact⟨b,o,h1,h2,trivial⟩
 have HLN:=a0z hln;have HLC:=a0z hlc;clear h hr htot hln hlc hb0
 have z1:¬(m:Int)<2:=by omega
 rw[←callsIn_wide (n:=5)];refine callsIn_of_wp_marks Tryz.func143 rfl trivial ?_ rfl;simp only[Tryz.ntmps143,List.size_toArray,a1x,List.length_nil,Nat.reduceAdd,Nat.reduceSub,Array.replicate_succ,Array.replicate_zero,List.push_toArray,List.append_toArray,a3w,a2v]
 gi_wp2_with (fail)
 refine⟨trivial,?_⟩;(with_reducible refine((callsIn_wide (n:=4)).2 (HSO.out _ (HL.out.fp (Fp.alloc _ _)))).mono ?_);rintro e w1 ⟨rfl,hf1⟩;have HL0:=a0z ((hf1.block _ (by simp) (by simp)).trans (Ai rfl _):w1.heap[w.heap.size]?=some (.cells #[.slice none 0 0] 159 (0,0)));have HF1:Hid (Fp [] w w1):=(Fp.alloc _ _).trans hf1 (by simp);clear hf1
 gi_wp2_with (fail)
 refine⟨trivial,?_⟩;(with_reducible refine((callsIn_wide (n:=4)).2 (HFN.out _ _ _ _ _ rfl)).mono ?_);rintro e w2 ⟨rfl,hbs,hbn,hf2⟩;have HBS:=a0z hbs;have HBN:=a0z hbn;have HF2:=a0z hf2;clear hbs hbn hf2
 gi_wp2_with (fail)
 have hz1:w.heap.size<w1.heap.size:=Ab HL0.out;have hz2:w1.heap.size+1<w2.heap.size:=Ab HBN.out
 refine S5 (α:=Nat × Nat) (encs:=encRs b o) rfl (enters_of Tryz.func269 (by kernel_rfl) rfl) (fun _=>rfl) 221 [w.heap.size] [] (by simp;omega) (by simp) (w1.heap.size) (by omega) 0
  (fun pre x=>∃post,C9 m n 0=pre++x::post) (Ve w (w2.heap.size+2) rs0) (fun _ _=>False) (fun xs _=>xs=C9 m n 0)
  (fun _=>True) (fun s A B k h hf hk=>h.on hf (by simp;omega)) (fun s A B h hf _=>h.on hf (by simp;omega)) (fun _ _ _ h _=>h) (fun _ _ _ h _=>h) ?_ ?_ (fun x a' _=>a'=fD (some ⟨b,o,none⟩) b o n cap m w.heap.size w1.heap.size x) (fun _ _ _ _ h _=>h) ?_ ?_ ?_ (fun _ _ h=>h.elim)
 ·intro J Jx W1 hf1 hsz1 hJ hY hJ0;exact tK (w2.heap.size+2) (w2.heap.size+1) (5-1) w1.heap.size (w1.heap.size+1) m (by omega) hm W1 b o n cap (by decide) ((hf1.block _ (by omega) (by simp)).trans HBS.out) ((hf1.block _ (by omega) (by simp)).trans HBN.out) HLC.out (by omega) (by omega) (by omega) (by omega) (by omega) [w.heap.size] (by intro k hk;simp only[List.mem_cons,List.not_mem_nil,or_false] at hk;omega) J Jx (fun s A B h hf=>hJ s A B h (hf.mono (by simp)) trivial) hY hJ0
 ·exact⟨⟨.slice none 0 0,[],(HF2.out.block _ hz1 (by simp)).trans HL0.out,Fa.nil _ _,.nil⟩,HF1.out.trans HF2.out (by simp)⟩
 ·intro l x W K hW hK;simp only[encRs]
  gi_wp2_with (fail)
  exact hK _ _ (Fp.refl _ _) rfl
 ·rintro l' pre ⟨xi,xm⟩ a' W ⟨post,hpost⟩ hI hW rfl;have hx:=Yx m n 0 (xi,xm) (by rw[hpost];simp);obtain⟨hx1,hx2,hx3⟩:=hx;simp only at hx1 hx2 hx3;obtain⟨v,rs,hv,ho,ha⟩:=hI.ex;have hrl:rs.length=pre.length:=ha.length_eq.symm
  have hpl:pre.length+1≤1000000000:=by
   have h1:=Vp m n 0;rw[hpost,List.length_append,a1x] at h1;omega
  have HRE:=a0z (fun w2' (h:Fp [] w w2')=>uF w2' (some ⟨b,o+xi,none⟩) xm xm (Ip rs0 (xi,xm)) (((HL.out.fp h).drop xi (n-xi) (by omega)).take xm (by omega)) (fun r hr=>HRR.out r (fC hr)) (by omega) (a0v (tO _ _) HTO.out));have HI:=a0z hI;have HV:=a0z hv;have HO:=a0z ho;have HA:=a0z ha;have hW:w2.heap.size+2≤W.heap.size:=hW;clear hI hv ho ha hpost;unfold fD R8;simp only
  gi_wp2_with (fail)
  refine Tz (E1 (fun r=>B7 (Ip rs0 (xi,xm)).flatten r) w W (w2.heap.size+2) w.heap.size v rs) (fun _ _=>True) (by kernel_rfl) (by kernel_rfl) (by kernel_rfl) (fun _=>E1.start HO.out HV.out HI.out.fp hW (by omega)) ?_;apply Cj (fun _ _ _ h _=>h.plain (by decide)) rfl rfl rfl
  ·intro b a w hC hA K hK;have h4:=hA.fr 4 rfl;have q0:=Aa (hC.first (hA.post 4 (by kernel_rfl))) 0;simp only[a3u,a3x] at q0;simp only[Oper.wp,execOp];go_simp;exact hK _ hC trivial
  apply Cj (fun _ _ _ h _=>h.plain (by decide)) rfl rfl rfl
  ·intro b a w hC hA K hK;have h6:=hA.fr 6 rfl;simp only[Oper.wp,execOp];go_simp;exact hK _ hC trivial
  apply Dt (fun _ _=>True) rfl rfl rfl
  ·intro b a w hC hA K hK;have h19:=hA.eq 1 19 rfl;simp only[Oper.wp,execOp];go_simp;(with_reducible refine(HRE.out _ hC.fp).mono ?_);rintro e w3 ⟨vr,r,rfl,hr,ho3,hf3⟩;exact hK _ _ (hC.call hA.self hf3 hr ho3) trivial trivial
  apply Dt (fun _ _=>True) rfl rfl rfl
  ·intro b a w hC hA K hK;have h20:=hA.dep 2 20 _ (by kernel_rfl) rfl;obtain⟨r,hg,hr⟩:=hC.res (hA.pre 2 (by kernel_rfl)) (hA.post 4 (by kernel_rfl));obtain⟨a2,c2,e2,-,-⟩:=hr.len;have hv:=hA.val 2 20 (by kernel_rfl);rw[e2] at hv;have hst:=hC.build (hA.pre 2 (by kernel_rfl)) hA.self;rw[e2] at hst;simp only[Oper.wp,execOp];go_simp;exact hK _ _ hst trivial trivial
  apply Dt (fun _ _=>True) rfl rfl rfl
  ·intro b a w hC hA K hK;have h18:=hA.eq 0 18 rfl;have h21:=hA.dep 3 21 _ (by kernel_rfl) rfl;obtain⟨g,hg1,hg2⟩:=hC.bld (hA.pre 3 (by kernel_rfl)) hA.self;obtain⟨r,hg,hr⟩:=hC.res (hC.o32 (hA.pre 3 (by kernel_rfl))) hA.self;obtain⟨a2,c2,e2,-,-⟩:=hr.len;refine iF (.tmp 18) (.tmp 21) rfl _ v rs (Gf h18) (hC.own0 hA.self) g _ r (by rw[e2];rfl) hr (Gf ((hA.val 3 21 (by kernel_rfl)).trans hg1)) hg2 (by omega) hC.sz ?_;intro v' w' h1 h2 h3;exact hK _ _ (hC.append (hA.pre 3 (by kernel_rfl)) hA.self hg h1 h2 h3 (by omega) (by omega)) trivial trivial
  apply I9 (fun _=>True) rfl rfl rfl
  ·intro b a w hC hA K hK;have h4:=hA.fr 4 rfl;have h22:=hA.dep 4 22 _ (by kernel_rfl) rfl;obtain⟨a2,n2,c2,e2⟩:=hC.slice (hA.pre 4 (by kernel_rfl));have hv:=(hA.val 4 22 (by kernel_rfl)).trans e2;have hst:=hC.store (hA.pre 4 (by kernel_rfl)) (by omega) (Nat.le_refl _);rw[e2] at hst;have f0:=Ar hC.cel 0;have q0:=Aa hC.cel 0;simp only[Oper.wp,execOp];go_simp;exact hK undef _ hst trivial trivial
  refine⟨?_,?_⟩
  ·refine⟨fun _ _ _ _ _=>trivial,?_⟩;refine⟨fun _ _ _ _ _=>trivial,?_⟩;refine⟨fun _ _ _ _ _=>trivial,?_⟩;refine⟨fun _ _ _ _ _=>trivial,?_⟩;refine E6 _ ?_;refine E6 _ ?_;exact trivial
  ·intro w' bb hbb;simp only[List.reverse_cons,List.reverse_nil,a3w,a2v]
   iterate 2 (refine Au ?_)
   refine Az ?_;intro v2 u2;refine Az ?_;intro v3 u3;refine Az ?_;intro v4 u4;refine Az ?_;intro v5 u5;refine A6 ?_;intro hC;simp only[Am,Act.put,a2z,List.set_cons_succ,List.set_cons_zero]
   gi_wp2_with (fail)
   have hcel:=hC.cel;rw[hbb 5 (by simp)] at hcel;obtain⟨r,hr,ho5⟩:=hC.own1 (hbb 4 (by simp));exact⟨hC.kept,⟨⟨_,_,hcel,ho5,S9 HA.out hr⟩,hC.fp⟩⟩
 ·rintro xs W rfl hI hK;obtain⟨v,rs,hv,ho,ha⟩:=hI.ex;obtain⟨va,vn,vc,rfl⟩:=ho.slice;have HI:=a0z hI;have HK:=a0z hK;have HA:=a0z ha;have q0:W.cell? ⟨w.heap.size,0,none⟩=some (.slice va vn vc):=Aa hv 0;have f0:W.frozen? ⟨w.heap.size,0,none⟩=false:=Ar hv 0;have HV:=a0z hv;have HO:=a0z ho;clear hI hK hv ho ha
  gi_wp2_with (fail)
  have hf5:Fp [w.heap.size] W (W.setCell ⟨w.heap.size,0,none⟩ (.slice va vn vc)):=Fp.setCell W ⟨w.heap.size,0,none⟩ (.slice va vn vc);have h4:(W.setCell ⟨w.heap.size,0,none⟩ (.slice va vn vc)).heap[w.heap.size]?=some (.cells #[.slice va vn vc] 159 (0,0)):=(Bm HV.out _).trans rfl
  obtain⟨wa,hwa⟩:∃wa,W.setCell ⟨w.heap.size,0,none⟩ (.slice va vn vc)=wa:=⟨_,rfl⟩
  rw[hwa] at hf5 h4 ⊢;have hk2:wa.heap[w2.heap.size]?=some (.deferred (some [])):=(hf5.block _ (Ab HK.out) (by simp;omega)).trans HK.out;have hp:=Fp.putObj wa w2.heap.size (.deferred none);refine⟨by simp,.inl ⟨_,_,rfl,run_takeDeferred hk2,?_⟩⟩;have c0:(wa.putObj w2.heap.size (.deferred none)).cell? ⟨w.heap.size,0,none⟩=some (.slice va vn vc):=Aa ((hp.block _ (Ab h4) (by simp;omega)).trans h4) 0;have hoo:=(HO.out.fp hf5 (by simp;omega)).fp hp (by simp);refine⟨.tuple #[.slice va vn vc,.int .i64 0],by simp[results,Tryz.results143,go_sem,c0],.slice va vn vc,rs,rfl,?_,HA.out,((HI.out.fp.trans hf5 (by intro i hi;right;simp at hi;omega)).trans hp (by intro i hi;right;simp at hi;omega))⟩;exact hoo.mono (by omega)
end
section
open Go.RowKit Go.Lib
theorem Yi(sz len s:Nat)(hs:0<sz)(i:Nat)(h1:s≤i)(h2:i<len):∃x∈C9 sz len s,x.1≤i∧i<x.1+x.2:=by
 rw[N8 (show s<len by omega) hs]
 by_cases h:i<s+sz
 ·exact⟨_,a0u,h1,by show i<s+min sz (len-s);omega⟩
 ·obtain⟨x,hx,h3⟩:=Yi sz len (s+sz) hs i (by omega) h2;exact⟨x,a0x _ hx,h3⟩
 termination_by len-s
theorem fE(sz len s:Nat)(hs:2≤sz):(C9 sz len s).length≤(len-s+1)/2:=by
 by_cases h:s<len
 ·rw[N8 h (by omega),a1x];have:=fE sz len (s+sz) hs;omega
 ·rw[Vo h];simp
 termination_by len-s
theorem fF{α:Type}{x:α}{l:List α}(h:x∈l):∃s t,l=s++x::t:=List.append_of_mem h
theorem fG{α:Type}:∀{r l:List α},r.Nodup→(∀x∈r,x∈l)→r.length≤l.length
 |[],_,_,_=>Nat.zero_le _
 |x::r,l,hn,hs=>by
  obtain⟨s,t,rfl⟩:=fF (hs x a0u);have h1:=List.nodup_cons.1 hn
  have:=fG (r:=r) (l:=s++t) h1.2 fun y hy=>by
   have h2:=hs y (a0x _ hy);rw[List.mem_append,List.mem_cons] at h2;rw[List.mem_append]
   rcases h2 with h2|h2|h2
   ·exact Or.inl h2
   ·exact absurd (h2▸hy) h1.1
   ·exact Or.inr h2
  simp at this ⊢;omega
theorem Dx.nodup{r:List Ad}(hok:Ci r)(h:Dx r):r.Nodup:=by
 induction r with
 |nil=>exact List.nodup_nil
 |cons x r ih=>exact List.nodup_cons.2 ⟨h.irr (hok x a0u),ih (fun y hy=>hok y (a0x _ hy)) (List.pairwise_cons.1 h).2⟩
theorem B7.len{all r:List Ad}(hok:Ci all)(h:B7 all r):r.length≤all.length:=fG (h.ris.nodup fun x hx=>hok x (h.sub x hx)) h.sub
theorem tQ(rs:List (List Ad)):rs.flatten.length=(rs.map (·.length)).sum:=by
 induction rs with
 |nil=>rfl
 |cons x r ih=>rw[List.flatten_cons,List.length_append,ih];rfl
theorem fH(rs:List (List Ad))(sz:Nat):∀(fuel s:Nat),rs.length-s≤fuel→((C9 sz rs.length s).map fun x=>((Ip rs x).map (·.length)).sum).sum≤((rs.drop s).map (·.length)).sum
 |0,s,h=>by rw[Vo (by omega)];simp
 |fuel+1,s,h=>by
  by_cases hs:s<rs.length∧0<sz
  ·rw[N8 hs.1 hs.2,a2x,a2w];have ih:=fH rs sz fuel (s+sz) (by omega)
   have e:((rs.drop s).map (·.length)).sum=(((rs.drop s).take sz).map (·.length)).sum+((rs.drop (s+sz)).map (·.length)).sum:=by
    rw[←a1u,←a3v];congr 2;rw[←List.drop_drop,a1v]
   have e2:Ip rs (s,min sz (rs.length-s))=(rs.drop s).take sz:=by
    unfold Ip;simp only
    rcases Nat.le_total sz (rs.length-s) with h1|h1
    ·rw[Nat.min_eq_left h1]
    ·rw[Nat.min_eq_right h1,a1z (by rw[a1w];exact Nat.le_refl _),a1z (by rw[a1w];exact h1)]
   rw[e2,e];omega
  ·rw[C9,if_neg hs];simp
theorem fJ{P:Nat × Nat→List Ad→Prop}{f:Nat × Nat→Nat}{l:List (Nat × Nat)}{m:List (List Ad)}(h:Dh P l m)(hp:∀x r,P x r→r.length≤f x):(m.map (·.length)).sum≤(l.map f).sum:=by
 induction h with
 |nil=>exact Nat.le_refl _
 |cons h _ ih=>
  simp only[a2x,a2w];have:=hp _ _ h;omega
theorem Dh.memR{α β:Type}{P:α→β→Prop}{l:List α}{m:List β}(h:Dh P l m){r:β}(hr:r∈m):∃x∈l,P x r:=by
 induction h with
 |nil=>cases hr
 |cons hp _ ih=>
  rcases List.mem_cons.1 hr with e|e
  ·rw[e];exact⟨_,a0u,hp⟩
  ·obtain⟨x,h1,h2⟩:=ih e;exact⟨x,a0x _ h1,h2⟩
theorem Dh.memL{α β:Type}{P:α→β→Prop}{l:List α}{m:List β}(h:Dh P l m){x:α}(hx:x∈l):∃r∈m,P x r:=by
 induction h with
 |nil=>cases hx
 |cons hp _ ih=>
  rcases List.mem_cons.1 hx with e|e
  ·rw[e];exact⟨_,a0u,hp⟩
  ·obtain⟨r,h1,h2⟩:=ih e;exact⟨r,a0x _ h1,h2⟩
theorem I3.ok{all:List Ad}{rs:List (List Ad)}(h:I3 all rs)(ho:Ci all):∀r∈rs,Ci r:=fun r hr x hx=>ho x (h.sub r hr x hx)
theorem I3.pass{all:List Ad}{rs out:List (List Ad)}{m:Nat}(ho:Ci all)(h:I3 all rs)(hm:0<m)(ha:Dh (fun x r=>B7 (Ip rs x).flatten r) (C9 m rs.length 0) out):
  I3 all out∧(out.map (·.length)).sum≤(rs.map (·.length)).sum:=by
 have hsub:∀x z,z∈(Ip rs x).flatten→z∈all:=fun x z hz=>by
  obtain⟨r0,h0,h1⟩:=List.mem_flatten.1 hz;exact h.sub r0 (fC h0) z h1
 refine⟨⟨fun r hr=>?_,fun r hr z hz=>?_,fun y hy=>?_⟩,?_⟩
 ·obtain⟨x,_,h1⟩:=ha.memR hr;exact h1.ris
 ·obtain⟨x,_,h1⟩:=ha.memR hr;exact hsub x z (h1.sub z hz)
 ·obtain⟨r0,hr0,z,hz,hs,hp⟩:=h.cov y hy;obtain⟨i,hi,e⟩:=List.mem_iff_getElem.1 hr0;obtain⟨x,hx,h1,h2⟩:=Yi m rs.length 0 hm i (Nat.zero_le _) hi;obtain⟨r,hr,hres⟩:=ha.memL hx
  have hzf:z∈(Ip rs x).flatten:=by
   refine List.mem_flatten.2 ⟨r0,?_,hz⟩;unfold Ip;refine List.mem_iff_getElem.2 ⟨i-x.1,?_,?_⟩
   ·rw[a2u,a1w];omega
   ·rw[List.getElem_take,List.getElem_drop]
    have:x.1+(i-x.1)=i:=by omega
    simp only[this];exact e
  obtain⟨z2,hz2,hs2,hp2⟩:=hres.cover z hzf;exact⟨r,hr,z2,hz2,Qo hs2 hs,a0v hp hp2⟩
 ·have h1:=fJ (f:=fun x=>((Ip rs x).map (·.length)).sum) ha fun x r hr=>by
   have:=hr.len fun z hz=>ho z (hsub x z hz)
   rw[tQ] at this;exact this
  have h2:=fH rs m rs.length 0 (by omega);rw[List.drop_zero] at h2;exact a0v h1 h2
theorem tR{rs:List (List Ad)}{r:List Ad}(h:r∈rs):r.length≤(rs.map (·.length)).sum:=by
 obtain⟨s,t,rfl⟩:=fF h;rw[a3v,a1u,a2x,a2w];omega
theorem Bt.one{W:World}{g:Nat}{c:Ac}(h:W.heap[g]?=some (.cells #[.string c.row,.string c.col,.int .u64 c.ts,.int .u64 c.seq,.bool c.del,.string c.val] 80 (0,0)))(hok:Dn c):Bt W (some ⟨g,0,none⟩) 1 [c]:=by
 refine⟨rfl,Or.inr ⟨g,0,rfl,Ab h,fun i hi=>?_⟩,by intro x hx;rw[List.mem_singleton.1 hx];exact hok⟩
 have:i=0:=by simpa using hi
 subst this;exact⟨Aa h 0,Aa h 1,Aa h 2,Aa h 3,Aa h 4,Aa h 5⟩
structure tS(w:World)(all:List Ad)(n0:Nat)(v:Value)(g k:Nat)(W:World):Prop where
 ex:∃a n cap rs,v=.slice a n cap∧g=n∧n≤cap∧G1 W a n rs∧I3 all rs∧0<n∧k+n≤n0∧(rs.map (·.length)).sum≤1000000
 fp:Fp [] w W
theorem I3.form{all:List Ad}{rs:List (List Ad)}(h:I3 all rs)(ho:Ci all)(hs:(rs.map (·.length)).sum≤1000000):∀r∈rs,Dx r∧Ci r∧r.length≤1000000:=fun r hr=>⟨h.ris r hr,h.ok ho r hr,a0v (tR hr) hs⟩
theorem tT(w:World)(a:Option Addr)(n cap m:Nat)(all:List Ad)(rs:List (List Ad))(h:G1 w a n rs)(hro:I3 all rs)(ho:Ci all)(hn:n≤900000)(htot:(rs.map (·.length)).sum≤1000000)(hlc:n≤cap)(hm0:2≤m)(hm:m<2^63)(h0:0<n):
  Calls Tryz.prog 86 #[.slice a n cap,.int .i64 m] w fun e w'=>∃v r k,e=.returned (.tuple #[v,.int .i64 k,.int .i64 0])∧B7 all r∧Ae Bz w' w.heap.size v r∧Fp [] w w':=by
 have HP:=a0z (fun w a n cap rs h hr hn htot hlc h0=>tP w a n cap m rs h hr hn htot hlc hm0 hm h0);have HR:=a0z h;have HRO:=a0z hro;have HOK:=a0z ho;have HTO:=a0z htot;have HLC:=a0z hlc;have HP1:=a0z (HP.out w a n cap rs h (hro.form ho htot) hn htot hlc h0);clear h hro ho htot hlc;go_enter Tryz.func86,Tryz.ntmps86;go_wp2_with (fail);(with_reducible refine HP1.out.mono ?_);rintro e w1 ⟨v1,rs1,rfl,-,-,hf1⟩;have HF1:=a0z hf1;clear hf1 HP1;go_wp2_with (fail)
 go_loopg [0,5] n (fun g v vk wr=>∃k:Nat,vk=.int .i64 k∧tS w all n v g k wr)
 case atStart=>exact⟨0,rfl,⟨a,n,cap,rs,rfl,rfl,HLC.out,HR.out.fp HF1.out,HRO.out,h0,by omega,HTO.out⟩,HF1.out⟩
 case round=>
  obtain⟨k,rfl,hrel⟩:=hrel;obtain⟨a2,n2,cap2,rs2,rfl,hg,hc2,hr2,hro2,h02,hk,hs2⟩:=hrel.ex;have HFP:=a0z hrel.fp;have HR2:=a0z hr2;have HRO2:=a0z hro2;have HG:=a0z hg;have hl2:n2=rs2.length:=hr2.len;have HL2:=a0z hl2;have HS2:=a0z hs2;clear hrel hr2 hro2 hg hl2
  by_cases h1:1<n2
  ·have z1:(n2:Int)>1:=by omega
   have HPP:=a0z (HP.out wr a2 n2 cap2 rs2 HR2.out (HRO2.out.form HOK.out hs2) (by omega) hs2 hc2 h02)
   have n1:IntKind.i64.wrap ((k:Int)+1)=((k+1:Nat):Int):=by rw[a0w];omega
   clear hs2;go_wp2_with (fail);(with_reducible refine HPP.out.mono ?_);rintro e w3 ⟨v3,rs3,rfl,ho3,ha3,hf3⟩;rw[HL2.out] at ha3;obtain⟨a3,c3,rfl,hc3,hno3,hr3⟩:=ho3.at;have hpass:=HRO2.out.pass HOK.out (by omega) ha3;have hl3:rs3.length=(C9 m rs2.length 0).length:=ha3.length_eq.symm;have hh:=fE m rs2.length 0 hm0
   have hpos:0<(C9 m rs2.length 0).length:=by
    have:=HL2.out;rw[N8 (by omega) (by omega)];simp
   have H1:=a0z hpass;have H2:=a0z hr3;have H3:=a0z hf3;have H4:=a0z hc3
   have H5:Hid (0<rs3.length∧rs3.length<n2):=by
    have:=HL2.out;show 0<rs3.length∧rs3.length<n2;omega
   clear hpass hr3 hf3 hc3 ha3 ho3 hl3 hh hpos hno3;go_wp2_with (fail)
   go_roundg rs3.length
   case measure=>have:=HG.out;have:=H5.out;omega
   case rel=>exact⟨k+1,by simp,⟨a3,_,c3,rs3,rfl,rfl,H4.out,H2.out,H1.out.1,H5.out.1,by have:=H5.out;omega,a0v H1.out.2 HS2.out⟩,HFP.out.trans H3.out (by simp)⟩
  ·obtain rfl:n2=1:=by omega
   have hr1:∃r,rs2=[r]:=by
    have:=HL2.out
    cases rs2 with
    |nil=>simp at this
    |cons r t=>cases t with
     |nil=>exact⟨r,rfl⟩
     |cons r2 t=>simp at this
   obtain⟨r,rfl⟩:=hr1;obtain⟨b,o,v,e,hc⟩:=HR2.out.get (i:=0) (by simp);subst e;obtain⟨q,hv⟩:=hc wr (Fp.refl _ _);obtain⟨av,nv,cv,rfl,hnc,hnone,hq⟩:=hv;rw[Nat.add_zero] at q;have hrs:=HRO2.out.one HOK.out;have hnv:nv=r.length:=hq.len
   have hrl:r.length≤1000000:=by have:=HS2.out;simp at this;omega
   have HRES:=a0z hrs;have HCL:=a0z (iK wr av nv cv r hq hnone (by omega));clear hc hq hnone hrs hs2 hnc hnv h1;go_wp2_with (fail);(with_reducible refine HCL.out.mono ?_);rintro e w3 ⟨v3,rfl,ho3,hf3⟩;have H1:=a0z ho3;have H2:=a0z hf3;clear ho3 hf3;go_wp2_with (fail);refine bodyPost_ret (v:=.tuple #[v3,.int .i64 k,.int .i64 0]) (by simp[results,Tryz.results86,go_sem]) rfl ?_;exact⟨v3,r,k,rfl,HRES.out,H1.out.mono HFP.out.size,HFP.out.trans H2.out (by simp)⟩
theorem fK(w:World)(a:Option Addr)(n cap:Nat)(l:List Ad)(h:Bf Bz w a n l)(hok:Ci l)(hn:n≤1000000):
  Calls Tryz.prog 87 #[.slice a n cap] w fun e w'=>∃v,e=.returned v∧A2 w' w.heap.size v (l.map (·.c))∧Fp [] w w':=by
 have HL:=a0z h;have HLN:=a0z h.len;have HOK:=a0z hok;clear h hok;go_enter Tryz.func87,Tryz.ntmps87;go_wp2_with (fail)
 go_loopg [2,7] n (fun g va vi wr=>∃(k:Nat) (v:Value),g+k=n∧v=va∧vi=.int .i64 k∧A2 wr w.heap.size v ((l.take k).map (·.c))∧Fp [] w wr)
 case atStart=>exact⟨0,_,by omega,rfl,rfl,A2.nil _ _,Fp.refl _ _⟩
 case round=>
  obtain⟨k,va,hg,rfl,rfl,ho,hf⟩:=hrel;have HO:=a0z ho;have HF:=a0z hf;clear ho hf;have hbw:w.heap.size≤wr.heap.size:=HF.out.size
  by_cases hk:k<n
  ·have zk:(k:Int)<(n:Int):=by omega
   have n1:IntKind.i64.wrap ((k:Int)+1)=((k+1:Nat):Int):=by rw[a0w];omega
   have hkl:k<l.length:=by have:=HLN.out;omega
   obtain⟨b,o,e,_,hc⟩:=HL.out.get hkl;subst e;have hx:Jl wr b (o+k*7) l[k]:=S7 (hc wr HF.out);have hox:=HOK.out _ (List.getElem_mem hkl)
   have htk:(l.take (k+1)).map (·.c)=(l.take k).map (·.c)++[l[k].c]:=by
    rw[List.take_add_one,a3z hkl,a3v];rfl
   obtain⟨x,hxx⟩:∃x,l[k]=x:=⟨_,rfl⟩
   rw[hxx] at hx hox htk;obtain⟨⟨xr,xc,xt,xs,xd,xv⟩,xp⟩:=x;obtain⟨q0,q1,q2,q3,q4,q5,q6⟩:=hx;simp only at q0 q1 q2 q3 q4 q5 q6;have HTK:=a0z htk;have HOX:=a0z hox.c
   have hlt:((l.take k).map (·.c)).length≤1000000:=by simp;omega
   have HLT:=a0z hlt;clear hc hxx htk hox hlt;go_wp2_with (at_builtin;(refine Y9 rfl _ _ rfl w.heap.size _ ((l.take k).map (·.c)) rfl (HO.out.fp ((Fp.alloc _ _).alloc' _) (by simp)) _ _ _ [⟨xr,xc,xt,xs,xd,xv⟩] rfl (Bt.one (Ai (by simp) _) HOX.out) (fun h=>by cases h) (by have:=HLT.out;simp only[a1x,List.length_nil];omega) (by simp;omega) ?_);intro v2 w2 ho2 hb2;have HO2:=a0z ho2;have HB2:=a0z hb2;clear ho2 hb2)
   go_roundg (gk-1)
   case measure=>omega
   case rel=>exact⟨k+1,_,by omega,rfl,by simp,by rw[HTK.out];exact HO2.out,(HF.out.trans ((Fp.alloc _ _).alloc' _) (by simp)).belowTrans HB2.out⟩
  ·have zk:¬(k:Int)<(n:Int):=by omega
   have ho2:=HO.out;rw[a1z (by have:=HLN.out;omega)] at ho2;have HO2:=a0z ho2;clear ho2;go_wp2_with (fail);go_ret;exact⟨_,rfl,HO2.out,HF.out⟩
end
section
open Go.RowKit Go.Lib
theorem fL(sz len s:Nat):((C9 sz len s).map (·.2)).sum≤len-s:=by
 by_cases h:s<len∧0<sz
 ·rw[N8 h.1 h.2,a2x,a2w];have:=fL sz len (s+sz);simp only;omega
 ·rw[C9,if_neg h];simp
 termination_by len-s
theorem tU{l:List Ad}{rs:List (List Ad)}{m:Nat}(ho:Ci l)(hm:0<m)(ha:Dh (fun x r=>B7 (Kr l x) r) (C9 m l.length 0) rs):I3 l rs∧(rs.map (·.length)).sum≤l.length:=by
 refine⟨⟨fun r hr=>?_,fun r hr z hz=>?_,fun y hy=>?_⟩,?_⟩
 ·obtain⟨x,_,h1⟩:=ha.memR hr;exact h1.ris
 ·obtain⟨x,_,h1⟩:=ha.memR hr;exact a4z (a4x (h1.sub z hz))
 ·obtain⟨i,hi,e⟩:=List.mem_iff_getElem.1 hy;obtain⟨x,hx,h1,h2⟩:=Yi m l.length 0 hm i (Nat.zero_le _) hi;obtain⟨r,hr,hres⟩:=ha.memL hx
  have hzf:y∈Kr l x:=by
   unfold Kr;refine List.mem_iff_getElem.2 ⟨i-x.1,?_,?_⟩
   ·rw[a2u,a1w];omega
   ·rw[List.getElem_take,List.getElem_drop]
    have:x.1+(i-x.1)=i:=by omega
    simp only[this];exact e
  obtain⟨z2,hz2,hs2,hp2⟩:=hres.cover y hzf;exact⟨r,hr,z2,hz2,hs2,hp2⟩
 ·have h1:=fJ (f:=fun x=>x.2) ha fun x r hr=>by
   have:=hr.len (iG ho x);unfold Kr at this;rw[a2u] at this;exact a0v this (Nat.min_le_left _ _)
  exact a0v h1 (fL m l.length 0)
theorem fM(l:List Ac):(Ds l).length=l.length:=O9 l _
theorem tV(w:World)(a:Option Addr)(n cap m wid:Nat)(l:List Ac)(hl:Bt w a n l)(hn:n<20)(h0:0<n)(hm0:0<m)(hm:m<2^63)(hw0:2≤wid)(hw:wid<2^63):
  Calls Tryz.prog 49 #[.slice a n cap,.int .i64 m,.int .i64 wid] w fun e w'=>∃v r k,e=.returned (.tuple #[v,.int .i64 k,.int .i64 0])∧B7 (Ds l) r∧A2 w' w.heap.size v (r.map (·.c))∧Fp [] w w':=by
 have HMK:=a0z (iI w a n cap m l hl (by omega) hm0 hm h0);have HLN:=a0z hl.len;have HIO:=a0z (Vt hl.ok (by have:=hl.len;omega));clear hl;go_enter Tryz.func49,Tryz.ntmps49;go_wp2_with (fail);(with_reducible refine HMK.out.mono ?_);rintro e w1 ⟨v1,rs,rfl,ho1,ha1,hf1⟩;obtain⟨a1,c1,rfl,hc1,hno1,hr1⟩:=ho1.at
 have hil:n=(Ds l).length:=by rw[fM];exact HLN.out
 rw[hil] at ha1;have hmade:=tU HIO.out hm0 ha1;have hrl:rs.length=(C9 m (Ds l).length 0).length:=ha1.length_eq.symm;have h2:=Vp m (Ds l).length 0
 have hpos:0<(C9 m (Ds l).length 0).length:=by rw[N8 (by omega) hm0];simp
 have HALL:=a0z (tT w1 a1 rs.length c1 wid (Ds l) rs hr1 hmade.1 HIO.out (by omega) (by omega) hc1 hw0 hw (by omega));have HF1:=a0z hf1;clear ho1 ha1 hc1 hno1 hr1 hil hmade hrl h2 hpos hf1;go_wp2_with (fail);(with_reducible refine HALL.out.mono ?_);rintro e w2 ⟨v2,r,k,rfl,hres,ho2,hf2⟩;obtain⟨a2,c2,rfl,hno2,hc2,hq2⟩:=ho2.at;have hrl:=hres.len HIO.out;rw[fM] at hrl;have HC:=a0z (fK w2 a2 r.length c2 r hq2 (fun x hx=>HIO.out x (hres.sub x hx)) (by have:=HLN.out;omega));have HRES:=a0z hres;have HF2:=a0z (HF1.out.trans hf2 (by simp));clear ho2 hno2 hc2 hq2 hrl hres hf2;go_wp2_with (fail);(with_reducible refine HC.out.mono ?_);rintro e w3 ⟨v3,rfl,ho3,hf3⟩;have HO3:=a0z ho3;have HF3:=a0z (HF2.out.trans hf3 (by simp));clear ho3 hf3;go_wp2_with (fail);refine bodyPost_ret (v:=.tuple #[v3,.int .i64 k,.int .i64 0]) (by simp[results,Tryz.results49,go_sem]) rfl ?_;exact⟨v3,r,k,rfl,HRES.out,HO3.out.mono HF2.out.size,HF3.out⟩
theorem tW(w:World)(v:Value)(m:Int)(hm:m<1):Calls Tryz.prog 85 #[v,.int .i64 m] w fun e w'=>e=.returned (.tuple #[.slice none 0 0,.int .i64 1])∧Fp [] w w':=by
 go_enter Tryz.func85,Tryz.ntmps85;go_wp2_with (fail);have c0:(w.alloc (.cells #[.slice none 0 0] 159)).cell? ⟨w.heap.size,0,none⟩=some (.slice none 0 0):=Aa (Ai rfl _) 0;exact bodyPost_ret (v:=.tuple #[.slice none 0 0,.int .i64 1]) (by simp[results,Tryz.results85,go_sem,c0]) rfl ⟨rfl,Fp.alloc _ _⟩
theorem tX(w:World)(v:Value)(m:Int)(hm:m<2):Calls Tryz.prog 143 #[v,.int .i64 m] w fun e w'=>e=.returned (.tuple #[.slice none 0 0,.int .i64 1])∧Fp [] w w':=by
 go_enter Tryz.func143,Tryz.ntmps143;go_wp2_with (fail);have c0:(w.alloc (.cells #[.slice none 0 0] 159)).cell? ⟨w.heap.size,0,none⟩=some (.slice none 0 0):=Aa (Ai rfl _) 0;exact bodyPost_ret (v:=.tuple #[.slice none 0 0,.int .i64 1]) (by simp[results,Tryz.results143,go_sem,c0]) rfl ⟨rfl,Fp.alloc _ _⟩
theorem tY(w:World)(v:Value)(m:Int)(hm:m<2):Calls Tryz.prog 86 #[v,.int .i64 m] w fun e w'=>e=.returned (.tuple #[.slice none 0 0,.int .i64 0,.int .i64 1])∧Fp [] w w':=by
 have HP:=a0z (tX w v m hm);clear hm;go_enter Tryz.func86,Tryz.ntmps86;go_wp2_with (fail);(with_reducible refine HP.out.mono ?_);rintro e w1 ⟨rfl,hf⟩;have HF:=a0z hf;clear hf;go_wp2_with (fail);exact bodyPost_ret (v:=.tuple #[.slice none 0 0,.int .i64 0,.int .i64 1]) (by simp[results,Tryz.results86,go_sem]) rfl ⟨rfl,HF.out⟩
theorem tZ(w:World)(v:Value)(m wid:Int)(hm:m<1):Calls Tryz.prog 49 #[v,.int .i64 m,.int .i64 wid] w fun e w'=>e=.returned (.tuple #[.slice none 0 0,.int .i64 0,.int .i64 1])∧Fp [] w w':=by
 have HP:=a0z (tW w v m hm);clear hm;go_enter Tryz.func49,Tryz.ntmps49;go_wp2_with (fail);(with_reducible refine HP.out.mono ?_);rintro e w1 ⟨rfl,hf⟩;have HF:=a0z hf;clear hf;go_wp2_with (fail);exact bodyPost_ret (v:=.tuple #[.slice none 0 0,.int .i64 0,.int .i64 1]) (by simp[results,Tryz.results49,go_sem]) rfl ⟨rfl,HF.out⟩
theorem uA(w:World)(a:Option Addr)(n cap m:Nat)(wid:Int)(l:List Ac)(hl:Bt w a n l)(hn:n<20)(h0:0<n)(hm0:0<m)(hm:m<2^63)(hw:wid<2):
  Calls Tryz.prog 49 #[.slice a n cap,.int .i64 m,.int .i64 wid] w fun e w'=>∃v,e=.returned (.tuple #[v,.int .i64 0,.int .i64 1])∧Fp [] w w':=by
 have HMK:=a0z (iI w a n cap m l hl (by omega) hm0 hm h0);have HW:=a0z hw;clear hl hw;go_enter Tryz.func49,Tryz.ntmps49;go_wp2_with (fail);(with_reducible refine HMK.out.mono ?_);rintro e w1 ⟨v1,rs,rfl,ho1,ha1,hf1⟩;have HALL:=a0z (tY w1 v1 wid HW.out);have HF1:=a0z hf1;clear ho1 ha1 hf1;go_wp2_with (fail);(with_reducible refine HALL.out.mono ?_);rintro e w2 ⟨rfl,hf2⟩;have HC:=a0z (fK w2 none 0 0 [] (Bf.nil _ _) (fun x hx=>by cases hx) (by omega));have HF2:=a0z (HF1.out.trans hf2 (by simp));clear hf2;go_wp2_with (fail);(with_reducible refine HC.out.mono ?_);rintro e w3 ⟨v3,rfl,ho3,hf3⟩;have HF3:=a0z (HF2.out.trans hf3 (by simp));clear ho3 hf3;go_wp2_with (fail);refine bodyPost_ret (v:=.tuple #[v3,.int .i64 0,.int .i64 1]) (by simp[results,Tryz.results49,go_sem]) rfl ?_;exact⟨v3,rfl,HF3.out⟩
end
section
open Go.RowKit Go.Lib
def H7(l:List ByteArray)(k:Nat):ByteArray:=l.getD k ⟨#[]⟩
theorem fN{l:List ByteArray}{k:Nat}(h:k<l.length):H7 l k=l[k]:=by unfold H7;rw[List.getD_eq_getElem?_getD,a3z h];rfl
theorem fO{w:World}{a:Option Addr}{n k:Nat}{l:List ByteArray}(h:F4 w a n l)(hk:k<l.length):∃b o,a=some ⟨b,o,none⟩∧(∀j,j<l.length→∀w',Fp [] w w'→w'.cell? ⟨b,o+j,none⟩=some (.string (H7 l j))):=by
 rcases h.cells with h0|⟨b,o,e,hc⟩
 ·rw[h0] at hk;exact absurd hk (Nat.not_lt_zero _)
 ·refine⟨b,o,e,fun j hj w' hf=>?_⟩;have h1:=hc j hj;rw[fN hj,hf.cell (World.block_lt_of_cell? _ _ h1) (by simp)];exact h1
def I0(a b:ByteArray):Bool:=Op.bytesLess a.toList b.toList
def Jh(l:List ByteArray)(k:Nat):Bool:=((H7 l k).toList.isEmpty||decide (40<((H7 l k).size:Int)))||(decide (0<k)&&!(I0 (H7 l (k-1)) (H7 l k)))
def G8(l:List ByteArray):Bool:=(List.range l.length).all fun k=>!(Jh l k)
theorem uB{l:List ByteArray}(h:∀j,j<l.length→Jh l j=false):G8 l=true:=by
 unfold G8;rw[List.all_eq_true];intro j hj;rw[h j (List.mem_range.1 hj)];rfl
theorem uC{l:List ByteArray}{k:Nat}(hk:k<l.length)(h:Jh l k=true):G8 l=false:=by
 cases e:G8 l with
 |false=>rfl
 |true=>
  unfold G8 at e;have:=List.all_eq_true.1 e k (List.mem_range.2 hk);rw[h] at this;cases this
theorem fP(w:World)(a:Option Addr)(n cap:Nat)(l:List ByteArray)(h:F4 w a n l)(hn:n≤1000000):
  Calls Tryz.prog 35 #[.slice a n cap] w fun e w'=>e=.returned (.bool (G8 l))∧Fp [] w w':=by
 have HL:=a0z h;have HLN:=a0z h.len
 obtain⟨R,hR⟩:∃R,G8 l=R:=⟨_,rfl⟩
 rw[hR];have HRES:=a0z hR;clear h hR;go_enter Tryz.func35,Tryz.ntmps35;go_wp2_with (fail)
 go_loopg [7] n (fun gg vi wr=>∃k:Nat,vi=.int .i64 k∧gg+k=n∧(∀j,j<k→Jh l j=false)∧Fp [] w wr)
 case atStart=>exact⟨0,rfl,by omega,(fun j h=>absurd h (Nat.not_lt_zero _)),Fp.refl _ _⟩
 case round=>
  obtain⟨k,rfl,hg,hb,hf⟩:=hrel;have HF:=a0z hf;have HB:=a0z hb;clear hf hb
  by_cases hk:k<n
  ·have zk:(k:Int)<(n:Int):=by omega
   have n1:IntKind.i64.wrap ((k:Int)+1)=((k+1:Nat):Int):=by rw[a0w];omega
   have hkl:k<l.length:=by have:=HLN.out;omega
   obtain⟨b,o,e,hc⟩:=fO HL.out hkl;subst e;have q0:=hc k hkl wr HF.out;have HDEF:Hid (Jh l k=(((H7 l k).toList.isEmpty||decide (40<((H7 l k).size:Int)))||(decide (0<k)&&!(I0 (H7 l (k-1)) (H7 l k))))):=rfl
   have hprev:0<k→wr.cell? ⟨b,o+(k-1),none⟩=some (.string (H7 l (k-1))):=fun h=>hc (k-1) (by omega) wr HF.out
   have HPV:=a0z hprev
   obtain⟨s,hs⟩:∃s,H7 l k=s:=⟨_,rfl⟩
   rw[hs] at q0 HDEF
   obtain⟨be,hbe⟩:∃be,s.toList.isEmpty=be:=⟨_,rfl⟩
   obtain⟨bz,hbz⟩:∃bz,decide (40<(s.size:Int))=bz:=⟨_,rfl⟩
   rw[hbe,hbz] at HDEF;clear hc hs hprev
   have HNEXT:Hid (Jh l k=false→∀j,j<k+1→Jh l j=false):=fun h j hj=>by
    by_cases e:j=k
    ·rw[e];exact h
    ·exact HB.out j (by omega)
   have HSTOP:Hid (Jh l k=true→R=false):=fun h=>HRES.out.symm.trans (uC hkl h)
   cases be
   ·cases bz
    ·by_cases hk0:k=0
     ·subst hk0;rw[show((0:Nat):Int)=0 from rfl];rw[show((0:Nat):Int)=0 from rfl] at zk;simp only[Nat.add_zero] at q0;have HBAD:Hid (Jh l 0=false):=HDEF.out.trans rfl;go_wp2_with (fail)
      go_roundg (gk-1)
      case measure=>omega
      case rel=>exact⟨0+1,by simp,by omega,HNEXT.out HBAD.out,HF.out⟩
     ·have zk0:(k:Int)>0:=by omega
      have hk1:0<k:=by omega
      have n2:IntKind.i64.wrap ((k:Int)-1)=((k-1:Nat):Int):=by rw[a0w];omega
      have q1:=HPV.out hk1
      obtain⟨p,hp⟩:∃p,H7 l (k-1)=p:=⟨_,rfl⟩
      rw[hp] at q1 HDEF
      obtain⟨k1,hk1'⟩:∃k1,k-1=k1:=⟨_,rfl⟩
      rw[hk1'] at q1 n2
      have zk1:(k1:Int)<(n:Int):=by omega
      obtain⟨bl,hbl⟩:∃bl,Op.bytesLess p.toList s.toList=bl:=⟨_,rfl⟩
      have hbl2:I0 p s=bl:=hbl;rw[hbl2,decide_eq_true hk1] at HDEF
      have HCQ:Hid (∀w',Fp [] wr w'→w'.cell? ⟨b,o+k1,none⟩=some (.string p)):=fun w' hf=>by rw[hf.cell (World.block_lt_of_cell? _ _ q1) (by simp)];exact q1
      clear hp hk1' hbl2 hk0;cases bl
      ·have HBAD:Hid (Jh l k=true):=HDEF.out.trans rfl;go_wp2_with (fail);go_ret;exact⟨by rw[HSTOP.out HBAD.out];rfl,HF.out⟩
      ·have HBAD:Hid (Jh l k=false):=HDEF.out.trans rfl;go_wp2_with (fail)
       go_roundg (gk-1)
       case measure=>omega
       case rel=>exact⟨k+1,by simp,by omega,HNEXT.out HBAD.out,HF.out⟩
    ·have HBAD:Hid (Jh l k=true):=HDEF.out.trans (by simp);go_wp2_with (fail);go_ret;exact⟨by rw[HSTOP.out HBAD.out];rfl,HF.out⟩
   ·have HBAD:Hid (Jh l k=true):=HDEF.out.trans (by simp);go_wp2_with (fail);go_ret;exact⟨by rw[HSTOP.out HBAD.out];rfl,HF.out⟩
  ·have zk:¬(k:Int)<(n:Int):=by omega
   have HY:Hid (R=true):=HRES.out.symm.trans (uB fun j hj=>HB.out j (by have:=HLN.out;omega));go_wp2_with (fail);go_ret;exact⟨by rw[HY.out];rfl,HF.out⟩
end
end Go.Proofs.YtkagolpnaicdoaaGreatDoor
