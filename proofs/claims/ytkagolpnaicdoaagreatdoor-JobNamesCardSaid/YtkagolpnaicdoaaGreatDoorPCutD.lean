/-
 cut.rows: the cells of each row, an iterator. 'out[k] = append(out[k], row...)', out a list of lists of cells: the class of worlds on the way (for XRegionV). cut.Roll: plain. A region that only reads, or leaves what was there as it was, in the round of a range over a function (XRegion's calm law). Over any program.
-/
import Derived.Test.YtkagolpnaicdoaaGreatDoorPListB
import Derived.Deep.Cut
import Derived.Deep.CutRange
import Derived.Test.YtkagolpnaicdoaaGreatDoorPTabG
import Derived.Test.YtkagolpnaicdoaaGreatDoorPRegionG
set_option maxRecDepth 100000
set_option maxHeartbeats 8000000
open Go.Lib renaming hid→a0z
open List renaming getElem?_eq_getElem→a0x,length_set→a0w,getD_eq_getElem?_getD→a0v,getElem_of_mem→a1z,length_append→a1x,setIfInBounds_toArray→a1w,getElem?_cons_zero→a1v,getElem?_toArray→a1u,mem_of_getElem?→a2z,map_cons→a2x
open Nat renaming le_refl→a0u
namespace Go.Proofs.YtkagolpnaicdoaaGreatDoor
section
open Go.RowKit Go.Lib
def Jb(l:List Ac)(i:Nat):Bool:=!(decide (i+1<l.length)&&((l.getD (i+1) Bv).row.toList==(l.getD i Bv).row.toList))
def D8(l:List Ac)(fr i:Nat):List (Nat × Nat):=if i<l.length then(if Jb l i=true then(fr,i+1-fr)::D8 l (i+1) (i+1) else D8 l fr (i+1)) else[]
 termination_by l.length-i
theorem Rq{l:List Ac}{fr i:Nat}(h:i<l.length)(he:Jb l i=true):D8 l fr i=(fr,i+1-fr)::D8 l (i+1) (i+1):=by
 rw[D8,if_pos h,if_pos he]
theorem Un{l:List Ac}{fr i:Nat}(h:i<l.length)(he:Jb l i=false):D8 l fr i=D8 l fr (i+1):=by
 rw[D8,if_pos h,if_neg (by rw[he];decide)]
theorem P5{l:List Ac}{fr i:Nat}(h:¬i<l.length):D8 l fr i=[]:=by
 rw[D8,if_neg h]
def Rr(b o cap:Nat)(x:Nat × Nat):Value:=.slice (some ⟨b,o+x.1*6,none⟩) x.2 (cap-x.1)
def Uo(b o cap:Nat)(x:Nat × Nat):Array Value:=#[Rr b o cap x]
theorem nZ(T:TypeId)(base L n bs:Nat)(w:World)(b o len cap:Nat)(l:List Ac)(hcs:Bt w (some ⟨b,o,none⟩) len l)(hn:1≤n)(hbs:w.heap[bs]?=some (.cells #[.slice (some ⟨b,o,none⟩) len cap] 78 (0,0)))
  (hlc:len≤cap)(hcm:len≤1000000)(hbsl:bs<base)(hsL:bs≠L)(hbl:b<base)(hbL:b≠L)
  (S0:List Nat)(hS0:∀k∈S0,k<base∧k≠bs∧k≠b)(J Jx:List (Nat × Nat)→World→Prop)
  (hJ:∀s A B,J s A→Fp [] A B→J s B)
  (hy:∀pre x W,(∃post,D8 l 0 0=pre++x::post)→J pre W→YieldAt Fence.wide (n-1) Tryz.prog L (Uo b o cap x) W fun e W'=>(e=.returned (.bool true)∧J (pre++[x]) W'∧Av T base (L::S0) W W')∨(e=.returned (.bool false)∧Jx (pre++[x]) W'))
  (h0:J [] w):
  CallsIn Fence.wide n Tryz.prog 223 #[.func (.yield L) #[] #[],.pointer (some ⟨bs,0,none⟩)] w fun e w'=>(∃v,e=.returned v)∧((∃xs,xs=D8 l 0 0∧J xs w')∨∃pre,Jx pre w'):=by
 rw[callsIn_wide];have HY:=a0z hy;have HJ:=a0z hJ;have HS0:=a0z hS0;have HBS:=a0z hbs;have HCS:=a0z hcs;have HLN:=a0z hcs.len;have q00:w.cell? ⟨bs,0,none⟩=some (.slice (some ⟨b,o,none⟩) len cap):=Aa hbs 0;clear hy hJ hS0 hbs hcs;go_enter Tryz.func223,Tryz.ntmps223;go_wp2_with (fail)
 go_loopg [3,7] len (fun g vf vi wr=>∃(fr i:Nat) (pre:List (Nat × Nat)),g=len-i∧vf=.int .i64 fr∧vi=.int .i64 i∧fr≤i∧i≤len∧D8 l 0 0=pre++D8 l fr i∧J pre wr∧Av T base (L::S0) w wr)
 case atStart=>exact⟨0,0,[],rfl,rfl,rfl,a0u _,Nat.zero_le _,rfl,h0,Av.of (Fp.refl [] _) (by simp) |>.mono (by simp)⟩
 case round=>
  obtain⟨fr,i,pre,hg,rfl,rfl,hfi,hil,hpre,hj,hf⟩:=hrel;have HFW:=a0z hf;have HJK:=a0z hj;clear hf hj q00;have hbs1:wr.heap[bs]?=some (.cells #[.slice (some ⟨b,o,none⟩) len cap] 78 (0,0)):=(HFW.out.low _ hbsl (Ab HBS.out) (by intro h;rcases List.mem_cons.1 h with h|h;exact hsL h;exact(HS0.out _ h).2.1 rfl)).trans HBS.out;have HBS1:=a0z hbs1;clear hbs1
  by_cases hlt:i<len
  ·have zi:(i:Int)<(len:Int):=by omega
   have n1:IntKind.i64.wrap ((i:Int)+1)=((i+1:Nat):Int):=by rw[IntKind.wrap_i64];omega
   have hill:i<l.length:=by rw[←HLN.out];exact hlt
   obtain⟨i1,hi1⟩:∃i1,i+1=i1:=⟨_,rfl⟩
   rw[hi1] at n1
   have hcl:∀k (hk:k<l.length) w',Fp [] wr w'→Jr w' b (o+k*6) l[k]:=fun k hk w' hf=>by
    obtain⟨b1,o1,e,hb1,hc⟩:=P1 HCS.out hk;cases e;have h1:=hc w (Fp.refl _ _)
    have h2:∀j,w'.cell? ⟨b,j,none⟩=w.cell? ⟨b,j,none⟩:=fun j=>(hf.cell (p:=⟨b,j,none⟩) (Nat.lt_of_lt_of_le hb1 HFW.out.size) (by simp)).trans (World.cell?_of_block (w:=w) (a:=⟨b,j,none⟩) (HFW.out.low b hbl hb1 (by intro h;rcases List.mem_cons.1 h with h|h;exact hbL h;exact(HS0.out _ h).2.2 rfl)))
    exact⟨(h2 _).trans h1.c0,(h2 _).trans h1.c1,(h2 _).trans h1.c2,(h2 _).trans h1.c3,(h2 _).trans h1.c4,(h2 _).trans h1.c5⟩
   have HCL:=a0z hcl
   have z1:(fr:Int)≤(i1:Int):=by omega
   have z2:(i1:Int)≤(cap:Int):=by omega
   have z3:¬cap=fr:=by omega
   have q0:wr.cell? ⟨bs,0,none⟩=some (.slice (some ⟨b,o,none⟩) len cap):=Aa HBS1.out 0
   have hir:l.getD i Bv=l[i]:=by rw[a0v,a0x hill];rfl
   obtain⟨er,her⟩:∃er,Jb l i=er:=⟨_,rfl⟩
   have HPRE:=a0z hpre;have HER:=a0z her;have HG:=a0z hg;have HI1:=a0z hi1;clear hcl hpre hg
   go_upto_region 4 with(fail)
   go_cut [7,28] from 7 to 39 (fun v7 v28 wx=>v7=.int .i64 i∧v28=.bool (!er)∧Fp [] wr wx)
   case first=>
    by_cases h1:i1<len
    ·have zi1:(i1:Int)<(len:Int):=by omega
     have hi1l:i1<l.length:=by rw[←HLN.out];exact h1
     have hc0:=HCL.out i hill;have hc1:=HCL.out i1 hi1l
     have hi1r:l.getD i1 Bv=l[i1]:=by rw[a0v,a0x hi1l];rfl
     have hed:er=!((l[i1].row.toList==l[i].row.toList)):=by
      rw[←HER.out];unfold Jb;rw[HI1.out,hi1r,hir,decide_eq_true hi1l,Bool.true_and]
     obtain⟨c0,hcc0⟩:∃c,l[i]=c:=⟨_,rfl⟩
     obtain⟨c1,hcc1⟩:∃c,l[i1]=c:=⟨_,rfl⟩
     rw[hcc0] at hc0 hed;rw[hcc1] at hc1 hed;obtain⟨r0,x01,x02,x03,x04,x05⟩:=c0;obtain⟨r1,x11,x12,x13,x14,x15⟩:=c1;simp only at hed;have HC0:=a0z hc0;have HC1:=a0z hc1;have HED:=a0z hed;clear hc0 hc1 hcc0 hcc1 hed hir hi1r her;go_wp2_with (fail);refine Df (by kernel_rfl) (by kernel_rfl) ?_
     iterate 19
      first|apply A9 rfl rfl rfl|apply Jj 5 15 rfl rfl rfl rfl (by kernel_rfl) rfl rfl
      ·intro a w hC hA K hK
       try have h4:=hA.fr 4 rfl
       try have h10:=hA.eq 0 10 rfl
       try have h1:=hA.fr 1 rfl
       try have h12:=hA.eq 2 12 rfl
       try have h11:=hA.eq 1 11 rfl
       try have h13:=hA.eq 3 13 rfl
       try have h14:=hA.eq 4 14 rfl
       try have h17:=hA.eq 7 17 rfl
       try have h16:=hA.eq 6 16 rfl
       try have h18:=hA.eq 8 18 rfl
       try have h19:=hA.eq 9 19 rfl
       try have h20:=hA.eq 10 20 rfl
       try have h22:=hA.eq 12 22 rfl
       try have h23:=hA.eq 13 23 rfl
       try have h24:=hA.eq 14 24 rfl
       try have h25:=hA.eq 15 25 rfl
       try have h21:=hA.eq 11 21 rfl
       try have h26:=hA.eq 16 26 rfl
       try have h15:=hA.eq 5 15 rfl
       try have h27:=hA.eq 17 27 rfl
       obtain⟨p0,p1,p2,p3,p4,p5⟩:=HC0.out _ hC;obtain⟨s0,s1,s2,s3,s4,s5⟩:=HC1.out _ hC;simp only at p0 s0;have q1:=Aa ((hC.block _ (Ab HBS1.out) (by simp)).trans HBS1.out) 0;simp only[a1u,a1v] at q1;simp only[Oper.wp,execOp];go_simp;exact hK _ hC (Fp.refl _ _)
     refine⟨?_,?_⟩
     ·repeat(first|exact trivial|refine C3 _ ?_ |refine⟨fun w1 w2 v _ hf ⟨g,h1,h2⟩=>⟨g,h1,(hf.block g (Ab h2) (by simp)).trans h2⟩,?_⟩)
     ·intro w' hC;simp only[List.reverse_cons,List.reverse_nil,List.nil_append,List.cons_append]
      iterate 19 (refine Au ?_)
      refine A6 ?_;simp only[Am,Act.put,a1w,List.set_cons_succ,List.set_cons_zero];have HC:=a0z hC;clear hC;go_wp2_with (fail)
      go_meet
      case rel=>exact⟨rfl,by rw[HED.out,Bool.not_not],HC.out⟩
    ·have zi1:¬(i1:Int)<(len:Int):=by omega
     have hed:er=true:=by
      rw[←HER.out];unfold Jb;rw[HI1.out,decide_eq_false (by rw[←HLN.out];exact h1)];rfl
     have HED:=a0z hed;clear hed hir her;go_wp2_with (fail);refine Df (by kernel_rfl) (by kernel_rfl) ?_
     iterate 6
      apply A9 rfl rfl rfl
      ·intro a w hC hA K hK
       try have h4:=hA.fr 4 rfl
       try have h10:=hA.eq 0 10 rfl
       try have h1:=hA.fr 1 rfl
       try have h12:=hA.eq 2 12 rfl
       try have h11:=hA.eq 1 11 rfl
       try have h13:=hA.eq 3 13 rfl
       try have h14:=hA.eq 4 14 rfl
       have q1:=Aa ((hC.block _ (Ab HBS1.out) (by simp)).trans HBS1.out) 0;simp only[a1u,a1v] at q1;simp only[Oper.wp,execOp];go_simp;exact hK _ hC (Fp.refl _ _)
     apply A1 5 15 rfl rfl rfl rfl (by kernel_rfl) rfl rfl;apply A1 5 15 rfl rfl rfl rfl (by kernel_rfl) rfl rfl;apply A1 5 15 rfl rfl rfl rfl (by kernel_rfl) rfl rfl;apply A1 5 15 rfl rfl rfl rfl (by kernel_rfl) rfl rfl;apply A1 5 15 rfl rfl rfl rfl (by kernel_rfl) rfl rfl;apply A1 5 15 rfl rfl rfl rfl (by kernel_rfl) rfl rfl;apply A1 5 15 rfl rfl rfl rfl (by kernel_rfl) rfl rfl;apply A1 5 15 rfl rfl rfl rfl (by kernel_rfl) rfl rfl;apply A1 5 15 rfl rfl rfl rfl (by kernel_rfl) rfl rfl;apply A1 5 15 rfl rfl rfl rfl (by kernel_rfl) rfl rfl;apply A1 5 15 rfl rfl rfl rfl (by kernel_rfl) rfl rfl;apply A1 5 15 rfl rfl rfl rfl (by kernel_rfl) rfl rfl;apply A9 rfl rfl rfl
     ·intro a w hC hA K hK;have h15:=hA.eq 5 15 rfl;have h27:=hA.eq 17 27 rfl;simp only[Oper.wp,execOp];go_simp;exact hK _ hC (Fp.refl _ _)
     refine⟨?_,?_⟩
     ·repeat(first|exact trivial|refine C3 _ ?_ |refine⟨fun w1 w2 v _ hf ⟨g,h1,h2⟩=>⟨g,h1,(hf.block g (Ab h2) (by simp)).trans h2⟩,?_⟩)
     ·intro w' hC;simp only[List.reverse_cons,List.reverse_nil,List.nil_append,List.cons_append]
      iterate 19 (refine Au ?_)
      refine A6 ?_;simp only[Am,Act.put,a1w,List.set_cons_succ,List.set_cons_zero];have HC:=a0z hC;clear hC;go_wp2_with (fail)
      go_meet
      case rel=>exact⟨rfl,by rw[HED.out];rfl,HC.out⟩
   case rest=>
    obtain⟨rfl,rfl,hfc⟩:=hcut;have HFC:=a0z hfc;have HFW2:=a0z (HFW.out.trans (Av.of (hfc.mono (by simp):Fp [] wr wc) (by simp)) (by simp));have HJ1:=a0z (HJ.out _ _ _ HJK.out hfc);have q1:wc.cell? ⟨bs,0,none⟩=some (.slice (some ⟨b,o,none⟩) len cap):=Aa ((hfc.block _ (Ab HBS1.out) (by simp)).trans HBS1.out) 0;clear hfc q0;cases er
    ·have HPR:=a0z (show D8 l 0 0=pre++D8 l fr i1 by rw[HPRE.out,Un hill HER.out,HI1.out]);go_wp2_with (fail)
     go_roundg (len-i1)
     case measure=>have:=HG.out;have:=HI1.out;omega
     case rel=>exact⟨fr,i1,pre,rfl,rfl,rfl,by have:=HI1.out;omega,by have:=HI1.out;omega,HPR.out,HJ1.out,HFW2.out⟩
    ·obtain⟨d,hd⟩:∃d,i1-fr=d:=⟨_,rfl⟩
     obtain⟨d2,hd2⟩:∃d,cap-fr=d:=⟨_,rfl⟩
     have HPR:=a0z (show D8 l 0 0=pre++(fr,d)::D8 l i1 i1 by rw[HPRE.out,Rq hill HER.out,HI1.out,hd]);obtain⟨fn,tm,asg,bd,hyl,hrd⟩:=HY.out pre (fr,d) wc ⟨_,HPR.out⟩ HJ1.out;have HRD:=a0z hrd;clear hrd;unfold Uo Rr at hyl;simp only at hyl;rw[hd2] at hyl;clear hir her
     go_upto_region 5 with(fail)
     refine(wpIn_wide (n:=n)).1 ?_
     gi_wp2_with (fail)
     (with_reducible refine HRD.out.mono ?_);rintro e W1 (⟨rfl,hj1,hf1⟩|⟨rfl,hjx⟩)
     ·have HJ2:=a0z hj1;have HFW3:=a0z (HFW2.out.trans hf1 (by intro i hi;exact hi));clear hj1 hf1
      gi_wp2_with (fail)
      go_wp2_with (fail)
      go_roundg (len-i1)
      case measure=>have:=HG.out;have:=HI1.out;omega
      case rel=>exact⟨i1,i1,pre++[(fr,d)],rfl,rfl,rfl,a0u _,by have:=HI1.out;omega,by rw[HPR.out,List.append_assoc];rfl,HJ2.out,HFW3.out⟩
     ·have HJX:=a0z hjx;clear hjx
      gi_wp2_with (fail)
      go_wp2_with (fail);refine bodyPost_ret (results_none rfl _ _ _) rfl ?_;exact⟨⟨_,rfl⟩,Or.inr ⟨_,HJX.out⟩⟩
  ·have z0:¬(i:Int)<(len:Int):=by omega
   rw[P5 (fr:=fr) (i:=i) (by rw[←HLN.out];exact hlt),List.append_nil] at hpre;have HP:=a0z hpre;have HG:=a0z hg;clear hpre hg;go_wp2_with (fail);go_end0;refine⟨⟨_,rfl⟩,Or.inl ?_⟩;rw[HP.out];exact HJK.out
theorem oC(w:World)(v:Value)(a:Option Addr)(len cap:Nat)(hv:v=.slice a len cap):Calls Tryz.prog 147 #[v] w fun e w'=>e=.returned (.func (.func 223) #[] #[.pointer (some ⟨w.heap.size,0,none⟩)])∧
  w'.heap[w.heap.size]?=some (.cells #[v] 78 (0,0))∧Fp [] w w':=by
 subst hv;go_enter Tryz.func147,Tryz.ntmps147;go_wp2_with (fail);go_ret;exact⟨rfl,Ai rfl _,Fp.alloc _ _⟩
end
section
open Go.RowKit Go.Lib
theorem oD{w:World}{o:Oper}{a:Act}{K:Act→World→Prop}{Q:Exit→Act→World→Prop}(s x:Operand)
  (ho:o.op=.call {callee:=.builtin .append,args:=#[s,x],argTypes:=#[78,78]})(base:Nat)(v:Value)(l:List Ac)(hs:a.eval s=v)(hown:A2 w base v l)
  (ad:Addr)(m c:Nat)(ls:List Ac)(hx:a.eval x=.slice (some ad) m c)(hl:Bt w (some ad) m ls)(hlen:l.length+ls.length≤1000000000)(hbase:base≤w.heap.size)
  (h:∀v' w',A2 w' base v' (l++ls)→w.grownBy w' v.ownBlock→Below base w w'→(v'.ownBlock=v.ownBlock∨v'.ownBlock=some w.heap.size)→K (a.put o.dst v') w'):o.wp Tryz.prog a w K Q:=by
 obtain⟨i0,hi,hz0,hz1,hz2⟩:=info_parts Tryz.infoCel;have hm:=hl.len
 have hnews:∀j u,(ls.flatMap Eu)[j]?=some u→w.cell? (ad.add j)=some u:=by
  intro j u hu
  rcases hl.cells with h0|⟨b,o,h0,_,hc⟩
  ·subst h0;simp at hu
  ·obtain rfl:=Option.some.inj h0
   have e1:(⟨b,o,none⟩:Addr).add j=⟨b,o+j,none⟩:=by unfold Addr.add;split<;>simp_all
   rw[e1];exact iR hc j u hu
 obtain⟨v',w',hr,h1,h2,_,h3⟩:=run_append_own_at (P:=Tryz.prog) w base 78 o.type 80 i0 _ 6 72 Tryz.underlying78 hi hz0 hz1 hz2 rfl (by decide) v l.length (l.flatMap Eu) hown ad m c (ls.flatMap Eu) (by rw[Y7,hm]) hnews (iT ls) (by unfold maxLen;omega) (by omega) hbase;unfold Oper.wp execOp;simp only[ho,resolve,invoke,builtin,Sem.run_bind,Sem.run_pure,Result.andThen_ok,List.map_toArray,a2x,List.map_nil,hs,hx,hr];refine h v' w' ?_ h2 (iS hown h2 hbase) h3;unfold A2;rw[a1x,List.flatMap_append,←hm];exact h1
theorem Xe{D T:TypeId}{w w':World}{base:Nat}{k:Option Nat}(hk:∀q,k=some q→base≤q∧∃c fz,w.heap[q]?=some (.cells c T fz))(hg:w.grownBy w' k)(hD:D≠T):Av D base [] w w':=by
 refine⟨hg.size,fun q h1 h2 _=>hg.block q h2 fun e=>by have:=(hk q e.symm).1;omega,fun q c fz _ h2=>hg.block q (Ab h2) fun e1=>?_⟩;obtain⟨_,c2,fz2,h3⟩:=hk q e1.symm;rw[h3] at h2;cases h2;exact hD rfl
theorem A2.typed{w:World}{base:Nat}{v:Value}{l:List Ac}(h:A2 w base v l):∀q,v.ownBlock=some q→base≤q∧∃c fz,w.heap[q]?=some (.cells c 80 fz):=by
 intro q hq
 rcases h.2 with⟨rfl,_⟩|⟨g,cap,cur,rfl,hg,hh,_⟩
 ·cases hq
 ·obtain rfl:g=q:=by simpa [Value.ownBlock] using hq
  exact⟨hg,_,_,hh⟩
theorem bW{D T:TypeId}{w:World}{base g k:Nat}{c:Array Value}{fz:Nat × Nat}{x:Value}(h:w.heap[g]?=some (.cells c T fz))(hD:D≠T)(hg:base≤g):Av D base [] w (w.setCell ⟨g,k,none⟩ x):=by
 have hf:Fp [g] w (w.setCell ⟨g,k,none⟩ x):=Fp.setCell w ⟨g,k,none⟩ x;refine⟨hf.size,fun q h1 h2 _=>hf.block q h2 (by simp;omega),fun q c2 fz2 h1 h2=>hf.block q (Ab h2) ?_⟩;simp only[List.mem_cons,List.not_mem_nil,or_false];rintro rfl;rw[h] at h2;cases h2;exact hD rfl
structure Hj(w W0:World)(base g k:Nat)(cur:Array Value)(vals:List Value)(xs:List (List Ac))(last row:List Ac)(u:Value)(ia is:Nat)(b:Nat→Bool)(vs:Nat→Value)(W:World):Prop where
 fp:Fp [] w W
 kept:∀D,D≠80→D≠78→Av D base [] W0 W
 outer:W.heap[g]?=some (.cells (if b is=true then cur.setIfInBounds k (vs ia) else cur) 78 (0,0))
 oth:∀i (h1:i<vals.length) (h2:i<xs.length),i≠k→A2 W base vals[i] xs[i]
 last0:b ia=false→A2 W base u last
 res:b ia=true→A2 W base (vs ia) (last++row)∧((vs ia).ownBlock=u.ownBlock∨∀q,(vs ia).ownBlock=some q→W0.heap.size≤q)
 o97:b is=true→b ia=true
 sz:base≤W.heap.size
variable {w W0 W W2 : World} {base g k : Nat} {cur : Array Value} {vals : List Value} {xs : List (List Ac)} {last row : List Ac} {u : Value} {ia is : Nat} {b : Nat → Bool} {vs : Nat → Value}
theorem Hj.start{vs:Nat→Value}(hf:Fp [] w W0)(hg:W0.heap[g]?=some (.cells cur 78 (0,0)))(ho:∀i (h1:i<vals.length) (h2:i<xs.length),i≠k→A2 W0 base vals[i] xs[i])(hl:A2 W0 base u last)(hb:base≤W0.heap.size):Hj w W0 base g k cur vals xs last row u ia is (fun _=>false) vs {W0 with drawn:=W0.drawn+1}:=
 ⟨hf.trans (Fp.drew W0) (by simp),fun _ _ _=>Av.of (Fp.drew W0) (by simp),hg,fun i h1 h2 h3=>(ho i h1 h2 h3).fp (Fp.drew W0) (by simp),fun _=>hl.fp (Fp.drew W0) (by simp),(fun h=>by cases h),(fun h=>by cases h),hb⟩
theorem Hj.plain{j:Nat}{x:Value}(h:Hj w W0 base g k cur vals xs last row u ia is b vs W)(hj:j≠ia∧j≠is):Hj w W0 base g k cur vals xs last row u ia is (Ap b j) (Bw vs j x) W:=by
 obtain⟨h1,h2⟩:=hj;refine⟨h.fp,h.kept,?_,h.oth,?_,?_,?_,h.sz⟩
 ·rw[Af h2.symm,Bc h1.symm];exact h.outer
 ·rw[Af h1.symm];exact h.last0
 ·rw[Af h1.symm,Bc h1.symm];exact h.res
 ·rw[Af h1.symm,Af h2.symm];exact h.o97
theorem Hj.first(h:Hj w W0 base g k cur vals xs last row u ia is b vs W)(h7:b ia=false):W.heap[g]?=some (.cells cur 78 (0,0)):=by
 have:=h.outer;rw[Et h.o97 h7] at this;exact this
theorem Hj.append{v':Value}(h:Hj w W0 base g k cur vals xs last row u ia is b vs W)(hne:ia≠is)(h7:b ia=false)(ho:A2 W2 base v' (last++row))(hgr:W.grownBy W2 u.ownBlock)(hb:Below base W W2)(hat:v'.ownBlock=u.ownBlock∨v'.ownBlock=some W.heap.size)(hwb:w.heap.size≤base)
  (hsep:∀i (h1:i<vals.length),i≠k→∀q,vals[i].ownBlock=some q→u.ownBlock≠some q):Hj w W0 base g k cur vals xs last row u ia is (Ap b ia) (Bw vs ia v') W2:=by
 have h9:=Et h.o97 h7;have hty:=(h.last0 h7).typed;have hsz0:W0.heap.size≤W.heap.size:=(h.kept 0 (by decide) (by decide)).size;refine⟨h.fp.belowTrans (hb.mono hwb),fun D h1 h2=>(h.kept D h1 h2).trans (Xe hty hgr h1) (by simp),?_,fun i h1 h2 h3=>(h.oth i h1 h2 h3).kept fun q hq=>hgr.block q ((h.oth i h1 h2 h3).lt q hq).2 (fun e=>hsep i h1 h3 q hq e.symm),(fun e=>by rw[Ej] at e;cases e),fun _=>?_,fun e=>?_,Nat.le_trans h.sz hb.size⟩
 ·rw[Af hne.symm,h9];have h6:=h.first h7;refine(hgr.block g (Ab h6) fun e=>?_).trans h6;obtain⟨_,c,fz,h8⟩:=hty g e.symm;rw[h6] at h8;cases h8
 ·rw[Gq];refine⟨ho,?_⟩
  rcases hat with e|e
  ·exact Or.inl e
  ·refine Or.inr fun q hq=>?_
   rw[e] at hq;cases hq;exact hsz0
 ·rw[Af hne.symm,h9] at e;cases e
theorem Hj.store{y:Value}(h:Hj w W0 base g k cur vals xs last row u ia is b vs W)(hne:ia≠is)(h7:b ia=true)(h9:b is=false)(hg:base≤g)(hwb:w.heap.size≤base)(hy:vs ia=y):Hj w W0 base g k cur vals xs last row u ia is (Ap b is) (Bw vs is undef) (W.setCell ⟨g,k,none⟩ y):=by
 have hou:=h.outer;rw[h9] at hou;have hf:Fp [g] W (W.setCell ⟨g,k,none⟩ y):=Fp.setCell W ⟨g,k,none⟩ y;have hkc:Av 80 base [] W (W.setCell ⟨g,k,none⟩ y):=bW hou (by decide) hg;refine⟨h.fp.trans hf (by intro i hi;right;simp at hi;omega),fun D h1 h2=>(h.kept D h1 h2).trans (bW hou h2 hg) (by simp),?_,fun i h1 h2 h3=>(h.oth i h1 h2 h3).keptT hkc,fun e=>?_,fun _=>?_,fun _=>?_,Nat.le_trans h.sz hf.size⟩
 ·rw[Ej,Bc hne,hy];exact(Bm hou _).trans rfl
 ·rw[Af hne,h7] at e;cases e
 ·rw[Bc hne];obtain⟨h1,h2⟩:=h.res h7;exact⟨h1.keptT hkc,h2⟩
 ·rw[Af hne];exact h7
theorem Dh.of_nth{α β:Type}{P:α→β→Prop}:∀(l:List α) (m:List β),l.length=m.length→(∀i (h1:i<l.length) (h2:i<m.length),P l[i] m[i])→Dh P l m
 |[],[],_,_=>.nil
 |[],_ ::_,h,_=>by cases h
 |_ ::_,[],h,_=>by cases h
 |x::l,y::m,hl,h=>.cons (h 0 (Nat.zero_lt_succ _) (Nat.zero_lt_succ _)) (Dh.of_nth l m (by simpa using hl) fun i h1 h2=>h (i+1) (Nat.succ_lt_succ h1) (Nat.succ_lt_succ h2))
theorem Hj.done{cap:Nat}{v:Value}(h:Hj w W0 base g k cur vals xs last row u ia is b vs W)(h7:b ia=true)(h9:b is=true)(hv:v=.slice (some ⟨g,0,none⟩) vals.length cap)(hg:base≤g)(hvc:vals.length≤cap)(hcm:cap≤maxLen)(hcs:cur.size=cap*1)(ht:cur.toList.take (vals.length*1)=vals)(hl:vals.length=xs.length)(hk:k<vals.length)(hku:vals[k]=u)(hsep:R4 vals)
  (hlt:∀i (h1:i<vals.length),∀q,vals[i].ownBlock=some q→q<W0.heap.size):Dj Fj W base v (xs.set k (last++row)):=by
 have hou:=h.outer;rw[h9,if_pos rfl] at hou;obtain⟨ho,hat⟩:=h.res h7;refine⟨vals.set k (vs ia),?_,?_,?_⟩
 ·unfold Bg;refine⟨by simp,Or.inr ⟨g,cap,cur.setIfInBounds k (vs ia),by rw[a0w];exact hv,hg,hou,by rw[a0w];exact hvc,hcm,by rw[Array.size_setIfInBounds];exact hcs,?_⟩⟩;rw[Array.toList_setIfInBounds,a0w,List.take_set,ht]
 ·refine Dh.of_nth _ _ (by rw[a0w,a0w,hl]) fun i h1 h2=>?_
  rw[a0w] at h1 h2;rw[List.getElem_set,List.getElem_set]
  by_cases e:k=i
  ·rw[if_pos e,if_pos e];exact ho
  ·rw[if_neg e,if_neg e];exact h.oth i h1 h2 (fun e2=>e e2.symm)
 ·have hs2:=List.pairwise_iff_getElem.1 hsep
  refine List.pairwise_iff_getElem.2 fun i j h1 h2 hij q hq hq2=>?_
  rw[a0w] at h1 h2;rw[List.getElem_set] at hq hq2
  by_cases e:k=i
  ·rw[if_pos e] at hq;rw[if_neg (by omega)] at hq2
   rcases hat with e2|e2
   ·rw[e2,←hku] at hq;subst e;exact hs2 k j h1 h2 hij q hq hq2
   ·have:=e2 q hq;have:=hlt j h2 q hq2;omega
  ·rw[if_neg e] at hq
   by_cases e3:k=j
   ·rw[if_pos e3] at hq2
    rcases hat with e2|e2
    ·rw[e2,←hku] at hq2;subst e3;exact hs2 i k h1 h2 hij q hq hq2
    ·have:=e2 q hq2;have:=hlt i h1 q hq;omega
   ·rw[if_neg e3] at hq2;exact hs2 i j h1 h2 hij q hq hq2
end
section
open Go.RowKit Go.Lib
def Jv(l:List Ac)(x:Nat × Nat):List Ac:=(l.drop x.1).take x.2
def Jw(most:Nat)(xs:List (List Ac))(row:List Ac):List (List Ac):=if 0<xs.length∧(xs.getD (xs.length-1) []).length+row.length≤most then xs.set (xs.length-1) (xs.getD (xs.length-1) []++row) else xs++[row]
def Jy(most:Nat)(l:List Ac)(pre:List (Nat × Nat)):List (List Ac):=pre.foldl (fun xs x=>Jw most xs (Jv l x)) []
def Lp(l:List Ac)(most:Nat):List (List Ac):=Jy most l (D8 l 0 0)
theorem oE(most:Nat)(l:List Ac)(pre:List (Nat × Nat))(x:Nat × Nat):Jy most l (pre++[x])=Jw most (Jy most l pre) (Jv l x):=by
 unfold Jy;rw[List.foldl_append];rfl
theorem oF{most:Nat}{xs:List (List Ac)}{row:List Ac}(h:0<xs.length)(h2:(xs.getD (xs.length-1) []).length+row.length≤most):Jw most xs row=xs.set (xs.length-1) (xs.getD (xs.length-1) []++row):=if_pos ⟨h,h2⟩
theorem bX{most:Nat}{xs:List (List Ac)}{row:List Ac}(h:¬(0<xs.length∧(xs.getD (xs.length-1) []).length+row.length≤most)):Jw most xs row=xs++[row]:=if_neg h
theorem oG(most:Nat)(xs:List (List Ac))(row:List Ac):(Jw most xs row).length≤xs.length+1:=by
 unfold Jw;split
 ·simp
 ·simp
theorem oH(most:Nat)(xs:List (List Ac))(row:List Ac):(Jw most xs row).flatten=xs.flatten++row:=by
 unfold Jw;split
 ·rename_i h;obtain⟨h,_⟩:=h
  rcases List.eq_nil_or_concat xs with rfl|⟨ys,y,rfl⟩
  ·simp at h
  ·rw[List.concat_eq_append]
   have e:(ys++[y]).length-1=ys.length:=by simp
   rw[e,a0v,List.getElem?_append_right (a0u _),Nat.sub_self];simp
 ·simp
theorem bY(most:Nat)(l:List Ac):∀(pre:List (Nat × Nat)) (xs:List (List Ac)),(pre.foldl (fun xs x=>Jw most xs (Jv l x)) xs).flatten=xs.flatten++(pre.map (Jv l)).flatten
 |[],xs=>by simp
 |x::pre,xs=>by
  rw[List.foldl_cons,bY most l pre,oH];simp
theorem bZ(most:Nat)(l:List Ac)(pre:List (Nat × Nat)):(Jy most l pre).flatten=(pre.map (Jv l)).flatten:=by
 unfold Jy;rw[bY];simp
theorem cA(most:Nat)(l:List Ac):∀(pre:List (Nat × Nat)) (xs:List (List Ac)),(pre.foldl (fun xs x=>Jw most xs (Jv l x)) xs).length≤xs.length+pre.length
 |[],xs=>by simp
 |x::pre,xs=>by
  rw[List.foldl_cons,List.length_cons];have:=cA most l pre (Jw most xs (Jv l x));have:=oG most xs (Jv l x);omega
theorem cB(most:Nat)(l:List Ac)(pre:List (Nat × Nat)):(Jy most l pre).length≤pre.length:=by
 have:=cA most l pre [];rw[List.length_nil,Nat.zero_add] at this;exact this
theorem Xf(l:List Ac)(fr i:Nat)(hf:fr≤i):∀x∈D8 l fr i,x.1+x.2≤l.length∧0<x.2:=by
 intro x hx
 by_cases h:i<l.length
 ·cases he:Jb l i
  ·rw[Un h he] at hx;exact Xf l fr (i+1) (by omega) x hx
  ·rw[Rq h he] at hx
   rcases List.mem_cons.1 hx with rfl|hx
   ·simp only;omega
   ·exact Xf l (i+1) (i+1) (a0u _) x hx
 ·rw[P5 h] at hx;cases hx
 termination_by l.length-i
theorem Ur(l:List Ac)(fr i:Nat):(D8 l fr i).length≤l.length-i:=by
 by_cases h:i<l.length
 ·cases he:Jb l i
  ·rw[Un h he];have:=Ur l fr (i+1);omega
  ·rw[Rq h he,List.length_cons];have:=Ur l (i+1) (i+1);omega
 ·rw[P5 h];exact Nat.zero_le _
 termination_by l.length-i
theorem oI{l:List Ac}{i:Nat}(h:¬i+1<l.length):Jb l i=true:=by
 unfold Jb;rw[decide_eq_false h];rfl
theorem Us(l:List Ac)(fr i:Nat)(hf:fr≤i)(hi:i<l.length∨fr=i):((D8 l fr i).map (Jv l)).flatten=l.drop fr:=by
 by_cases h:i<l.length
 ·cases he:Jb l i
  ·rw[Un h he]
   have h1:i+1<l.length:=by
    by_cases h1:i+1<l.length
    ·exact h1
    ·rw[oI h1] at he;cases he
   exact Us l fr (i+1) (by omega) (Or.inl h1)
  ·rw[Rq h he,a2x,List.flatten_cons,Us l (i+1) (i+1) (a0u _) (Or.inr rfl)];unfold Jv;simp only;rw[show l.drop (i+1)=(l.drop fr).drop (i+1-fr) by rw[List.drop_drop];congr 1;omega];exact List.take_append_drop _ _
 ·rw[P5 h]
  obtain rfl:fr=i:=by omega
  rw[List.drop_eq_nil_of_le (by omega)];rfl
 termination_by l.length-i
theorem oJ{l:List Ac}{pre post:List (Nat × Nat)}{x:Nat × Nat}(most:Nat)(h:D8 l 0 0=pre++x::post):(Jy most l pre).flatten.length+(Jv l x).length≤l.length:=by
 have h1:=Us l 0 0 (a0u _) (Or.inr rfl);rw[h,List.map_append,a2x,List.flatten_append,List.flatten_cons] at h1;have h2:=congrArg List.length h1;rw[a1x,a1x,List.drop_zero] at h2;rw[bZ];omega
theorem Ut{xs:List (List Ac)}{x:List Ac}(h:x∈xs):x.length≤xs.flatten.length:=by
 obtain⟨s,t,rfl⟩:=List.append_of_mem h;simp;omega
theorem Dj.opened{W:World}{base:Nat}{v:Value}{xs:List (List Ac)}(h:Dj Fj W base v xs)(h0:0<xs.length):∃g cap cur vals,v=.slice (some ⟨g,0,none⟩) vals.length cap∧base≤g∧W.heap[g]?=some (.cells cur 78 (0,0))∧vals.length≤cap∧cap≤maxLen∧cur.size=cap*1∧cur.toList.take (vals.length*1)=vals∧vals.length=xs.length∧(∀i (h1:i<vals.length) (h2:i<xs.length),A2 W base vals[i] xs[i])∧R4 vals:=by
 obtain⟨vals,h1,h2,h3⟩:=h;have hl:=h2.length_eq
 rcases h1.2 with⟨_,h4⟩|⟨g,cap,cur,hv,hg,hh,hc,hm,hs,ht⟩
 ·omega
 ·exact⟨g,cap,cur,vals,hv,hg,hh,hc,hm,hs,ht,hl,fun i h1 h2'=>h2.nth i h1 h2',h3⟩
end
section
open Go.RowKit
section
variable {P : Program} {l : List Oper}
theorem oK{Ss:List (World→Value→Prop)}{C:World→Prop}{R:World→World→Prop}{a0:Act}{Qn:Act→World→Prop}(hl:Ss.length=l.length)(hform:Ft l a0.tmps.size=true)
  (stab:∀S∈Ss,∀w w' v,C w→R w w'→S w v→S w' v)(rel:∀i,i<l.length→Sm P l Ss C R a0 i)
  (fin:∀a w listed,Vk l Ss C a0 listed a w→(∀j,j<l.length→listed.getD j false=true)→Qn a w):
  ∀(fuel:Nat) (listed:Array Bool) (a:Act) (w:World),Gn listed=fuel→Vk l Ss C a0 listed a w→Ir P l Qn fuel listed a w:=by
 intro fuel
 induction fuel with
 |zero=>
  intro listed a w hu inv;have hall:=Vm hu;rw[inv.size] at hall;refine⟨?_,fin a w listed inv hall⟩;apply List.eq_nil_iff_forall_not_mem.2;intro j hj;obtain⟨h1,o,ho,_⟩:=mem_ready.1 hj
  have hlt:j<l.length:=by simpa using(Array.getElem?_eq_some_iff.1 ho).1
  have h2:=hall j hlt
  have hls:j<listed.size:=by rw[inv.size];exact hlt
  simp[hls] at h1 h2;rw[h1] at h2;cases h2
 |succ fuel ih=>
  intro listed a w hu inv;refine⟨fun hr=>?_,fun i hi=>?_⟩
  ·--something is ready as long as not all is listed
   exfalso
   have hex:∃j,j<l.length∧listed.getD j false=false:=by
    by_cases hex:∃j,j<l.length∧listed.getD j false=false
    ·exact hex
    ·exfalso
     have hall:∀j,j<l.length→listed.getD j false=true:=fun j hj=>by
      cases h:listed.getD j false
      ·exact absurd ⟨j,hj,h⟩ hex
      ·rfl
     have:Gn listed=0:=by
      unfold Gn;rw[List.length_eq_zero_iff,List.filter_eq_nil_iff];intro b hb;obtain⟨j,hj,rfl⟩:=a1z hb
      have hj':j<listed.size:=by simpa using hj
      have:=hall j (by rw[←inv.size];exact hj');simp[hj'] at this ⊢;exact this
     omega
   obtain⟨j,hj,hleast⟩:∃j,(j<l.length∧listed.getD j false=false)∧∀k,k<j→¬(k<l.length∧listed.getD k false=false):=by
    obtain⟨j0,h0⟩:=hex
    induction j0 using Nat.strongRecOn with
    |_ n ih2=>
     by_cases hk:∃k,k<n∧(k<l.length∧listed.getD k false=false)
     ·obtain⟨k,hk1,hk2⟩:=hk;exact ih2 k hk1 hk2
     ·exact⟨n,h0,fun k hk1 hk2=>hk ⟨k,hk1,hk2⟩⟩
   have hjs:j<listed.size:=by rw[inv.size];exact hj.1
   have:j∈Region.ready .any l.toArray listed:=by
    refine mem_ready.2 ⟨by have:=hj.2;simp[hjs] at this ⊢;exact this,l[j],by simp[hj.1],fun e he hb=>?_⟩;have hlt:=O7 hform (a0x hj.1) e he hb;cases h:listed.getD e.on false
    ·exact absurd ⟨by omega,h⟩ (hleast e.on hlt)
    ·rfl
   rw[hr] at this;cases this
  ·obtain⟨h1,o,ho,hpre⟩:=mem_ready.1 hi
   have ho':l[i]?=some o:=by simpa using ho
   have hlt:i<l.length:=(List.getElem?_eq_some_iff.1 ho').1
   have hls:i<listed.size:=by rw[inv.size];exact hlt
   obtain⟨S,hS⟩:∃S,Ss[i]?=some S:=⟨Ss[i]'(by omega),a0x (by omega)⟩
   have hr:=rel i hlt o S ho' hS a w inv.cls inv.tmps inv.same (fun e he hb oe Se hoe hSe=>inv.done e.on oe Se hoe hSe (hpre e he hb))
   have hnext:∀v w2,C w2→(∀S'∈Ss,∀v,S' w v→S' w2 v)→S w2 (match o.dst with|some _=>v|none=>undef)→Ir P l Qn fuel (listed.setIfInBounds i true) (a.put o.dst v) w2:=by
    intro v w2 hC hst hv;refine ih _ _ _ (by have:=Vl hls h1;omega) ⟨by simp[inv.size],by rw[Sr];exact inv.defers,by rw[Qr];exact inv.tmps,?_,?_,hC⟩
    ·intro j oj Sj hj hSj hlj
     by_cases hij:i=j
     ·subst hij;rw[ho'] at hj;cases hj;rw[hS] at hSj;cases hSj;unfold A8
      cases hd:o.dst with
      |none=>rw[hd] at hv;exact hv
      |some d=>
       rw[hd] at hv;simp only;rw[Qq (by rw[inv.tmps];exact(Ha hform ho' hd).1)];exact hv
     ·rw[getD_set_ne false hij] at hlj;have h2:=hst Sj (a2z hSj) _ (inv.done j oj Sj hj hSj hlj)
      have:A8 oj (a.put o.dst v)=A8 oj a:=by
       unfold A8
       cases hdj:oj.dst with
       |none=>rfl
       |some d=>
        simp only
        refine Lx fun hd=>?_
        exact(Ha hform ho' hd).2 j oj hj (Ne.symm hij) hdj
      rw[this];exact h2
    ·intro t ht;rw[Lx (ht o (a2z ho'))];exact inv.same t ht
   refine⟨o,ho',?_⟩;split
   ·rename_i hw;rw[if_pos hw] at hr;refine(Sl (fun a2 w2 h=>?_) (fun _ _ _ h=>h.elim) hr);obtain⟨v,rfl,hC,hR,hv⟩:=h;exact hnext v w2 hC (fun S' hS' v hv=>stab S' hS' w w2 v inv.cls hR hv) hv
   ·rename_i hw;rw[if_neg hw] at hr;refine hnext undef w inv.cls (fun _ _ _ h=>h) ?_
    cases o.dst<;>exact hr
theorem oL{Qn:Act→World→Prop}{a0:Act}{w0:World}(Ss:List (World→Value→Prop))(C:World→Prop)(R:World→World→Prop)
  (hl:Ss.length=l.length)(hform:Ft l a0.tmps.size=true)(hC:C {w0 with drawn:=w0.drawn+1})
  (stab:∀S∈Ss,∀w w' v,C w→R w w'→S w v→S w' v)(rel:∀i,i<l.length→Sm P l Ss C R a0 i)
  (fin:∀vs w,C w→F8 w Ss vs→Qn (Am l vs a0) w):Ir P l Qn l.toArray.size (Array.replicate l.toArray.size false) a0 {w0 with drawn:=w0.drawn+1}:=by
 refine(oK hl hform stab rel ?_ _ _ _ _ (by simp[Gn]) ⟨by simp,rfl,rfl,?_,fun _ _=>rfl,hC⟩)
 ·intro a w listed inv hall
  have hvs:=fin (l.map (fun o=>A8 o a)) w inv.cls (S1 (by simp[hl]) (fun i S v h1 h2=>by
   rw[List.getElem?_map] at h2
   cases ho:l[i]? with
   |none=>rw[ho] at h2;cases h2
   |some o=>
    rw[ho] at h2;simp only[Option.map_some,Option.some.injEq] at h2;rw[←h2]
    exact inv.done i o S ho h1 (hall i (List.getElem?_eq_some_iff.1 ho).1)))
  have:Am l (l.map (fun o=>A8 o a)) a0=a:=by
   have hdef:(Am l (l.map (fun o=>A8 o a)) a0).defers=a.defers:=by rw[Sv,inv.defers]
   have htm:(Am l (l.map (fun o=>A8 o a)) a0).tmps=a.tmps:=by
    have hsz:(Am l (l.map (fun o=>A8 o a)) a0).tmps.size=a.tmps.size:=by rw[Su,inv.tmps]
    refine Array.ext hsz fun t h1 h2=>?_
    have hg:(Am l (l.map (fun o=>A8 o a)) a0).tmps.getD t undef=a.tmps.getD t undef:=by
     by_cases hex:∃o∈l,o.dst=some t
     ·obtain⟨o,ho,hd⟩:=hex;obtain⟨i,hi,hio⟩:=a1z ho
      have hio':l[i]?=some o:=by rw[a0x hi,hio]
      rw[Sz l _ a0 (by simp) (fun i j oi oj d hi hj h1 h2=>by
       by_cases hij:i=j
       ·exact hij
       ·exact absurd h2 ((Ha hform hi h1).2 j oj hj (Ne.symm hij))) (fun o' ho' d hd'=>by
       obtain⟨k,hk,hko⟩:=a1z ho'
       exact(Ha hform (by rw[a0x hk,hko]) hd').1) i o (A8 o a) t hio' (by rw[List.getElem?_map,hio'];rfl) hd]
      unfold A8;rw[hd]
     ·have hex':∀o∈l,o.dst≠some t:=fun o ho hd=>hex ⟨o,ho,hd⟩
      rw[Qs l _ a0 t hex',inv.same t hex']
    simpa [h1,h2] using hg
   cases a;cases h:Am l (l.map (fun o=>A8 o _)) a0;rw[h] at hdef htm;simp only at hdef htm;rw[hdef,htm]
  rw[this] at hvs;exact hvs
 ·intro j o S _ _ h;exfalso
  rcases Nat.lt_or_ge j l.length with h'|h'
  ·simp[h'] at h
  ·simp[h'] at h
theorem oM{id lo n:Nat}{Q:Exit→Act→World→Prop}{a0:Act}{w0:World}(C:World→Prop)(R:World→World→Prop)
  (hm:P.follows .mixedOrders=true)(hd:S3 l=true)(hform:Ft l a0.tmps.size=true)(hC:C {w0 with drawn:=w0.drawn+1})
  (h:H9 P l C R a0 (fun a w=>Q .normal a w) 0 [] l.length):(Code.region id l.toArray true).wpIn (Fence.wide.inRound lo) n P Q a0 w0:=by
 obtain⟨Ss,_,g1,g2,g3,g4⟩:=Yq hform l.length 0 [] h rfl (by omega);exact gZ hm hd (oL Ss C R g1 hform hC g2 (fun i hi=>g4 i (Nat.zero_le _) hi) g3)
theorem Xg{id lo n:Nat}{Q:Exit→Act→World→Prop}{a0:Act}{w0:World}(hm:P.follows .mixedOrders=true)(hd:S3 l=true)(hform:Ft l a0.tmps.size=true)
  (h:H9 P l (fun w'=>Fp [] w0 w') (Fp []) a0 (fun a w=>Q .normal a w) 0 [] l.length):(Code.region id l.toArray true).wpIn (Fence.wide.inRound lo) n P Q a0 w0:=
 oM _ _ hm hd hform (Fp.drew w0) h
end
end
end Go.Proofs.YtkagolpnaicdoaaGreatDoor
