/-
 cut.Roll, walked. cut.All.
-/
import Derived.Test.YtkagolpnaicdoaaGreatDoorPCutD
import Derived.Test.YtkagolpnaicdoaaGreatDoorPBuild
import Derived.Test.YtkagolpnaicdoaaGreatDoorPTabL
set_option maxRecDepth 100000
set_option maxHeartbeats 8000000
open Go.Lib renaming hid→a0z
open List renaming getD_eq_getElem?_getD→a0x,setIfInBounds_toArray→a0w,getElem?_cons_zero→a0v,cons_append→a0u,set_cons_succ→a1z,set_cons_zero→a1x,nil_append→a1w,getElem?_toArray→a1v,reverse_cons→a1u,getElem?_eq_getElem→a2z,reverse_nil→a2x,eq_nil_of_length_eq_zero→a2w,length_append→a2v,getElem?_take→a2u,length_cons→a3z
open Nat renaming le_trans→a3x
namespace Go.Proofs.YtkagolpnaicdoaaGreatDoor
section
open Go.RowKit Go.Lib
structure Uu(w:World)(base most:Nat)(l:List Ac)(pre:List (Nat × Nat))(W:World):Prop where
 ex:∃v,W.heap[w.heap.size+1]?=some (.cells #[v] 149 (0,0))∧Dj Fj W base v (Jy most l pre)
 box:W.heap[w.heap.size]?=some (.cells #[.int .i64 most] 3 (0,0))
 fp:Fp [] w W
theorem Uu.on{w A B:World}{base most:Nat}{l:List Ac}{pre:List (Nat × Nat)}{S:List Nat}(h:Uu w base most l pre A)(hf:Fp S A B)(hS:∀k∈S,w.heap.size+1<k∧k<base):Uu w base most l pre B:=by
 obtain⟨v,hv,ho⟩:=h.ex;refine⟨⟨v,(hf.block _ (Ab hv) fun hm=>by have:=hS _ hm;omega).trans hv,ho.fp hf fun k hk=>(hS k hk).2⟩,(hf.block _ (Ab h.box) fun hm=>by have:=hS _ hm;omega).trans h.box,h.fp.trans hf fun k hk=>Or.inr (by have:=hS k hk;omega)⟩
theorem A2.sliceL{W:World}{base:Nat}{v:Value}{l:List Ac}(h:A2 W base v l):∃a cap,v=.slice a l.length cap:=by
 rcases h.2 with⟨rfl,h0⟩|⟨g,cap,cur,rfl,_⟩
 ·exact⟨_,_,by rw[h0]⟩
 ·exact⟨_,_,rfl⟩
theorem Nv:Qe 2 3 4 5:=⟨by decide,by decide,by decide,by decide,by decide,by decide⟩
def cC(a:Option Addr)(b o n cap m c1 c2:Nat)(x:Nat × Nat):Act:={tmps:=#[.slice a n cap,.int .i64 m,undef,.pointer (some ⟨c1,0,none⟩),.pointer (some ⟨c1+1,0,none⟩),.int .i64 0,Rr b o cap x,undef,.bool false,.int .i64 m,.bool false,.bool false,.slice a n cap,.bool true,.bool false,.slice a n cap,.func (.func 223) #[] #[.pointer (some ⟨c2,0,none⟩)],Rr b o cap x,undef,undef,undef,undef,undef,undef,undef,undef,undef,undef,undef,undef,undef,undef,undef,undef,undef,undef,undef,undef,undef,undef,undef,undef,undef,undef,undef,undef,undef,undef,undef,undef],defers:=[]}
theorem oN(L n bs cap:Nat)(a:Option Addr)(w:World)(hbs:w.heap[bs]?=some (.cells #[.slice a 0 cap] 78 (0,0)))(J Jx:List (Nat × Nat)→World→Prop)(h0:J [] w):
  CallsIn Fence.wide n Tryz.prog 223 #[.func (.yield L) #[] #[],.pointer (some ⟨bs,0,none⟩)] w fun e w'=>(∃v,e=.returned v)∧((∃xs,xs=D8 [] 0 0∧J xs w')∨∃pre,Jx pre w'):=by
 rw[callsIn_wide];have H0:=a0z h0;have q00:w.cell? ⟨bs,0,none⟩=some (.slice a 0 cap):=Aa hbs 0;clear h0 hbs;go_enter Tryz.func223,Tryz.ntmps223;go_wp2_with (fail)
 go_loopg [7] 0 (fun g vi wr=>g=0∧vi=.int .i64 0∧w=wr)
 case atStart=>exact⟨rfl,rfl,rfl⟩
 case round=>
  obtain⟨rfl,rfl,rfl⟩:=hrel;go_wp2_with (fail);go_end0;exact⟨⟨_,rfl⟩,Or.inl ⟨[],by rw[P5 (by simp)],H0.out⟩⟩
attribute [local go_sem] Oper.semAt_some
theorem oO(w:World)(a:Option Addr)(n cap m:Nat)(l:List Ac)(h:Bt w a n l)(hr:risC l=true)(hn:n≤900000)(hlc:n≤cap)(hm0:1≤m)(hm:m<2^63):
  Calls Tryz.prog 89 #[.slice a n cap,.int .i64 m] w fun e w'=>∃v,e=.returned (.tuple #[v,.int .i64 0])∧Dj Fj w' w.heap.size v (Lp l m)∧Fp [] w w':=by
 have HRI:=a0z (fun W (h:Bt W a n l)=>Uf W a n cap l h (by omega));rw[hr] at HRI;have HRF:=a0z (fun w v a len cap (hv:v=.slice a len cap)=>oC w v a len cap hv);have HL:=a0z h;have HLC:=a0z hlc;clear h hr hlc
 have z1:¬(m:Int)<1:=by omega
 rw[←callsIn_wide (n:=5)];refine callsIn_of_wp_marks Tryz.func89 rfl trivial ?_ rfl;simp only[Tryz.ntmps89,List.size_toArray,a3z,List.length_nil,Nat.reduceAdd,Nat.reduceSub,Array.replicate_succ,Array.replicate_zero,List.push_toArray,List.append_toArray,a1w,a0u]
 gi_wp2_with (fail)
 refine⟨trivial,?_⟩;(with_reducible refine((callsIn_wide (n:=4)).2 (HRI.out _ (HL.out.fp ((Fp.alloc _ _).alloc' _)))).mono ?_);rintro e w1 ⟨rfl,hf1⟩;have HX0:=a0z ((hf1.block _ (by simp;omega) (by simp)).trans (Cb (Ai rfl _)):w1.heap[w.heap.size]?=some (.cells #[.int .i64 m] 3 (0,0)));have HX1:=a0z ((hf1.block _ (by simp) (by simp)).trans (Ai (by simp) _):w1.heap[w.heap.size+1]?=some (.cells #[.slice none 0 0] 149 (0,0)));have HF1:Hid (Fp [] w w1):=((Fp.alloc _ _).alloc' _).trans hf1 (by simp);clear hf1
 gi_wp2_with (fail)
 refine⟨trivial,?_⟩;(with_reducible refine((callsIn_wide (n:=4)).2 (HRF.out _ _ _ _ _ rfl)).mono ?_);rintro e w2 ⟨rfl,hbs,hf2⟩;have HBS:=a0z hbs;have HF2:=a0z hf2;clear hbs hf2
 gi_wp2_with (fail)
 have hz1:w.heap.size+1<w1.heap.size:=Ab HX1.out;have hz2:w1.heap.size<w2.heap.size:=Ab HBS.out
 obtain⟨b,o,hab⟩:∃b o,n=0∨a=some ⟨b,o,none⟩∧b<w.heap.size:=by
  rcases HL.out.cells with h1|⟨b,o,h1,h2,_⟩
  ·exact⟨0,0,Or.inl (by have:=HL.out.len;rw[h1] at this;simpa using this)⟩
  ·exact⟨b,o,Or.inr ⟨h1,h2⟩⟩
 refine S5 (α:=Nat × Nat) (encs:=Uo b o cap) rfl (enters_of Tryz.func223 (by kernel_rfl) rfl) (fun _=>rfl) 221 [w.heap.size+1] [] (by simp;omega) (by simp) (w1.heap.size) (by omega) 0
  (fun pre x=>∃post,D8 l 0 0=pre++x::post) (Uu w (w2.heap.size+2) m l) (fun _ _=>False) (fun xs _=>xs=D8 l 0 0)
  (fun _=>True) (fun s A B k h hf hk=>h.on hf (by simp;omega)) (fun s A B h hf _=>h.on hf (by simp;omega)) (fun _ _ _ h _=>h) (fun _ _ _ h _=>h) ?_ ?_ (fun x a' _=>a'=cC a b o n cap m w.heap.size w1.heap.size x) (fun _ _ _ _ h _=>h) ?_ ?_ ?_ (fun _ _ h=>h.elim)
 ·intro J Jx W1 hf1 hsz1 hJ hY hJ0
  rcases hab with rfl|⟨rfl,hbw⟩
  ·obtain rfl:l=[]:=a2w HL.out.len.symm;exact oN (w2.heap.size+1) (5-1) w1.heap.size cap a W1 ((hf1.block _ (by omega) (by simp)).trans HBS.out) J Jx hJ0
  ·exact nZ 221 (w2.heap.size+2) (w2.heap.size+1) (5-1) w1.heap.size W1 b o n cap l (HL.out.fp ((HF1.out.trans HF2.out (by simp)).trans hf1 (by simp))) (by decide) ((hf1.block _ (by omega) (by simp)).trans HBS.out) HLC.out (by omega) (by omega) (by omega) (by omega) (by omega) [w.heap.size+1] (by intro k hk;simp only[List.mem_cons,List.not_mem_nil,or_false] at hk;omega) J Jx (fun s A B h hf=>hJ s A B h (hf.mono (by simp)) trivial) hY hJ0
 ·exact⟨⟨.slice none 0 0,(HF2.out.block _ hz1 (by simp)).trans HX1.out,Dj.nil _ _⟩,(HF2.out.block _ (by omega) (by simp)).trans HX0.out,HF1.out.trans HF2.out (by simp)⟩
 ·intro l x W K hW hK;simp only[Uo]
  gi_wp2_with (fail)
  exact hK _ _ (Fp.refl _ _) rfl
 ·rintro l' pre ⟨xi,xm⟩ a' W ⟨post,hpost⟩ hI hW rfl;have hx:=Xf l 0 0 (Nat.le_refl _) (xi,xm) (by rw[hpost];simp);obtain⟨hx1,hx2⟩:=hx;simp only at hx1 hx2
  obtain⟨rfl,hbw⟩:a=some ⟨b,o,none⟩∧b<w.heap.size:=by
   rcases hab with h1|h1
   ·have:=HL.out.len;omega
   ·exact h1
  obtain⟨v,hv,ho⟩:=hI.ex;have hbd:=oJ m hpost
  obtain⟨xs,hxs⟩:∃xs,Jy m l pre=xs:=⟨_,rfl⟩
  rw[hxs] at ho hbd
  obtain⟨row,hrow⟩:∃row,Jv l (xi,xm)=row:=⟨_,rfl⟩
  rw[hrow] at hbd
  have hqp:Bt w (some ⟨b,o+xi*6,none⟩) xm row:=by
   rw[←hrow];exact(HL.out.drop xi (n-xi) (by have:=HL.out.len;omega)).take xm (by have:=HL.out.len;omega)
  have hst:Jy m l (pre++[(xi,xm)])=Jw m xs row:=by rw[oE,hxs,hrow]
  have hxl:xs.length≤1000000:=by
   have h1:=Ur l 0 0;rw[hpost,a2v] at h1;have h2:=cB m l pre;rw[hxs] at h2;have:=HL.out.len;omega
  have hll:l.length≤900000:=by have:=HL.out.len;omega
  have HST:=a0z hst;have HI:=a0z hI;have HV:=a0z hv;have HO:=a0z ho;have HQ:=a0z hqp;have HBD:=a0z hbd;have hW:w2.heap.size+2≤W.heap.size:=hW;obtain⟨va,vc,hve⟩:=ho.slice;subst hve;have q0:W.cell? ⟨w.heap.size+1,0,none⟩=some (.slice va xs.length vc):=Aa hv 0;clear hI hv ho hqp hpost hst hxs hrow hbd hab;unfold cC Rr;simp only;have HB:=a0z HI.out.box;have q1:W.cell? ⟨w.heap.size,0,none⟩=some (.int .i64 m):=Aa HB.out 0
  by_cases h0:0<xs.length
  ·obtain⟨k,hk⟩:∃k:Nat,k+1=xs.length:=⟨xs.length-1,by omega⟩
   have hkz:((xs.length:Int)-1)=(k:Int):=by omega
   have zk:(k:Int)<(xs.length:Int):=by omega
   obtain⟨g,cap2,cur,vals,hv,hg,hh,hvc,hcm,hcs,ht,hvl,hown,hsep⟩:=HO.out.opened h0;rw[hvl] at hv;cases hv
   have hkv:k<vals.length:=by omega
   have hkx:k<xs.length:=by omega
   obtain⟨last,hlast⟩:∃last,xs[k]=last:=⟨_,rfl⟩
   have hlg:xs.getD (xs.length-1) []=last:=by
    rw[show xs.length-1=k by omega,a0x,a2z hkx,←hlast];rfl
   have hok:=hown k hkv hkx;rw[hlast] at hok;obtain⟨a3,c3,hu⟩:=hok.sliceL
   have hcur:cur[k]?=some (.slice a3 last.length c3):=by
    have h4:(cur.toList.take (vals.length*1))[k]?=vals[k]?:=by rw[ht]
    rw[Nat.mul_one,a2u,if_pos hkv,Array.getElem?_toList,a2z hkv,hu] at h4;exact h4
   have HCUR:=a0z hcur;have HH:=a0z hh;have HHU:=a0z hu;have HLG:=a0z hlg;have HOK:=a0z hok;have HOWN:=a0z hown;have HSEP:=a0z hsep;have HHT:=a0z ht;have HCS:=a0z hcs;have HVL:=a0z hvl;have HK:=a0z hk;have hmem:last.length≤xs.flatten.length:=Ut (by rw[←hlast];exact List.getElem_mem _)
   have hbdl:last.length+row.length≤900000:=by have:=HBD.out;omega
   have HHL:=a0z hlast;have HXR:=a0z HQ.out.len;clear hcur hh hu hlg hok hown hsep ht hcs hvl hlast hk hmem
   gi_wp2_with (fail)
   by_cases hfit:last.length+row.length≤m
   ·have zf:(last.length:Int)+(xm:Int)≤(m:Int):=by have:=HXR.out;omega
    have zw:IntKind.i64.wrap ((last.length:Int)+(xm:Int))=(last.length:Int)+(xm:Int):=by rw[IntKind.wrap_i64];have:=HXR.out;omega
    refine Xg (by kernel_rfl) (by kernel_rfl) (by kernel_rfl) ?_
    iterate 14
     first|apply A9 rfl rfl rfl|apply Jj 2 23 rfl rfl rfl rfl (by kernel_rfl) rfl rfl
     ·intro a w hC hA K hK
      try have h7:=hA.fr 7 rfl
      try have h21:=hA.eq 0 21 rfl
      try have h22:=hA.eq 1 22 rfl
      try have h4:=hA.fr 4 rfl
      try have h24:=hA.eq 3 24 rfl
      try have h25:=hA.eq 4 25 rfl
      try have h26:=hA.eq 5 26 rfl
      try have h27:=hA.eq 6 27 rfl
      try have h6:=hA.fr 6 rfl
      try have h29:=hA.eq 8 29 rfl
      try have h28:=hA.eq 7 28 rfl
      try have h30:=hA.eq 9 30 rfl
      try have h3:=hA.fr 3 rfl
      try have h31:=hA.eq 10 31 rfl
      try have h32:=hA.eq 11 32 rfl
      try have h23:=hA.eq 2 23 rfl
      try have h33:=hA.eq 12 33 rfl
      have q0:=Aa ((hC.block _ (Ab HV.out) (by simp)).trans HV.out) 0;have q1:=Aa ((hC.block _ (Ab HB.out) (by simp)).trans HB.out) 0;have q2:=(Aa ((hC.block _ (Ab HH.out) (by simp)).trans HH.out) k).trans HCUR.out;simp only[a1v,a0v] at q0 q1;simp only[Oper.wp,execOp];go_simp;exact hK _ hC (Fp.refl _ _)
    refine⟨?_,?_⟩
    ·repeat(first|exact trivial|refine C3 _ ?_ |refine⟨fun w1 w2 v _ hf ⟨g,h1,h2⟩=>⟨g,h1,(hf.block g (Ab h2) (by simp)).trans h2⟩,?_⟩)
    ·intro w' hC;simp only[a1u,a2x,a1w,a0u]
     iterate 14 (refine Au ?_)
     refine A6 ?_;simp only[Am,Act.put,a0w,a1z,a1x];have HC:=a0z hC;clear hC
     gi_wp2_with (fail)
     have HO1:=a0z (HO.out.fp HC.out (by simp));have HV1:=a0z ((HC.out.block _ (Ab HV.out) (by simp)).trans HV.out);have HFW:=a0z (HI.out.fp.trans HC.out (by simp));have HB1:=a0z ((HC.out.block _ (Ab HB.out) (by simp)).trans HB.out);have hW1:w2.heap.size+2≤w'.heap.size:=a3x hW HC.out.size
     obtain⟨w3,hw3⟩:∃x,x=w':=⟨_,rfl⟩
     subst hw3
     have HLO:Hid (∀W',Av 0 (w2.heap.size+2) [] w3 W'→W'.heap[w.heap.size+1]?=some (.cells #[.slice (some ⟨g,0,none⟩) xs.length vc] 149 (0,0))):=fun W' h=>(h.low (w.heap.size+1) (by omega) (Ab HV1.out) (by simp)).trans HV1.out
     have HQB:Hid (∀W',Fp [] w W'→Bt W' (some ⟨b,o+xi*6,none⟩) xm row):=fun W' h=>HQ.out.fp h
     have HH1:=a0z ((HC.out.block _ (Ab HH.out) (by simp)).trans HH.out)
     have HOT:Hid (∀i (h1:i<vals.length) (h2:i<xs.length),i≠k→A2 w3 (w2.heap.size+2) vals[i] xs[i]):=fun i h1 h2 _=>(HOWN.out i h1 h2).fp HC.out (by simp)
     have HOK1:Hid (A2 w3 (w2.heap.size+2) (.slice a3 last.length c3) last):=by
      have:=HOK.out.fp HC.out (by simp);rw[HHU.out] at this;exact this
     have HS2:Hid (∀i (h1:i<vals.length),i≠k→∀q,vals[i].ownBlock=some q→(Value.slice a3 last.length c3).ownBlock≠some q):=by
      intro i h1 h2 q h3 h4;rw[←HHU.out] at h4;have hs2:=List.pairwise_iff_getElem.1 HSEP.out
      rcases Nat.lt_or_gt_of_ne h2 with h5|h5
      ·exact hs2 i k h1 hkv h5 q h3 h4
      ·exact hs2 k i hkv h1 h5 q h4 h3
     have HLT:Hid (∀i (h1:i<vals.length),∀q,vals[i].ownBlock=some q→q<w3.heap.size):=fun i h1 q hq=>((HOWN.out i h1 (by rw[←HVL.out];exact h1)).fp HC.out (by simp)).lt q hq |>.2
     refine Tz (Hj w w3 (w2.heap.size+2) g k cur vals xs last row (.slice a3 last.length c3) 7 9) (fun _ _=>True) (by kernel_rfl) (by kernel_rfl) (by kernel_rfl) (fun _=>Hj.start HFW.out HH1.out HOT.out HOK1.out hW1) ?_
     iterate 5
      apply Cj (fun _ _ _ h _=>h.plain (by decide)) rfl rfl rfl
      ·intro b a w hC hA K hK
       try have h4:=hA.fr 4 rfl
       try have h7:=hA.fr 7 rfl
       try have h37:=hA.eq 2 37 rfl
       try have h38:=hA.eq 3 38 rfl
       have q0:=Aa (HLO.out _ (hC.kept 0 (by decide) (by decide))) 0;simp only[a1v,a0v] at q0;simp only[Oper.wp,execOp];go_simp;exact hK _ hC trivial
     apply Cj (fun _ _ _ h _=>h.plain (by decide)) rfl rfl rfl
     ·intro b a w hC hA K hK;have h39:=hA.eq 4 39 rfl;have q0:=(Aa (hC.first (hA.post 7 (by kernel_rfl))) k).trans HCUR.out;simp only[Oper.wp,execOp];go_simp;exact hK _ hC trivial
     apply Cj (fun _ _ _ h _=>h.plain (by decide)) rfl rfl rfl
     ·intro b a w hC hA K hK;have h6:=hA.fr 6 rfl;simp only[Oper.wp,execOp];go_simp;exact hK _ hC trivial
     apply Dt (fun _ _=>True) rfl rfl rfl
     ·intro b a w hC hA K hK;have h40:=hA.eq 5 40 rfl;have h41:=hA.eq 6 41 rfl;refine oD (.tmp 40) (.tmp 41) rfl (w2.heap.size+2) (.slice a3 last.length c3) last (Gf h40) (hC.last0 hA.self) _ xm _ row (Gf h41) (HQB.out _ hC.fp) (by omega) hC.sz ?_;intro v' w' h1 h2 h3 h4;exact hK _ _ (hC.append (by decide) hA.self h1 h2 h3 h4 (by omega) HS2.out) trivial trivial
     apply Cj (fun _ _ _ h _=>h.plain (by decide)) rfl rfl rfl
     ·intro b a w hC hA K hK;have h35:=hA.eq 0 35 rfl;have h36:=hA.eq 1 36 rfl;simp only[Oper.wp,execOp];go_simp;exact hK _ hC trivial
     apply I9 (fun _=>True) rfl rfl rfl
     ·intro b a w hC hA K hK;have h43:=hA.eq 8 43 rfl;have h42:=hA.dep 7 42 _ (by kernel_rfl) rfl;have h7:=hA.pre 7 (by kernel_rfl)
      obtain⟨a2,n2,c2,e2⟩:∃a n c,_ =Value.slice a n c:=by obtain⟨a2,c2,e2⟩:=(hC.res h7).1.sliceL;exact⟨_,_,_,e2⟩
      have hv:=(hA.val 7 42 (by kernel_rfl)).trans e2;have hst:=hC.store (by decide) h7 hA.self hg (by omega) rfl;rw[e2] at hst;have hou:=hC.outer;rw[hA.self] at hou;simp only[Bool.false_eq_true,if_false] at hou;have f0:=Ar hou k;have q0:=(Aa hou k).trans HCUR.out;simp only[Oper.wp,execOp];go_simp;exact hK undef _ hst trivial trivial
     refine⟨?_,?_⟩
     ·refine⟨fun _ _ _ _ _=>trivial,?_⟩;refine E6 _ ?_;refine⟨fun _ _ _ _ _=>trivial,?_⟩
      iterate 7 refine E6 _ ?_
      exact trivial
     ·intro w' bb hbb;simp only[a1u,a2x,a1w,a0u]
      iterate 7 (refine Au ?_)
      refine Az ?_;intro v7 u7
      iterate 1 (refine Au ?_)
      refine Az ?_;intro v9 u9;refine A6 ?_;intro hC;simp only[Am,Act.put,a0w,a1z,a1x]
      gi_wp2_with (fail)
      have hkp:=(Av.of (HC.out.mono (by simp):Fp [w.heap.size+1] W w3) (by simp;omega)).trans (hC.kept 221 (by decide) (by decide)) (by simp);have hcel:=(hC.kept 221 (by decide) (by decide)).low (w.heap.size+1) (by omega) (Ab HV1.out) (by simp);refine⟨hkp,⟨⟨_,hcel.trans HV1.out,?_⟩,(hkp.low _ (by omega) (by omega) (by simp)).trans HI.out.box,hC.fp⟩⟩;have hdone:=hC.done (hbb 7 (by simp)) (hbb 9 (by simp)) (by rw[HVL.out]) hg hvc hcm HCS.out HHT.out HVL.out hkv HHU.out HSEP.out HLT.out;rw[HST.out,oF h0 (by rw[HLG.out];exact hfit),HLG.out,show xs.length-1=k by omega];exact hdone
   ·have zf:¬(last.length:Int)+(xm:Int)≤(m:Int):=by have:=HXR.out;omega
    have zw:IntKind.i64.wrap ((last.length:Int)+(xm:Int))=(last.length:Int)+(xm:Int):=by rw[IntKind.wrap_i64];have:=HXR.out;omega
    refine Xg (by kernel_rfl) (by kernel_rfl) (by kernel_rfl) ?_
    iterate 14
     first|apply A9 rfl rfl rfl|apply Jj 2 23 rfl rfl rfl rfl (by kernel_rfl) rfl rfl
     ·intro a w hC hA K hK
      try have h7:=hA.fr 7 rfl
      try have h21:=hA.eq 0 21 rfl
      try have h22:=hA.eq 1 22 rfl
      try have h4:=hA.fr 4 rfl
      try have h24:=hA.eq 3 24 rfl
      try have h25:=hA.eq 4 25 rfl
      try have h26:=hA.eq 5 26 rfl
      try have h27:=hA.eq 6 27 rfl
      try have h6:=hA.fr 6 rfl
      try have h29:=hA.eq 8 29 rfl
      try have h28:=hA.eq 7 28 rfl
      try have h30:=hA.eq 9 30 rfl
      try have h3:=hA.fr 3 rfl
      try have h31:=hA.eq 10 31 rfl
      try have h32:=hA.eq 11 32 rfl
      try have h23:=hA.eq 2 23 rfl
      try have h33:=hA.eq 12 33 rfl
      have q0:=Aa ((hC.block _ (Ab HV.out) (by simp)).trans HV.out) 0;have q1:=Aa ((hC.block _ (Ab HB.out) (by simp)).trans HB.out) 0;have q2:=(Aa ((hC.block _ (Ab HH.out) (by simp)).trans HH.out) k).trans HCUR.out;simp only[a1v,a0v] at q0 q1;simp only[Oper.wp,execOp];go_simp;exact hK _ hC (Fp.refl _ _)
    refine⟨?_,?_⟩
    ·repeat(first|exact trivial|refine C3 _ ?_ |refine⟨fun w1 w2 v _ hf ⟨g,h1,h2⟩=>⟨g,h1,(hf.block g (Ab h2) (by simp)).trans h2⟩,?_⟩)
    ·intro w' hC;simp only[a1u,a2x,a1w,a0u]
     iterate 14 (refine Au ?_)
     refine A6 ?_;simp only[Am,Act.put,a0w,a1z,a1x];have HC:=a0z hC;clear hC
     gi_wp2_with (fail)
     have HCL:=a0z (fun w2' (h:Fp [] w w2')=>R5 w2' (some ⟨b,o+xi*6,none⟩) xm (cap-xi) row (HQ.out.fp h) (by intro h;cases h) (by omega));have HO1:=a0z (HO.out.fp HC.out (by simp));have HV1:=a0z ((HC.out.block _ (Ab HV.out) (by simp)).trans HV.out);have HFW:=a0z (HI.out.fp.trans HC.out (by simp));have HB1:=a0z ((HC.out.block _ (Ab HB.out) (by simp)).trans HB.out);have hW1:w2.heap.size+2≤w'.heap.size:=a3x hW HC.out.size
     obtain⟨w3,hw3⟩:∃x,x=w':=⟨_,rfl⟩
     subst hw3;refine Tz (Ec Fj (fun r=>r=row) w w3 (w2.heap.size+2) (w.heap.size+1) 149 (fun d v'=>cond d v' (.slice (some ⟨g,0,none⟩) xs.length vc)) 2 3 4 5 (.slice (some ⟨g,0,none⟩) xs.length vc) xs) (fun _ _=>True) (by kernel_rfl) (by kernel_rfl) (by kernel_rfl) (fun _=>Ec.start HO1.out HV1.out (fun _=>rfl) HFW.out hW1 (by omega)) ?_;apply Cj (fun _ _ _ h _=>h.plain (by decide)) rfl rfl rfl
     ·intro b a w hC hA K hK;have h4:=hA.fr 4 rfl;obtain⟨u1,hu1⟩:=hC.first (hA.post 4 (by kernel_rfl));have q0:=Aa hu1 0;simp only[a1v,a0v,cond] at q0;simp only[Oper.wp,execOp];go_simp;exact hK _ hC trivial
     apply Cj (fun _ _ _ h _=>h.plain (by decide)) rfl rfl rfl
     ·intro b a w hC hA K hK;have h6:=hA.fr 6 rfl;simp only[Oper.wp,execOp];go_simp;exact hK _ hC trivial
     apply Dt (fun _ _=>True) rfl rfl rfl
     ·intro b a w hC hA K hK;have h45:=hA.eq 1 45 rfl;simp only[Oper.wp,execOp];go_simp;(with_reducible refine(HCL.out _ hC.fp).mono ?_);rintro e w4 ⟨vr,rfl,hr,hf⟩;exact hK _ _ (hC.call Nv hA.self hf rfl hr) trivial trivial
     apply Dt (fun _ _=>True) rfl rfl rfl
     ·intro b a w hC hA K hK;have h46:=hA.dep 2 46 _ (by kernel_rfl) rfl;obtain⟨rr,hg,hr,-⟩:=hC.res (hA.pre 2 (by kernel_rfl)) (hA.post 4 (by kernel_rfl));obtain⟨a2,n2,c2,e2⟩:=Fj.sl hr;have hv:=hA.val 2 46 (by kernel_rfl);rw[e2] at hv;have hst:=hC.build Nv (hA.pre 2 (by kernel_rfl)) hA.self;rw[e2] at hst;simp only[Oper.wp,execOp];go_simp;exact hK _ _ hst trivial trivial
     apply Dt (fun _ _=>True) rfl rfl rfl
     ·intro b a w hC hA K hK;have h44:=hA.eq 0 44 rfl;have h47:=hA.dep 3 47 _ (by kernel_rfl) rfl;obtain⟨g,hg1,hg2⟩:=hC.bld (hA.pre 3 (by kernel_rfl)) hA.self;obtain⟨rr,hg,hr,hq⟩:=hC.res (hC.o32 (hA.pre 3 (by kernel_rfl))) hA.self;refine U4 Fj (.tmp 44) (.tmp 47) rfl _ _ xs (Gf h44) (hC.own0 hA.self) g _ rr hr hq (Gf ((hA.val 3 47 (by kernel_rfl)).trans hg1)) hg2 (by omega) hC.sz ?_;intro v' w' h1 h2 h3;exact hK _ _ (hC.append Nv (hA.pre 3 (by kernel_rfl)) hA.self hg h1 h2 h3 (by omega) (by omega) (fun _ _=>rfl)) trivial trivial
     apply I9 (fun _=>True) rfl rfl rfl
     ·intro b a w hC hA K hK;have h4:=hA.fr 4 rfl;have h48:=hA.dep 4 48 _ (by kernel_rfl) rfl;obtain⟨rr,-,ho4⟩:=hC.own1 (hA.pre 4 (by kernel_rfl))
      obtain⟨a2,n2,c2,e2⟩:∃a n c,_ =Value.slice a n c:=by obtain⟨a2,c2,e2⟩:=ho4.slice;exact⟨_,_,_,e2⟩
      have hv:=(hA.val 4 48 (by kernel_rfl)).trans e2;have hst:=hC.store Nv (hA.pre 4 (by kernel_rfl)) (by omega) (by omega) rfl;rw[e2] at hst;simp only[cond_true] at hst;have f0:=Ar hC.cel 0;have q0:=Aa hC.cel 0;simp only[Oper.wp,execOp];go_simp;exact hK undef _ hst trivial trivial
     refine⟨?_,?_⟩
     ·refine⟨fun _ _ _ _ _=>trivial,?_⟩;refine⟨fun _ _ _ _ _=>trivial,?_⟩;refine⟨fun _ _ _ _ _=>trivial,?_⟩;refine⟨fun _ _ _ _ _=>trivial,?_⟩;refine E6 _ ?_;refine E6 _ ?_;exact trivial
     ·intro w' bb hbb;simp only[a1u,a2x,a1w,a0u]
      iterate 2 (refine Au ?_)
      refine Az ?_;intro v2 u2;refine Az ?_;intro v3 u3;refine Az ?_;intro v4 u4;refine Az ?_;intro v5 u5;refine A6 ?_;intro hC;simp only[Am,Act.put,a0w,a1z,a1x]
      gi_wp2_with (fail)
      have hcel:=hC.cel;rw[hbb 5 (by simp)] at hcel;obtain⟨r,rfl,ho5⟩:=hC.own1 (hbb 4 (by simp));have hkp:=(Av.of (HC.out.mono (by simp):Fp [w.heap.size+1] W w3) (by simp;omega)).trans (hC.keptD 221 (by decide)) (by simp);exact⟨hkp,⟨⟨_,hcel,by rw[HST.out,bX (by rw[HLG.out];exact fun h=>hfit h.2)];exact ho5⟩,(hkp.low _ (by omega) (by omega) (by simp)).trans HI.out.box,hC.fp⟩⟩
  ·obtain rfl:xs=[]:=a2w (by omega)
   have hkz:(((0:Nat):Int)-1)= -1:=by omega
   gi_wp2_with (fail)
   refine Xg (by kernel_rfl) (by kernel_rfl) (by kernel_rfl) ?_
   iterate 3
    apply A9 rfl rfl rfl
    ·intro a w hC hA K hK
     try have h7:=hA.fr 7 rfl
     try have h21:=hA.eq 0 21 rfl
     try have h22:=hA.eq 1 22 rfl
     simp only[Oper.wp,execOp];go_simp;exact hK _ hC (Fp.refl _ _)
   apply A1 2 23 rfl rfl rfl rfl (by kernel_rfl) rfl rfl;apply A1 2 23 rfl rfl rfl rfl (by kernel_rfl) rfl rfl;apply A1 2 23 rfl rfl rfl rfl (by kernel_rfl) rfl rfl;apply A1 2 23 rfl rfl rfl rfl (by kernel_rfl) rfl rfl;apply A1 2 23 rfl rfl rfl rfl (by kernel_rfl) rfl rfl;apply A1 2 23 rfl rfl rfl rfl (by kernel_rfl) rfl rfl;apply A1 2 23 rfl rfl rfl rfl (by kernel_rfl) rfl rfl;apply A1 2 23 rfl rfl rfl rfl (by kernel_rfl) rfl rfl;apply A1 2 23 rfl rfl rfl rfl (by kernel_rfl) rfl rfl;apply A1 2 23 rfl rfl rfl rfl (by kernel_rfl) rfl rfl;apply A9 rfl rfl rfl
   ·intro a w hC hA K hK;have h23:=hA.eq 2 23 rfl;have h33:=hA.eq 12 33 rfl;simp only[Oper.wp,execOp];go_simp;exact hK _ hC (Fp.refl _ _)
   refine⟨?_,?_⟩
   ·repeat(first|exact trivial|refine C3 _ ?_ |refine⟨fun w1 w2 v _ hf ⟨g,h1,h2⟩=>⟨g,h1,(hf.block g (Ab h2) (by simp)).trans h2⟩,?_⟩)
   ·intro w' hC;simp only[a1u,a2x,a1w,a0u]
    iterate 14 (refine Au ?_)
    refine A6 ?_;simp only[Am,Act.put,a0w,a1z,a1x];have HC:=a0z hC;clear hC
    gi_wp2_with (fail)
    have HCL:=a0z (fun w2' (h:Fp [] w w2')=>R5 w2' (some ⟨b,o+xi*6,none⟩) xm (cap-xi) row (HQ.out.fp h) (by intro h;cases h) (by omega));have HO1:=a0z (HO.out.fp HC.out (by simp));have HV1:=a0z ((HC.out.block _ (Ab HV.out) (by simp)).trans HV.out);have HFW:=a0z (HI.out.fp.trans HC.out (by simp));have HB1:=a0z ((HC.out.block _ (Ab HB.out) (by simp)).trans HB.out);have hW1:w2.heap.size+2≤w'.heap.size:=a3x hW HC.out.size
    obtain⟨w3,hw3⟩:∃x,x=w':=⟨_,rfl⟩
    subst hw3;refine Tz (Ec Fj (fun r=>r=row) w w3 (w2.heap.size+2) (w.heap.size+1) 149 (fun d v'=>cond d v' (.slice va 0 vc)) 2 3 4 5 (.slice va 0 vc) []) (fun _ _=>True) (by kernel_rfl) (by kernel_rfl) (by kernel_rfl) (fun _=>Ec.start HO1.out HV1.out (fun _=>rfl) HFW.out hW1 (by omega)) ?_;apply Cj (fun _ _ _ h _=>h.plain (by decide)) rfl rfl rfl
    ·intro b a w hC hA K hK;have h4:=hA.fr 4 rfl;obtain⟨u1,hu1⟩:=hC.first (hA.post 4 (by kernel_rfl));have q0:=Aa hu1 0;simp only[a1v,a0v,cond] at q0;simp only[Oper.wp,execOp];go_simp;exact hK _ hC trivial
    apply Cj (fun _ _ _ h _=>h.plain (by decide)) rfl rfl rfl
    ·intro b a w hC hA K hK;have h6:=hA.fr 6 rfl;simp only[Oper.wp,execOp];go_simp;exact hK _ hC trivial
    apply Dt (fun _ _=>True) rfl rfl rfl
    ·intro b a w hC hA K hK;have h45:=hA.eq 1 45 rfl;simp only[Oper.wp,execOp];go_simp;(with_reducible refine(HCL.out _ hC.fp).mono ?_);rintro e w4 ⟨vr,rfl,hr,hf⟩;exact hK _ _ (hC.call Nv hA.self hf rfl hr) trivial trivial
    apply Dt (fun _ _=>True) rfl rfl rfl
    ·intro b a w hC hA K hK;have h46:=hA.dep 2 46 _ (by kernel_rfl) rfl;obtain⟨rr,hg,hr,-⟩:=hC.res (hA.pre 2 (by kernel_rfl)) (hA.post 4 (by kernel_rfl));obtain⟨a2,n2,c2,e2⟩:=Fj.sl hr;have hv:=hA.val 2 46 (by kernel_rfl);rw[e2] at hv;have hst:=hC.build Nv (hA.pre 2 (by kernel_rfl)) hA.self;rw[e2] at hst;simp only[Oper.wp,execOp];go_simp;exact hK _ _ hst trivial trivial
    apply Dt (fun _ _=>True) rfl rfl rfl
    ·intro b a w hC hA K hK;have h44:=hA.eq 0 44 rfl;have h47:=hA.dep 3 47 _ (by kernel_rfl) rfl;obtain⟨g,hg1,hg2⟩:=hC.bld (hA.pre 3 (by kernel_rfl)) hA.self;obtain⟨rr,hg,hr,hq⟩:=hC.res (hC.o32 (hA.pre 3 (by kernel_rfl))) hA.self;refine U4 Fj (.tmp 44) (.tmp 47) rfl _ (.slice va 0 vc) [] (Gf h44) (hC.own0 hA.self) g _ rr hr hq (Gf ((hA.val 3 47 (by kernel_rfl)).trans hg1)) hg2 (by simp) hC.sz ?_;intro v' w' h1 h2 h3;exact hK _ _ (hC.append Nv (hA.pre 3 (by kernel_rfl)) hA.self hg h1 h2 h3 (by omega) (by omega) (fun _ _=>rfl)) trivial trivial
    apply I9 (fun _=>True) rfl rfl rfl
    ·intro b a w hC hA K hK;have h4:=hA.fr 4 rfl;have h48:=hA.dep 4 48 _ (by kernel_rfl) rfl;obtain⟨rr,-,ho4⟩:=hC.own1 (hA.pre 4 (by kernel_rfl))
     obtain⟨a2,n2,c2,e2⟩:∃a n c,_ =Value.slice a n c:=by obtain⟨a2,c2,e2⟩:=ho4.slice;exact⟨_,_,_,e2⟩
     have hv:=(hA.val 4 48 (by kernel_rfl)).trans e2;have hst:=hC.store Nv (hA.pre 4 (by kernel_rfl)) (by omega) (by omega) rfl;rw[e2] at hst;simp only[cond_true] at hst;have f0:=Ar hC.cel 0;have q0:=Aa hC.cel 0;simp only[Oper.wp,execOp];go_simp;exact hK undef _ hst trivial trivial
    refine⟨?_,?_⟩
    ·refine⟨fun _ _ _ _ _=>trivial,?_⟩;refine⟨fun _ _ _ _ _=>trivial,?_⟩;refine⟨fun _ _ _ _ _=>trivial,?_⟩;refine⟨fun _ _ _ _ _=>trivial,?_⟩;refine E6 _ ?_;refine E6 _ ?_;exact trivial
    ·intro w' bb hbb;simp only[a1u,a2x,a1w,a0u]
     iterate 2 (refine Au ?_)
     refine Az ?_;intro v2 u2;refine Az ?_;intro v3 u3;refine Az ?_;intro v4 u4;refine Az ?_;intro v5 u5;refine A6 ?_;intro hC;simp only[Am,Act.put,a0w,a1z,a1x]
     gi_wp2_with (fail)
     have hcel:=hC.cel;rw[hbb 5 (by simp)] at hcel;obtain⟨r,rfl,ho5⟩:=hC.own1 (hbb 4 (by simp));have hkp:=(Av.of (HC.out.mono (by simp):Fp [w.heap.size+1] W w3) (by simp;omega)).trans (hC.keptD 221 (by decide)) (by simp);exact⟨hkp,⟨⟨_,hcel,by rw[HST.out,bX (by simp)];exact ho5⟩,(hkp.low _ (by omega) (by omega) (by simp)).trans HI.out.box,hC.fp⟩⟩
 ·rintro xs W rfl hI hK;obtain⟨v,hv,ho⟩:=hI.ex;obtain⟨va,vc,rfl⟩:=ho.slice;have HI:=a0z hI;have HK:=a0z hK
  obtain⟨vn,hvn⟩:∃vn,(Jy m l (D8 l 0 0)).length=vn:=⟨_,rfl⟩
  rw[hvn] at hv ho;have q0:W.cell? ⟨w.heap.size+1,0,none⟩=some (.slice va vn vc):=Aa hv 0;have f0:W.frozen? ⟨w.heap.size+1,0,none⟩=false:=Ar hv 0;have HV:=a0z hv;have HO:=a0z ho;clear hI hK hv ho hvn
  gi_wp2_with (fail)
  have hf5:Fp [w.heap.size+1] W (W.setCell ⟨w.heap.size+1,0,none⟩ (.slice va vn vc)):=Fp.setCell W ⟨w.heap.size+1,0,none⟩ (.slice va vn vc);have h4:(W.setCell ⟨w.heap.size+1,0,none⟩ (.slice va vn vc)).heap[w.heap.size+1]?=some (.cells #[.slice va vn vc] 149 (0,0)):=(Bm HV.out _).trans rfl
  obtain⟨wa,hwa⟩:∃wa,W.setCell ⟨w.heap.size+1,0,none⟩ (.slice va vn vc)=wa:=⟨_,rfl⟩
  rw[hwa] at hf5 h4 ⊢;have hk2:wa.heap[w2.heap.size]?=some (.deferred (some [])):=(hf5.block _ (Ab HK.out) (by simp;omega)).trans HK.out;have hp:=Fp.putObj wa w2.heap.size (.deferred none);refine⟨by simp,.inl ⟨_,_,rfl,run_takeDeferred hk2,?_⟩⟩;have c0:(wa.putObj w2.heap.size (.deferred none)).cell? ⟨w.heap.size+1,0,none⟩=some (.slice va vn vc):=Aa ((hp.block _ (Ab h4) (by simp;omega)).trans h4) 0;have hoo:=(HO.out.fp hf5 (by simp;omega)).fp hp (by simp);refine⟨.tuple #[.slice va vn vc,.int .i64 0],by simp[results,Tryz.results89,go_sem,c0],.slice va vn vc,rfl,?_,((HI.out.fp.trans hf5 (by intro i hi;right;simp at hi;omega)).trans hp (by intro i hi;right;simp at hi;omega))⟩;exact hoo.mono (by omega)
theorem oP(w:World)(a:Option Addr)(n cap:Nat)(m:Int)(hm:m<1):Calls Tryz.prog 89 #[.slice a n cap,.int .i64 m] w fun e w'=>e=.returned (.tuple #[.slice none 0 0,.int .i64 1])∧Fp [] w w':=by
 go_enter Tryz.func89,Tryz.ntmps89;go_wp2_with (fail);refine bodyPost_ret (v:=.tuple #[.slice none 0 0,.int .i64 1]) (by simp[results,Tryz.results89,go_sem]) rfl ?_;exact⟨rfl,(Fp.alloc _ _).alloc' _⟩
end
section
open Go.RowKit Go.Lib
def cD:Gx (Nat ×(Option Addr × Nat × Nat)) where
 e:=106
 k:=2
 enc:=fun x=>[.int .i64 x.1,.slice x.2.1 x.2.2.1 x.2.2.2]
 len:=fun _=>rfl
 pos:=by decide
 one:=by
  intro x v hv;simp only[List.mem_cons,List.not_mem_nil,or_false] at hv
  rcases hv with rfl|rfl<;>rfl
theorem Tryz.infoPc:(Tryz.prog.info? 106).map (fun i=>(i.zero,i.size,i.bytes))=some (some (.agg #[.int .i64 0,.slice none 0 0]),2,32):=by kernel_rfl
def cE(h:Nat ×(Option Addr × Nat × Nat)):Value:=.slice h.2.1 h.2.2.1 h.2.2.2
def E7(W:World)(base:Nat)(v:Value)(ps:List (Nat × List Ac)):Prop:=∃hs,Ae cD W base v hs∧Dh (fun h x=>h.1=x.1∧A2 W base (cE h) x.2) hs ps
theorem E7.nil(W:World)(base:Nat):E7 W base (.slice none 0 0) []:=⟨[],Ae.nil _ _,.nil⟩
theorem E7.mono{W:World}{base base':Nat}{v:Value}{ps:List (Nat × List Ac)}(h:E7 W base v ps)(hb:base'≤base):E7 W base' v ps:=by
 obtain⟨hs,h1,h2⟩:=h;exact⟨hs,h1.mono hb,K7 (fun _ _ h=>⟨h.1,h.2.mono hb⟩) h2⟩
theorem E7.fp{W W':World}{base:Nat}{S:List Nat}{v:Value}{ps:List (Nat × List Ac)}(h:E7 W base v ps)(hf:Fp S W W')(hS:∀k∈S,k<base):E7 W' base v ps:=by
 obtain⟨hs,h1,h2⟩:=h;exact⟨hs,h1.fp hf hS,K7 (fun _ _ h=>⟨h.1,h.2.fp hf hS⟩) h2⟩
theorem E7.slice{W:World}{base:Nat}{v:Value}{ps:List (Nat × List Ac)}(h:E7 W base v ps):∃a cap,v=.slice a ps.length cap:=by
 obtain⟨hs,h1,h2⟩:=h;obtain⟨a,cap,e,_⟩:=h1.len;exact⟨a,cap,by rw[e,h2.length_eq]⟩
theorem Ae.typed{α:Type}{R:Gx α}{w:World}{base:Nat}{v:Value}{l:List α}(h:Ae R w base v l):∀q,v.ownBlock=some q→base≤q∧∃c fz,w.heap[q]?=some (.cells c R.e fz):=by
 intro q hq
 rcases h.2 with⟨rfl,_⟩|⟨g,cap,cur,rfl,hg,hh,_⟩
 ·cases hq
 ·obtain rfl:g=q:=by simpa [Value.ownBlock] using hq
  exact⟨hg,_,_,hh⟩
theorem Dj.keptD{W W':World}{base base':Nat}{v:Value}{xs:List (List Ac)}(h:Dj Fj W base v xs)(hb:base'≤base)(hk:Av 80 base' [] W W')(hk2:Av 78 base' [] W W'):Dj Fj W' base v xs:=by
 obtain⟨vals,h1,h2,h3⟩:=h;refine⟨vals,?_,K7 (fun _ _ h=>h.kept fun q hq=>?_) h2,h3⟩
 ·refine⟨h1.1,?_⟩
  rcases h1.2 with h4|⟨g,cap,cur,hv,hg,hh,hr⟩
  ·exact Or.inl h4
  ·exact Or.inr ⟨g,cap,cur,hv,hg,(hk2.high g _ _ (by omega) hh).trans hh,hr⟩
 ·obtain⟨h5,c,fz,h6⟩:=h.typed q hq;exact hk.high q _ _ (by omega) h6
theorem oQ{w:World}{ops:Array Oper}{rest:List Oper}{o:Oper}{a:Act}{Q:Exit→Act→World→Prop}(hgd:o.guard=none)(s x:Operand)
  (ho:o.op=.call {callee:=.builtin .append,args:=#[s,x],argTypes:=#[102,102]})(base:Nat)(v:Value)(ps:List (Nat × List Ac))(hs:a.eval s=v)(hown:E7 w base v ps)
  (g i n c:Nat)(ad:Option Addr)(r:List Ac)(hr:A2 w base (.slice ad n c) r)(hx:a.eval x=.slice (some ⟨g,0,none⟩) 1 1)(hg:w.heap[g]?=some (.cells #[.int .i64 i,.slice ad n c] 106 (0,0)))(hlen:ps.length+1≤1000000000)(hbase:base≤w.heap.size)
  (h:∀v' w',E7 w' base v' (ps++[(i,r)])→Below base w w'→(∀D,D≠106→Av D base [] w w')→wpList Tryz.prog ops Q rest (a.put o.dst v') w'):wpList Tryz.prog ops Q (o::rest) a w:=by
 obtain⟨hds,h1,h2⟩:=hown;have hl:=h2.length_eq;refine Wh (R:=cD) 102 Tryz.underlying102 Tryz.infoPc rfl (by decide) hgd s x ho base v hds hs h1 _ 1 1 [(i,ad,n,c)] hx (Bf.one (x:=(i,ad,n,c)) hg) (by intro h;cases h) (by simp;omega) hbase ?_;intro v' w' g1 g2 g3
 have hk:∀D,D≠106→Av D base [] w w':=fun D hD=>Xe h1.typed g3 hD
 have hkc:=hk 80 (by decide);exact h v' w' ⟨_,g1,S9 (K7 (fun _ _ h=>⟨h.1,h.2.keptT hkc⟩) h2) ⟨rfl,hr.keptT hkc⟩⟩ g2 hk
def Hw(most:Nat)(out:List (List Ac))(k:Nat):List (Nat × List Ac):=(List.range k).flatMap fun i=>(Lp (out.getD i []) most).map fun r=>(i,r)
def Lq(most:Nat)(out:List (List Ac)):List (Nat × List Ac):=Hw most out out.length
theorem Rt(most:Nat)(out:List (List Ac))(k:Nat):Hw most out (k+1)=Hw most out k++(Lp (out.getD k []) most).map fun r=>(k,r):=by
 unfold Hw;rw[List.range_succ,List.flatMap_append];simp
theorem cF(l:List Ac)(most:Nat):(Lp l most).length≤l.length:=by
 have h1:=cB most l (D8 l 0 0);have h2:=Ur l 0 0;unfold Lp;omega
theorem Xh(most:Nat)(out:List (List Ac)):∀k,k≤out.length→(Hw most out k).length≤(out.take k).flatten.length
 |0,_=>by simp[Hw]
 |k+1,h=>by
  have ih:=Xh most out k (by omega);have hr:=cF (out.getD k []) most;rw[Rt,a2v,List.length_map,List.take_add_one,List.flatten_append,a2v,a2z (by omega)];rw[a0x,a2z (by omega)] at hr ⊢;simp only[Option.getD_some] at hr ⊢;simp only[Option.toList_some,List.flatten_cons,List.flatten_nil,List.append_nil];omega
theorem Fo.flat{l:List Ac}{bs:List ByteArray}{out:List (List Ac)}(h:Fo l bs out):out.flatten=l:=by
 induction h with
 |nil=>simp
 |cons l s bs out h _ _ _ _ ih=>rw[List.flatten_cons,ih,List.take_append_drop]
theorem Fo.count{l:List Ac}{bs:List ByteArray}{out:List (List Ac)}(h:Fo l bs out):out.length=bs.length+1:=by
 induction h with
 |nil=>rfl
 |cons l s bs out h _ _ _ _ ih=>rw[a3z,ih,a3z]
theorem cG{l:List Ac}(h:risC l=true)(j:Nat)(hj:j<l.length):Kx l j=false:=by
 cases hb:Kx l j
 ·rfl
 ·rw[aO hj hb] at h;cases h
theorem oR{l:List Ac}(h:risC l=true)(n:Nat):risC (l.take n)=true:=by
 refine Ue fun j hj=>?_
 rw[List.length_take] at hj;have h1:=cG h j (by omega);unfold Kx at h1 ⊢;rw[a0x,a0x,a2u,a2u,if_pos (by omega),if_pos (by omega)];rw[a0x,a0x] at h1;exact h1
theorem oS{l:List Ac}(h:risC l=true)(n:Nat):risC (l.drop n)=true:=by
 refine Ue fun j hj=>?_
 rw[List.length_drop] at hj
 rcases Nat.eq_zero_or_pos j with rfl|h0
 ·rfl
 have h1:=cG h (n+j) (by omega);unfold Kx at h1 ⊢;rw[decide_eq_true (by omega),Bool.true_and] at h1 ⊢;rw[a0x,a0x,List.getElem?_drop,List.getElem?_drop,show n+(j-1)=n+j-1 by omega];rw[a0x,a0x] at h1;exact h1
theorem Fo.ris{l:List Ac}{bs:List ByteArray}{out:List (List Ac)}(h:Fo l bs out):risC l=true→∀x∈out,risC x=true:=by
 induction h with
 |nil=>
  intro h x hx;rw[List.mem_singleton.1 hx];exact h
 |cons l s bs out h _ _ _ _ ih=>
  intro hr x hx
  rcases List.mem_cons.1 hx with rfl|hx
  ·exact oR hr _
  ·exact ih (oS hr _) x hx
theorem A2.at5{w:World}{base:Nat}{v:Value}{l:List Ac}(h:A2 w base v l)(hok:∀c∈l,Dn c):∃a cap,v=.slice a l.length cap∧l.length≤cap∧(a=none→cap=0)∧Bt w a l.length l:=by
 obtain⟨a,cap,e,h1,h2⟩:=h.at2 hok;refine⟨a,cap,e,?_,h1,h2⟩
 rcases h.2 with⟨h3,h0⟩|⟨g,c2,cur,h3,_,_,hn,_⟩
 ·omega
 ·rw[e] at h3;cases h3;exact hn
end
end Go.Proofs.YtkagolpnaicdoaaGreatDoor
