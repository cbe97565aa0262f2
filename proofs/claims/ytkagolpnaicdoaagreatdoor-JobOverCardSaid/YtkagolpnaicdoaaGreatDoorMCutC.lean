/-
 cut.Split. cut.rows: the cells of each row, an iterator.
-/
import Derived.Test.YtkagolpnaicdoaaGreatDoorMMrgK
import Derived.Deep.Cut
import Derived.Deep.CutRange
set_option maxRecDepth 100000
set_option maxHeartbeats 8000000
open Go.Lib renaming hid→a0z
open List renaming getElem?_cons_zero→a0x,getElem?_toArray→a0w,setIfInBounds_toArray→a0v,getElem?_eq_getElem→a0u,set_cons_succ→a1z,set_cons_zero→a1x,reverse_cons→a1w,reverse_nil→a1v,cons_append→a1u,nil_append→a2z,getD_eq_getElem?_getD→a2x,take_of_length_le→a2w
open Nat renaming le_refl→a2v
namespace Go.Proofs.YtkagolpnaicdoaaGreatDoor
section
open Go.RowKit Go.Lib
def Z2(rv nv:Value):Bool→Value→Value:=fun d _=>cond d nv rv
structure Iz(w W0:World)(base cl:Nat)(rv nv:Value)(hd:List Ac)(v:Value)(xs:List (List Ac))(b:Nat→Bool)(vs:Nat→Value)(W:World):Prop where
 l:D4 E8 (fun r=>r=hd) w W0 base cl 78 (Z2 rv nv) 4 5 6 11 v xs b vs W
 m:b 10=true→b 6=true∧vs 10=vs 6
variable {w W0 W W2 : World} {base cl : Nat} {rv nv : Value} {hd : List Ac} {v : Value} {xs : List (List Ac)} {b : Nat → Bool} {vs : Nat → Value}
theorem Me:Pz 4 5 6 11:=⟨by decide,by decide,by decide,by decide,by decide,by decide⟩
theorem Iz.other{k:Nat}{x:Value}(h:Iz w W0 base cl rv nv hd v xs b vs W)(hk:k≠10)(h6:k=6→b 6=false)(hl:D4 E8 (fun r=>r=hd) w W0 base cl 78 (Z2 rv nv) 4 5 6 11 v xs (Ao b k) (Bv vs k x) W2):Iz w W0 base cl rv nv hd v xs (Ao b k) (Bv vs k x) W2:=by
 refine⟨hl,fun e=>?_⟩;rw[Af hk.symm] at e;obtain⟨h1,h2⟩:=h.m e
 have hk6:k≠6:=fun e=>by rw[h6 e] at h1;cases h1
 exact⟨Ou h1,by rw[Be hk.symm,Be hk6.symm];exact h2⟩
theorem Iz.plain{k:Nat}{x:Value}(h:Iz w W0 base cl rv nv hd v xs b vs W)(hk:k≠10∧k≠4∧k≠5∧k≠6∧k≠11):Iz w W0 base cl rv nv hd v xs (Ao b k) (Bv vs k x) W:=h.other hk.1 (fun e=>absurd e hk.2.2.2.1) (h.l.plain ⟨hk.2.1,hk.2.2.1,hk.2.2.2.1,hk.2.2.2.2⟩)
theorem Iz.assign(h:Iz w W0 base cl rv nv hd v xs b vs W)(h6:b 6=true){x:Value}(hx:x=vs 6):Iz w W0 base cl rv nv hd v xs (Ao b 10) (Bv vs 10 x) W:=
 ⟨h.l.plain (by decide),fun _=>⟨Ou h6,by rw[Gp,Be (by decide)];exact hx⟩⟩
theorem Iz.cel0(h:Iz w W0 base cl rv nv hd v xs b vs W)(h11:b 11=false):W.heap[cl]?=some (.cells #[rv] 78 (0,0)):=by
 have:=h.l.cel;rw[h11] at this;exact this
structure lI(w:World)(l:List Ac)(borders:List ByteArray)(k:Nat)(v:Value)(W:World):Prop where
 ex:∃out r a n cap,Di E8 W (w.heap.size+1) v out∧I5 l (borders.take k) out r∧W.heap[w.heap.size]?=some (.cells #[.slice a n cap] 78 (0,0))∧Bn w a n r∧n≤cap∧(a=none∧cap=0∨∃b o,a=some ⟨b,o,none⟩)
 fp:Fp [] w W
 sz:w.heap.size<W.heap.size
theorem Z3(w:World)(a:Option Addr)(n cap:Nat)(a2:Option Addr)(n2 cap2:Nat)(l:List Ac)(borders:List ByteArray)(hl:Bn w a n l)(hsh:a=none∧cap=0∨∃b o,a=some ⟨b,o,none⟩)(hc:n≤cap)(hb:Fj w a2 n2 borders)(hn:n≤1000000)(hn2:n2≤1000000)(hbo:G1 borders=true)(hri:risC l=true):
  Calls Tryz.prog 88 #[.slice a n cap,.slice a2 n2 cap2] w fun e w'=>∃v out,e=.returned (.tuple #[v,.int .i64 0])∧Di E8 w' w.heap.size v out∧E9 l borders out∧Fp [] w w':=by
 have HBO:=a0z (fun W (h:Fj W a2 n2 borders)=>dD W a2 n2 cap2 borders h hn2);have HRI:=a0z (fun W (h:Bn W a n l)=>Sm W a n cap l h (by omega));rw[hbo] at HBO;rw[hri] at HRI;have HL:=a0z hl;have HB:=a0z hb;have HC:=a0z hc;have HLN:=a0z hb.len;have HLL:=a0z hl.len;have HSH:=a0z hsh;clear hl hb hbo hri hc hsh;go_enter Tryz.func88,Tryz.ntmps88;go_wp2_with (fail);(with_reducible refine(HBO.out _ (HB.out.of_fp (Fp.alloc _ _))).mono ?_);rintro e w1 ⟨rfl,hf1⟩;have HX1:=a0z ((hf1.block _ (by simp) (by simp)).trans (Aj rfl _):w1.heap[w.heap.size]?=some (.cells #[.slice a n cap] 78 (0,0)));have q1:w1.cell? ⟨w.heap.size,0,none⟩=some (.slice a n cap):=Aa HX1.out 0;have HF1:Hid (Fp [] w w1):=(Fp.alloc _ _).trans hf1 (by simp);clear hf1;go_wp2_with (fail);(with_reducible refine(HRI.out _ (HL.out.fp HF1.out)).mono ?_);rintro e w2 ⟨rfl,hf2⟩;have HX2:=a0z ((hf2.block _ (Ab HX1.out) (by simp)).trans HX1.out);have HF2:Hid (Fp [] w w2):=HF1.out.trans hf2 (by simp);have hbw:w.heap.size<w2.heap.size:=Ab HX2.out;clear hf2 q1;go_wp2_with (fail)
 go_loopg [4,19] n2 (fun gg v vi wr=>∃k:Nat,vi=.int .i64 k∧gg+k=n2∧lI w l borders k v wr)
 case atStart=>exact⟨0,rfl,by omega,⟨[],l,a,n,cap,Di.nil _ _,I5.nil l,HX2.out,HL.out,HC.out,HSH.out⟩,HF2.out,hbw⟩
 case round=>
  obtain⟨k,rfl,hg,hm⟩:=hrel;obtain⟨out,r,ar,nr,cr,ho,hu,hx,hcr,hncr,hsr⟩:=hm.ex;have HF:=a0z hm.fp;have HO:=a0z ho;have HU:=a0z hu;have HX:=a0z hx;have HCR:=a0z hcr;have HSR:=a0z hsr;have hsz:=hm.sz;have hnr:nr=r.length:=hcr.len;have HNR:=a0z hnr;have hsub:=hu.sub
  have hnl:nr≤1000000:=by have:=HLL.out;omega
  have hol:out.length≤1000000:=by have:=hsub.2.2;rw[List.length_take] at this;have:=HLN.out;omega
  clear hm ho hu hx hcr hsr hsub hnr
  by_cases hk:k<n2
  ·have zk:(k:Int)<(n2:Int):=by omega
   have n1:IntKind.i64.wrap ((k:Int)+1)=((k+1:Nat):Int):=by rw[IntKind.wrap_i64];omega
   have hkl:k<borders.length:=by have:=HLN.out;omega
   obtain⟨b,o,e,hc⟩:=dC HB.out hkl;subst e;have q0:=hc k hkl wr HF.out
   have htk:borders.take (k+1)=borders.take k++[Hu borders k]:=by
    rw[List.take_add_one,a0u hkl,dB hkl];rfl
   have HTK:=a0z htk
   obtain⟨s,hs⟩:∃s,Hu borders k=s:=⟨_,rfl⟩
   rw[hs] at q0 HTK
   have hb2:∀X:Obj,(wr.alloc X).heap[w.heap.size]?=some (.cells #[.slice ar nr cr] 78 (0,0)):=fun X=>C7 HX.out
   have q2:∀X:Obj,(wr.alloc X).cell? ⟨w.heap.size,0,none⟩=some (.slice ar nr cr):=fun X=>Aa (hb2 X) 0
   have HSE:=a0z (rC (wr.alloc (.cells #[.string s] 9)) nr w.heap.size wr.heap.size (fun i=>!(Iq (r.getD i Bo).row s)) hnl fun i W hi hf=>rB W w.heap.size wr.heap.size ar nr cr i r s ((hf.block _ (Ab (hb2 _)) (by simp)).trans (hb2 _)) ((hf.block _ (by simp) (by simp)).trans (Aj rfl _)) (HCR.out.fp ((HF.out.alloc' _).trans hf (by simp))) hi);clear hc hs htk hb2;go_wp2_with (fail);(with_reducible refine HSE.out.mono ?_);rintro e w3 ⟨h,rfl,hhn,hh1,hh2,hf3⟩
   have HH1:Hid (h<nr→Iq (r.getD h Bo).row s=false):=fun e=>by simpa using hh1 e
   have HH2:Hid (0<h→Iq (r.getD (h-1) Bo).row s=true):=fun e=>by simpa using hh2 e
   have HF3:Hid (Fp [] wr w3):=(Fp.alloc _ _).trans hf3 (by simp);have HFW:Hid (Fp [] w w3):=HF.out.trans HF3.out (by simp);have HX3:=a0z ((HF3.out.block _ (Ab HX.out) (by simp)).trans HX.out);have HO3:=a0z (HO.out.fp HF3.out (by simp))
   have hsz3:w.heap.size+1≤w3.heap.size:=by have:=HF3.out.size;omega
   have zh1:(h:Int)≤(cr:Int):=by omega
   have zh2:(h:Int)≤(nr:Int):=by omega
   obtain⟨va,vc,rfl⟩:=HO3.out.slice;clear hh1 hh2 hf3 q2 q0
   by_cases hch:cr=h
   ·have hnh:nr=h:=by omega
    have HRR:Hid (r.drop h=[]∧r.take h=r):=⟨List.drop_of_length_le (by have:=HNR.out;omega),a2w (by have:=HNR.out;omega)⟩
    have HCL:=a0z (fun w' (hf:Fp [] w w')=>Q8 w' ar h h (r.take h) (by rw[HRR.out.2,←hnh];exact HCR.out.fp hf) (fun e=>by rcases HSR.out with h2|⟨b,o,h2⟩;exact hch▸h2.2;rw[h2] at e;cases e) (by omega));subst hch;have HNH:=a0z hnh;clear hnh
    obtain⟨d1,hd1⟩:∃d,nr-cr=d:=⟨_,rfl⟩
    go_wp2_with (fail);refine P7 (Iz w w3 (w.heap.size+1) w.heap.size (.slice ar nr cr) (.slice ar d1 0) (r.take cr) (.slice va out.length vc) out) (fun _ _=>True) (by kernel_rfl) (by kernel_rfl) (fun _=>⟨D4.start HO3.out HX3.out (fun _=>rfl) HFW.out hsz3 (by omega),(fun e=>by cases e)⟩) ?_;apply Cc (fun _ _ _ h _=>h.plain (by decide)) rfl rfl rfl
    ·intro b a w hC hA K hK;have h4:=hA.fr 4 rfl;simp only[Oper.wp,execOp];go_simp;exact hK _ hC trivial
    apply Cc (fun _ _ _ h _=>h.plain (by decide)) rfl rfl rfl
    ·intro b a w hC hA K hK;have h2:=hA.fr 2 rfl;have q0:=Aa (hC.cel0 (hA.post 11 (by kernel_rfl))) 0;simp only[a0w,a0x] at q0;simp only[Oper.wp,execOp];go_simp;exact hK _ hC trivial
    iterate 2
     apply Cc (fun _ _ _ h _=>h.plain (by decide)) rfl rfl rfl
     ·intro b a w hC hA K hK
      try have h8:=hA.fr 8 rfl
      try have h28:=hA.eq 1 28 rfl
      try have h29:=hA.eq 2 29 rfl
      simp only[Oper.wp,execOp];go_simp;exact hK _ hC trivial
    apply Dv (fun _ _=>True) rfl rfl rfl
    ·intro b a w hC hA K hK;have h30:=hA.eq 3 30 rfl;simp only[Oper.wp,execOp];go_simp;(with_reducible refine(HCL.out _ hC.l.fp).mono ?_);rintro e w4 ⟨vr,rfl,hr,hf⟩;exact hK _ _ (hC.other (by decide) (fun e=>absurd e (by decide)) (hC.l.call Me hA.self hf rfl hr)) trivial trivial
    apply Dv (fun _ _=>True) rfl rfl rfl
    ·intro b a w hC hA K hK;have h31:=hA.dep 4 31 _ (by kernel_rfl) rfl;obtain⟨rr,hg,hr,-⟩:=hC.l.res (hA.pre 4 (by kernel_rfl)) (hA.post 6 (by kernel_rfl));obtain⟨a2,n2,c2,e2⟩:=E8.sl hr;have hv:=hA.val 4 31 (by kernel_rfl);rw[e2] at hv;have hst:=hC.other (by decide) (fun e=>absurd e (by decide)) (hC.l.build Me (hA.pre 4 (by kernel_rfl)) hA.self);rw[e2] at hst;simp only[Oper.wp,execOp];go_simp;exact hK _ _ hst trivial trivial
    apply Dv (fun _ _=>True) rfl rfl rfl
    ·intro b a w hC hA K hK;have h27:=hA.eq 0 27 rfl;have h32:=hA.dep 5 32 _ (by kernel_rfl) rfl;obtain⟨g,hg1,hg2⟩:=hC.l.bld (hA.pre 5 (by kernel_rfl)) hA.self;obtain⟨rr,hg,hr,hq⟩:=hC.l.res (hC.l.o32 (hA.pre 5 (by kernel_rfl))) hA.self;refine Ue E8 (.tmp 27) (.tmp 32) rfl _ (.slice va out.length vc) out (F5 h27) (hC.l.own0 hA.self) g _ rr hr hq (F5 ((hA.val 5 32 (by kernel_rfl)).trans hg1)) hg2 (by omega) hC.l.sz ?_;intro v' w' h1 h2 h3;exact hK _ _ (hC.other (by decide) (fun _=>hA.self) (hC.l.append Me (hA.pre 5 (by kernel_rfl)) hA.self hg h1 h2 h3 (by omega) (by omega) (fun _ _=>rfl))) trivial trivial
    apply Cc (fun _ _ _ h _=>h.plain (by decide)) rfl rfl rfl
    ·intro b a w hC hA K hK;have h2:=hA.fr 2 rfl;have q0:=Aa (hC.cel0 (hA.post 11 (by kernel_rfl))) 0;simp only[a0w,a0x] at q0;simp only[Oper.wp,execOp];go_simp;exact hK _ hC trivial
    iterate 2
     apply Cc (fun _ _ _ h _=>h.plain (by decide)) rfl rfl rfl
     ·intro b a w hC hA K hK
      try have h8:=hA.fr 8 rfl
      try have h34:=hA.eq 7 34 rfl
      try have h35:=hA.eq 8 35 rfl
      simp only[Oper.wp,execOp];go_simp;exact hK _ hC trivial
    apply Dv (fun _ _=>True) rfl rfl rfl
    ·intro b a w hC hA K hK;have h33:=hA.dep 6 33 _ (by kernel_rfl) rfl;simp only[Oper.wp,execOp];go_simp;exact hK _ _ (hC.assign (hA.pre 6 (by kernel_rfl)) (hA.val 6 33 (by kernel_rfl))) trivial trivial
    apply I8 (fun _=>True) rfl rfl rfl
    ·intro b a w hC hA K hK;have h2:=hA.fr 2 rfl;have h36:=hA.eq 9 36 rfl;have h6:b 6=true:=(hC.m (hA.pre 10 (by kernel_rfl))).1;have hst:=hC.other (by decide) (fun e=>absurd e (by decide)) (hC.l.store Me h6 (by omega) (a2v _) rfl);have f0:=Aw hC.l.cel 0;have q0:=Aa hC.l.cel 0;simp only[Oper.wp,execOp];go_simp;exact hK undef _ hst trivial trivial
    refine⟨?_,?_⟩
    ·refine⟨fun _ _ _ _ _=>trivial,?_⟩;refine⟨fun _ _ _ _ _=>trivial,?_⟩
     iterate 3 refine E2 _ ?_
     refine⟨fun _ _ _ _ _=>trivial,?_⟩;refine⟨fun _ _ _ _ _=>trivial,?_⟩;refine⟨fun _ _ _ _ _=>trivial,?_⟩
     iterate 4 refine E2 _ ?_
     exact trivial
    ·intro w' bb hbb;simp only[a1w,a1v,a2z,a1u]
     iterate 4 (refine Aq ?_)
     refine Av ?_;intro v4 u4;refine Av ?_;intro v5 u5;refine Av ?_;intro v6 u6
     iterate 3 (refine Aq ?_)
     refine Av ?_;intro v10 u10;refine Av ?_;intro v11 u11;refine A8 ?_;intro hC;simp only[Am,Act.put,a0v,a1z,a1x];have hcel:=hC.l.cel;rw[hbb 11 (by simp)] at hcel;obtain⟨rr,hrr,ho5⟩:=hC.l.own1 (hbb 6 (by simp));have hv10:=(hC.m (hbb 10 (by simp))).2;have H1:=a0z hcel
     have H2:Hid (Di E8 w' (w.heap.size+1) v10 (out++[r.take cr])):=by
      rw[←hrr];have e:v10=v6:=hv10;rw[e];exact ho5
     have H3:=a0z hC.l.fp;clear hC hbb hcel ho5 hv10;go_wp2_with (fail)
     go_roundg (gk-1)
     case measure=>omega
     case rel=>
      refine⟨k+1,by simp,by omega,⟨out++[r.take cr],r.drop cr,_,_,_,H2.out,by rw[HTK.out];exact I5.snoc _ _ _ _ s cr HU.out (by have:=HNR.out;omega) (fun e=>HH1.out (by have:=HNR.out;omega)) HH2.out,H1.out,⟨by rw[HRR.out.1];have:=HNH.out;simp;omega,Or.inl HRR.out.1,by rw[HRR.out.1];intro c hc;cases hc⟩,by have:=HNH.out;omega,by rcases HSR.out with h2|h2;exact Or.inl ⟨h2.1,rfl⟩;exact Or.inr h2⟩,H3.out,Ab H1.out⟩
   ·obtain⟨b3,o3,hb3⟩:∃b o,ar=some ⟨b,o,none⟩:=by
     rcases HSR.out with h2|h2
     ·exfalso;apply hch;omega
     ·exact h2
    subst hb3;have HDR:Hid (Bn w (some ⟨b3,o3+h*6,none⟩) (nr-h) (r.drop h)):=HCR.out.drop h (nr-h) (by omega);have HCL:=a0z (fun w' (hf:Fp [] w w')=>Q8 w' (some ⟨b3,o3,none⟩) h cr (r.take h) ((HCR.out.fp hf).take h (by omega)) (fun e=>by cases e) (by omega))
    obtain⟨d1,hd1⟩:∃d,nr-h=d:=⟨_,rfl⟩
    obtain⟨d2,hd2⟩:∃d,cr-h=d:=⟨_,rfl⟩
    rw[hd1] at HDR;go_wp2_with (fail);refine P7 (Iz w w3 (w.heap.size+1) w.heap.size (.slice (some ⟨b3,o3,none⟩) nr cr) (.slice (some ⟨b3,o3+h*6,none⟩) d1 d2) (r.take h) (.slice va out.length vc) out) (fun _ _=>True) (by kernel_rfl) (by kernel_rfl) (fun _=>⟨D4.start HO3.out HX3.out (fun _=>rfl) HFW.out hsz3 (by omega),(fun e=>by cases e)⟩) ?_;apply Cc (fun _ _ _ h _=>h.plain (by decide)) rfl rfl rfl
    ·intro b a w hC hA K hK;have h4:=hA.fr 4 rfl;simp only[Oper.wp,execOp];go_simp;exact hK _ hC trivial
    apply Cc (fun _ _ _ h _=>h.plain (by decide)) rfl rfl rfl
    ·intro b a w hC hA K hK;have h2:=hA.fr 2 rfl;have q0:=Aa (hC.cel0 (hA.post 11 (by kernel_rfl))) 0;simp only[a0w,a0x] at q0;simp only[Oper.wp,execOp];go_simp;exact hK _ hC trivial
    iterate 2
     apply Cc (fun _ _ _ h _=>h.plain (by decide)) rfl rfl rfl
     ·intro b a w hC hA K hK
      try have h8:=hA.fr 8 rfl
      try have h28:=hA.eq 1 28 rfl
      try have h29:=hA.eq 2 29 rfl
      simp only[Oper.wp,execOp];go_simp;exact hK _ hC trivial
    apply Dv (fun _ _=>True) rfl rfl rfl
    ·intro b a w hC hA K hK;have h30:=hA.eq 3 30 rfl;simp only[Oper.wp,execOp];go_simp;(with_reducible refine(HCL.out _ hC.l.fp).mono ?_);rintro e w4 ⟨vr,rfl,hr,hf⟩;exact hK _ _ (hC.other (by decide) (fun e=>absurd e (by decide)) (hC.l.call Me hA.self hf rfl hr)) trivial trivial
    apply Dv (fun _ _=>True) rfl rfl rfl
    ·intro b a w hC hA K hK;have h31:=hA.dep 4 31 _ (by kernel_rfl) rfl;obtain⟨rr,hg,hr,-⟩:=hC.l.res (hA.pre 4 (by kernel_rfl)) (hA.post 6 (by kernel_rfl));obtain⟨a2,n2,c2,e2⟩:=E8.sl hr;have hv:=hA.val 4 31 (by kernel_rfl);rw[e2] at hv;have hst:=hC.other (by decide) (fun e=>absurd e (by decide)) (hC.l.build Me (hA.pre 4 (by kernel_rfl)) hA.self);rw[e2] at hst;simp only[Oper.wp,execOp];go_simp;exact hK _ _ hst trivial trivial
    apply Dv (fun _ _=>True) rfl rfl rfl
    ·intro b a w hC hA K hK;have h27:=hA.eq 0 27 rfl;have h32:=hA.dep 5 32 _ (by kernel_rfl) rfl;obtain⟨g,hg1,hg2⟩:=hC.l.bld (hA.pre 5 (by kernel_rfl)) hA.self;obtain⟨rr,hg,hr,hq⟩:=hC.l.res (hC.l.o32 (hA.pre 5 (by kernel_rfl))) hA.self;refine Ue E8 (.tmp 27) (.tmp 32) rfl _ (.slice va out.length vc) out (F5 h27) (hC.l.own0 hA.self) g _ rr hr hq (F5 ((hA.val 5 32 (by kernel_rfl)).trans hg1)) hg2 (by omega) hC.l.sz ?_;intro v' w' h1 h2 h3;exact hK _ _ (hC.other (by decide) (fun _=>hA.self) (hC.l.append Me (hA.pre 5 (by kernel_rfl)) hA.self hg h1 h2 h3 (by omega) (by omega) (fun _ _=>rfl))) trivial trivial
    apply Cc (fun _ _ _ h _=>h.plain (by decide)) rfl rfl rfl
    ·intro b a w hC hA K hK;have h2:=hA.fr 2 rfl;have q0:=Aa (hC.cel0 (hA.post 11 (by kernel_rfl))) 0;simp only[a0w,a0x] at q0;simp only[Oper.wp,execOp];go_simp;exact hK _ hC trivial
    iterate 2
     apply Cc (fun _ _ _ h _=>h.plain (by decide)) rfl rfl rfl
     ·intro b a w hC hA K hK
      try have h8:=hA.fr 8 rfl
      try have h34:=hA.eq 7 34 rfl
      try have h35:=hA.eq 8 35 rfl
      simp only[Oper.wp,execOp];go_simp;exact hK _ hC trivial
    apply Dv (fun _ _=>True) rfl rfl rfl
    ·intro b a w hC hA K hK;have h33:=hA.dep 6 33 _ (by kernel_rfl) rfl;simp only[Oper.wp,execOp];go_simp;exact hK _ _ (hC.assign (hA.pre 6 (by kernel_rfl)) (hA.val 6 33 (by kernel_rfl))) trivial trivial
    apply I8 (fun _=>True) rfl rfl rfl
    ·intro b a w hC hA K hK;have h2:=hA.fr 2 rfl;have h36:=hA.eq 9 36 rfl;have h6:b 6=true:=(hC.m (hA.pre 10 (by kernel_rfl))).1;have hst:=hC.other (by decide) (fun e=>absurd e (by decide)) (hC.l.store Me h6 (by omega) (a2v _) rfl);have f0:=Aw hC.l.cel 0;have q0:=Aa hC.l.cel 0;simp only[Oper.wp,execOp];go_simp;exact hK undef _ hst trivial trivial
    refine⟨?_,?_⟩
    ·refine⟨fun _ _ _ _ _=>trivial,?_⟩;refine⟨fun _ _ _ _ _=>trivial,?_⟩
     iterate 3 refine E2 _ ?_
     refine⟨fun _ _ _ _ _=>trivial,?_⟩;refine⟨fun _ _ _ _ _=>trivial,?_⟩;refine⟨fun _ _ _ _ _=>trivial,?_⟩
     iterate 4 refine E2 _ ?_
     exact trivial
    ·intro w' bb hbb;simp only[a1w,a1v,a2z,a1u]
     iterate 4 (refine Aq ?_)
     refine Av ?_;intro v4 u4;refine Av ?_;intro v5 u5;refine Av ?_;intro v6 u6
     iterate 3 (refine Aq ?_)
     refine Av ?_;intro v10 u10;refine Av ?_;intro v11 u11;refine A8 ?_;intro hC;simp only[Am,Act.put,a0v,a1z,a1x];have hcel:=hC.l.cel;rw[hbb 11 (by simp)] at hcel;obtain⟨rr,hrr,ho5⟩:=hC.l.own1 (hbb 6 (by simp));have hv10:=(hC.m (hbb 10 (by simp))).2;have H1:=a0z hcel
     have H2:Hid (Di E8 w' (w.heap.size+1) v10 (out++[r.take h])):=by
      rw[←hrr];have e:v10=v6:=hv10;rw[e];exact ho5
     have H3:=a0z hC.l.fp;clear hC hbb hcel ho5 hv10;go_wp2_with (fail)
     go_roundg (gk-1)
     case measure=>omega
     case rel=>
      refine⟨k+1,by simp,by omega,⟨out++[r.take h],r.drop h,_,_,_,H2.out,by rw[HTK.out];exact I5.snoc _ _ _ _ s h HU.out (by have:=HNR.out;omega) (fun e=>HH1.out (by have:=HNR.out;omega)) HH2.out,H1.out,HDR.out,by omega,Or.inr ⟨_,_,rfl⟩⟩,H3.out,Ab H1.out⟩
  ·have zk:¬(k:Int)<(n2:Int):=by omega
   have q2:wr.cell? ⟨w.heap.size,0,none⟩=some (.slice ar nr cr):=Aa HX.out 0;have HCL:=a0z (Q8 wr ar nr cr r (HCR.out.fp HF.out) (fun e=>by rcases HSR.out with h|⟨b,o,h⟩;exact h.2;rw[h] at e;cases e) hnl)
   have HU2:Hid (E9 l borders (out++[r])):=by
    have:=HU.out.all;rw[a2w (by have:=HLN.out;omega)] at this;exact this
   have hsz3:w.heap.size+1≤wr.heap.size:=hsz;go_wp2_with (fail);(with_reducible refine HCL.out.mono ?_);rintro e w3 ⟨v3,rfl,ho3,hf3⟩;have HO3:=a0z ho3;have HF3:=a0z hf3;obtain⟨a3,c3,rfl,-⟩:=ho3.at2 (fun c hc=>HL.out.ok c (HU.out.sub.2.1 c hc));clear ho3 hf3;go_wp2_with (at_builtin;(refine rA E8 rfl _ _ rfl (w.heap.size+1) _ out rfl ((HO.out.toN.fp HF3.out (by simp)).fp (Fp.alloc _ _) (by simp)) _ _ r (((HO3.out.mono hsz3:A4 w3 (w.heap.size+1) _ r)).fp (Fp.alloc _ _) (by simp)) (fun q hq=>(HO3.out.lt q hq).1) rfl (by rw[Aa (Aj rfl _)];rfl) (by omega) (by have:=HF3.out.size;simp;omega) ?_);intro v4 w4 ho4 hb4 hk4;have HO4:=a0z ho4;have HB4:=a0z hb4;clear ho4 hb4 hk4);refine bodyPost_ret (v:=.tuple #[v4,.int .i64 0]) (by simp[results,Tryz.results88,go_sem]) rfl ?_;exact⟨v4,_,rfl,HO4.out.mono (by omega),HU2.out,((HF.out.trans HF3.out (by simp)).alloc' _).belowTrans (HB4.out.mono (by omega))⟩
end
section
open Go.RowKit Go.Lib
def I0(l:List Ac)(i:Nat):Bool:=!(decide (i+1<l.length)&&((l.getD (i+1) Bo).row.toList==(l.getD i Bo).row.toList))
def D3(l:List Ac)(fr i:Nat):List (Nat × Nat):=if i<l.length then(if I0 l i=true then(fr,i+1-fr)::D3 l (i+1) (i+1) else D3 l fr (i+1)) else[]
 termination_by l.length-i
theorem Qu{l:List Ac}{fr i:Nat}(h:i<l.length)(he:I0 l i=true):D3 l fr i=(fr,i+1-fr)::D3 l (i+1) (i+1):=by
 rw[D3,if_pos h,if_pos he]
theorem S4{l:List Ac}{fr i:Nat}(h:i<l.length)(he:I0 l i=false):D3 l fr i=D3 l fr (i+1):=by
 rw[D3,if_pos h,if_neg (by rw[he];decide)]
theorem O7{l:List Ac}{fr i:Nat}(h:¬i<l.length):D3 l fr i=[]:=by
 rw[D3,if_neg h]
def Qv(b o cap:Nat)(x:Nat × Nat):Value:=.slice (some ⟨b,o+x.1*6,none⟩) x.2 (cap-x.1)
def S5(b o cap:Nat)(x:Nat × Nat):Array Value:=#[Qv b o cap x]
theorem lJ(T:TypeId)(base L n bs:Nat)(w:World)(b o len cap:Nat)(l:List Ac)(hcs:Bn w (some ⟨b,o,none⟩) len l)(hn:1≤n)(hbs:w.heap[bs]?=some (.cells #[.slice (some ⟨b,o,none⟩) len cap] 78 (0,0)))
  (hlc:len≤cap)(hcm:len≤1000000)(hbsl:bs<base)(hsL:bs≠L)(hbl:b<base)(hbL:b≠L)
  (S0:List Nat)(hS0:∀k∈S0,k<base∧k≠bs∧k≠b)(J Jx:List (Nat × Nat)→World→Prop)
  (hJ:∀s A B,J s A→Fp [] A B→J s B)
  (hy:∀pre x W,(∃post,D3 l 0 0=pre++x::post)→J pre W→YieldAt Fence.wide (n-1) Tryz.prog L (S5 b o cap x) W fun e W'=>(e=.returned (.bool true)∧J (pre++[x]) W'∧An T base (L::S0) W W')∨(e=.returned (.bool false)∧Jx (pre++[x]) W'))
  (h0:J [] w):
  CallsIn Fence.wide n Tryz.prog 223 #[.func (.yield L) #[] #[],.pointer (some ⟨bs,0,none⟩)] w fun e w'=>(∃v,e=.returned v)∧((∃xs,xs=D3 l 0 0∧J xs w')∨∃pre,Jx pre w'):=by
 rw[callsIn_wide];have HY:=a0z hy;have HJ:=a0z hJ;have HS0:=a0z hS0;have HBS:=a0z hbs;have HCS:=a0z hcs;have HLN:=a0z hcs.len;have q00:w.cell? ⟨bs,0,none⟩=some (.slice (some ⟨b,o,none⟩) len cap):=Aa hbs 0;clear hy hJ hS0 hbs hcs;go_enter Tryz.func223,Tryz.ntmps223;go_wp2_with (fail)
 go_loopg [3,7] len (fun g vf vi wr=>∃(fr i:Nat) (pre:List (Nat × Nat)),g=len-i∧vf=.int .i64 fr∧vi=.int .i64 i∧fr≤i∧i≤len∧D3 l 0 0=pre++D3 l fr i∧J pre wr∧An T base (L::S0) w wr)
 case atStart=>exact⟨0,0,[],rfl,rfl,rfl,a2v _,Nat.zero_le _,rfl,h0,An.of (Fp.refl [] _) (by simp) |>.mono (by simp)⟩
 case round=>
  obtain⟨fr,i,pre,hg,rfl,rfl,hfi,hil,hpre,hj,hf⟩:=hrel;have HFW:=a0z hf;have HJK:=a0z hj;clear hf hj q00;have hbs1:wr.heap[bs]?=some (.cells #[.slice (some ⟨b,o,none⟩) len cap] 78 (0,0)):=(HFW.out.low _ hbsl (Ab HBS.out) (by intro h;rcases List.mem_cons.1 h with h|h;exact hsL h;exact(HS0.out _ h).2.1 rfl)).trans HBS.out;have HBS1:=a0z hbs1;clear hbs1
  by_cases hlt:i<len
  ·have zi:(i:Int)<(len:Int):=by omega
   have n1:IntKind.i64.wrap ((i:Int)+1)=((i+1:Nat):Int):=by rw[IntKind.wrap_i64];omega
   have hill:i<l.length:=by rw[←HLN.out];exact hlt
   obtain⟨i1,hi1⟩:∃i1,i+1=i1:=⟨_,rfl⟩
   rw[hi1] at n1
   have hcl:∀k (hk:k<l.length) w',Fp [] wr w'→J1 w' b (o+k*6) l[k]:=fun k hk w' hf=>by
    obtain⟨b1,o1,e,hb1,hc⟩:=O1 HCS.out hk;cases e;have h1:=hc w (Fp.refl _ _)
    have h2:∀j,w'.cell? ⟨b,j,none⟩=w.cell? ⟨b,j,none⟩:=fun j=>(hf.cell (p:=⟨b,j,none⟩) (Nat.lt_of_lt_of_le hb1 HFW.out.size) (by simp)).trans (World.cell?_of_block (w:=w) (a:=⟨b,j,none⟩) (HFW.out.low b hbl hb1 (by intro h;rcases List.mem_cons.1 h with h|h;exact hbL h;exact(HS0.out _ h).2.2 rfl)))
    exact⟨(h2 _).trans h1.c0,(h2 _).trans h1.c1,(h2 _).trans h1.c2,(h2 _).trans h1.c3,(h2 _).trans h1.c4,(h2 _).trans h1.c5⟩
   have HCL:=a0z hcl
   have z1:(fr:Int)≤(i1:Int):=by omega
   have z2:(i1:Int)≤(cap:Int):=by omega
   have z3:¬cap=fr:=by omega
   have q0:wr.cell? ⟨bs,0,none⟩=some (.slice (some ⟨b,o,none⟩) len cap):=Aa HBS1.out 0
   have hir:l.getD i Bo=l[i]:=by rw[a2x,a0u hill];rfl
   obtain⟨er,her⟩:∃er,I0 l i=er:=⟨_,rfl⟩
   have HPRE:=a0z hpre;have HER:=a0z her;have HG:=a0z hg;have HI1:=a0z hi1;clear hcl hpre hg
   go_upto_region 4 with(fail)
   go_cut [7,28] from 7 to 39 (fun v7 v28 wx=>v7=.int .i64 i∧v28=.bool (!er)∧Fp [] wr wx)
   case first=>
    by_cases h1:i1<len
    ·have zi1:(i1:Int)<(len:Int):=by omega
     have hi1l:i1<l.length:=by rw[←HLN.out];exact h1
     have hc0:=HCL.out i hill;have hc1:=HCL.out i1 hi1l
     have hi1r:l.getD i1 Bo=l[i1]:=by rw[a2x,a0u hi1l];rfl
     have hed:er=!((l[i1].row.toList==l[i].row.toList)):=by
      rw[←HER.out];unfold I0;rw[HI1.out,hi1r,hir,decide_eq_true hi1l,Bool.true_and]
     obtain⟨c0,hcc0⟩:∃c,l[i]=c:=⟨_,rfl⟩
     obtain⟨c1,hcc1⟩:∃c,l[i1]=c:=⟨_,rfl⟩
     rw[hcc0] at hc0 hed;rw[hcc1] at hc1 hed;obtain⟨r0,x01,x02,x03,x04,x05⟩:=c0;obtain⟨r1,x11,x12,x13,x14,x15⟩:=c1;simp only at hed;have HC0:=a0z hc0;have HC1:=a0z hc1;have HED:=a0z hed;clear hc0 hc1 hcc0 hcc1 hed hir hi1r her;go_wp2_with (fail);refine Dy (by kernel_rfl) (by kernel_rfl) ?_
     iterate 19
      first|apply A9 rfl rfl rfl|apply I7 5 15 rfl rfl rfl rfl (by kernel_rfl) rfl rfl
      ·intro a w hC hA K hK
       try have h4:=hA.fr 4 rfl
       try have h10:=hA.eq 0 10 rfl
       try have h1:=hA.fr 1 rfl
       try have h12:=hA.eq 2 12 rfl
       try have h11:=hA.eq 1 11 rfl
       try have h13:=hA.eq 3 13 rfl
       try have h14:=hA.eq 4 14 rfl
       try have h17:=hA.eq 7 17 rfl
       try have h16:=hA.eq 6 16 rfl
       try have h18:=hA.eq 8 18 rfl
       try have h19:=hA.eq 9 19 rfl
       try have h20:=hA.eq 10 20 rfl
       try have h22:=hA.eq 12 22 rfl
       try have h23:=hA.eq 13 23 rfl
       try have h24:=hA.eq 14 24 rfl
       try have h25:=hA.eq 15 25 rfl
       try have h21:=hA.eq 11 21 rfl
       try have h26:=hA.eq 16 26 rfl
       try have h15:=hA.eq 5 15 rfl
       try have h27:=hA.eq 17 27 rfl
       obtain⟨p0,p1,p2,p3,p4,p5⟩:=HC0.out _ hC;obtain⟨s0,s1,s2,s3,s4,s5⟩:=HC1.out _ hC;simp only at p0 s0;have q1:=Aa ((hC.block _ (Ab HBS1.out) (by simp)).trans HBS1.out) 0;simp only[a0w,a0x] at q1;simp only[Oper.wp,execOp];go_simp;exact hK _ hC (Fp.refl _ _)
     refine⟨?_,?_⟩
     ·repeat(first|exact trivial|refine Dj _ ?_ |refine⟨fun w1 w2 v _ hf ⟨g,h1,h2⟩=>⟨g,h1,(hf.block g (Ab h2) (by simp)).trans h2⟩,?_⟩)
     ·intro w' hC;simp only[a1w,a1v,a2z,a1u]
      iterate 19 (refine Aq ?_)
      refine A8 ?_;simp only[Am,Act.put,a0v,a1z,a1x];have HC:=a0z hC;clear hC;go_wp2_with (fail)
      go_meet
      case rel=>exact⟨rfl,by rw[HED.out,Bool.not_not],HC.out⟩
    ·have zi1:¬(i1:Int)<(len:Int):=by omega
     have hed:er=true:=by
      rw[←HER.out];unfold I0;rw[HI1.out,decide_eq_false (by rw[←HLN.out];exact h1)];rfl
     have HED:=a0z hed;clear hed hir her;go_wp2_with (fail);refine Dy (by kernel_rfl) (by kernel_rfl) ?_
     iterate 6
      apply A9 rfl rfl rfl
      ·intro a w hC hA K hK
       try have h4:=hA.fr 4 rfl
       try have h10:=hA.eq 0 10 rfl
       try have h1:=hA.fr 1 rfl
       try have h12:=hA.eq 2 12 rfl
       try have h11:=hA.eq 1 11 rfl
       try have h13:=hA.eq 3 13 rfl
       try have h14:=hA.eq 4 14 rfl
       have q1:=Aa ((hC.block _ (Ab HBS1.out) (by simp)).trans HBS1.out) 0;simp only[a0w,a0x] at q1;simp only[Oper.wp,execOp];go_simp;exact hK _ hC (Fp.refl _ _)
     apply Az 5 15 rfl rfl rfl rfl (by kernel_rfl) rfl rfl;apply Az 5 15 rfl rfl rfl rfl (by kernel_rfl) rfl rfl;apply Az 5 15 rfl rfl rfl rfl (by kernel_rfl) rfl rfl;apply Az 5 15 rfl rfl rfl rfl (by kernel_rfl) rfl rfl;apply Az 5 15 rfl rfl rfl rfl (by kernel_rfl) rfl rfl;apply Az 5 15 rfl rfl rfl rfl (by kernel_rfl) rfl rfl;apply Az 5 15 rfl rfl rfl rfl (by kernel_rfl) rfl rfl;apply Az 5 15 rfl rfl rfl rfl (by kernel_rfl) rfl rfl;apply Az 5 15 rfl rfl rfl rfl (by kernel_rfl) rfl rfl;apply Az 5 15 rfl rfl rfl rfl (by kernel_rfl) rfl rfl;apply Az 5 15 rfl rfl rfl rfl (by kernel_rfl) rfl rfl;apply Az 5 15 rfl rfl rfl rfl (by kernel_rfl) rfl rfl;apply A9 rfl rfl rfl
     ·intro a w hC hA K hK;have h15:=hA.eq 5 15 rfl;have h27:=hA.eq 17 27 rfl;simp only[Oper.wp,execOp];go_simp;exact hK _ hC (Fp.refl _ _)
     refine⟨?_,?_⟩
     ·repeat(first|exact trivial|refine Dj _ ?_ |refine⟨fun w1 w2 v _ hf ⟨g,h1,h2⟩=>⟨g,h1,(hf.block g (Ab h2) (by simp)).trans h2⟩,?_⟩)
     ·intro w' hC;simp only[a1w,a1v,a2z,a1u]
      iterate 19 (refine Aq ?_)
      refine A8 ?_;simp only[Am,Act.put,a0v,a1z,a1x];have HC:=a0z hC;clear hC;go_wp2_with (fail)
      go_meet
      case rel=>exact⟨rfl,by rw[HED.out];rfl,HC.out⟩
   case rest=>
    obtain⟨rfl,rfl,hfc⟩:=hcut;have HFC:=a0z hfc;have HFW2:=a0z (HFW.out.trans (An.of (hfc.mono (by simp):Fp [] wr wc) (by simp)) (by simp));have HJ1:=a0z (HJ.out _ _ _ HJK.out hfc);have q1:wc.cell? ⟨bs,0,none⟩=some (.slice (some ⟨b,o,none⟩) len cap):=Aa ((hfc.block _ (Ab HBS1.out) (by simp)).trans HBS1.out) 0;clear hfc q0;cases er
    ·have HPR:=a0z (show D3 l 0 0=pre++D3 l fr i1 by rw[HPRE.out,S4 hill HER.out,HI1.out]);go_wp2_with (fail)
     go_roundg (len-i1)
     case measure=>have:=HG.out;have:=HI1.out;omega
     case rel=>exact⟨fr,i1,pre,rfl,rfl,rfl,by have:=HI1.out;omega,by have:=HI1.out;omega,HPR.out,HJ1.out,HFW2.out⟩
    ·obtain⟨d,hd⟩:∃d,i1-fr=d:=⟨_,rfl⟩
     obtain⟨d2,hd2⟩:∃d,cap-fr=d:=⟨_,rfl⟩
     have HPR:=a0z (show D3 l 0 0=pre++(fr,d)::D3 l i1 i1 by rw[HPRE.out,Qu hill HER.out,HI1.out,hd]);obtain⟨fn,tm,asg,bd,hyl,hrd⟩:=HY.out pre (fr,d) wc ⟨_,HPR.out⟩ HJ1.out;have HRD:=a0z hrd;clear hrd;unfold S5 Qv at hyl;simp only at hyl;rw[hd2] at hyl;clear hir her
     go_upto_region 5 with(fail)
     refine(wpIn_wide (n:=n)).1 ?_
     gi_wp2_with (fail)
     (with_reducible refine HRD.out.mono ?_);rintro e W1 (⟨rfl,hj1,hf1⟩|⟨rfl,hjx⟩)
     ·have HJ2:=a0z hj1;have HFW3:=a0z (HFW2.out.trans hf1 (by intro i hi;exact hi));clear hj1 hf1
      gi_wp2_with (fail)
      go_wp2_with (fail)
      go_roundg (len-i1)
      case measure=>have:=HG.out;have:=HI1.out;omega
      case rel=>exact⟨i1,i1,pre++[(fr,d)],rfl,rfl,rfl,a2v _,by have:=HI1.out;omega,by rw[HPR.out,List.append_assoc];rfl,HJ2.out,HFW3.out⟩
     ·have HJX:=a0z hjx;clear hjx
      gi_wp2_with (fail)
      go_wp2_with (fail);refine bodyPost_ret (results_none rfl _ _ _) rfl ?_;exact⟨⟨_,rfl⟩,Or.inr ⟨_,HJX.out⟩⟩
  ·have z0:¬(i:Int)<(len:Int):=by omega
   rw[O7 (fr:=fr) (i:=i) (by rw[←HLN.out];exact hlt),List.append_nil] at hpre;have HP:=a0z hpre;have HG:=a0z hg;clear hpre hg;go_wp2_with (fail);go_end0;refine⟨⟨_,rfl⟩,Or.inl ?_⟩;rw[HP.out];exact HJK.out
theorem lK(w:World)(v:Value)(a:Option Addr)(len cap:Nat)(hv:v=.slice a len cap):Calls Tryz.prog 147 #[v] w fun e w'=>e=.returned (.func (.func 223) #[] #[.pointer (some ⟨w.heap.size,0,none⟩)])∧
  w'.heap[w.heap.size]?=some (.cells #[v] 78 (0,0))∧Fp [] w w':=by
 subst hv;go_enter Tryz.func147,Tryz.ntmps147;go_wp2_with (fail);go_ret;exact⟨rfl,Aj rfl _,Fp.alloc _ _⟩
end
end Go.Proofs.YtkagolpnaicdoaaGreatDoor
