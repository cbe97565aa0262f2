/-
 job.Make's tried function, walked.
-/
import Derived.Test.YtkagolpnaicdoaaGreatDoorMParCells
set_option maxRecDepth 100000
set_option maxHeartbeats 8000000
open Go.Lib renaming hid→a0z
open List renaming getElem?_cons_zero→a0x,getElem?_cons_succ→a0w,getElem?_toArray→a0v,getElem_map→a0u,map_append→a1z
namespace Go.Proofs.YtkagolpnaicdoaaGreatDoor
open Go.RowKit Go.Lib
theorem bA{ps:List (Nat × List Ac)}{i:Nat}{x:Nat × List Ac}{f:ByteArray}{e:Nat}(h:i<ps.length)(hx:ps[i]=x)(hf:G6 x.2 0=(f,e)):I6 (ps.take (i+1))=I6 (ps.take i)++[f]:=by
 unfold I6;rw[List.take_add_one,List.getElem?_eq_getElem h,hx,a1z];simp[hf]
theorem mQ(w:World)(x:Int)(h:x=0):Calls Tryz.prog 48 #[.int .i64 x] w fun e w'=>(∃v,e=.returned v)∧w'=w:=by
 subst h;exact aF w
def M8(f:ByteArray):Value:=.int .u32 (D1 0 f)
theorem mR(w:World)(bi bm bw bb bo p:Nat)(s:ByteArray)(m wid mo:Int)(a2:Option Addr)(n2 cap2:Nat)(borders:List ByteArray)(sum ep:Value)
  (hbi:w.heap[bi]?=some (.cells #[.string s] 9 (0,0)))(hbm:w.heap[bm]?=some (.cells #[.int .i64 m] 3 (0,0)))(hbw:w.heap[bw]?=some (.cells #[.int .i64 wid] 3 (0,0)))(hbb:w.heap[bb]?=some (.cells #[.slice a2 n2 cap2] 22 (0,0)))(hbo:w.heap[bo]?=some (.cells #[.int .i64 mo] 3 (0,0)))
  (hbp:w.heap[p]?=some (.cells #[sum,ep,.slice none 0 0,.slice none 0 0] 29 (0,0)))(hs:s.size≤100000000)(hf20:(D5 s).1.length<20)(hst:Fj w a2 n2 borders)(hn2:n2≤900000)(hm:m<2^63)(hwid:wid<2^63)(hmo:mo<2^63)(hpar:Jt w)(htab:B0 w)(hg1:0≠p)(hg2:2≠p):
  Calls Tryz.prog 46 #[.pointer (some ⟨bi,0,none⟩),.pointer (some ⟨bm,0,none⟩),.pointer (some ⟨bw,0,none⟩),.pointer (some ⟨bb,0,none⟩),.pointer (some ⟨bo,0,none⟩),.pointer (some ⟨p,0,none⟩)] w fun e w'=>Fp [p] w w'∧
   (((∃v,e=.returned v)∧∃files vF vS,Gm s borders m wid mo 0 files∧w'.heap[p]?=some (.cells #[sum,ep,vF,vS] 29 (0,0))∧Bg 9 w' w.heap.size vF (files.map Value.string)∧Bg 26 w' w.heap.size vS (files.map M8))∨
    ∃x:Nat,x≠0∧e=.panicked (Pe (x:Int))∧Gm s borders m wid mo x []):=by
 obtain⟨cs,line,ec,hcp⟩:∃cs line ec,D5 s=(cs,line,ec):=⟨_,_,_,rfl⟩
 have hok:=rL s hs;have hfew:=rQ s;rw[hcp] at hok hfew hf20;simp only at hf20;obtain⟨hok1,-,hlin,hec⟩:=hok;simp only at hok1 hlin hec hfew;have HPC:=a0z (fun w h=>rK s w hs h);rw[hcp] at HPC;have HSO:=a0z mQ;have HSB:=a0z aG;have HCP:=a0z hcp;have HOK:=a0z hok1;have HBM:=a0z hbm;have HBW:=a0z hbw;have HBB:=a0z hbb;have HBO:=a0z hbo;have HBP:=a0z hbp;have HST:=a0z hst;have HPAR:=a0z hpar;have HTAB:=a0z htab;have q0:w.cell? ⟨bi,0,none⟩=some (.string s):=Aa hbi 0;clear hcp hok1 hbi hbm hbw hbb hbo hbp hst hpar htab;go_enter Tryz.func46,Tryz.ntmps46;go_wp2_with (fail);(with_reducible refine(HPC.out _ HPAR.out).mono ?_);rintro e w1 ⟨⟨v1,rfl,ho1⟩,hf1⟩;obtain⟨a1,c1,rfl,hlc1,hsh1,hca1⟩:=A4.at4 ho1 HOK.out;have HF1:=a0z hf1;have HCA1:=a0z hca1;simp only;clear ho1 hf1 hca1 q0;go_wp2_with (fail)
 by_cases hece:ec=0
 ·(with_reducible refine(HSO.out _ (ec:Int) (by omega)).mono ?_);rintro e w2 ⟨⟨vv,rfl⟩,rfl⟩
  by_cases hl0:cs=[]
  ·subst hl0;go_wp2_with (fail);(with_reducible refine(HSB.out _ 1 (by decide)).mono ?_);rintro e w3 ⟨rfl,rfl⟩;go_wp2_with (fail);refine⟨rfl,(HF1.out.mono (by simp)),Or.inr ⟨1,by decide,rfl,?_⟩⟩;exact Gm.none (by rw[HCP.out];exact hece) (by rw[HCP.out])
  ·have hpos:0<cs.length:=List.length_pos_iff.2 hl0;have hz:(((cs.length:Nat):Int)==0)=false:=beq_eq_false_iff_ne.2 (by omega);have q1:w2.cell? ⟨bm,0,none⟩=some (.int .i64 m):=Aa ((HF1.out.block _ (Ab HBM.out) (by simp)).trans HBM.out) 0;have q2:w2.cell? ⟨bw,0,none⟩=some (.int .i64 wid):=Aa ((HF1.out.block _ (Ab HBW.out) (by simp)).trans HBW.out) 0;have HL0:=a0z hl0;clear hl0;have HA1:Hid (Bn w2 a1 cs.length cs):=HCA1
   by_cases hgood:1≤m∧2≤wid
   ·obtain⟨hm1,hw1⟩:=hgood
    obtain⟨mn,rfl⟩:∃k:Nat,m=k:=⟨m.toNat,by omega⟩
    obtain⟨wn,rfl⟩:∃k:Nat,wid=k:=⟨wid.toNat,by omega⟩
    have HMS:=a0z (fun w (h:Bn w a1 cs.length cs)=>qS w a1 cs.length c1 mn wn cs h (by omega) hpos (by omega) (by omega) (by omega) (by omega));go_wp2_with (fail);(with_reducible refine(HMS.out _ HA1.out).mono ?_);rintro e w3 ⟨v3,r,kp,rfl,hres,ho3,hf3⟩
    have hrok:∀c∈r.map (·.c),Dm c:=by
     intro c hc;obtain⟨x,hx,rfl⟩:=List.mem_map.1 hc;exact HOK.out _ (rR (hres.sub x hx))
    obtain⟨sl,hsl⟩:∃sl,r.map (·.c)=sl:=⟨_,rfl⟩
    have hslen:sl.length≤4001:=by
     have h1:=hres.len (U1 HOK.out (by omega));have h2:(Dp cs).length=cs.length:=Oj cs _;rw[←hsl,List.length_map];omega
    have hsri:risC sl=true:=by rw[←hsl];exact hres.ris.risC
    rw[hsl] at ho3 hrok;obtain⟨a3,c3,rfl,hlc3,hsh3,hca3⟩:=A4.at4 ho3 hrok;have HRES:=a0z hres;have HSL:=a0z hsl;have HCA3:=a0z hca3;have HF3:=a0z (HF1.out.trans hf3 (by simp));have HSH3:=a0z hsh3;clear hres ho3 hrok hsl hca3 hf3 q1 q2 hsh3 hsh1;go_wp2_with (fail);(with_reducible refine(HSO.out _ 0 rfl).mono ?_);rintro e w4 ⟨⟨vv4,rfl⟩,rfl⟩;have q3:w4.cell? ⟨bb,0,none⟩=some (.slice a2 n2 cap2):=Aa ((HF3.out.block _ (Ab HBB.out) (by simp)).trans HBB.out) 0;have q4:w4.cell? ⟨bo,0,none⟩=some (.int .i64 mo):=Aa ((HF3.out.block _ (Ab HBO.out) (by simp)).trans HBO.out) 0;have HST4:=a0z (HST.out.of_fp HF3.out);go_wp2_with (fail)
    by_cases hbor:G1 borders=true
    ·by_cases hmost:1≤mo
     ·obtain⟨mon,rfl⟩:∃k:Nat,mo=k:=⟨mo.toNat,by omega⟩
      (with_reducible refine(lR w4 a3 sl.length c3 a2 n2 cap2 sl borders mon HCA3.out HSH3.out hlc3 HST4.out (by omega) hn2 hbor hsri (by omega) (by omega)).mono ?_);rintro e w5 ⟨v5,out,rfl,ho5,hsp,hf5⟩;obtain⟨pa,pc,rfl⟩:=ho5.slice;have HF5:=a0z (HF3.out.trans hf5 (by simp));have HSP:=a0z hsp;have HBOR:=a0z hbor;have HO5:=a0z ho5
      have hpl:(K2 mon out).length≤4001:=by
       have h1:=V3 mon out out.length (Nat.le_refl _);rw[List.take_length,hsp.flat] at h1;exact Nat.le_trans h1 hslen
      obtain⟨ps,hps⟩:∃ps,K2 mon out=ps:=⟨_,rfl⟩
      rw[hps] at hpl;have HPS:=a0z hps
      have HO6:Hid (Ez w5 w4.heap.size (.slice pa ps.length pc) ps):=by rw[←hps];exact HO5
      rw[hps];clear hf5 hsp hbor ho5 HO5 hps q3 q4;go_wp2_with (fail);(with_reducible refine(HSO.out _ 0 rfl).mono ?_);rintro e w6 ⟨⟨vv6,rfl⟩,rfl⟩;go_wp2_with (fail)
      go_loopg [47] ps.length (fun g vi W=>∃(i:Nat) (vF vS:Value),g=ps.length-i∧vi=.int .i64 i∧i≤ps.length∧(∀j (_ :j<i) (h:j<ps.length),(G6 ps[j].2 0).2=0)∧W.heap[p]?=some (.cells #[sum,ep,vF,vS] 29 (0,0))∧Bg 9 W w6.heap.size vF ((I6 (ps.take i)).map Value.string)∧Bg 26 W w6.heap.size vS ((I6 (ps.take i)).map M8)∧Fp [p] w W∧w6.heap.size≤W.heap.size∧(∀D,D≠9→D≠26→An D w6.heap.size [p] w6 W))
      case atStart=>exact⟨0,_,_,rfl,rfl,Nat.zero_le _,fun j h=>absurd h (Nat.not_lt_zero _),(HF5.out.block _ (Ab HBP.out) (by simp)).trans HBP.out,Bg.nil _ _ _,Bg.nil _ _ _,HF5.out.mono (by simp),Nat.le_refl _,fun _ _ _=>An.of ((Fp.refl [] _).mono (by simp)) (by simp;exact Nat.lt_of_lt_of_le (Ab HBP.out) HF5.out.size)⟩
      case round=>
       obtain⟨i,vF,vS,hg,rfl,hi,herr,hcel,hF,hS,hfp,hsz,hkp⟩:=hrel;have HERR:=a0z herr;have HCEL:=a0z hcel;have HFI:=a0z hF;have HSI:=a0z hS;have HFP:=a0z hfp;have HKP:=a0z hkp;have HG:=a0z hg;clear herr hcel hF hS hfp hkp hg;have hpw:p<w.heap.size:=Ab HBP.out;have hww4:w.heap.size≤w4.heap.size:=HF3.out.size;have hww6:w.heap.size≤w6.heap.size:=HF5.out.size
       by_cases hlt:i<ps.length
       ·have zi:(i:Int)<(ps.length:Int):=by omega
        have n1:IntKind.i64.wrap ((i:Int)+1)=((i+1:Nat):Int):=by rw[IntKind.wrap_i64];omega
        obtain⟨i1,hi1⟩:∃i1,i+1=i1:=⟨_,rfl⟩
        rw[hi1] at n1
        have hopr:Ez wr w4.heap.size (.slice pa ps.length pc) ps:=HO6.out.low fun k h1 h2=>(HKP.out 0 (by decide) (by decide)).low k h2 h2 (by simp;omega)
        obtain⟨g,gc,xa,xn,xc,hgv,hx0,hx1,hxo⟩:=hopr.get hlt;cases hgv
        have hmem0:∀y∈ps,y∈Hm mon out out.length:=by
         rw[←HPS.out]
         exact fun y h=>h
        have hmem:=hmem0 ps[i] (List.getElem_mem _);clear hmem0
        obtain⟨⟨xi,x⟩,hx⟩:∃x,ps[i]=x:=⟨_,rfl⟩
        rw[hx] at hx0 hxo hmem;simp only at hx0 hxo;have hxs:=rT hmem;rw[HSP.out.flat] at hxs;simp only at hxs
        have hxok:∀c∈x,Dm c:=fun c hc=>HCA3.out.ok c (by
         have:=rS hmem hc;rw[HSP.out.flat] at this
         exact this)
        obtain⟨ya,yc,hye,hyc,-,hya⟩:=A4.at4 hxo hxok;cases hye
        obtain⟨f,fe,hfe⟩:∃f fe,G6 x 0=(f,fe):=⟨_,_,rfl⟩
        have hbt:∀W,Fp [] wr W→Calls Tryz.prog 51 #[.slice xa x.length xc,.int .u64 0] W fun e w'=>e=.returned (.tuple #[.string (G6 x 0).1,.int .i64 ((G6 x 0).2:Nat)])∧Fp [] W w':=fun W hf=>wK W xa x.length xc x 0 (hya.fp hf) hyc (by omega) (by decide) (HPAR.out.mx.fp (HFP.out.trans hf (by simp)) (by simpa using hg2)) (HTAB.out.fp (HFP.out.trans hf (by simp)) (by simpa using hg1))
        rw[hfe] at hbt;have HBT:=a0z hbt;have HX:=a0z hx;have HFE:=a0z hfe;have HI1:=a0z hi1;have q5:wr.cell? ⟨g,i*2,none⟩=some (.int .i64 xi):=hx0;have q6:wr.cell? ⟨g,i*2+1,none⟩=some (.slice xa x.length xc):=hx1;clear hopr hx0 hx1 hxo hmem hx hxok hya hfe hbt hi1;go_wp2_with (fail);(with_reducible refine(HBT.out _ (Fp.alloc _ _)).mono ?_);rintro e w7 ⟨rfl,hf7⟩;have HF7:=a0z ((Fp.alloc wr (.cells #[.int .i64 xi,.slice xa x.length xc] 106)).trans hf7 (by simp));simp only;clear hf7 q5 q6;go_wp2_with (fail)
        by_cases hfe0:fe=0
        ·(with_reducible refine(HSO.out _ (fe:Int) (by omega)).mono ?_);rintro e w8 ⟨⟨vv8,rfl⟩,rfl⟩;have hgood:R2 x:=wN (seq:=0) (by rw[HFE.out];exact hfe0)
         have hff:f=L8 x 0:=by
          have h1:=wM 0 hgood;rw[HFE.out] at h1;exact(Prod.mk.inj h1).1
         have hfs:f.size≤100000000:=by rw[hff];exact wS 0 hgood
         have HSM:=a0z (fun W (h:Fp [p] w W)=>Qs f W hfs (HTAB.out.fp h (by simpa using hg1)));obtain⟨fa,fn,fc,rfl⟩:=HFI.out.sl;obtain⟨sa,sn,sc,rfl⟩:=HSI.out.sl;have HF8:=a0z (HFI.out.fp HF7.out (by simp));have HS8:=a0z (HSI.out.fp HF7.out (by simp));have HC8:=a0z ((HF7.out.block _ (Ab HCEL.out) (by simp)).trans HCEL.out);have HFP8:=a0z (HFP.out.trans HF7.out (by simp));have hsz8:w6.heap.size≤w8.heap.size:=Nat.le_trans hsz HF7.out.size;have HTL:Hid (((I6 (ps.take i)).map Value.string).length+1≤1000000000):=a0z (by simp[I6];omega);have HTL2:Hid (((I6 (ps.take i)).map M8).length+1≤1000000000):=a0z (by simp[I6];omega);clear hgood hff;go_wp2_with (fail);refine P7 (D9 w w8 w6.heap.size p sum ep (.slice fa fn fc) (.slice sa sn sc) ((I6 (ps.take i)).map Value.string) ((I6 (ps.take i)).map M8) (.string f) (M8 f)) (fun _ _=>True) (by kernel_rfl) (by kernel_rfl) (fun _=>D9.start HF8.out HS8.out HC8.out HFP8.out hsz8 (by omega)) ?_;apply Cc (fun _ _ _ h _=>h.plain (by decide)) rfl rfl rfl
         ·intro b a w hC hA K hK;have h5:=hA.fr 5 rfl;simp only[Oper.wp,execOp];go_simp;exact hK _ hC trivial
         apply Cc (fun _ _ _ h _=>h.plain (by decide)) rfl rfl rfl
         ·intro b a w hC hA K hK;have h59:=hA.eq 0 59 rfl;have hce:=hC.cel;rw[hA.post 12 (by kernel_rfl),cond_false] at hce;have q0:=Aa hce 2;simp only[a0v,a0x,a0w] at q0;simp only[Oper.wp,execOp];go_simp;exact hK _ hC trivial
         apply Cc (fun _ _ _ h _=>h.plain (by decide)) rfl rfl rfl
         ·intro b a w hC hA K hK;have h12:=hA.fr 12 rfl;simp only[Oper.wp,execOp];go_simp;exact hK _ hC trivial
         apply Dv (fun _ _=>True) rfl rfl rfl
         ·intro b a w hC hA K hK;have h61:=hA.eq 2 61 rfl;have hst:=hC.bldF hA.self;simp only[Oper.wp,execOp];go_simp;exact hK _ _ hst trivial trivial
         apply Dv (fun _ _=>True) rfl rfl rfl
         ·intro b a w hC hA K hK;have h60:=hA.eq 1 60 rfl;have h62:=hA.dep 3 62 _ (by kernel_rfl) rfl;obtain⟨g,hg1,-,hg2⟩:=hC.fb (hA.pre 3 (by kernel_rfl)) hA.self;refine Z9 22 9 Tryz.underlying22 Tryz.info9 rfl (by decide) (.tmp 60) (.tmp 62) rfl _ _ _ (F5 h60) (hC.f0 hA.self) g _ rfl (F5 ((hA.val 3 62 (by kernel_rfl)).trans hg1)) (Aa hg2 0) HTL.out hC.sz ?_;intro v' w' h1 h2 h3;exact hK _ _ (hC.appF (hA.pre 3 (by kernel_rfl)) hA.self h1 h2 h3 (by omega) (by omega)) trivial trivial
         apply Cc (fun _ _ _ h _=>h.plain (by decide)) rfl rfl rfl
         ·intro b a w hC hA K hK;have h5:=hA.fr 5 rfl;simp only[Oper.wp,execOp];go_simp;exact hK _ hC trivial
         apply Cc (fun _ _ _ h _=>h.plain (by decide)) rfl rfl rfl
         ·intro b a w hC hA K hK;have h64:=hA.eq 5 64 rfl;have hce:=hC.cel;rw[hA.post 14 (by kernel_rfl),cond_false] at hce;have q0:=Aa hce 3;simp only[a0v,a0x,a0w] at q0;simp only[Oper.wp,execOp];go_simp;exact hK _ hC trivial
         apply Cc (fun _ _ _ h _=>h.plain (by decide)) rfl rfl rfl
         ·intro b a w hC hA K hK;have h12:=hA.fr 12 rfl;simp only[Oper.wp,execOp];go_simp;exact hK _ hC trivial
         apply Dv (Br (M8 f)) rfl rfl rfl
         ·intro b a w hC hA K hK;have h66:=hA.eq 7 66 rfl;simp only[Oper.wp,execOp];go_simp;(with_reducible refine(HSM.out _ hC.fp).mono ?_);rintro e w4 ⟨rfl,hf⟩;exact hK _ _ ((hC.on hf).plain (by decide)) trivial rfl
         apply Dv (fun _ _=>True) rfl rfl rfl
         ·intro b a w hC hA K hK;have h67:=hA.eq 8 67 rfl;have hst:=hC.bldS hA.self;simp only[Oper.wp,execOp];go_simp;exact hK _ _ hst trivial trivial
         apply Dv (fun _ _=>True) rfl rfl rfl
         ·intro b a w hC hA K hK;have h65:=hA.eq 6 65 rfl;have h68:=hA.dep 9 68 _ (by kernel_rfl) rfl;obtain⟨g,hg1,-,hg2⟩:=hC.sb (hA.pre 9 (by kernel_rfl)) hA.self;refine Z9 27 26 Tryz.underlying27 Tryz.infoU32 rfl (by decide) (.tmp 65) (.tmp 68) rfl _ _ _ (F5 h65) (hC.s0 hA.self) g _ rfl (F5 ((hA.val 9 68 (by kernel_rfl)).trans hg1)) (Aa hg2 0) HTL2.out hC.sz ?_;intro v' w' h1 h2 h3;exact hK _ _ (hC.appS (hA.pre 9 (by kernel_rfl)) hA.self h1 h2 h3 (by omega) (by omega)) trivial trivial
         apply Cc (fun _ _ _ h _=>h.plain (by decide)) rfl rfl rfl
         ·intro b a w hC hA K hK;have h5:=hA.fr 5 rfl;simp only[Oper.wp,execOp];go_simp;exact hK _ hC trivial
         apply I8 (fun _=>True) rfl rfl rfl
         ·intro b a w hC hA K hK;have h70:=hA.eq 11 70 rfl;have h63:=hA.dep 4 63 _ (by kernel_rfl) rfl;obtain⟨a2,n2,c2,e2⟩:=(hC.f1 (hA.pre 4 (by kernel_rfl))).sl;have hv:=(hA.val 4 63 (by kernel_rfl)).trans e2;have hst:=hC.stoF (hA.pre 4 (by kernel_rfl)) (by omega) rfl;rw[e2] at hst;have f0:=Aw hC.cel 2;have q0:=Aa hC.cel 2;simp only[a0v,a0x,a0w] at q0;simp only[Oper.wp,execOp];go_simp;exact hK undef _ hst trivial trivial
         apply Cc (fun _ _ _ h _=>h.plain (by decide)) rfl rfl rfl
         ·intro b a w hC hA K hK;have h5:=hA.fr 5 rfl;simp only[Oper.wp,execOp];go_simp;exact hK _ hC trivial
         apply I8 (fun _=>True) rfl rfl rfl
         ·intro b a w hC hA K hK;have h71:=hA.eq 13 71 rfl;have h69:=hA.dep 10 69 _ (by kernel_rfl) rfl;obtain⟨a2,n2,c2,e2⟩:=(hC.s1 (hA.pre 10 (by kernel_rfl))).sl;have hv:=(hA.val 10 69 (by kernel_rfl)).trans e2;have hst:=hC.stoS (hA.pre 10 (by kernel_rfl)) (by omega) rfl;rw[e2] at hst;have f0:=Aw hC.cel 3;have q0:=Aa hC.cel 3;simp only[a0v,a0x,a0w] at q0;simp only[Oper.wp,execOp];go_simp;exact hK undef _ hst trivial trivial
         refine⟨?_,?_⟩
         ·refine⟨fun _ _ _ _ _=>trivial,?_⟩;refine E2 _ ?_;refine⟨fun _ _ _ _ _=>trivial,?_⟩;refine E2 _ ?_;refine⟨fun _ _ _ _ _=>trivial,?_⟩;refine⟨fun _ _ _ _ _=>trivial,?_⟩;refine⟨fun _ _ _ _ h=>h,?_⟩
          iterate 3 refine E2 _ ?_
          refine⟨fun _ _ _ _ _=>trivial,?_⟩;refine⟨fun _ _ _ _ _=>trivial,?_⟩
          iterate 3 refine E2 _ ?_
          exact trivial
         ·intro w' bb hbb;simp only[List.reverse_cons,List.reverse_nil,List.nil_append,List.cons_append]
          iterate 3 (refine Aq ?_)
          refine Av ?_;intro v3 u3;refine Av ?_;intro v4 u4
          iterate 3 (refine Aq ?_)
          refine Av ?_;intro v8 u8;obtain rfl:=u8;refine Av ?_;intro v9 u9;refine Av ?_;intro v10 u10
          iterate 1 (refine Aq ?_)
          refine Av ?_;intro v12 u12
          iterate 1 (refine Aq ?_)
          refine Av ?_;intro v14 u14;refine A8 ?_;intro hC;simp only[Am,Act.put,List.setIfInBounds_toArray,List.set_cons_succ,List.set_cons_zero];go_wp2_with (fail)
          go_roundg (ps.length-i1)
          case measure=>have:=HG.out;have:=HI1.out;omega
          case rel=>
           have hce:=hC.cel;rw[hbb 12 (by simp),hbb 14 (by simp),cond_true,cond_true] at hce;refine⟨i1,_,_,rfl,rfl,by have:=HI1.out;omega,?_,hce,?_,?_,hC.fp,hC.sz,?_⟩
           ·intro j hj hjl
            by_cases hji:j<i
            ·exact HERR.out j hji hjl
            ·obtain rfl:j=i:=by have:=HI1.out;omega
             rw[HX.out,HFE.out];exact hfe0
           ·rw[←HI1.out,bA hlt HX.out HFE.out,a1z];exact hC.f1 (hbb 4 (by simp))
           ·rw[←HI1.out,bA hlt HX.out HFE.out,a1z];exact hC.s1 (hbb 10 (by simp))
           ·intro D h1 h2;exact((HKP.out D h1 h2).trans (An.of (HF7.out.mono (by simp):Fp [p] wr w8) (by simp;omega)) (by simp)).trans (hC.kept D h1 h2) (by simp)
        ·(with_reducible refine(HSB.out _ (fe:Int) (by omega)).mono ?_);rintro e w8 ⟨rfl,rfl⟩;go_wp2_with (fail);refine⟨rfl,HFP.out.trans HF7.out (by simp),Or.inr ⟨fe,hfe0,rfl,?_⟩⟩
         have hfst:N9 (Jq (K2 mon out))=fe:=by
          rw[HPS.out];have h1:=dI (Jq ps) i (by simp[Jq];exact hlt) (fun j hj=>by simp only[Jq,a0u];exact HERR.out j hj (by omega)) (by simp only[Jq,a0u];rw[HX.out,HFE.out];exact hfe0);rw[h1];simp only[Jq,a0u];rw[HX.out,HFE.out]
         have:=Gm.build (s:=s) (borders:=borders) (m:=mn) (wid:=wn) (mo:=(mon:Int)) r out mon (by rw[HCP.out];exact hece) (by rw[HCP.out];exact HL0.out) hm1 hw1 HBOR.out (by omega) rfl (by rw[HCP.out];exact HRES.out) (by rw[HSL.out];exact HSP.out) (by rw[hfst];exact hfe0);rw[hfst] at this;exact this
       ·have z0:¬(i:Int)<(ps.length:Int):=by omega
        obtain rfl:i=ps.length:=by omega
        go_wp2_with (fail);go_end0;have hF:=HFI.out;have hS:=HSI.out;rw[List.take_length] at hF hS;refine⟨HFP.out,Or.inl ⟨⟨_,rfl⟩,I6 ps,?_,vF,vS,HCEL.out,hF.mono hww6,hS.mono hww6⟩⟩
        have:=Gm.ok (s:=s) (borders:=borders) (m:=mn) (wid:=wn) (mo:=(mon:Int)) r out mon (by rw[HCP.out];exact hece) (by rw[HCP.out];exact HL0.out) hm1 hw1 HBOR.out (by omega) rfl (by rw[HCP.out];exact HRES.out) (by rw[HSL.out];exact HSP.out) (by
         rw[HPS.out];intro e he;obtain⟨j,hj,rfl⟩:=List.mem_iff_getElem.1 he;simp only[Jq,a0u];simp only[Jq,List.length_map] at hj
         exact HERR.out j hj hj)
        rw[HPS.out] at this;exact this
     ·(with_reducible refine(lS w4 a3 sl.length c3 a2 n2 cap2 sl borders mo HCA3.out HSH3.out hlc3 HST4.out (by omega) hn2 hbor hsri (by omega)).mono ?_);rintro e w5 ⟨rfl,hf5⟩;have HF5:=a0z (HF3.out.trans hf5 (by simp));clear hf5 q3 q4;go_wp2_with (fail);(with_reducible refine(HSB.out _ 1 (by decide)).mono ?_);rintro e wz ⟨rfl,rfl⟩;go_wp2_with (fail);refine⟨rfl,(HF5.out.mono (by simp)),Or.inr ⟨1,by decide,rfl,?_⟩⟩;exact Gm.cut (by rw[HCP.out];exact hece) (by rw[HCP.out];exact HL0.out) hm1 hw1 (Or.inr (by omega))
    ·have hbf:G1 borders=false:=by simpa using hbor
     (with_reducible refine(lU w4 a3 sl.length c3 a2 n2 cap2 borders mo HST4.out hn2 hbf).mono ?_);rintro e w5 ⟨rfl,hf5⟩;have HF5:=a0z (HF3.out.trans hf5 (by simp));clear hf5 q3 q4;go_wp2_with (fail);(with_reducible refine(HSB.out _ 1 (by decide)).mono ?_);rintro e wz ⟨rfl,rfl⟩;go_wp2_with (fail);refine⟨rfl,(HF5.out.mono (by simp)),Or.inr ⟨1,by decide,rfl,?_⟩⟩;exact Gm.cut (by rw[HCP.out];exact hece) (by rw[HCP.out];exact HL0.out) hm1 hw1 (Or.inl hbf)
   ·have hsrt:∃P:World→Value→Prop,Calls Tryz.prog 49 #[.slice a1 cs.length c1,.int .i64 m,.int .i64 wid] w2 fun e w'=>(∃v,P w' v∧e=.returned (.tuple #[v,.int .i64 0,.int .i64 1]))∧Fp [] w2 w':=by
     refine⟨fun _ _=>True,?_⟩
     by_cases hm1:m<1
     ·exact(qW w2 _ m wid hm1).mono fun e w' h=>⟨⟨_,trivial,h.1⟩,h.2⟩
     ·obtain⟨mn,rfl⟩:∃k:Nat,m=k:=⟨m.toNat,by omega⟩
      refine(qX w2 a1 cs.length c1 mn wid cs HA1.out (by omega) hpos (by omega) (by omega) (by omega)).mono fun e w' h=>?_
      obtain⟨v,h1,h2⟩:=h;exact⟨⟨v,trivial,h1⟩,h2⟩
    obtain⟨P,hsrt⟩:=hsrt;have HSRT:=a0z hsrt;clear hsrt;go_wp2_with (fail);(with_reducible refine HSRT.out.mono ?_);rintro e w3 ⟨⟨v3,-,rfl⟩,hf3⟩;have HF3:=a0z (HF1.out.trans hf3 (by simp));clear hf3 q1 q2;go_wp2_with (fail);(with_reducible refine(HSB.out _ 1 (by decide)).mono ?_);rintro e w4 ⟨rfl,rfl⟩;go_wp2_with (fail);refine⟨rfl,HF3.out.mono (by simp),Or.inr ⟨1,by decide,rfl,?_⟩⟩;exact Gm.sort (by rw[HCP.out];exact hece) (by rw[HCP.out];exact HL0.out) (by omega)
 ·(with_reducible refine(HSB.out _ (ec:Int) (by omega)).mono ?_);rintro e w2 ⟨rfl,rfl⟩;go_wp2_with (fail);refine⟨rfl,(HF1.out.mono (by simp)),Or.inr ⟨ec,hece,rfl,?_⟩⟩;have:=Gm.parse (s:=s) (borders:=borders) (m:=m) (wid:=wid) (mo:=mo) (by rw[HCP.out];exact hece);rw[HCP.out] at this;exact this
end Go.Proofs.YtkagolpnaicdoaaGreatDoor
