/-
 job.Make's tried function, walked. job.Make, walked. job.hex: strings.Repeat of "0". strconv.FormatUint at base sixteen.
-/
import Derived.Test.YtkagolpnaicdoaaGreatDoorPParLine
import Derived.Test.YtkagolpnaicdoaaGreatDoorPMaps
import Derived.Test.YtkagolpnaicdoaaGreatDoorRows
import Derived.Test.YtkagolpnaicdoaaGreatDoorPShelf
import Derived.Deep.CutRange
import Derived.WalkKit
import Derived.WalkSmall
import Derived.Test.YtkagolpnaicdoaaGreatDoorPRegion
import Derived.Lib.SmallJoins
set_option maxRecDepth 100000
set_option maxHeartbeats 8000000
open Go.Lib renaming hid→a0z
open List renaming getElem?_toArray→a0x,getElem?_cons_zero→a0w,getElem?_cons_succ→a0v,getElem_map→a1w,setIfInBounds_toArray→a1v,getElem?_eq_getElem→a1u,map_append→a2z,length_replicate→a2w
open Nat renaming lt_of_lt_of_le→a0u
open Go.IntKind renaming u64→a1z,wrap_i64→a1x
open Array renaming replicate→a2x
namespace Go.Proofs.YtkagolpnaicdoaaGreatDoor
section
open Go.RowKit Go.Lib
theorem cZ{ps:List (Nat × List Ac)}{i:Nat}{x:Nat × List Ac}{f:ByteArray}{e:Nat}(h:i<ps.length)(hx:ps[i]=x)(hf:Hh x.2 0=(f,e)):Ji (ps.take (i+1))=Ji (ps.take i)++[f]:=by
 unfold Ji;rw[List.take_add_one,a1u h,hx,a2z];simp[hf]
theorem pW(w:World)(x:Int)(h:x=0):Calls Tryz.prog 48 #[.int .i64 x] w fun e w'=>(∃v,e=.returned v)∧w'=w:=by
 subst h;exact aG w
def Nx(f:ByteArray):Value:=.int .u32 (D5 0 f)
theorem pX(w:World)(bi bm bw bb bo p:Nat)(s:ByteArray)(m wid mo:Int)(a2:Option Addr)(n2 cap2:Nat)(borders:List ByteArray)(sum ep:Value)
  (hbi:w.heap[bi]?=some (.cells #[.string s] 9 (0,0)))(hbm:w.heap[bm]?=some (.cells #[.int .i64 m] 3 (0,0)))(hbw:w.heap[bw]?=some (.cells #[.int .i64 wid] 3 (0,0)))(hbb:w.heap[bb]?=some (.cells #[.slice a2 n2 cap2] 22 (0,0)))(hbo:w.heap[bo]?=some (.cells #[.int .i64 mo] 3 (0,0)))
  (hbp:w.heap[p]?=some (.cells #[sum,ep,.slice none 0 0,.slice none 0 0] 29 (0,0)))(hs:s.size≤100000000)(hf20:(Ed s).1.length<20)(hst:F4 w a2 n2 borders)(hn2:n2≤900000)(hm:m<2^63)(hwid:wid<2^63)(hmo:mo<2^63)(hpar:Iq w)(htab:Ce w)(hg1:0≠p)(hg2:2≠p):
  Calls Tryz.prog 46 #[.pointer (some ⟨bi,0,none⟩),.pointer (some ⟨bm,0,none⟩),.pointer (some ⟨bw,0,none⟩),.pointer (some ⟨bb,0,none⟩),.pointer (some ⟨bo,0,none⟩),.pointer (some ⟨p,0,none⟩)] w fun e w'=>Fp [p] w w'∧
   (((∃v,e=.returned v)∧∃files vF vS,Gv s borders m wid mo 0 files∧w'.heap[p]?=some (.cells #[sum,ep,vF,vS] 29 (0,0))∧Bg 9 w' w.heap.size vF (files.map Value.string)∧Bg 26 w' w.heap.size vS (files.map Nx))∨
    ∃x:Nat,x≠0∧e=.panicked (P0 (x:Int))∧Gv s borders m wid mo x []):=by
 obtain⟨cs,line,ec,hcp⟩:∃cs line ec,Ed s=(cs,line,ec):=⟨_,_,_,rfl⟩
 have hok:=uV s hs;have hfew:=uZ s;rw[hcp] at hok hfew hf20;simp only at hf20;obtain⟨hok1,-,hlin,hec⟩:=hok;simp only at hok1 hlin hec hfew;have HPC:=a0z (fun w h=>uU s w hs h);rw[hcp] at HPC;have HSO:=a0z pW;have HSB:=a0z aH;have HCP:=a0z hcp;have HOK:=a0z hok1;have HBM:=a0z hbm;have HBW:=a0z hbw;have HBB:=a0z hbb;have HBO:=a0z hbo;have HBP:=a0z hbp;have HST:=a0z hst;have HPAR:=a0z hpar;have HTAB:=a0z htab;have q0:w.cell? ⟨bi,0,none⟩=some (.string s):=Aa hbi 0;clear hcp hok1 hbi hbm hbw hbb hbo hbp hst hpar htab;go_enter Tryz.func46,Tryz.ntmps46;go_wp2_with (fail);(with_reducible refine(HPC.out _ HPAR.out).mono ?_);rintro e w1 ⟨⟨v1,rfl,ho1⟩,hf1⟩;obtain⟨a1,c1,rfl,hlc1,hsh1,hca1⟩:=A2.at4 ho1 HOK.out;have HF1:=a0z hf1;have HCA1:=a0z hca1;simp only;clear ho1 hf1 hca1 q0;go_wp2_with (fail)
 by_cases hece:ec=0
 ·(with_reducible refine(HSO.out _ (ec:Int) (by omega)).mono ?_);rintro e w2 ⟨⟨vv,rfl⟩,rfl⟩
  by_cases hl0:cs=[]
  ·subst hl0;go_wp2_with (fail);(with_reducible refine(HSB.out _ 1 (by decide)).mono ?_);rintro e w3 ⟨rfl,rfl⟩;go_wp2_with (fail);refine⟨rfl,(HF1.out.mono (by simp)),Or.inr ⟨1,by decide,rfl,?_⟩⟩;exact Gv.none (by rw[HCP.out];exact hece) (by rw[HCP.out])
  ·have hpos:0<cs.length:=List.length_pos_iff.2 hl0;have hz:(((cs.length:Nat):Int)==0)=false:=beq_eq_false_iff_ne.2 (by omega);have q1:w2.cell? ⟨bm,0,none⟩=some (.int .i64 m):=Aa ((HF1.out.block _ (Ab HBM.out) (by simp)).trans HBM.out) 0;have q2:w2.cell? ⟨bw,0,none⟩=some (.int .i64 wid):=Aa ((HF1.out.block _ (Ab HBW.out) (by simp)).trans HBW.out) 0;have HL0:=a0z hl0;clear hl0;have HA1:Hid (Bt w2 a1 cs.length cs):=HCA1
   by_cases hgood:1≤m∧2≤wid
   ·obtain⟨hm1,hw1⟩:=hgood
    obtain⟨mn,rfl⟩:∃k:Nat,m=k:=⟨m.toNat,by omega⟩
    obtain⟨wn,rfl⟩:∃k:Nat,wid=k:=⟨wid.toNat,by omega⟩
    have HMS:=a0z (fun w (h:Bt w a1 cs.length cs)=>tV w a1 cs.length c1 mn wn cs h (by omega) hpos (by omega) (by omega) (by omega) (by omega));go_wp2_with (fail);(with_reducible refine(HMS.out _ HA1.out).mono ?_);rintro e w3 ⟨v3,r,kp,rfl,hres,ho3,hf3⟩
    have hrok:∀c∈r.map (·.c),Dn c:=by
     intro c hc;obtain⟨x,hx,rfl⟩:=List.mem_map.1 hc;exact HOK.out _ (vA (hres.sub x hx))
    obtain⟨sl,hsl⟩:∃sl,r.map (·.c)=sl:=⟨_,rfl⟩
    have hslen:sl.length≤4001:=by
     have h1:=hres.len (Vt HOK.out (by omega));have h2:(Ds cs).length=cs.length:=O9 cs _;rw[←hsl,List.length_map];omega
    have hsri:risC sl=true:=by rw[←hsl];exact hres.ris.risC
    rw[hsl] at ho3 hrok;obtain⟨a3,c3,rfl,hlc3,hsh3,hca3⟩:=A2.at4 ho3 hrok;have HRES:=a0z hres;have HSL:=a0z hsl;have HCA3:=a0z hca3;have HF3:=a0z (HF1.out.trans hf3 (by simp));have HSH3:=a0z hsh3;clear hres ho3 hrok hsl hca3 hf3 q1 q2 hsh3 hsh1;go_wp2_with (fail);(with_reducible refine(HSO.out _ 0 rfl).mono ?_);rintro e w4 ⟨⟨vv4,rfl⟩,rfl⟩;have q3:w4.cell? ⟨bb,0,none⟩=some (.slice a2 n2 cap2):=Aa ((HF3.out.block _ (Ab HBB.out) (by simp)).trans HBB.out) 0;have q4:w4.cell? ⟨bo,0,none⟩=some (.int .i64 mo):=Aa ((HF3.out.block _ (Ab HBO.out) (by simp)).trans HBO.out) 0;have HST4:=a0z (HST.out.of_fp HF3.out);go_wp2_with (fail)
    by_cases hbor:G8 borders=true
    ·by_cases hmost:1≤mo
     ·obtain⟨mon,rfl⟩:∃k:Nat,mo=k:=⟨mo.toNat,by omega⟩
      (with_reducible refine(oZ w4 a3 sl.length c3 a2 n2 cap2 sl borders mon HCA3.out HSH3.out hlc3 HST4.out (by omega) hn2 hbor hsri (by omega) (by omega)).mono ?_);rintro e w5 ⟨v5,out,rfl,ho5,hsp,hf5⟩;obtain⟨pa,pc,rfl⟩:=ho5.slice;have HF5:=a0z (HF3.out.trans hf5 (by simp));have HSP:=a0z hsp;have HBOR:=a0z hbor;have HO5:=a0z ho5
      have hpl:(Lq mon out).length≤4001:=by
       have h1:=Xh mon out out.length (Nat.le_refl _);rw[List.take_length,hsp.flat] at h1;exact Nat.le_trans h1 hslen
      obtain⟨ps,hps⟩:∃ps,Lq mon out=ps:=⟨_,rfl⟩
      rw[hps] at hpl;have HPS:=a0z hps
      have HO6:Hid (E7 w5 w4.heap.size (.slice pa ps.length pc) ps):=by rw[←hps];exact HO5
      rw[hps];clear hf5 hsp hbor ho5 HO5 hps q3 q4;go_wp2_with (fail);(with_reducible refine(HSO.out _ 0 rfl).mono ?_);rintro e w6 ⟨⟨vv6,rfl⟩,rfl⟩;go_wp2_with (fail)
      go_loopg [47] ps.length (fun g vi W=>∃(i:Nat) (vF vS:Value),g=ps.length-i∧vi=.int .i64 i∧i≤ps.length∧(∀j (_ :j<i) (h:j<ps.length),(Hh ps[j].2 0).2=0)∧W.heap[p]?=some (.cells #[sum,ep,vF,vS] 29 (0,0))∧Bg 9 W w6.heap.size vF ((Ji (ps.take i)).map Value.string)∧Bg 26 W w6.heap.size vS ((Ji (ps.take i)).map Nx)∧Fp [p] w W∧w6.heap.size≤W.heap.size∧(∀D,D≠9→D≠26→Av D w6.heap.size [p] w6 W))
      case atStart=>exact⟨0,_,_,rfl,rfl,Nat.zero_le _,fun j h=>absurd h (Nat.not_lt_zero _),(HF5.out.block _ (Ab HBP.out) (by simp)).trans HBP.out,Bg.nil _ _ _,Bg.nil _ _ _,HF5.out.mono (by simp),Nat.le_refl _,fun _ _ _=>Av.of ((Fp.refl [] _).mono (by simp)) (by simp;exact a0u (Ab HBP.out) HF5.out.size)⟩
      case round=>
       obtain⟨i,vF,vS,hg,rfl,hi,herr,hcel,hF,hS,hfp,hsz,hkp⟩:=hrel;have HERR:=a0z herr;have HCEL:=a0z hcel;have HFI:=a0z hF;have HSI:=a0z hS;have HFP:=a0z hfp;have HKP:=a0z hkp;have HG:=a0z hg;clear herr hcel hF hS hfp hkp hg;have hpw:p<w.heap.size:=Ab HBP.out;have hww4:w.heap.size≤w4.heap.size:=HF3.out.size;have hww6:w.heap.size≤w6.heap.size:=HF5.out.size
       by_cases hlt:i<ps.length
       ·have zi:(i:Int)<(ps.length:Int):=by omega
        have n1:IntKind.i64.wrap ((i:Int)+1)=((i+1:Nat):Int):=by rw[a1x];omega
        obtain⟨i1,hi1⟩:∃i1,i+1=i1:=⟨_,rfl⟩
        rw[hi1] at n1
        have hopr:E7 wr w4.heap.size (.slice pa ps.length pc) ps:=HO6.out.low fun k h1 h2=>(HKP.out 0 (by decide) (by decide)).low k h2 h2 (by simp;omega)
        obtain⟨g,gc,xa,xn,xc,hgv,hx0,hx1,hxo⟩:=hopr.get hlt;cases hgv
        have hmem0:∀y∈ps,y∈Hw mon out out.length:=by
         rw[←HPS.out]
         exact fun y h=>h
        have hmem:=hmem0 ps[i] (List.getElem_mem _);clear hmem0
        obtain⟨⟨xi,x⟩,hx⟩:∃x,ps[i]=x:=⟨_,rfl⟩
        rw[hx] at hx0 hxo hmem;simp only at hx0 hxo;have hxs:=vC hmem;rw[HSP.out.flat] at hxs;simp only at hxs
        have hxok:∀c∈x,Dn c:=fun c hc=>HCA3.out.ok c (by
         have:=vB hmem hc;rw[HSP.out.flat] at this
         exact this)
        obtain⟨ya,yc,hye,hyc,-,hya⟩:=A2.at4 hxo hxok;cases hye
        obtain⟨f,fe,hfe⟩:∃f fe,Hh x 0=(f,fe):=⟨_,_,rfl⟩
        have hbt:∀W,Fp [] wr W→Calls Tryz.prog 51 #[.slice xa x.length xc,.int .u64 0] W fun e w'=>e=.returned (.tuple #[.string (Hh x 0).1,.int .i64 ((Hh x 0).2:Nat)])∧Fp [] W w':=fun W hf=>zA W xa x.length xc x 0 (hya.fp hf) hyc (by omega) (by decide) (HPAR.out.mx.fp (HFP.out.trans hf (by simp)) (by simpa using hg2)) (HTAB.out.fp (HFP.out.trans hf (by simp)) (by simpa using hg1))
        rw[hfe] at hbt;have HBT:=a0z hbt;have HX:=a0z hx;have HFE:=a0z hfe;have HI1:=a0z hi1;have q5:wr.cell? ⟨g,i*2,none⟩=some (.int .i64 xi):=hx0;have q6:wr.cell? ⟨g,i*2+1,none⟩=some (.slice xa x.length xc):=hx1;clear hopr hx0 hx1 hxo hmem hx hxok hya hfe hbt hi1;go_wp2_with (fail);(with_reducible refine(HBT.out _ (Fp.alloc _ _)).mono ?_);rintro e w7 ⟨rfl,hf7⟩;have HF7:=a0z ((Fp.alloc wr (.cells #[.int .i64 xi,.slice xa x.length xc] 106)).trans hf7 (by simp));simp only;clear hf7 q5 q6;go_wp2_with (fail)
        by_cases hfe0:fe=0
        ·(with_reducible refine(HSO.out _ (fe:Int) (by omega)).mono ?_);rintro e w8 ⟨⟨vv8,rfl⟩,rfl⟩;have hgood:Tn x:=zD (seq:=0) (by rw[HFE.out];exact hfe0)
         have hff:f=Nk x 0:=by
          have h1:=zC 0 hgood;rw[HFE.out] at h1;exact(Prod.mk.inj h1).1
         have hfs:f.size≤100000000:=by rw[hff];exact zI 0 hgood
         have HSM:=a0z (fun W (h:Fp [p] w W)=>Ro f W hfs (HTAB.out.fp h (by simpa using hg1)));obtain⟨fa,fn,fc,rfl⟩:=HFI.out.sl;obtain⟨sa,sn,sc,rfl⟩:=HSI.out.sl;have HF8:=a0z (HFI.out.fp HF7.out (by simp));have HS8:=a0z (HSI.out.fp HF7.out (by simp));have HC8:=a0z ((HF7.out.block _ (Ab HCEL.out) (by simp)).trans HCEL.out);have HFP8:=a0z (HFP.out.trans HF7.out (by simp));have hsz8:w6.heap.size≤w8.heap.size:=Nat.le_trans hsz HF7.out.size;have HTL:Hid (((Ji (ps.take i)).map Value.string).length+1≤1000000000):=a0z (by simp[Ji];omega);have HTL2:Hid (((Ji (ps.take i)).map Nx).length+1≤1000000000):=a0z (by simp[Ji];omega);clear hgood hff;go_wp2_with (fail);refine Px (Eh w w8 w6.heap.size p sum ep (.slice fa fn fc) (.slice sa sn sc) ((Ji (ps.take i)).map Value.string) ((Ji (ps.take i)).map Nx) (.string f) (Nx f)) (fun _ _=>True) (by kernel_rfl) (by kernel_rfl) (fun _=>Eh.start HF8.out HS8.out HC8.out HFP8.out hsz8 (by omega)) ?_;apply Cj (fun _ _ _ h _=>h.plain (by decide)) rfl rfl rfl
         ·intro b a w hC hA K hK;have h5:=hA.fr 5 rfl;simp only[Oper.wp,execOp];go_simp;exact hK _ hC trivial
         apply Cj (fun _ _ _ h _=>h.plain (by decide)) rfl rfl rfl
         ·intro b a w hC hA K hK;have h59:=hA.eq 0 59 rfl;have hce:=hC.cel;rw[hA.post 12 (by kernel_rfl),cond_false] at hce;have q0:=Aa hce 2;simp only[a0x,a0w,a0v] at q0;simp only[Oper.wp,execOp];go_simp;exact hK _ hC trivial
         apply Cj (fun _ _ _ h _=>h.plain (by decide)) rfl rfl rfl
         ·intro b a w hC hA K hK;have h12:=hA.fr 12 rfl;simp only[Oper.wp,execOp];go_simp;exact hK _ hC trivial
         apply Dt (fun _ _=>True) rfl rfl rfl
         ·intro b a w hC hA K hK;have h61:=hA.eq 2 61 rfl;have hst:=hC.bldF hA.self;simp only[Oper.wp,execOp];go_simp;exact hK _ _ hst trivial trivial
         apply Dt (fun _ _=>True) rfl rfl rfl
         ·intro b a w hC hA K hK;have h60:=hA.eq 1 60 rfl;have h62:=hA.dep 3 62 _ (by kernel_rfl) rfl;obtain⟨g,hg1,-,hg2⟩:=hC.fb (hA.pre 3 (by kernel_rfl)) hA.self;refine cP 22 9 Tryz.underlying22 Tryz.info9 rfl (by decide) (.tmp 60) (.tmp 62) rfl _ _ _ (Gf h60) (hC.f0 hA.self) g _ rfl (Gf ((hA.val 3 62 (by kernel_rfl)).trans hg1)) (Aa hg2 0) HTL.out hC.sz ?_;intro v' w' h1 h2 h3;exact hK _ _ (hC.appF (hA.pre 3 (by kernel_rfl)) hA.self h1 h2 h3 (by omega) (by omega)) trivial trivial
         apply Cj (fun _ _ _ h _=>h.plain (by decide)) rfl rfl rfl
         ·intro b a w hC hA K hK;have h5:=hA.fr 5 rfl;simp only[Oper.wp,execOp];go_simp;exact hK _ hC trivial
         apply Cj (fun _ _ _ h _=>h.plain (by decide)) rfl rfl rfl
         ·intro b a w hC hA K hK;have h64:=hA.eq 5 64 rfl;have hce:=hC.cel;rw[hA.post 14 (by kernel_rfl),cond_false] at hce;have q0:=Aa hce 3;simp only[a0x,a0w,a0v] at q0;simp only[Oper.wp,execOp];go_simp;exact hK _ hC trivial
         apply Cj (fun _ _ _ h _=>h.plain (by decide)) rfl rfl rfl
         ·intro b a w hC hA K hK;have h12:=hA.fr 12 rfl;simp only[Oper.wp,execOp];go_simp;exact hK _ hC trivial
         apply Dt (B0 (Nx f)) rfl rfl rfl
         ·intro b a w hC hA K hK;have h66:=hA.eq 7 66 rfl;simp only[Oper.wp,execOp];go_simp;(with_reducible refine(HSM.out _ hC.fp).mono ?_);rintro e w4 ⟨rfl,hf⟩;exact hK _ _ ((hC.on hf).plain (by decide)) trivial rfl
         apply Dt (fun _ _=>True) rfl rfl rfl
         ·intro b a w hC hA K hK;have h67:=hA.eq 8 67 rfl;have hst:=hC.bldS hA.self;simp only[Oper.wp,execOp];go_simp;exact hK _ _ hst trivial trivial
         apply Dt (fun _ _=>True) rfl rfl rfl
         ·intro b a w hC hA K hK;have h65:=hA.eq 6 65 rfl;have h68:=hA.dep 9 68 _ (by kernel_rfl) rfl;obtain⟨g,hg1,-,hg2⟩:=hC.sb (hA.pre 9 (by kernel_rfl)) hA.self;refine cP 27 26 Tryz.underlying27 Tryz.infoU32 rfl (by decide) (.tmp 65) (.tmp 68) rfl _ _ _ (Gf h65) (hC.s0 hA.self) g _ rfl (Gf ((hA.val 9 68 (by kernel_rfl)).trans hg1)) (Aa hg2 0) HTL2.out hC.sz ?_;intro v' w' h1 h2 h3;exact hK _ _ (hC.appS (hA.pre 9 (by kernel_rfl)) hA.self h1 h2 h3 (by omega) (by omega)) trivial trivial
         apply Cj (fun _ _ _ h _=>h.plain (by decide)) rfl rfl rfl
         ·intro b a w hC hA K hK;have h5:=hA.fr 5 rfl;simp only[Oper.wp,execOp];go_simp;exact hK _ hC trivial
         apply I9 (fun _=>True) rfl rfl rfl
         ·intro b a w hC hA K hK;have h70:=hA.eq 11 70 rfl;have h63:=hA.dep 4 63 _ (by kernel_rfl) rfl;obtain⟨a2,n2,c2,e2⟩:=(hC.f1 (hA.pre 4 (by kernel_rfl))).sl;have hv:=(hA.val 4 63 (by kernel_rfl)).trans e2;have hst:=hC.stoF (hA.pre 4 (by kernel_rfl)) (by omega) rfl;rw[e2] at hst;have f0:=Ar hC.cel 2;have q0:=Aa hC.cel 2;simp only[a0x,a0w,a0v] at q0;simp only[Oper.wp,execOp];go_simp;exact hK undef _ hst trivial trivial
         apply Cj (fun _ _ _ h _=>h.plain (by decide)) rfl rfl rfl
         ·intro b a w hC hA K hK;have h5:=hA.fr 5 rfl;simp only[Oper.wp,execOp];go_simp;exact hK _ hC trivial
         apply I9 (fun _=>True) rfl rfl rfl
         ·intro b a w hC hA K hK;have h71:=hA.eq 13 71 rfl;have h69:=hA.dep 10 69 _ (by kernel_rfl) rfl;obtain⟨a2,n2,c2,e2⟩:=(hC.s1 (hA.pre 10 (by kernel_rfl))).sl;have hv:=(hA.val 10 69 (by kernel_rfl)).trans e2;have hst:=hC.stoS (hA.pre 10 (by kernel_rfl)) (by omega) rfl;rw[e2] at hst;have f0:=Ar hC.cel 3;have q0:=Aa hC.cel 3;simp only[a0x,a0w,a0v] at q0;simp only[Oper.wp,execOp];go_simp;exact hK undef _ hst trivial trivial
         refine⟨?_,?_⟩
         ·refine⟨fun _ _ _ _ _=>trivial,?_⟩;refine E6 _ ?_;refine⟨fun _ _ _ _ _=>trivial,?_⟩;refine E6 _ ?_;refine⟨fun _ _ _ _ _=>trivial,?_⟩;refine⟨fun _ _ _ _ _=>trivial,?_⟩;refine⟨fun _ _ _ _ h=>h,?_⟩
          iterate 3 refine E6 _ ?_
          refine⟨fun _ _ _ _ _=>trivial,?_⟩;refine⟨fun _ _ _ _ _=>trivial,?_⟩
          iterate 3 refine E6 _ ?_
          exact trivial
         ·intro w' bb hbb;simp only[List.reverse_cons,List.reverse_nil,List.nil_append,List.cons_append]
          iterate 3 (refine Au ?_)
          refine Az ?_;intro v3 u3;refine Az ?_;intro v4 u4
          iterate 3 (refine Au ?_)
          refine Az ?_;intro v8 u8;obtain rfl:=u8;refine Az ?_;intro v9 u9;refine Az ?_;intro v10 u10
          iterate 1 (refine Au ?_)
          refine Az ?_;intro v12 u12
          iterate 1 (refine Au ?_)
          refine Az ?_;intro v14 u14;refine A6 ?_;intro hC;simp only[Am,Act.put,a1v,List.set_cons_succ,List.set_cons_zero];go_wp2_with (fail)
          go_roundg (ps.length-i1)
          case measure=>have:=HG.out;have:=HI1.out;omega
          case rel=>
           have hce:=hC.cel;rw[hbb 12 (by simp),hbb 14 (by simp),cond_true,cond_true] at hce;refine⟨i1,_,_,rfl,rfl,by have:=HI1.out;omega,?_,hce,?_,?_,hC.fp,hC.sz,?_⟩
           ·intro j hj hjl
            by_cases hji:j<i
            ·exact HERR.out j hji hjl
            ·obtain rfl:j=i:=by have:=HI1.out;omega
             rw[HX.out,HFE.out];exact hfe0
           ·rw[←HI1.out,cZ hlt HX.out HFE.out,a2z];exact hC.f1 (hbb 4 (by simp))
           ·rw[←HI1.out,cZ hlt HX.out HFE.out,a2z];exact hC.s1 (hbb 10 (by simp))
           ·intro D h1 h2;exact((HKP.out D h1 h2).trans (Av.of (HF7.out.mono (by simp):Fp [p] wr w8) (by simp;omega)) (by simp)).trans (hC.kept D h1 h2) (by simp)
        ·(with_reducible refine(HSB.out _ (fe:Int) (by omega)).mono ?_);rintro e w8 ⟨rfl,rfl⟩;go_wp2_with (fail);refine⟨rfl,HFP.out.trans HF7.out (by simp),Or.inr ⟨fe,hfe0,rfl,?_⟩⟩
         have hfst:O4 (J9 (Lq mon out))=fe:=by
          rw[HPS.out];have h1:=fW (J9 ps) i (by simp[J9];exact hlt) (fun j hj=>by simp only[J9,a1w];exact HERR.out j hj (by omega)) (by simp only[J9,a1w];rw[HX.out,HFE.out];exact hfe0);rw[h1];simp only[J9,a1w];rw[HX.out,HFE.out]
         have:=Gv.build (s:=s) (borders:=borders) (m:=mn) (wid:=wn) (mo:=(mon:Int)) r out mon (by rw[HCP.out];exact hece) (by rw[HCP.out];exact HL0.out) hm1 hw1 HBOR.out (by omega) rfl (by rw[HCP.out];exact HRES.out) (by rw[HSL.out];exact HSP.out) (by rw[hfst];exact hfe0);rw[hfst] at this;exact this
       ·have z0:¬(i:Int)<(ps.length:Int):=by omega
        obtain rfl:i=ps.length:=by omega
        go_wp2_with (fail);go_end0;have hF:=HFI.out;have hS:=HSI.out;rw[List.take_length] at hF hS;refine⟨HFP.out,Or.inl ⟨⟨_,rfl⟩,Ji ps,?_,vF,vS,HCEL.out,hF.mono hww6,hS.mono hww6⟩⟩
        have:=Gv.ok (s:=s) (borders:=borders) (m:=mn) (wid:=wn) (mo:=(mon:Int)) r out mon (by rw[HCP.out];exact hece) (by rw[HCP.out];exact HL0.out) hm1 hw1 HBOR.out (by omega) rfl (by rw[HCP.out];exact HRES.out) (by rw[HSL.out];exact HSP.out) (by
         rw[HPS.out];intro e he;obtain⟨j,hj,rfl⟩:=List.mem_iff_getElem.1 he;simp only[J9,a1w];simp only[J9,List.length_map] at hj
         exact HERR.out j hj hj)
        rw[HPS.out] at this;exact this
     ·(with_reducible refine(pA w4 a3 sl.length c3 a2 n2 cap2 sl borders mo HCA3.out HSH3.out hlc3 HST4.out (by omega) hn2 hbor hsri (by omega)).mono ?_);rintro e w5 ⟨rfl,hf5⟩;have HF5:=a0z (HF3.out.trans hf5 (by simp));clear hf5 q3 q4;go_wp2_with (fail);(with_reducible refine(HSB.out _ 1 (by decide)).mono ?_);rintro e wz ⟨rfl,rfl⟩;go_wp2_with (fail);refine⟨rfl,(HF5.out.mono (by simp)),Or.inr ⟨1,by decide,rfl,?_⟩⟩;exact Gv.cut (by rw[HCP.out];exact hece) (by rw[HCP.out];exact HL0.out) hm1 hw1 (Or.inr (by omega))
    ·have hbf:G8 borders=false:=by simpa using hbor
     (with_reducible refine(pC w4 a3 sl.length c3 a2 n2 cap2 borders mo HST4.out hn2 hbf).mono ?_);rintro e w5 ⟨rfl,hf5⟩;have HF5:=a0z (HF3.out.trans hf5 (by simp));clear hf5 q3 q4;go_wp2_with (fail);(with_reducible refine(HSB.out _ 1 (by decide)).mono ?_);rintro e wz ⟨rfl,rfl⟩;go_wp2_with (fail);refine⟨rfl,(HF5.out.mono (by simp)),Or.inr ⟨1,by decide,rfl,?_⟩⟩;exact Gv.cut (by rw[HCP.out];exact hece) (by rw[HCP.out];exact HL0.out) hm1 hw1 (Or.inl hbf)
   ·have hsrt:∃P:World→Value→Prop,Calls Tryz.prog 49 #[.slice a1 cs.length c1,.int .i64 m,.int .i64 wid] w2 fun e w'=>(∃v,P w' v∧e=.returned (.tuple #[v,.int .i64 0,.int .i64 1]))∧Fp [] w2 w':=by
     refine⟨fun _ _=>True,?_⟩
     by_cases hm1:m<1
     ·exact(tZ w2 _ m wid hm1).mono fun e w' h=>⟨⟨_,trivial,h.1⟩,h.2⟩
     ·obtain⟨mn,rfl⟩:∃k:Nat,m=k:=⟨m.toNat,by omega⟩
      refine(uA w2 a1 cs.length c1 mn wid cs HA1.out (by omega) hpos (by omega) (by omega) (by omega)).mono fun e w' h=>?_
      obtain⟨v,h1,h2⟩:=h;exact⟨⟨v,trivial,h1⟩,h2⟩
    obtain⟨P,hsrt⟩:=hsrt;have HSRT:=a0z hsrt;clear hsrt;go_wp2_with (fail);(with_reducible refine HSRT.out.mono ?_);rintro e w3 ⟨⟨v3,-,rfl⟩,hf3⟩;have HF3:=a0z (HF1.out.trans hf3 (by simp));clear hf3 q1 q2;go_wp2_with (fail);(with_reducible refine(HSB.out _ 1 (by decide)).mono ?_);rintro e w4 ⟨rfl,rfl⟩;go_wp2_with (fail);refine⟨rfl,HF3.out.mono (by simp),Or.inr ⟨1,by decide,rfl,?_⟩⟩;exact Gv.sort (by rw[HCP.out];exact hece) (by rw[HCP.out];exact HL0.out) (by omega)
 ·(with_reducible refine(HSB.out _ (ec:Int) (by omega)).mono ?_);rintro e w2 ⟨rfl,rfl⟩;go_wp2_with (fail);refine⟨rfl,(HF1.out.mono (by simp)),Or.inr ⟨ec,hece,rfl,?_⟩⟩;have:=Gv.parse (s:=s) (borders:=borders) (m:=m) (wid:=wid) (mo:=mo) (by rw[HCP.out];exact hece);rw[HCP.out] at this;exact this
end
section
open Go.RowKit Go.Lib
theorem pY(w:World)(s:ByteArray)(m wid mo:Int)(ep:Int)(a2:Option Addr)(n2 cap2:Nat)(borders:List ByteArray)
  (hs:s.size≤100000000)(hf20:(Ed s).1.length<20)(hst:F4 w a2 n2 borders)(hn2:n2≤900000)(hm:m<2^63)(hwid:wid<2^63)(hmo:mo<2^63)(hpar:Iq w)(htab:Ce w):
  Calls Tryz.prog 11 #[.string s,.slice a2 n2 cap2,.int .u64 ep,.int .i64 m,.int .i64 wid,.int .i64 mo] w fun e w'=>Fp [] w w'∧
   ((∃files vF vS,e=.returned (.tuple #[.agg #[.int .u32 (D5 0 s),.int .u64 ep,vF,vS],.int .i64 0])∧Gv s borders m wid mo 0 files∧Bg 9 w' w.heap.size vF (files.map Value.string)∧Bg 26 w' w.heap.size vS (files.map Nx))∨
    ∃x:Nat,x≠0∧e=.returned (.tuple #[.agg #[.int .u32 0,.int .u64 0,.slice none 0 0,.slice none 0 0],.int .i64 x])∧Gv s borders m wid mo x []):=by
 have hmf:∀(fn:Fn) (first cap:Array Value) (w:World),(Instr.makeFunc fn first cap).run Tryz.prog w=.ok (.func fn first cap) w:=fun _ _ _ _=>rfl
 have HPS:=a0z (fun w h=>uW s w hs h);have HST:=a0z hst;have HPAR:=a0z hpar;have HTAB:=a0z htab;clear hst hpar htab;go_enter Tryz.func11,Tryz.ntmps11;go_wp2_with (fail)
 obtain⟨w0,hw0⟩:∃x,((((((w.alloc (.cells #[.string s] 9)).alloc (.cells #[.slice a2 n2 cap2] 22)).alloc (.cells #[.int .i64 m] 3)).alloc (.cells #[.int .i64 wid] 3)).alloc (.cells #[.int .i64 mo] 3)).alloc (.cells #[.int .u32 0,.int .u64 0,.slice none 0 0,.slice none 0 0] 29))=x:=⟨_,rfl⟩
 have hf0:Fp [] w w0:=by rw[←hw0];exact(((((Fp.alloc _ _).alloc' _).alloc' _).alloc' _).alloc' _).alloc' _
 have hb0:w0.heap[w.heap.size]?=some (.cells #[.string s] 9 (0,0)):=by rw[←hw0];exact Cb (Cb (Cb (Cb (Cb (Ai rfl _)))))
 have hb1:w0.heap[w.heap.size+1]?=some (.cells #[.slice a2 n2 cap2] 22 (0,0)):=by rw[←hw0];exact Cb (Cb (Cb (Cb (Ai (by simp) _))))
 have hb2:w0.heap[w.heap.size+1+1]?=some (.cells #[.int .i64 m] 3 (0,0)):=by rw[←hw0];exact Cb (Cb (Cb (Ai (by simp) _)))
 have hb3:w0.heap[w.heap.size+1+1+1]?=some (.cells #[.int .i64 wid] 3 (0,0)):=by rw[←hw0];exact Cb (Cb (Ai (by simp) _))
 have hb4:w0.heap[w.heap.size+1+1+1+1]?=some (.cells #[.int .i64 mo] 3 (0,0)):=by rw[←hw0];exact Cb (Ai (by simp) _)
 have hb5:w0.heap[w.heap.size+1+1+1+1+1]?=some (.cells #[.int .u32 0,.int .u64 0,.slice none 0 0,.slice none 0 0] 29 (0,0)):=by rw[←hw0];exact Ai (by simp) _
 rw[hw0];have HF0:=a0z hf0;have HB0:=a0z hb0;have HB1:=a0z hb1;have HB2:=a0z hb2;have HB3:=a0z hb3;have HB4:=a0z hb4;have HB5:=a0z hb5;clear hw0 hf0 hb0 hb1 hb2 hb3 hb4 hb5;(with_reducible refine(HPS.out _ (HTAB.out.fp HF0.out (by simp))).mono ?_);rintro e w1 ⟨rfl,hf1⟩;have HF1:=a0z hf1;clear hf1;go_wp2_with (fail)
 obtain⟨w2,hw2⟩:∃x,w1.alloc (.cells #[.int .u32 (D5 0 s),.int .u64 ep,.slice none 0 0,.slice none 0 0] 29)=x:=⟨_,rfl⟩
 have hfa:Fp [] w1 w2:=by rw[←hw2];exact Fp.alloc _ _
 have hp2:w2.heap[w1.heap.size]?=some (.cells #[.int .u32 (D5 0 s),.int .u64 ep,.slice none 0 0,.slice none 0 0] 29 (0,0)):=by rw[←hw2];exact Ai rfl _
 rw[hw2];have HFT:=a0z (HF1.out.trans hfa (by simp));have HF2:=a0z (HF0.out.trans HFT.out (by simp));have HP2:=a0z hp2;have hpw:w.heap.size+1+1+1+1+1<w1.heap.size:=a0u (Ab HB5.out) HF1.out.size;have hp2s:w1.heap.size<w2.heap.size:=Ab hp2;clear hw2 hfa hp2;have hb5:w2.heap[w.heap.size+1+1+1+1+1]?=some (.cells #[.int .u32 0,.int .u64 0,.slice none 0 0,.slice none 0 0] 29 (0,0)):=(HFT.out.block _ (Ab HB5.out) (by simp)).trans HB5.out;have HB52:=a0z hb5;clear hb5
 refine(aI w2 46 _ (enters_of Tryz.func46 (by kernel_rfl) rfl)
  (fun A=>Fp [w1.heap.size] w2 A∧∃files vF vS,Gv s borders m wid mo 0 files∧A.heap[w1.heap.size]?=some (.cells #[.int .u32 (D5 0 s),.int .u64 ep,vF,vS] 29 (0,0))∧Bg 9 A (w2.heap.size+1) vF (files.map Value.string)∧Bg 26 A (w2.heap.size+1) vS (files.map Nx))
  (fun x A=>Fp [w1.heap.size] w2 A∧∃k:Nat,x=k∧Gv s borders m wid mo k []) ?_ ?_ ?_).mono ?_
 ·intro W hf hsz hcell;have hfw:=HF2.out.trans hf (by simp);have hft:=HFT.out.trans hf (by simp);have hg1:0<w.heap.size:=World.block_lt_of_cell? _ _ (HTAB.out 0 (by decide))
  have hg2:2<w.heap.size:=by
   obtain⟨mx,hmx⟩:=HPAR.out.mx;exact World.block_lt_of_cell? _ _ hmx
  refine(pX W (w.heap.size) (w.heap.size+1+1) (w.heap.size+1+1+1) (w.heap.size+1) (w.heap.size+1+1+1+1) (w1.heap.size) s m wid mo a2 n2 cap2 borders (.int .u32 (D5 0 s)) (.int .u64 ep)
   ((hft.block _ (Ab HB0.out) (by simp)).trans HB0.out) ((hft.block _ (Ab HB2.out) (by simp)).trans HB2.out) ((hft.block _ (Ab HB3.out) (by simp)).trans HB3.out) ((hft.block _ (Ab HB1.out) (by simp)).trans HB1.out) ((hft.block _ (Ab HB4.out) (by simp)).trans HB4.out) ((hf.block _ (Ab HP2.out) (by simp)).trans HP2.out)
   hs hf20 (HST.out.of_fp hfw) hn2 hm hwid hmo ⟨HPAR.out.mx.fp hfw (by simp),HPAR.out.er.fp hfw (by simp) (by simp)⟩ (HTAB.out.fp hfw (by simp)) (by omega) (by omega)).mono ?_
  rintro e W' ⟨hf3,hr⟩;refine⟨(hf3.block _ (Ab hcell) (by simp;omega)).trans hcell,?_⟩;have hf4:Fp [w1.heap.size] w2 W':=(hf.mono (by simp):Fp [w1.heap.size] w2 W).trans hf3 (by simp)
  rcases hr with⟨⟨v,rfl⟩,files,vF,vS,h1,h2,h3,h4⟩|⟨x,hx,rfl,h1⟩
  ·exact Or.inl ⟨⟨v,rfl⟩,hf4,files,vF,vS,h1,h2,h3.mono hsz,h4.mono hsz⟩
  ·exact Or.inr ⟨(x:Int),by omega,rfl,hf4,x,rfl,h1⟩
 ·rintro A B ⟨h0,files,vF,vS,h1,h2,h3,h4⟩ hf;exact⟨h0.trans hf (by simp),files,vF,vS,h1,(hf.block _ (Ab h2) (by simp;omega)).trans h2,h3.fp hf (by simp),h4.fp hf (by simp)⟩
 ·rintro x A B ⟨h0,k,h1,h2⟩ hf;exact⟨h0.trans hf (by simp),k,h1,h2⟩
 rintro e w3 (⟨rfl,hf3,files,vF,vS,h1,h2,h3,h4⟩|⟨x,hx,rfl,hf3,k,rfl,h1⟩)
 ·obtain⟨fa,fn,fc,rfl⟩:=h3.sl;obtain⟨sa,sn,sc,rfl⟩:=h4.sl;have hb5:w3.heap[w.heap.size+1+1+1+1+1]?=some (.cells #[.int .u32 0,.int .u64 0,.slice none 0 0,.slice none 0 0] 29 (0,0)):=(hf3.block _ (Ab HB52.out) (by simp;omega)).trans HB52.out;have q0:w3.cell? ⟨w1.heap.size,0,none⟩=some (.int .u32 (D5 0 s)):=Aa h2 0;have q1:w3.cell? ⟨w1.heap.size,1,none⟩=some (.int .u64 ep):=Aa h2 1;have q2:w3.cell? ⟨w1.heap.size,2,none⟩=some (.slice fa fn fc):=Aa h2 2;have q3:w3.cell? ⟨w1.heap.size,3,none⟩=some (.slice sa sn sc):=Aa h2 3;have r0:w3.cell? ⟨w.heap.size+1+1+1+1+1,0,none⟩=some (.int .u32 0):=Aa hb5 0;have r1:w3.cell? ⟨w.heap.size+1+1+1+1+1,1,none⟩=some (.int .u64 0):=Aa hb5 1;have r2:w3.cell? ⟨w.heap.size+1+1+1+1+1,2,none⟩=some (.slice none 0 0):=Aa hb5 2;have r3:w3.cell? ⟨w.heap.size+1+1+1+1+1,3,none⟩=some (.slice none 0 0):=Aa hb5 3;have f0:w3.frozen? ⟨w.heap.size+1+1+1+1+1,0,none⟩=false:=Ar hb5 0;have f1:w3.frozen? ⟨w.heap.size+1+1+1+1+1,1,none⟩=false:=Ar hb5 1;have f2:w3.frozen? ⟨w.heap.size+1+1+1+1+1,2,none⟩=false:=Ar hb5 2;have f3:w3.frozen? ⟨w.heap.size+1+1+1+1+1,3,none⟩=false:=Ar hb5 3;have HB6:=a0z hb5;have HM:=a0z h1;have H3:=a0z h3;have H4:=a0z h4;have HF3:=a0z hf3;clear hb5 h1 h2 h3 h4 hf3;go_wp2_with (fail);have hfz:Fp [] w w3:=HF2.out.trans HF3.out (by intro i hi;right;simp at hi;omega)
  have hz:∀(A:World) (o:Nat) (v:Value),Fp [] w A→Fp [] w (A.setCell ⟨w.heap.size+1+1+1+1+1,o,none⟩ v):=fun A o v h=>h.trans (Fp.setCell A ⟨w.heap.size+1+1+1+1+1,o,none⟩ v) (by intro i hi;right;simp at hi;omega)
  have ho:∀(e:TypeId) (x:Value) (l:List Value) (A:World) (o:Nat) (v:Value),Bg e A (w2.heap.size+1) x l→Bg e (A.setCell ⟨w.heap.size+1+1+1+1+1,o,none⟩ v) (w2.heap.size+1) x l:=fun e x l A o v h=>h.fp (Fp.setCell A ⟨w.heap.size+1+1+1+1+1,o,none⟩ v) (by simp;omega)
  refine bodyPost_ret (v:=.tuple #[.agg #[.int .u32 (D5 0 s),.int .u64 ep,.slice fa fn fc,.slice sa sn sc],.int .i64 0]) (by simp[results,Tryz.results11,go_sem, *]) rfl ?_;exact⟨hz _ _ _ (hz _ _ _ (hz _ _ _ (hz _ _ _ hfz))),Or.inl ⟨files,_,_,rfl,HM.out,(ho _ _ _ _ _ _ (ho _ _ _ _ _ _ (ho _ _ _ _ _ _ (ho _ _ _ _ _ _ H3.out)))).mono (by omega),(ho _ _ _ _ _ _ (ho _ _ _ _ _ _ (ho _ _ _ _ _ _ (ho _ _ _ _ _ _ H4.out)))).mono (by omega)⟩⟩
 ·have hb5:w3.heap[w.heap.size+1+1+1+1+1]?=some (.cells #[.int .u32 0,.int .u64 0,.slice none 0 0,.slice none 0 0] 29 (0,0)):=(hf3.block _ (Ab HB52.out) (by simp;omega)).trans HB52.out;have r0:w3.cell? ⟨w.heap.size+1+1+1+1+1,0,none⟩=some (.int .u32 0):=Aa hb5 0;have r1:w3.cell? ⟨w.heap.size+1+1+1+1+1,1,none⟩=some (.int .u64 0):=Aa hb5 1;have r2:w3.cell? ⟨w.heap.size+1+1+1+1+1,2,none⟩=some (.slice none 0 0):=Aa hb5 2;have r3:w3.cell? ⟨w.heap.size+1+1+1+1+1,3,none⟩=some (.slice none 0 0):=Aa hb5 3;have f0:w3.frozen? ⟨w.heap.size+1+1+1+1+1,0,none⟩=false:=Ar hb5 0;have f1:w3.frozen? ⟨w.heap.size+1+1+1+1+1,1,none⟩=false:=Ar hb5 1;have f2:w3.frozen? ⟨w.heap.size+1+1+1+1+1,2,none⟩=false:=Ar hb5 2;have f3:w3.frozen? ⟨w.heap.size+1+1+1+1+1,3,none⟩=false:=Ar hb5 3
  have hk0:k≠0:=by omega
  have hkb:(((k:Nat):Int)!=0)=true:=bne_iff_ne.2 (by omega);have HM:=a0z h1;have HF3:=a0z hf3;clear hb5 h1 hf3 hx;go_wp2_with (fail);have hfz:Fp [] w w3:=HF2.out.trans HF3.out (by intro i hi;right;simp at hi;omega)
  have hz:∀(A:World) (o:Nat) (v:Value),Fp [] w A→Fp [] w (A.setCell ⟨w.heap.size+1+1+1+1+1,o,none⟩ v):=fun A o v h=>h.trans (Fp.setCell A ⟨w.heap.size+1+1+1+1+1,o,none⟩ v) (by intro i hi;right;simp at hi;omega)
  refine bodyPost_ret (v:=.tuple #[.agg #[.int .u32 0,.int .u64 0,.slice none 0 0,.slice none 0 0],.int .i64 k]) (by simp[results,Tryz.results11,go_sem, *]) rfl ?_;exact⟨hz _ _ _ (hz _ _ _ (hz _ _ _ (hz _ _ _ hfz))),Or.inr ⟨k,hk0,rfl,HM.out⟩⟩
end
section
open Go.RowKit Go.Lib
theorem pZ(w:World)(k:Nat)(hk:k≤16):Calls Tryz.prog 173 #[.int .u64 1,.int .u64 k] w fun e w'=>e=.returned (.tuple #[.int .u64 0,.int .u64 k])∧w'=w:=by
 have z1:bits BinOp.and a1z 1 4294967295=1:=by decide
 have z0:bits BinOp.and a1z 0 4294967295=0:=by decide
 have z2:bits BinOp.and a1z (k:Int) 4294967295=(k:Int):=by
  have h:∀k:Nat,k<17→bits BinOp.and a1z (k:Int) 4294967295=(k:Int):=by decide
  exact h k (by omega)
 have z3:IntKind.u64.wrap (k:Int)=(k:Int):=by rw[IntKind.wrap_u64];omega
 have z4:(k:Int)/4294967296=0:=by omega
 have z5:IntKind.u64.wrap 0=0:=rfl;go_enter Tryz.func173,Tryz.ntmps173;go_wp2;refine bodyPost_ret (v:=.tuple #[.int .u64 0,.int .u64 k]) (by simp[results,Tryz.results173,go_sem]) rfl ?_;exact⟨rfl,rfl⟩
theorem qA(w:World)(s:ByteArray)(b:Bool)(h0:(decide (1≤s.size))=true)(hb:((s.extract 0 1).toList==[48])=b):Calls Tryz.prog 174 #[.string s,.string ⟨#[48]⟩] w fun e w'=>e=.returned (.bool b)∧w'=w:=by
 have h1:1≤s.size:=of_decide_eq_true h0
 have z0:(1:Int)≤(s.size:Int):=by omega
 go_enter Tryz.func174,Tryz.ntmps174;go_wp2;refine bodyPost_ret (v:=.bool b) (by simp[results,Tryz.results174,go_sem]) rfl ?_;exact⟨rfl,rfl⟩
def J3(k:Nat):ByteArray:=⟨a2x k 48⟩
theorem qB(k:Nat)(hk:k<17):(⟨a2x 64 48⟩:ByteArray).extract 0 k=J3 k:=by
 have h:∀k:Nat,k<17→((⟨a2x 64 48⟩:ByteArray).extract 0 k).data.toList=(J3 k).data.toList:=by decide+kernel
 have:=h k hk;exact ByteArray.ext (Array.toList_inj.1 this)
theorem qC(w:World)(k:Nat)(hk:k≤16):Calls Tryz.prog 112 #[.string ⟨#[48]⟩,.int .i64 k] w fun e w'=>e=.returned (.string (J3 k))∧w'=w:=by
 have HM:=a0z (fun w=>pZ w k hk);have HPX:=a0z qA
 by_cases h0:k=0
 ·subst h0;go_enter Tryz.func112,Tryz.ntmps112;go_wp2_with (fail);refine bodyPost_ret (v:=.string ⟨#[]⟩) (by simp[results,Tryz.results112,go_sem]) rfl ?_;exact⟨rfl,rfl⟩
 ·by_cases h1:k=1
  ·subst h1;go_enter Tryz.func112,Tryz.ntmps112;go_wp2_with (fail);refine bodyPost_ret (v:=.string ⟨#[48]⟩) (by simp[results,Tryz.results112,go_sem]) rfl ?_;exact⟨rfl,rfl⟩
  ·have z0:((k:Int)==0)=false:=beq_eq_false_iff_ne.2 (by omega);have z1:((k:Int)==1)=false:=beq_eq_false_iff_ne.2 (by omega)
   have z2:¬(k:Int)<0:=by omega
   have z3:¬(9223372036854775807:Int)<k:=by omega
   have z4:(k:Int)≤64:=by omega
   have z5:(k:Int)≤128:=by omega
   have z6:IntKind.u64.wrap (k:Int)=(k:Int):=by rw[IntKind.wrap_u64];omega
   have z7:IntKind.i64.wrap (k:Int)=(k:Int):=by rw[a1x];omega
   go_enter Tryz.func112,Tryz.ntmps112;go_wp2_with (fail);(with_reducible refine(HM.out _).mono ?_);rintro e w1 ⟨rfl,rfl⟩;go_wp2_with (fail);(with_reducible refine(HPX.out _ _ false (by kernel_rfl) (by kernel_rfl)).mono ?_);rintro e w2 ⟨rfl,rfl⟩;go_wp2_with (fail);(with_reducible refine(HPX.out _ _ false (by kernel_rfl) (by kernel_rfl)).mono ?_);rintro e w3 ⟨rfl,rfl⟩;go_wp2_with (fail);(with_reducible refine(HPX.out _ _ true (by kernel_rfl) (by kernel_rfl)).mono ?_);rintro e w4 ⟨rfl,rfl⟩;go_wp2_with (fail);refine bodyPost_ret (by simp[results,Tryz.results112,go_sem];rfl) rfl ?_;refine⟨?_,rfl⟩;congr 2;exact qB k (by omega)
end
section
open Go.RowKit Go.Lib
def C5(d:Nat):UInt8:=if d<10 then UInt8.ofNat (48+d) else UInt8.ofNat (87+d)
def Db(n:Nat):List UInt8:=if n<16 then[C5 n] else Db (n/16)++[C5 (n%16)]
 termination_by n
 decreasing_by omega
theorem P8{n:Nat}(h:n<16):Db n=[C5 n]:=by rw[Db,if_pos h]
theorem Ux{n:Nat}(h:¬n<16):Db n=Db (n/16)++[C5 (n%16)]:=by rw[Db,if_neg h]
def G4(w:World):Prop:=w.cell? ⟨6,15,none⟩=some (.int .u8 4)
theorem G4.fp{w w':World}{S:List Nat}(h:G4 w)(hf:Fp S w w')(hs:6∉S):G4 w':=
 (hf.cell (p:=⟨6,15,none⟩) (World.block_lt_of_cell? _ _ h) hs).trans h
theorem qD(w:World)(h:G4 w):Calls Tryz.prog 248 #[.int .u64 16] w fun e w'=>e=.returned (.int .i64 4)∧w'=w:=by
 have z1:bits BinOp.and a1z 16 (IntKind.u64.wrap (-16))=16:=by decide
 have z2:IntKind.u64.wrap (16*285870213051353865)/288230376151711744=15:=by decide
 have q0:w.cell? ⟨6,15,none⟩=some (.int .u8 4):=h;go_enter Tryz.func248,Tryz.ntmps248;go_wp2;refine bodyPost_ret (v:=.int .i64 4) (by simp[results,Tryz.results248,go_sem]) rfl ?_;exact⟨rfl,rfl⟩
theorem qE(w:World):Calls Tryz.prog 247 #[.int .i64 16] w fun e w'=>e=.returned (.bool true)∧w'=w:=by
 have z1:bits BinOp.and IntKind.i64 16 15=0:=by decide
 go_enter Tryz.func247,Tryz.ntmps247;go_wp2;refine bodyPost_ret (v:=.bool true) (by simp[results,Tryz.results247,go_sem]) rfl ?_;exact⟨rfl,rfl⟩
def dA(b:UInt8):Value:=.int .u8 (b.toNat:Int)
def qF:ByteArray:=⟨#[48,49,50,51,52,53,54,55,56,57,97,98,99,100,101,102,103,104,105,106,107,108,109,110,111,112,113,114,115,116,117,118,119,120,121,122]⟩
def Ny(i:Nat)(ds:List UInt8):Array Value:=(List.replicate i (Value.int .u8 0)++ds.map dA).toArray
theorem dB{i:Nat}{ds:List UInt8}(d:UInt8):(Ny (i+1) ds).setIfInBounds i (dA d)=Ny i (d::ds):=by
 unfold Ny;rw[a1v,List.replicate_succ',List.append_assoc,List.set_append,if_neg (by simp),a2w,Nat.sub_self];rfl
theorem dC{i k:Nat}{ds:List UInt8}(h:k<i):(Ny i ds)[k]?=some (.int .u8 0):=by
 unfold Ny;rw[a0x,List.getElem?_append_left (by simpa using h),List.getElem?_replicate,if_pos h]
theorem qG(u:Nat)(hu:u<18446744073709551616)(w:World)(htz:G4 w):
  Calls Tryz.prog 197 #[.slice none 0 0,.int .u64 u,.int .i64 16,.bool false,.bool false] w fun e w'=>e=.returned (.tuple #[.slice none 0 0,.string ⟨(Db u).toArray⟩])∧Fp [] w w':=by
 have HT:=a0z qD;have HPW:=a0z qE;have HTZ:=a0z htz;clear htz;go_enter Tryz.func197,Tryz.ntmps197;go_wp2_with (fail);(with_reducible refine(HPW.out _).mono ?_);rintro e w1 ⟨rfl,rfl⟩;go_wp2_with (fail);(with_reducible refine(HT.out _ (HTZ.out.fp (Fp.alloc _ _) (by simp))).mono ?_);rintro e w2 ⟨rfl,rfl⟩;go_wp2_with (fail)
 go_loopg [1,13] u (fun g vu vi W=>∃(n i:Nat) (ds:List UInt8),g=n∧vu=.int .u64 n∧vi=.int .i64 i∧n<18446744073709551616∧Db u=Db n++ds∧ds.length+i=65∧49≤i∧n<16^(i-49)∧W.heap[w.heap.size]?=some (.cells (Ny i ds) 306 (0,0))∧Fp [] w W)
 case atStart=>exact⟨u,65,[],rfl,rfl,rfl,hu,by rw[List.append_nil],rfl,by decide,by simpa using hu,by rw[Ai rfl _];rfl,Fp.alloc _ _⟩
 case round=>
  obtain⟨n,i,ds,hg,rfl,rfl,hn,hx,hl,hi,hb,hc,hf⟩:=hrel;have HX:=a0z hx;have HC:=a0z hc;have HF:=a0z hf;have HG:=a0z hg;have HL:=a0z hl;have HB:=a0z hb;clear hx hc hf hg hl hb
  by_cases hbig:16≤n
  ·have z0:(16:Int)≤(n:Int):=by omega
   obtain⟨k,rfl⟩:∃k,i=k+1:=⟨i-1,by omega⟩
   have hk64:k≤64:=by have:=HL.out;omega
   have z1:IntKind.i64.wrap (k:Int)=(k:Int):=by rw[a1x];omega
   have z3:wrap64 (k:Int)=(k:Int):=by unfold wrap64;omega
   have z2:bits BinOp.and a1z (n:Int) 15=((n%16:Nat):Int):=by
    have h:=bits_and_u64_nat n 15 (by omega) (by omega);rw[show n &&& 15=n%16 from Nat.and_two_pow_sub_one_eq_mod n 4] at h;exact h
   have q0:wr.cell? ⟨w.heap.size,k,none⟩=some (.int .u8 0):=(Aa HC.out k).trans (dC (Nat.lt_succ_self k));have f0:wr.frozen? ⟨w.heap.size,k,none⟩=false:=Ar HC.out k
   have hdg:∀d (h:d<16),qF[d]'(a0u h (by decide))=C5 d:=by decide
   go_wp2_with (fail)
   go_roundg (n/16)
   case measure=>have:=HG.out;omega
   case rel=>
    refine⟨n/16,k,C5 (n%16)::ds,rfl,rfl,rfl,by omega,?_,by have:=HL.out;simp;omega,?_,?_,?_,HF.out.trans (Fp.setCell _ ⟨w.heap.size,k,none⟩ _) (by intro i hi;right;simp at hi;omega)⟩
    ·rw[HX.out,Ux (by omega),List.append_assoc];rfl
    ·by_cases h49:k+1-49=0
     ·have:=HB.out;rw[h49] at this;omega
     ·omega
    ·have h1:=HB.out
     have h49:k+1-49≠0:=by
      intro h49;rw[h49] at h1;omega
     rw[show k+1-49=(k-49)+1 by omega,Nat.pow_succ] at h1;omega
    ·rw[←dB,←hdg (n%16) (by omega)];exact(Bm HC.out _).trans rfl
  ·have z0:¬(16:Int)≤(n:Int):=by omega
   obtain⟨k,rfl⟩:∃k,i=k+1:=⟨i-1,by omega⟩
   have hk64:k≤64:=by have:=HL.out;omega
   have z1:IntKind.i64.wrap (k:Int)=(k:Int):=by rw[a1x];omega
   have z3:wrap64 (k:Int)=(k:Int):=by unfold wrap64;omega
   have q0:wr.cell? ⟨w.heap.size,k,none⟩=some (.int .u8 0):=(Aa HC.out k).trans (dC (Nat.lt_succ_self k));have f0:wr.frozen? ⟨w.heap.size,k,none⟩=false:=Ar HC.out k
   have hal:Tryz.prog.arrayLen 306=65:=by simp[Program.arrayLen,Tryz.underlying306]
   have hsl:∀W,(Instr.sliceAt 306 (.pointer (some ⟨w.heap.size,0,none⟩)) (some (.int .i64 (k:Int))) none none).run Tryz.prog W=.ok (.slice (some ⟨w.heap.size,k,none⟩) (65-k) (65-k)) W:=fun W=>by
    rw[run_sliceAt_array_l W 306 ⟨w.heap.size,0,none⟩ (by simp[Program.arrayLen,Program.elem,Tryz.underlying306]) .i64 (k:Int) (by omega) (by rw[hal];omega)];go_simp;omega
   have hn16:n<16:=by omega
   have hdg:∀d (h:d<16),(⟨#[48,49,50,51,52,53,54,55,56,57,97,98,99,100,101,102,103,104,105,106,107,108,109,110,111,112,113,114,115,116,117,118,119,120,121,122]⟩:ByteArray)[d]'(a0u h (by decide))=C5 d:=by decide
   have hdn:(⟨#[48,49,50,51,52,53,54,55,56,57,97,98,99,100,101,102,103,104,105,106,107,108,109,110,111,112,113,114,115,116,117,118,119,120,121,122]⟩:ByteArray)[n]'(a0u hn16 (by decide))=C5 n:=hdg n hn16
   have hblk:(wr.setCell ⟨w.heap.size,k,none⟩ (.int .u8 ((C5 n).toNat:Int))).heap[w.heap.size]?=some (.cells (Ny k (C5 n::ds)) 306 (0,0)):=by
    rw[←dB];exact(Bm HC.out _).trans rfl
   have hxl:Db u=C5 n::ds:=by rw[HX.out,P8 hn16];rfl
   have hlen:65-k=(Db u).length:=by rw[hxl];have:=HL.out;simp;omega
   have hcv:(convert 113 9 (.slice (some ⟨w.heap.size,k,none⟩) (65-k) (65-k))).run Tryz.prog (wr.setCell ⟨w.heap.size,k,none⟩ (.int .u8 ((C5 n).toNat:Int)))=.ok (.string ⟨(Db u).toArray⟩) (wr.setCell ⟨w.heap.size,k,none⟩ (.int .u8 ((C5 n).toNat:Int))):=by
    rw[hlen]
    refine run_convert_bytes_back _ 113 9 5 ⟨w.heap.size,k,none⟩ _ (Db u) Tryz.underlying113 Tryz.underlying5 Tryz.underlying9 fun j hj=>?_
    rw[Lib.add_plain,Aa hblk];unfold Ny;rw[a0x,List.getElem?_append_right (by simp)];simp only[a2w,Nat.add_sub_cancel_left];rw[←hxl,List.getElem?_map,a1u hj];rfl
   have HXL:=a0z hxl;clear hal hdg hblk hxl hlen;go_wp2_with (fail);refine bodyPost_ret (v:=.tuple #[.slice none 0 0,.string ⟨(Db u).toArray⟩]) (by simp[results,Tryz.results197,go_sem]) rfl ?_;exact⟨rfl,HF.out.trans (Fp.setCell _ ⟨w.heap.size,k,none⟩ _) (by intro i hi;right;simp at hi;omega)⟩
end
end Go.Proofs.YtkagolpnaicdoaaGreatDoor
