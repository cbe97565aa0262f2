/-
 Build. block.Parse.
-/
import Derived.Test.YtkagolpnaicdoaaGreatDoorMBlkB
import Derived.Test.YtkagolpnaicdoaaGreatDoorMTabA
import Derived.StillTailTactics
import Derived.Test.YtkagolpnaicdoaaGreatDoorMRegionG
import Derived.Test.YtkagolpnaicdoaaGreatDoorMBuild
import Derived.OwnWalkIn
import Derived.BigRegionIn
import Derived.TacticsInMore
import Derived.RegionIn
set_option maxRecDepth 100000
set_option maxHeartbeats 8000000
open List renaming length_append→a0z,length_singleton→a0w,append_assoc→a1z,not_mem_nil→a1x,cons_append→a1w,nil_append→a1v
open Go.Lib renaming hid→a0x
open ByteArray renaming size_extract→a0v
open UInt8 renaming ofNat→a0u
namespace Go.Proofs.YtkagolpnaicdoaaGreatDoor
section
open Go.RowKit Go.Lib
structure Kz(w0:World)(B CB:Nat)(c:Ac)(acc:List UInt8)(W:World):Prop where
 fp:Fp [] w0 W
 bat:C4 232 B B acc W
 cel:Ci W CB c
theorem Kz.on{w0 W W':World}{B CB:Nat}{c:Ac}{acc:List UInt8}(h:Kz w0 B CB c acc W)(hf:Fp [] W W'):Kz w0 B CB c acc W':=
 ⟨h.fp.trans hf (by simp),h.bat.fp hf (by simp),h.cel.fp hf (by simp)⟩
theorem Kz.write{w0 W W':World}{B CB:Nat}{c:Ac}{acc acc':List UInt8}(h:Kz w0 B CB c acc W)(hb:C4 232 B B acc' W')(hf:Jf B B W W')(hB:w0.heap.size≤B)(hn:CB≠B):Kz w0 B CB c acc' W':=
 ⟨h.fp.bfp hf hB,hb,hf.others CB _ h.cel (fun e=>hn (Option.some.inj e)) (fun cs fz e=>by cases e)⟩
theorem jJ{l:List Ac}(h:l.length>255):Ec l=(⟨#[]⟩,71):=if_pos h
theorem jK{l:List Ac}(h:¬l.length>255)(h2:l.all Db=false):Ec l=(⟨#[]⟩,1):=by unfold Ec;rw[if_neg h,if_pos h2]
theorem jL{l:List Ac}(h:¬l.length>255)(h2:l.all Db=true)(h3:risC l=false):Ec l=(⟨#[]⟩,40):=by unfold Ec;rw[if_neg h,if_neg (by simp[h2]),if_pos h3]
theorem jM{l:List Ac}(h:¬l.length>255)(h2:l.all Db=true)(h3:risC l=true):Ec l=(bl (a0u l.length::G7 0 [] l),0):=by unfold Ec;rw[if_neg h,if_neg (by simp[h2]),if_neg (by simp[h3])]
theorem jN(w:World)(a:Option Addr)(len cap:Nat)(l:List Ac)(hl:Bn w a len l)(hn:len≤9223372036854775807)(hm:Kp w):
  Calls Tryz.prog 91 #[.slice a len cap] w fun e w'=>e=.returned (.tuple #[.string (Ec l).1,.int .i64 ((Ec l).2:Nat)])∧Fp [] w w':=by
 have HL:=a0x hl;have HM:=a0x hm;have HLEN:=a0x hl.len;have HCO:=a0x (fun w hl=>jH w a len cap l hl hn);have HRI:=a0x (fun w hl=>Sm w a len cap l hl hn);clear hl hm
 by_cases h255:len>255
 ·have z:(len:Int)>255:=by omega
  have HR:=a0x (jJ (l:=l) (by rw[←HLEN.out];exact h255));go_enter Tryz.func91,Tryz.ntmps91;go_wp2_with (fail);go_ret2;rw[HR.out];exact⟨rfl,Fp.refl _ _⟩
 have z:¬(len:Int)>255:=by omega
 have hl255:¬l.length>255:=by rw[←HLEN.out];exact h255
 cases hma:l.all Db
 ·have HR:=a0x (jK hl255 hma);rw[hma] at HCO;clear hma;go_enter Tryz.func91,Tryz.ntmps91;go_wp2_with (fail);(with_reducible refine(HCO.out _ HL.out).mono ?_);rintro e w1 ⟨rfl,hf⟩;have HF:=a0x hf;clear hf;go_wp2_with (fail);go_ret2;rw[HR.out];exact⟨rfl,HF.out⟩
 rw[hma] at HCO;cases hri:risC l
 ·have HR:=a0x (jL hl255 hma hri);rw[hri] at HRI;clear hma hri;go_enter Tryz.func91,Tryz.ntmps91;go_wp2_with (fail);(with_reducible refine(HCO.out _ HL.out).mono ?_);rintro e w1 ⟨rfl,hf⟩;have HF:=a0x hf;clear hf;go_wp2_with (fail);(with_reducible refine(HRI.out _ (HL.out.fp HF.out)).mono ?_);rintro e w2 ⟨rfl,hf⟩;have HF2:=a0x (HF.out.trans hf (by simp));clear hf;go_wp2_with (fail);go_ret2;rw[HR.out];exact⟨rfl,HF2.out⟩
 have HR:=a0x (jM hl255 hma hri);have HALL:=a0x hma;rw[hri] at HRI;clear hma hri;go_enter Tryz.func91,Tryz.ntmps91;go_wp2_with (fail);(with_reducible refine(HCO.out _ HL.out).mono ?_);rintro e w1 ⟨rfl,hf⟩;have HF:=a0x hf;clear hf;go_wp2_with (fail);(with_reducible refine(HRI.out _ (HL.out.fp HF.out)).mono ?_);rintro e w2 ⟨rfl,hf⟩;have HF2:=a0x (HF.out.trans hf (by simp));clear hf;have HB0:Hid (w.heap.size≤w2.heap.size):=HF2.out.size
 obtain⟨B,hB⟩:∃B,w2.heap.size=B:=⟨_,rfl⟩
 have HI:Hid (C4 232 B B [] (w2.alloc (.cells #[.pointer none,.slice none 0 0] 232))):=by unfold Hid;rw[←hB];exact C4.fresh _ w2
 have HWB:=a0x (fun l c w h1 h2=>Y5 Vt (show 232≠5 by decide) B B l c w h1 h2);have HWS:=a0x (fun l s w h1 h2=>R9 Vt (show 232≠5 by decide) B B l s w h1 h2);have HTW:=a0x (fun l n w h1 h2 h3=>jI B B l n w h1 h2 h3);have HST:=a0x (fun l w h=>Y6 (T:=232) B B l w h);have z8:=R7 len
 obtain⟨c0,hc0⟩:∃c,a0u len=c:=⟨_,rfl⟩
 have HC0:=a0x hc0;rw[hc0] at z8;clear hc0;go_wp2_with (fail);(with_reducible refine(HWB.out [] c0 _ HI.out (by decide)).mono ?_);rintro e w3 ⟨rfl,hb3,hf3⟩;have HF3:Hid (Fp [] w w3):=(HF2.out.alloc' _).bfp hf3 (by rw[←hB];exact HB0.out);have HB3:=a0x hb3
 have HB0:Hid (w.heap.size≤B):=by unfold Hid;rw[←hB];exact HB0.out
 clear hb3 hf3 hB
 have HWZ0:Hid (∀l w,C4 232 B B l w→l.length+1≤1000000000→Calls Tryz.prog 151 #[.pointer (some ⟨B,0,none⟩),.int .u8 0] w fun e w'=>e=.returned .nilIface∧C4 232 B B (l++[0]) w'∧Jf B B w w'):=fun l w h1 h2=>HWB.out l 0 w h1 h2
 have HWZ1:Hid (∀l w,C4 232 B B l w→l.length+1≤1000000000→Calls Tryz.prog 151 #[.pointer (some ⟨B,0,none⟩),.int .u8 1] w fun e w'=>e=.returned .nilIface∧C4 232 B B (l++[1]) w'∧Jf B B w w'):=fun l w h1 h2=>HWB.out l 1 w h1 h2
 go_wp2_with (fail)
 go_loopg [6,35] len (fun g vl vi wr=>∃(k:Nat) (last:ByteArray) (acc:List UInt8),g+k=len∧vi=.int .i64 k∧vl=.string last∧Fp [] w wr∧C4 232 B B acc wr∧c0::G7 0 [] l=acc++G7 k last.data.toList (l.drop k)∧acc.length≤1+k*400∧last.size≤180)
 case atStart=>exact⟨0,⟨#[]⟩,[]++[c0],rfl,rfl,rfl,HF3.out,HB3.out,rfl,Nat.le_refl _,by decide⟩
 case round=>
  obtain⟨k,last,acc,hg,rfl,rfl,hf,hba,hgo,hacc,hls⟩:=hrel;have HF:=a0x hf;have HBA:=a0x hba;have HGO:=a0x hgo;clear hf hba hgo
  by_cases hk:k<len
  ·have hkl:k<l.length:=by rw[←HLEN.out];exact hk
   obtain⟨b1,o1,rfl,hb1,hcells⟩:=O1 HL.out hkl
   obtain⟨c,hc⟩:∃c,l[k]=c:=⟨_,rfl⟩
   have HD:Hid (l.drop k=c::l.drop (k+1)):=by unfold Hid;rw[←hc];exact List.drop_eq_getElem_cons hkl
   have hcm:c∈l:=by rw[←hc];exact List.getElem_mem hkl
   have HOK:=a0x (HL.out.ok c hcm);have hmay:Db c=true:=List.all_eq_true.1 HALL.out c hcm;have hks:=Y2 hmay;have hvs:=(R6 hmay).2.2;rw[hc] at hcells;obtain⟨q0,q1,q2,q3,q4,q5⟩:=hcells wr HF.out;have HKE:=a0x (fun w hm=>kM c w HOK.out hmay hm)
   obtain⟨ky,hky⟩:∃ky:ByteArray,⟨(Ed c).toArray⟩=ky:=⟨_,rfl⟩
   have HKY:Hid (ky.data.toList=Ed c):=by unfold Hid;rw[←hky]
   have hkz:ky.size≤180:=by rw[←hky];show(Ed c).toArray.size≤180;rw[List.size_toArray];exact hks
   rw[hky] at HKE;have HSH:=a0x (fun(x:ByteArray) w h1=>jP x ky w h1 (by omega));clear hcells hc hcm hks hky hmay;obtain⟨row,col,ts,seq,del,val⟩:=c;have hvz:val.size≤100:=hvs;rw[show Dz (⟨row,col,ts,seq,del,val⟩:Ac)=.agg #[.string row,.string col,.int .u64 ts,.int .u64 seq,.bool del,.string val] from rfl] at HKE;have z9:=R7 val.size
   obtain⟨c1,hc1⟩:∃c,a0u val.size=c:=⟨_,rfl⟩
   have HC1:=a0x hc1;rw[hc1] at z9;clear hc1 hvs;cases del
   ·by_cases h4:k%4=0
    ·have e4:(k:Int)%4=0:=by omega
     have HLA:Hid (Gv k last.data.toList=(⟨#[]⟩:ByteArray).data.toList):=by unfold Hid Gv;rw[if_pos h4]
     have HSZ:Hid ((⟨#[]⟩:ByteArray).size≤180):=by unfold Hid;decide
     go_wp2_with (fail)
     obtain⟨w8,hw8⟩:∃w8,wr.alloc (.cells #[.string row,.string col,.int .u64 ts,.int .u64 seq,.bool false,.string val] 80)=w8:=⟨_,rfl⟩
     rw[hw8]
     have HCW:Hid (Ci w8 wr.heap.size ⟨row,col,ts,seq,false,val⟩):=by rw[←hw8];exact Aj rfl _
     have hf8:Fp [] wr w8:=by rw[←hw8];exact Fp.alloc _ _
     have HS8:Hid (Kz w B wr.heap.size ⟨row,col,ts,seq,false,val⟩ acc w8):=⟨HF.out.trans hf8 (by simp),HBA.out.fp hf8 (by simp),HCW.out⟩
     have hcbn:wr.heap.size≠B:=by have:=Ab (HBA.out.at.choose_spec.2.choose_spec.1);omega
     obtain⟨CB,hCB⟩:∃CB,wr.heap.size=CB:=⟨_,rfl⟩
     rw[hCB] at HS8 hcbn;rw[hCB];clear hf8 hw8 hCB q0 q1 q2 q3 q4 q5 HCW;obtain⟨y0,y1,y2,y3,y4,y5,_⟩:=HS8.out.cel.facts0;(with_reducible refine(HKE.out _ (HM.out.fp HS8.out.fp a1x)).mono ?_);rintro e w9 ⟨rfl,hf⟩;have HS9:=a0x (HS8.out.on hf);clear hf;go_wp2_with (fail);(with_reducible refine(HSH.out ⟨#[]⟩ _ (by have:=HSZ.out;omega)).mono ?_);rintro e w10 ⟨rfl,hf⟩;have HS10:=a0x (HS9.out.on hf);clear hf;have hsl:=Qi (⟨#[]⟩:ByteArray).data.toList ky.data.toList
     have HE0:Hid (H7 (Gv k last.data.toList) ⟨row,col,ts,seq,false,val⟩=Ai (D8 ⟨#[]⟩ ky)++Ai (ky.size-D8 ⟨#[]⟩ ky)++(ky.extract (D8 ⟨#[]⟩ ky) ky.size).data.toList++[Qq false,a0u val.size]++val.data.toList):=by
      unfold Hid H7;rw[HLA.out,show Ed ⟨row,col,ts,seq,false,val⟩=ky.data.toList from HKY.out.symm,extract_to_end];rfl
     have hkd:ky.data.toList.length=ky.size:=rfl
     have hsle:D8 ⟨#[]⟩ ky≤ky.size:=by unfold D8;omega
     obtain⟨n,hn⟩:∃n,D8 ⟨#[]⟩ ky=n:=⟨_,rfl⟩
     rw[hn] at hsle HE0;rw[hn]
     obtain⟨m,hm⟩:∃m,ky.size-n=m:=⟨_,rfl⟩
     have em:(ky.size:Int)-(n:Int)=(m:Int):=by omega
     obtain⟨tl,htl⟩:∃tl,ky.extract n ky.size=tl:=⟨_,rfl⟩
     have htz:tl.size≤180:=by rw[←htl,a0v];omega
     rw[hm,htl] at HE0;have HTL:=a0x htl;clear hn hsl hkd hm htl
     have hn180:n≤180:=by omega
     have hm180:m≤180:=by omega
     go_wp2_with (fail);(with_reducible refine(HTW.out acc n _ HS10.out.bat (by omega) (by omega)).mono ?_);rintro e w11 ⟨rfl,hb,hf⟩;have HS11:=a0x (HS10.out.write hb hf HB0.out hcbn);clear hb hf;go_wp2_with (fail);(with_reducible refine(HTW.out (acc++Ai n) m _ HS11.out.bat (by rw[a0z];have:(Ai n).length=2:=rfl;omega) (by omega)).mono ?_);rintro e w12 ⟨rfl,hb,hf⟩;have HS12:=a0x (HS11.out.write hb hf HB0.out hcbn);clear hb hf;have hex:ky.extract n ky.size=tl:=HTL.out
     have hnky:(n:Int)≤(ky.size:Int):=by omega
     go_wp2_with (fail)
     go_still_tail 6,(by kernel_rfl)
     have HS13:=a0x (HS12.out.on (Fp.drew w12));go_wp2_with (fail);(with_reducible refine(HWS.out (acc++Ai n++Ai m) tl _ HS13.out.bat (by rw[a0z,a0z];have:(Ai n).length=2:=rfl;have:(Ai m).length=2:=rfl;omega)).mono ?_);rintro e w14 ⟨rfl,hb,hf⟩;have HS14:=a0x (HS13.out.write hb hf HB0.out hcbn);clear hb hf hex;have y4:w14.cell? ⟨CB,4,none⟩=some (.bool false):=HS14.out.cel.cell 4;go_wp2_with (fail);(with_reducible refine(HWZ0.out (acc++Ai n++Ai m++tl.data.toList) _ HS14.out.bat (by rw[a0z,a0z,a0z];have:(Ai n).length=2:=rfl;have:(Ai m).length=2:=rfl;have:tl.data.toList.length=tl.size:=rfl;omega)).mono ?_);rintro e w15 ⟨rfl,hb,hf⟩;have HS15:=a0x (HS14.out.write hb hf HB0.out hcbn);clear hb hf y4;have y5:w15.cell? ⟨CB,5,none⟩=some (.string val):=HS15.out.cel.cell 5;have y5d:w15.drew.cell? ⟨CB,5,none⟩=some (.string val):=y5;go_wp2_with (fail)
     go_still_tail 7,(by kernel_rfl)
     have HS16:=a0x (HS15.out.on (Fp.drew w15));go_wp2_with (fail);(with_reducible refine(HWB.out (acc++Ai n++Ai m++tl.data.toList++[0]) c1 _ HS16.out.bat (by simp only[a0z,a0w];have:(Ai n).length=2:=rfl;have:(Ai m).length=2:=rfl;have:tl.data.toList.length=tl.size:=rfl;omega)).mono ?_);rintro e w17 ⟨rfl,hb,hf⟩;have HS17:=a0x (HS16.out.write hb hf HB0.out hcbn);clear hb hf y5 y5d;have y5:w17.cell? ⟨CB,5,none⟩=some (.string val):=HS17.out.cel.cell 5;have y5d:w17.drew.cell? ⟨CB,5,none⟩=some (.string val):=y5;go_wp2_with (fail)
     go_still_tail 5,(by kernel_rfl)
     have HS18:=a0x (HS17.out.on (Fp.drew w17));go_wp2_with (fail);(with_reducible refine(HWS.out (acc++Ai n++Ai m++tl.data.toList++[0]++[c1]) val _ HS18.out.bat (by simp only[a0z,a0w];have:(Ai n).length=2:=rfl;have:(Ai m).length=2:=rfl;have:tl.data.toList.length=tl.size:=rfl;omega)).mono ?_);rintro e w19 ⟨rfl,hb,hf⟩;have HS19:=a0x (HS18.out.write hb hf HB0.out hcbn);clear hb hf y5 y5d;go_wp2_with (fail)
     go_roundg (gk-1)
     case measure=>omega
     case rel=>
      refine⟨k+1,ky,_,by omega,by simp,rfl,HS19.out.fp,HS19.out.bat,?_,?_,hkz⟩
      ·rw[HGO.out,HD.out,show G7 k last.data.toList (⟨row,col,ts,seq,false,val⟩::l.drop (k+1))=H7 (Gv k last.data.toList) ⟨row,col,ts,seq,false,val⟩++G7 (k+1) (Ed ⟨row,col,ts,seq,false,val⟩) (l.drop (k+1)) from rfl,HE0.out,HKY.out,HC1.out];simp only[a1z,a1w,a1v];rfl
      ·simp only[a0z,a0w];have:(Ai n).length=2:=rfl;have:(Ai m).length=2:=rfl;have:tl.data.toList.length=tl.size:=rfl;have:val.data.toList.length=val.size:=rfl;omega
    ·have e4:¬(k:Int)%4=0:=by omega
     have HLA:Hid (Gv k last.data.toList=last.data.toList):=by unfold Hid Gv;rw[if_neg h4]
     have HSZ:Hid ((last:ByteArray).size≤180):=by unfold Hid;omega
     go_wp2_with (fail)
     obtain⟨w8,hw8⟩:∃w8,wr.alloc (.cells #[.string row,.string col,.int .u64 ts,.int .u64 seq,.bool false,.string val] 80)=w8:=⟨_,rfl⟩
     rw[hw8]
     have HCW:Hid (Ci w8 wr.heap.size ⟨row,col,ts,seq,false,val⟩):=by rw[←hw8];exact Aj rfl _
     have hf8:Fp [] wr w8:=by rw[←hw8];exact Fp.alloc _ _
     have HS8:Hid (Kz w B wr.heap.size ⟨row,col,ts,seq,false,val⟩ acc w8):=⟨HF.out.trans hf8 (by simp),HBA.out.fp hf8 (by simp),HCW.out⟩
     have hcbn:wr.heap.size≠B:=by have:=Ab (HBA.out.at.choose_spec.2.choose_spec.1);omega
     obtain⟨CB,hCB⟩:∃CB,wr.heap.size=CB:=⟨_,rfl⟩
     rw[hCB] at HS8 hcbn;rw[hCB];clear hf8 hw8 hCB q0 q1 q2 q3 q4 q5 HCW;obtain⟨y0,y1,y2,y3,y4,y5,_⟩:=HS8.out.cel.facts0;(with_reducible refine(HKE.out _ (HM.out.fp HS8.out.fp a1x)).mono ?_);rintro e w9 ⟨rfl,hf⟩;have HS9:=a0x (HS8.out.on hf);clear hf;go_wp2_with (fail);(with_reducible refine(HSH.out last _ (by have:=HSZ.out;omega)).mono ?_);rintro e w10 ⟨rfl,hf⟩;have HS10:=a0x (HS9.out.on hf);clear hf;have hsl:=Qi (last:ByteArray).data.toList ky.data.toList
     have HE0:Hid (H7 (Gv k last.data.toList) ⟨row,col,ts,seq,false,val⟩=Ai (D8 last ky)++Ai (ky.size-D8 last ky)++(ky.extract (D8 last ky) ky.size).data.toList++[Qq false,a0u val.size]++val.data.toList):=by
      unfold Hid H7;rw[HLA.out,show Ed ⟨row,col,ts,seq,false,val⟩=ky.data.toList from HKY.out.symm,extract_to_end];rfl
     have hkd:ky.data.toList.length=ky.size:=rfl
     have hsle:D8 last ky≤ky.size:=by unfold D8;omega
     obtain⟨n,hn⟩:∃n,D8 last ky=n:=⟨_,rfl⟩
     rw[hn] at hsle HE0;rw[hn]
     obtain⟨m,hm⟩:∃m,ky.size-n=m:=⟨_,rfl⟩
     have em:(ky.size:Int)-(n:Int)=(m:Int):=by omega
     obtain⟨tl,htl⟩:∃tl,ky.extract n ky.size=tl:=⟨_,rfl⟩
     have htz:tl.size≤180:=by rw[←htl,a0v];omega
     rw[hm,htl] at HE0;have HTL:=a0x htl;clear hn hsl hkd hm htl
     have hn180:n≤180:=by omega
     have hm180:m≤180:=by omega
     go_wp2_with (fail);(with_reducible refine(HTW.out acc n _ HS10.out.bat (by omega) (by omega)).mono ?_);rintro e w11 ⟨rfl,hb,hf⟩;have HS11:=a0x (HS10.out.write hb hf HB0.out hcbn);clear hb hf;go_wp2_with (fail);(with_reducible refine(HTW.out (acc++Ai n) m _ HS11.out.bat (by rw[a0z];have:(Ai n).length=2:=rfl;omega) (by omega)).mono ?_);rintro e w12 ⟨rfl,hb,hf⟩;have HS12:=a0x (HS11.out.write hb hf HB0.out hcbn);clear hb hf;have hex:ky.extract n ky.size=tl:=HTL.out
     have hnky:(n:Int)≤(ky.size:Int):=by omega
     go_wp2_with (fail)
     go_still_tail 6,(by kernel_rfl)
     have HS13:=a0x (HS12.out.on (Fp.drew w12));go_wp2_with (fail);(with_reducible refine(HWS.out (acc++Ai n++Ai m) tl _ HS13.out.bat (by rw[a0z,a0z];have:(Ai n).length=2:=rfl;have:(Ai m).length=2:=rfl;omega)).mono ?_);rintro e w14 ⟨rfl,hb,hf⟩;have HS14:=a0x (HS13.out.write hb hf HB0.out hcbn);clear hb hf hex;have y4:w14.cell? ⟨CB,4,none⟩=some (.bool false):=HS14.out.cel.cell 4;go_wp2_with (fail);(with_reducible refine(HWZ0.out (acc++Ai n++Ai m++tl.data.toList) _ HS14.out.bat (by rw[a0z,a0z,a0z];have:(Ai n).length=2:=rfl;have:(Ai m).length=2:=rfl;have:tl.data.toList.length=tl.size:=rfl;omega)).mono ?_);rintro e w15 ⟨rfl,hb,hf⟩;have HS15:=a0x (HS14.out.write hb hf HB0.out hcbn);clear hb hf y4;have y5:w15.cell? ⟨CB,5,none⟩=some (.string val):=HS15.out.cel.cell 5;have y5d:w15.drew.cell? ⟨CB,5,none⟩=some (.string val):=y5;go_wp2_with (fail)
     go_still_tail 7,(by kernel_rfl)
     have HS16:=a0x (HS15.out.on (Fp.drew w15));go_wp2_with (fail);(with_reducible refine(HWB.out (acc++Ai n++Ai m++tl.data.toList++[0]) c1 _ HS16.out.bat (by simp only[a0z,a0w];have:(Ai n).length=2:=rfl;have:(Ai m).length=2:=rfl;have:tl.data.toList.length=tl.size:=rfl;omega)).mono ?_);rintro e w17 ⟨rfl,hb,hf⟩;have HS17:=a0x (HS16.out.write hb hf HB0.out hcbn);clear hb hf y5 y5d;have y5:w17.cell? ⟨CB,5,none⟩=some (.string val):=HS17.out.cel.cell 5;have y5d:w17.drew.cell? ⟨CB,5,none⟩=some (.string val):=y5;go_wp2_with (fail)
     go_still_tail 5,(by kernel_rfl)
     have HS18:=a0x (HS17.out.on (Fp.drew w17));go_wp2_with (fail);(with_reducible refine(HWS.out (acc++Ai n++Ai m++tl.data.toList++[0]++[c1]) val _ HS18.out.bat (by simp only[a0z,a0w];have:(Ai n).length=2:=rfl;have:(Ai m).length=2:=rfl;have:tl.data.toList.length=tl.size:=rfl;omega)).mono ?_);rintro e w19 ⟨rfl,hb,hf⟩;have HS19:=a0x (HS18.out.write hb hf HB0.out hcbn);clear hb hf y5 y5d;go_wp2_with (fail)
     go_roundg (gk-1)
     case measure=>omega
     case rel=>
      refine⟨k+1,ky,_,by omega,by simp,rfl,HS19.out.fp,HS19.out.bat,?_,?_,hkz⟩
      ·rw[HGO.out,HD.out,show G7 k last.data.toList (⟨row,col,ts,seq,false,val⟩::l.drop (k+1))=H7 (Gv k last.data.toList) ⟨row,col,ts,seq,false,val⟩++G7 (k+1) (Ed ⟨row,col,ts,seq,false,val⟩) (l.drop (k+1)) from rfl,HE0.out,HKY.out,HC1.out];simp only[a1z,a1w,a1v];rfl
      ·simp only[a0z,a0w];have:(Ai n).length=2:=rfl;have:(Ai m).length=2:=rfl;have:tl.data.toList.length=tl.size:=rfl;have:val.data.toList.length=val.size:=rfl;omega
   ·by_cases h4:k%4=0
    ·have e4:(k:Int)%4=0:=by omega
     have HLA:Hid (Gv k last.data.toList=(⟨#[]⟩:ByteArray).data.toList):=by unfold Hid Gv;rw[if_pos h4]
     have HSZ:Hid ((⟨#[]⟩:ByteArray).size≤180):=by unfold Hid;decide
     go_wp2_with (fail)
     obtain⟨w8,hw8⟩:∃w8,wr.alloc (.cells #[.string row,.string col,.int .u64 ts,.int .u64 seq,.bool true,.string val] 80)=w8:=⟨_,rfl⟩
     rw[hw8]
     have HCW:Hid (Ci w8 wr.heap.size ⟨row,col,ts,seq,true,val⟩):=by rw[←hw8];exact Aj rfl _
     have hf8:Fp [] wr w8:=by rw[←hw8];exact Fp.alloc _ _
     have HS8:Hid (Kz w B wr.heap.size ⟨row,col,ts,seq,true,val⟩ acc w8):=⟨HF.out.trans hf8 (by simp),HBA.out.fp hf8 (by simp),HCW.out⟩
     have hcbn:wr.heap.size≠B:=by have:=Ab (HBA.out.at.choose_spec.2.choose_spec.1);omega
     obtain⟨CB,hCB⟩:∃CB,wr.heap.size=CB:=⟨_,rfl⟩
     rw[hCB] at HS8 hcbn;rw[hCB];clear hf8 hw8 hCB q0 q1 q2 q3 q4 q5 HCW;obtain⟨y0,y1,y2,y3,y4,y5,_⟩:=HS8.out.cel.facts0;(with_reducible refine(HKE.out _ (HM.out.fp HS8.out.fp a1x)).mono ?_);rintro e w9 ⟨rfl,hf⟩;have HS9:=a0x (HS8.out.on hf);clear hf;go_wp2_with (fail);(with_reducible refine(HSH.out ⟨#[]⟩ _ (by have:=HSZ.out;omega)).mono ?_);rintro e w10 ⟨rfl,hf⟩;have HS10:=a0x (HS9.out.on hf);clear hf;have hsl:=Qi (⟨#[]⟩:ByteArray).data.toList ky.data.toList
     have HE0:Hid (H7 (Gv k last.data.toList) ⟨row,col,ts,seq,true,val⟩=Ai (D8 ⟨#[]⟩ ky)++Ai (ky.size-D8 ⟨#[]⟩ ky)++(ky.extract (D8 ⟨#[]⟩ ky) ky.size).data.toList++[Qq true,a0u val.size]++val.data.toList):=by
      unfold Hid H7;rw[HLA.out,show Ed ⟨row,col,ts,seq,true,val⟩=ky.data.toList from HKY.out.symm,extract_to_end];rfl
     have hkd:ky.data.toList.length=ky.size:=rfl
     have hsle:D8 ⟨#[]⟩ ky≤ky.size:=by unfold D8;omega
     obtain⟨n,hn⟩:∃n,D8 ⟨#[]⟩ ky=n:=⟨_,rfl⟩
     rw[hn] at hsle HE0;rw[hn]
     obtain⟨m,hm⟩:∃m,ky.size-n=m:=⟨_,rfl⟩
     have em:(ky.size:Int)-(n:Int)=(m:Int):=by omega
     obtain⟨tl,htl⟩:∃tl,ky.extract n ky.size=tl:=⟨_,rfl⟩
     have htz:tl.size≤180:=by rw[←htl,a0v];omega
     rw[hm,htl] at HE0;have HTL:=a0x htl;clear hn hsl hkd hm htl
     have hn180:n≤180:=by omega
     have hm180:m≤180:=by omega
     go_wp2_with (fail);(with_reducible refine(HTW.out acc n _ HS10.out.bat (by omega) (by omega)).mono ?_);rintro e w11 ⟨rfl,hb,hf⟩;have HS11:=a0x (HS10.out.write hb hf HB0.out hcbn);clear hb hf;go_wp2_with (fail);(with_reducible refine(HTW.out (acc++Ai n) m _ HS11.out.bat (by rw[a0z];have:(Ai n).length=2:=rfl;omega) (by omega)).mono ?_);rintro e w12 ⟨rfl,hb,hf⟩;have HS12:=a0x (HS11.out.write hb hf HB0.out hcbn);clear hb hf;have hex:ky.extract n ky.size=tl:=HTL.out
     have hnky:(n:Int)≤(ky.size:Int):=by omega
     go_wp2_with (fail)
     go_still_tail 6,(by kernel_rfl)
     have HS13:=a0x (HS12.out.on (Fp.drew w12));go_wp2_with (fail);(with_reducible refine(HWS.out (acc++Ai n++Ai m) tl _ HS13.out.bat (by rw[a0z,a0z];have:(Ai n).length=2:=rfl;have:(Ai m).length=2:=rfl;omega)).mono ?_);rintro e w14 ⟨rfl,hb,hf⟩;have HS14:=a0x (HS13.out.write hb hf HB0.out hcbn);clear hb hf hex;have y4:w14.cell? ⟨CB,4,none⟩=some (.bool true):=HS14.out.cel.cell 4;go_wp2_with (fail);(with_reducible refine(HWZ1.out (acc++Ai n++Ai m++tl.data.toList) _ HS14.out.bat (by rw[a0z,a0z,a0z];have:(Ai n).length=2:=rfl;have:(Ai m).length=2:=rfl;have:tl.data.toList.length=tl.size:=rfl;omega)).mono ?_);rintro e w15 ⟨rfl,hb,hf⟩;have HS15:=a0x (HS14.out.write hb hf HB0.out hcbn);clear hb hf y4;have y5:w15.cell? ⟨CB,5,none⟩=some (.string val):=HS15.out.cel.cell 5;have y5d:w15.drew.cell? ⟨CB,5,none⟩=some (.string val):=y5;go_wp2_with (fail)
     go_still_tail 7,(by kernel_rfl)
     have HS16:=a0x (HS15.out.on (Fp.drew w15));go_wp2_with (fail);(with_reducible refine(HWB.out (acc++Ai n++Ai m++tl.data.toList++[1]) c1 _ HS16.out.bat (by simp only[a0z,a0w];have:(Ai n).length=2:=rfl;have:(Ai m).length=2:=rfl;have:tl.data.toList.length=tl.size:=rfl;omega)).mono ?_);rintro e w17 ⟨rfl,hb,hf⟩;have HS17:=a0x (HS16.out.write hb hf HB0.out hcbn);clear hb hf y5 y5d;have y5:w17.cell? ⟨CB,5,none⟩=some (.string val):=HS17.out.cel.cell 5;have y5d:w17.drew.cell? ⟨CB,5,none⟩=some (.string val):=y5;go_wp2_with (fail)
     go_still_tail 5,(by kernel_rfl)
     have HS18:=a0x (HS17.out.on (Fp.drew w17));go_wp2_with (fail);(with_reducible refine(HWS.out (acc++Ai n++Ai m++tl.data.toList++[1]++[c1]) val _ HS18.out.bat (by simp only[a0z,a0w];have:(Ai n).length=2:=rfl;have:(Ai m).length=2:=rfl;have:tl.data.toList.length=tl.size:=rfl;omega)).mono ?_);rintro e w19 ⟨rfl,hb,hf⟩;have HS19:=a0x (HS18.out.write hb hf HB0.out hcbn);clear hb hf y5 y5d;go_wp2_with (fail)
     go_roundg (gk-1)
     case measure=>omega
     case rel=>
      refine⟨k+1,ky,_,by omega,by simp,rfl,HS19.out.fp,HS19.out.bat,?_,?_,hkz⟩
      ·rw[HGO.out,HD.out,show G7 k last.data.toList (⟨row,col,ts,seq,true,val⟩::l.drop (k+1))=H7 (Gv k last.data.toList) ⟨row,col,ts,seq,true,val⟩++G7 (k+1) (Ed ⟨row,col,ts,seq,true,val⟩) (l.drop (k+1)) from rfl,HE0.out,HKY.out,HC1.out];simp only[a1z,a1w,a1v];rfl
      ·simp only[a0z,a0w];have:(Ai n).length=2:=rfl;have:(Ai m).length=2:=rfl;have:tl.data.toList.length=tl.size:=rfl;have:val.data.toList.length=val.size:=rfl;omega
    ·have e4:¬(k:Int)%4=0:=by omega
     have HLA:Hid (Gv k last.data.toList=last.data.toList):=by unfold Hid Gv;rw[if_neg h4]
     have HSZ:Hid ((last:ByteArray).size≤180):=by unfold Hid;omega
     go_wp2_with (fail)
     obtain⟨w8,hw8⟩:∃w8,wr.alloc (.cells #[.string row,.string col,.int .u64 ts,.int .u64 seq,.bool true,.string val] 80)=w8:=⟨_,rfl⟩
     rw[hw8]
     have HCW:Hid (Ci w8 wr.heap.size ⟨row,col,ts,seq,true,val⟩):=by rw[←hw8];exact Aj rfl _
     have hf8:Fp [] wr w8:=by rw[←hw8];exact Fp.alloc _ _
     have HS8:Hid (Kz w B wr.heap.size ⟨row,col,ts,seq,true,val⟩ acc w8):=⟨HF.out.trans hf8 (by simp),HBA.out.fp hf8 (by simp),HCW.out⟩
     have hcbn:wr.heap.size≠B:=by have:=Ab (HBA.out.at.choose_spec.2.choose_spec.1);omega
     obtain⟨CB,hCB⟩:∃CB,wr.heap.size=CB:=⟨_,rfl⟩
     rw[hCB] at HS8 hcbn;rw[hCB];clear hf8 hw8 hCB q0 q1 q2 q3 q4 q5 HCW;obtain⟨y0,y1,y2,y3,y4,y5,_⟩:=HS8.out.cel.facts0;(with_reducible refine(HKE.out _ (HM.out.fp HS8.out.fp a1x)).mono ?_);rintro e w9 ⟨rfl,hf⟩;have HS9:=a0x (HS8.out.on hf);clear hf;go_wp2_with (fail);(with_reducible refine(HSH.out last _ (by have:=HSZ.out;omega)).mono ?_);rintro e w10 ⟨rfl,hf⟩;have HS10:=a0x (HS9.out.on hf);clear hf;have hsl:=Qi (last:ByteArray).data.toList ky.data.toList
     have HE0:Hid (H7 (Gv k last.data.toList) ⟨row,col,ts,seq,true,val⟩=Ai (D8 last ky)++Ai (ky.size-D8 last ky)++(ky.extract (D8 last ky) ky.size).data.toList++[Qq true,a0u val.size]++val.data.toList):=by
      unfold Hid H7;rw[HLA.out,show Ed ⟨row,col,ts,seq,true,val⟩=ky.data.toList from HKY.out.symm,extract_to_end];rfl
     have hkd:ky.data.toList.length=ky.size:=rfl
     have hsle:D8 last ky≤ky.size:=by unfold D8;omega
     obtain⟨n,hn⟩:∃n,D8 last ky=n:=⟨_,rfl⟩
     rw[hn] at hsle HE0;rw[hn]
     obtain⟨m,hm⟩:∃m,ky.size-n=m:=⟨_,rfl⟩
     have em:(ky.size:Int)-(n:Int)=(m:Int):=by omega
     obtain⟨tl,htl⟩:∃tl,ky.extract n ky.size=tl:=⟨_,rfl⟩
     have htz:tl.size≤180:=by rw[←htl,a0v];omega
     rw[hm,htl] at HE0;have HTL:=a0x htl;clear hn hsl hkd hm htl
     have hn180:n≤180:=by omega
     have hm180:m≤180:=by omega
     go_wp2_with (fail);(with_reducible refine(HTW.out acc n _ HS10.out.bat (by omega) (by omega)).mono ?_);rintro e w11 ⟨rfl,hb,hf⟩;have HS11:=a0x (HS10.out.write hb hf HB0.out hcbn);clear hb hf;go_wp2_with (fail);(with_reducible refine(HTW.out (acc++Ai n) m _ HS11.out.bat (by rw[a0z];have:(Ai n).length=2:=rfl;omega) (by omega)).mono ?_);rintro e w12 ⟨rfl,hb,hf⟩;have HS12:=a0x (HS11.out.write hb hf HB0.out hcbn);clear hb hf;have hex:ky.extract n ky.size=tl:=HTL.out
     have hnky:(n:Int)≤(ky.size:Int):=by omega
     go_wp2_with (fail)
     go_still_tail 6,(by kernel_rfl)
     have HS13:=a0x (HS12.out.on (Fp.drew w12));go_wp2_with (fail);(with_reducible refine(HWS.out (acc++Ai n++Ai m) tl _ HS13.out.bat (by rw[a0z,a0z];have:(Ai n).length=2:=rfl;have:(Ai m).length=2:=rfl;omega)).mono ?_);rintro e w14 ⟨rfl,hb,hf⟩;have HS14:=a0x (HS13.out.write hb hf HB0.out hcbn);clear hb hf hex;have y4:w14.cell? ⟨CB,4,none⟩=some (.bool true):=HS14.out.cel.cell 4;go_wp2_with (fail);(with_reducible refine(HWZ1.out (acc++Ai n++Ai m++tl.data.toList) _ HS14.out.bat (by rw[a0z,a0z,a0z];have:(Ai n).length=2:=rfl;have:(Ai m).length=2:=rfl;have:tl.data.toList.length=tl.size:=rfl;omega)).mono ?_);rintro e w15 ⟨rfl,hb,hf⟩;have HS15:=a0x (HS14.out.write hb hf HB0.out hcbn);clear hb hf y4;have y5:w15.cell? ⟨CB,5,none⟩=some (.string val):=HS15.out.cel.cell 5;have y5d:w15.drew.cell? ⟨CB,5,none⟩=some (.string val):=y5;go_wp2_with (fail)
     go_still_tail 7,(by kernel_rfl)
     have HS16:=a0x (HS15.out.on (Fp.drew w15));go_wp2_with (fail);(with_reducible refine(HWB.out (acc++Ai n++Ai m++tl.data.toList++[1]) c1 _ HS16.out.bat (by simp only[a0z,a0w];have:(Ai n).length=2:=rfl;have:(Ai m).length=2:=rfl;have:tl.data.toList.length=tl.size:=rfl;omega)).mono ?_);rintro e w17 ⟨rfl,hb,hf⟩;have HS17:=a0x (HS16.out.write hb hf HB0.out hcbn);clear hb hf y5 y5d;have y5:w17.cell? ⟨CB,5,none⟩=some (.string val):=HS17.out.cel.cell 5;have y5d:w17.drew.cell? ⟨CB,5,none⟩=some (.string val):=y5;go_wp2_with (fail)
     go_still_tail 5,(by kernel_rfl)
     have HS18:=a0x (HS17.out.on (Fp.drew w17));go_wp2_with (fail);(with_reducible refine(HWS.out (acc++Ai n++Ai m++tl.data.toList++[1]++[c1]) val _ HS18.out.bat (by simp only[a0z,a0w];have:(Ai n).length=2:=rfl;have:(Ai m).length=2:=rfl;have:tl.data.toList.length=tl.size:=rfl;omega)).mono ?_);rintro e w19 ⟨rfl,hb,hf⟩;have HS19:=a0x (HS18.out.write hb hf HB0.out hcbn);clear hb hf y5 y5d;go_wp2_with (fail)
     go_roundg (gk-1)
     case measure=>omega
     case rel=>
      refine⟨k+1,ky,_,by omega,by simp,rfl,HS19.out.fp,HS19.out.bat,?_,?_,hkz⟩
      ·rw[HGO.out,HD.out,show G7 k last.data.toList (⟨row,col,ts,seq,true,val⟩::l.drop (k+1))=H7 (Gv k last.data.toList) ⟨row,col,ts,seq,true,val⟩++G7 (k+1) (Ed ⟨row,col,ts,seq,true,val⟩) (l.drop (k+1)) from rfl,HE0.out,HKY.out,HC1.out];simp only[a1z,a1w,a1v];rfl
      ·simp only[a0z,a0w];have:(Ai n).length=2:=rfl;have:(Ai m).length=2:=rfl;have:tl.data.toList.length=tl.size:=rfl;have:val.data.toList.length=val.size:=rfl;omega
  ·have hkl:¬(k:Int)<(len:Int):=by omega
   have HD:Hid (l.drop k=[]):=List.drop_eq_nil_of_le (by rw[←HLEN.out];omega);go_wp2_with (fail);(with_reducible refine(HST.out acc _ HBA.out).mono ?_);rintro e w4 ⟨rfl,hb⟩;have HF4:Hid (Fp [] w w4):=HF.out.belowTrans (hb.mono HB0.out);clear hb;go_wp2_with (fail);go_ret2;rw[HR.out,←HLEN.out,HC0.out,HGO.out,HD.out];exact⟨by rw[show G7 k last.data.toList []=[] from rfl,List.append_nil];rfl,HF4.out⟩
end
section
open Go.RowKit
def C1(i:Nat)(w0:World)(rb:Nat)(r r':Rb)(b:Nat→Bool)(w:World):Prop:=Fp [rb] w0 w∧eK w rb (bif b i then r' else r)
attribute [local go_sem] Oper.semAt_some
end
end Go.Proofs.YtkagolpnaicdoaaGreatDoor
