/-
 Build. block.Parse. Slices of strings that a call owns; append of one string. A slice of the call's own whose elements are of one cell each, of any type; append of one.
-/
import Derived.Test.YtkagolpnaicdoaaGreatDoorPBlkB
import Derived.Test.YtkagolpnaicdoaaGreatDoorPTabA
import Derived.StillTailTactics
import Derived.Test.YtkagolpnaicdoaaGreatDoorPRegionG
import Derived.Test.YtkagolpnaicdoaaGreatDoorPBuild
import Derived.OwnWalkIn
import Derived.BigRegionIn
import Derived.TacticsInMore
import Derived.RegionIn
import Derived.Test.YtkagolpnaicdoaaGreatDoorPMaps
import Derived.Test.YtkagolpnaicdoaaGreatDoorPRegion
import Derived.Test.YtkagolpnaicdoaaGreatDoorRows
import Derived.Maps.AppendAt
import Derived.Laws.AppendOwnNone
set_option maxRecDepth 100000
set_option maxHeartbeats 8000000
open List renaming length_append→a0z,length_singleton→a0w,append_assoc→a1z,not_mem_nil→a1x,cons_append→a1w,nil_append→a1v,eq_nil_of_length_eq_zero→a1u,getElem?_eq_getElem→a2z
open Go.Lib renaming hid→a0x
open ByteArray renaming size_extract→a0v
open UInt8 renaming ofNat→a0u
open Array renaming getElem?_toList→a2x
namespace Go.Proofs.YtkagolpnaicdoaaGreatDoor
section
open Go.RowKit Go.Lib
structure Ld(w0:World)(B CB:Nat)(c:Ac)(acc:List UInt8)(W:World):Prop where
 fp:Fp [] w0 W
 bat:Da 232 B B acc W
 cel:C4 W CB c
theorem Ld.on{w0 W W':World}{B CB:Nat}{c:Ac}{acc:List UInt8}(h:Ld w0 B CB c acc W)(hf:Fp [] W W'):Ld w0 B CB c acc W':=
 ⟨h.fp.trans hf (by simp),h.bat.fp hf (by simp),h.cel.fp hf (by simp)⟩
theorem Ld.write{w0 W W':World}{B CB:Nat}{c:Ac}{acc acc':List UInt8}(h:Ld w0 B CB c acc W)(hb:Da 232 B B acc' W')(hf:Jq B B W W')(hB:w0.heap.size≤B)(hn:CB≠B):Ld w0 B CB c acc' W':=
 ⟨h.fp.bfp hf hB,hb,hf.others CB _ h.cel (fun e=>hn (Option.some.inj e)) (fun cs fz e=>by cases e)⟩
theorem lW{l:List Ac}(h:l.length>255):Ek l=(⟨#[]⟩,71):=if_pos h
theorem lX{l:List Ac}(h:¬l.length>255)(h2:l.all Di=false):Ek l=(⟨#[]⟩,1):=by unfold Ek;rw[if_neg h,if_pos h2]
theorem lY{l:List Ac}(h:¬l.length>255)(h2:l.all Di=true)(h3:risC l=false):Ek l=(⟨#[]⟩,40):=by unfold Ek;rw[if_neg h,if_neg (by simp[h2]),if_pos h3]
theorem lZ{l:List Ac}(h:¬l.length>255)(h2:l.all Di=true)(h3:risC l=true):Ek l=(bl (a0u l.length::Hi 0 [] l),0):=by unfold Ek;rw[if_neg h,if_neg (by simp[h2]),if_neg (by simp[h3])]
theorem mA(w:World)(a:Option Addr)(len cap:Nat)(l:List Ac)(hl:Bt w a len l)(hn:len≤9223372036854775807)(hm:K2 w):
  Calls Tryz.prog 91 #[.slice a len cap] w fun e w'=>e=.returned (.tuple #[.string (Ek l).1,.int .i64 ((Ek l).2:Nat)])∧Fp [] w w':=by
 have HL:=a0x hl;have HM:=a0x hm;have HLEN:=a0x hl.len;have HCO:=a0x (fun w hl=>lU w a len cap l hl hn);have HRI:=a0x (fun w hl=>Uf w a len cap l hl hn);clear hl hm
 by_cases h255:len>255
 ·have z:(len:Int)>255:=by omega
  have HR:=a0x (lW (l:=l) (by rw[←HLEN.out];exact h255));go_enter Tryz.func91,Tryz.ntmps91;go_wp2_with (fail);go_ret2;rw[HR.out];exact⟨rfl,Fp.refl _ _⟩
 have z:¬(len:Int)>255:=by omega
 have hl255:¬l.length>255:=by rw[←HLEN.out];exact h255
 cases hma:l.all Di
 ·have HR:=a0x (lX hl255 hma);rw[hma] at HCO;clear hma;go_enter Tryz.func91,Tryz.ntmps91;go_wp2_with (fail);(with_reducible refine(HCO.out _ HL.out).mono ?_);rintro e w1 ⟨rfl,hf⟩;have HF:=a0x hf;clear hf;go_wp2_with (fail);go_ret2;rw[HR.out];exact⟨rfl,HF.out⟩
 rw[hma] at HCO;cases hri:risC l
 ·have HR:=a0x (lY hl255 hma hri);rw[hri] at HRI;clear hma hri;go_enter Tryz.func91,Tryz.ntmps91;go_wp2_with (fail);(with_reducible refine(HCO.out _ HL.out).mono ?_);rintro e w1 ⟨rfl,hf⟩;have HF:=a0x hf;clear hf;go_wp2_with (fail);(with_reducible refine(HRI.out _ (HL.out.fp HF.out)).mono ?_);rintro e w2 ⟨rfl,hf⟩;have HF2:=a0x (HF.out.trans hf (by simp));clear hf;go_wp2_with (fail);go_ret2;rw[HR.out];exact⟨rfl,HF2.out⟩
 have HR:=a0x (lZ hl255 hma hri);have HALL:=a0x hma;rw[hri] at HRI;clear hma hri;go_enter Tryz.func91,Tryz.ntmps91;go_wp2_with (fail);(with_reducible refine(HCO.out _ HL.out).mono ?_);rintro e w1 ⟨rfl,hf⟩;have HF:=a0x hf;clear hf;go_wp2_with (fail);(with_reducible refine(HRI.out _ (HL.out.fp HF.out)).mono ?_);rintro e w2 ⟨rfl,hf⟩;have HF2:=a0x (HF.out.trans hf (by simp));clear hf;have HB0:Hid (w.heap.size≤w2.heap.size):=HF2.out.size
 obtain⟨B,hB⟩:∃B,w2.heap.size=B:=⟨_,rfl⟩
 have HI:Hid (Da 232 B B [] (w2.alloc (.cells #[.pointer none,.slice none 0 0] 232))):=by unfold Hid;rw[←hB];exact Da.fresh _ w2
 have HWB:=a0x (fun l c w h1 h2=>aM Wy (show 232≠5 by decide) B B l c w h1 h2);have HWS:=a0x (fun l s w h1 h2=>Uc Wy (show 232≠5 by decide) B B l s w h1 h2);have HTW:=a0x (fun l n w h1 h2 h3=>lV B B l n w h1 h2 h3);have HST:=a0x (fun l w h=>aN (T:=232) B B l w h);have z8:=Ua len
 obtain⟨c0,hc0⟩:∃c,a0u len=c:=⟨_,rfl⟩
 have HC0:=a0x hc0;rw[hc0] at z8;clear hc0;go_wp2_with (fail);(with_reducible refine(HWB.out [] c0 _ HI.out (by decide)).mono ?_);rintro e w3 ⟨rfl,hb3,hf3⟩;have HF3:Hid (Fp [] w w3):=(HF2.out.alloc' _).bfp hf3 (by rw[←hB];exact HB0.out);have HB3:=a0x hb3
 have HB0:Hid (w.heap.size≤B):=by unfold Hid;rw[←hB];exact HB0.out
 clear hb3 hf3 hB
 have HWZ0:Hid (∀l w,Da 232 B B l w→l.length+1≤1000000000→Calls Tryz.prog 151 #[.pointer (some ⟨B,0,none⟩),.int .u8 0] w fun e w'=>e=.returned .nilIface∧Da 232 B B (l++[0]) w'∧Jq B B w w'):=fun l w h1 h2=>HWB.out l 0 w h1 h2
 have HWZ1:Hid (∀l w,Da 232 B B l w→l.length+1≤1000000000→Calls Tryz.prog 151 #[.pointer (some ⟨B,0,none⟩),.int .u8 1] w fun e w'=>e=.returned .nilIface∧Da 232 B B (l++[1]) w'∧Jq B B w w'):=fun l w h1 h2=>HWB.out l 1 w h1 h2
 go_wp2_with (fail)
 go_loopg [6,35] len (fun g vl vi wr=>∃(k:Nat) (last:ByteArray) (acc:List UInt8),g+k=len∧vi=.int .i64 k∧vl=.string last∧Fp [] w wr∧Da 232 B B acc wr∧c0::Hi 0 [] l=acc++Hi k last.data.toList (l.drop k)∧acc.length≤1+k*400∧last.size≤180)
 case atStart=>exact⟨0,⟨#[]⟩,[]++[c0],rfl,rfl,rfl,HF3.out,HB3.out,rfl,Nat.le_refl _,by decide⟩
 case round=>
  obtain⟨k,last,acc,hg,rfl,rfl,hf,hba,hgo,hacc,hls⟩:=hrel;have HF:=a0x hf;have HBA:=a0x hba;have HGO:=a0x hgo;clear hf hba hgo
  by_cases hk:k<len
  ·have hkl:k<l.length:=by rw[←HLEN.out];exact hk
   obtain⟨b1,o1,rfl,hb1,hcells⟩:=P1 HL.out hkl
   obtain⟨c,hc⟩:∃c,l[k]=c:=⟨_,rfl⟩
   have HD:Hid (l.drop k=c::l.drop (k+1)):=by unfold Hid;rw[←hc];exact List.drop_eq_getElem_cons hkl
   have hcm:c∈l:=by rw[←hc];exact List.getElem_mem hkl
   have HOK:=a0x (HL.out.ok c hcm);have hmay:Di c=true:=List.all_eq_true.1 HALL.out c hcm;have hks:=aJ hmay;have hvs:=(T9 hmay).2.2;rw[hc] at hcells;obtain⟨q0,q1,q2,q3,q4,q5⟩:=hcells wr HF.out;have HKE:=a0x (fun w hm=>nJ c w HOK.out hmay hm)
   obtain⟨ky,hky⟩:∃ky:ByteArray,⟨(Em c).toArray⟩=ky:=⟨_,rfl⟩
   have HKY:Hid (ky.data.toList=Em c):=by unfold Hid;rw[←hky]
   have hkz:ky.size≤180:=by rw[←hky];show(Em c).toArray.size≤180;rw[List.size_toArray];exact hks
   rw[hky] at HKE;have HSH:=a0x (fun(x:ByteArray) w h1=>mD x ky w h1 (by omega));clear hcells hc hcm hks hky hmay;obtain⟨row,col,ts,seq,del,val⟩:=c;have hvz:val.size≤100:=hvs;rw[show D4 (⟨row,col,ts,seq,del,val⟩:Ac)=.agg #[.string row,.string col,.int .u64 ts,.int .u64 seq,.bool del,.string val] from rfl] at HKE;have z9:=Ua val.size
   obtain⟨c1,hc1⟩:∃c,a0u val.size=c:=⟨_,rfl⟩
   have HC1:=a0x hc1;rw[hc1] at z9;clear hc1 hvs;cases del
   ·by_cases h4:k%4=0
    ·have e4:(k:Int)%4=0:=by omega
     have HLA:Hid (G3 k last.data.toList=(⟨#[]⟩:ByteArray).data.toList):=by unfold Hid G3;rw[if_pos h4]
     have HSZ:Hid ((⟨#[]⟩:ByteArray).size≤180):=by unfold Hid;decide
     go_wp2_with (fail)
     obtain⟨w8,hw8⟩:∃w8,wr.alloc (.cells #[.string row,.string col,.int .u64 ts,.int .u64 seq,.bool false,.string val] 80)=w8:=⟨_,rfl⟩
     rw[hw8]
     have HCW:Hid (C4 w8 wr.heap.size ⟨row,col,ts,seq,false,val⟩):=by rw[←hw8];exact Ai rfl _
     have hf8:Fp [] wr w8:=by rw[←hw8];exact Fp.alloc _ _
     have HS8:Hid (Ld w B wr.heap.size ⟨row,col,ts,seq,false,val⟩ acc w8):=⟨HF.out.trans hf8 (by simp),HBA.out.fp hf8 (by simp),HCW.out⟩
     have hcbn:wr.heap.size≠B:=by have:=Ab (HBA.out.at.choose_spec.2.choose_spec.1);omega
     obtain⟨CB,hCB⟩:∃CB,wr.heap.size=CB:=⟨_,rfl⟩
     rw[hCB] at HS8 hcbn;rw[hCB];clear hf8 hw8 hCB q0 q1 q2 q3 q4 q5 HCW;obtain⟨y0,y1,y2,y3,y4,y5,_⟩:=HS8.out.cel.facts0;(with_reducible refine(HKE.out _ (HM.out.fp HS8.out.fp a1x)).mono ?_);rintro e w9 ⟨rfl,hf⟩;have HS9:=a0x (HS8.out.on hf);clear hf;go_wp2_with (fail);(with_reducible refine(HSH.out ⟨#[]⟩ _ (by have:=HSZ.out;omega)).mono ?_);rintro e w10 ⟨rfl,hf⟩;have HS10:=a0x (HS9.out.on hf);clear hf;have hsl:=Rf (⟨#[]⟩:ByteArray).data.toList ky.data.toList
     have HE0:Hid (Ij (G3 k last.data.toList) ⟨row,col,ts,seq,false,val⟩=two (Eg ⟨#[]⟩ ky)++two (ky.size-Eg ⟨#[]⟩ ky)++(ky.extract (Eg ⟨#[]⟩ ky) ky.size).data.toList++[Rm false,a0u val.size]++val.data.toList):=by
      unfold Hid Ij;rw[HLA.out,show Em ⟨row,col,ts,seq,false,val⟩=ky.data.toList from HKY.out.symm,extract_to_end];rfl
     have hkd:ky.data.toList.length=ky.size:=rfl
     have hsle:Eg ⟨#[]⟩ ky≤ky.size:=by unfold Eg;omega
     obtain⟨n,hn⟩:∃n,Eg ⟨#[]⟩ ky=n:=⟨_,rfl⟩
     rw[hn] at hsle HE0;rw[hn]
     obtain⟨m,hm⟩:∃m,ky.size-n=m:=⟨_,rfl⟩
     have em:(ky.size:Int)-(n:Int)=(m:Int):=by omega
     obtain⟨tl,htl⟩:∃tl,ky.extract n ky.size=tl:=⟨_,rfl⟩
     have htz:tl.size≤180:=by rw[←htl,a0v];omega
     rw[hm,htl] at HE0;have HTL:=a0x htl;clear hn hsl hkd hm htl
     have hn180:n≤180:=by omega
     have hm180:m≤180:=by omega
     go_wp2_with (fail);(with_reducible refine(HTW.out acc n _ HS10.out.bat (by omega) (by omega)).mono ?_);rintro e w11 ⟨rfl,hb,hf⟩;have HS11:=a0x (HS10.out.write hb hf HB0.out hcbn);clear hb hf;go_wp2_with (fail);(with_reducible refine(HTW.out (acc++two n) m _ HS11.out.bat (by rw[a0z];have:(two n).length=2:=rfl;omega) (by omega)).mono ?_);rintro e w12 ⟨rfl,hb,hf⟩;have HS12:=a0x (HS11.out.write hb hf HB0.out hcbn);clear hb hf;have hex:ky.extract n ky.size=tl:=HTL.out
     have hnky:(n:Int)≤(ky.size:Int):=by omega
     go_wp2_with (fail)
     go_still_tail 6,(by kernel_rfl)
     have HS13:=a0x (HS12.out.on (Fp.drew w12));go_wp2_with (fail);(with_reducible refine(HWS.out (acc++two n++two m) tl _ HS13.out.bat (by rw[a0z,a0z];have:(two n).length=2:=rfl;have:(two m).length=2:=rfl;omega)).mono ?_);rintro e w14 ⟨rfl,hb,hf⟩;have HS14:=a0x (HS13.out.write hb hf HB0.out hcbn);clear hb hf hex;have y4:w14.cell? ⟨CB,4,none⟩=some (.bool false):=HS14.out.cel.cell 4;go_wp2_with (fail);(with_reducible refine(HWZ0.out (acc++two n++two m++tl.data.toList) _ HS14.out.bat (by rw[a0z,a0z,a0z];have:(two n).length=2:=rfl;have:(two m).length=2:=rfl;have:tl.data.toList.length=tl.size:=rfl;omega)).mono ?_);rintro e w15 ⟨rfl,hb,hf⟩;have HS15:=a0x (HS14.out.write hb hf HB0.out hcbn);clear hb hf y4;have y5:w15.cell? ⟨CB,5,none⟩=some (.string val):=HS15.out.cel.cell 5;have y5d:w15.drew.cell? ⟨CB,5,none⟩=some (.string val):=y5;go_wp2_with (fail)
     go_still_tail 7,(by kernel_rfl)
     have HS16:=a0x (HS15.out.on (Fp.drew w15));go_wp2_with (fail);(with_reducible refine(HWB.out (acc++two n++two m++tl.data.toList++[0]) c1 _ HS16.out.bat (by simp only[a0z,a0w];have:(two n).length=2:=rfl;have:(two m).length=2:=rfl;have:tl.data.toList.length=tl.size:=rfl;omega)).mono ?_);rintro e w17 ⟨rfl,hb,hf⟩;have HS17:=a0x (HS16.out.write hb hf HB0.out hcbn);clear hb hf y5 y5d;have y5:w17.cell? ⟨CB,5,none⟩=some (.string val):=HS17.out.cel.cell 5;have y5d:w17.drew.cell? ⟨CB,5,none⟩=some (.string val):=y5;go_wp2_with (fail)
     go_still_tail 5,(by kernel_rfl)
     have HS18:=a0x (HS17.out.on (Fp.drew w17));go_wp2_with (fail);(with_reducible refine(HWS.out (acc++two n++two m++tl.data.toList++[0]++[c1]) val _ HS18.out.bat (by simp only[a0z,a0w];have:(two n).length=2:=rfl;have:(two m).length=2:=rfl;have:tl.data.toList.length=tl.size:=rfl;omega)).mono ?_);rintro e w19 ⟨rfl,hb,hf⟩;have HS19:=a0x (HS18.out.write hb hf HB0.out hcbn);clear hb hf y5 y5d;go_wp2_with (fail)
     go_roundg (gk-1)
     case measure=>omega
     case rel=>
      refine⟨k+1,ky,_,by omega,by simp,rfl,HS19.out.fp,HS19.out.bat,?_,?_,hkz⟩
      ·rw[HGO.out,HD.out,show Hi k last.data.toList (⟨row,col,ts,seq,false,val⟩::l.drop (k+1))=Ij (G3 k last.data.toList) ⟨row,col,ts,seq,false,val⟩++Hi (k+1) (Em ⟨row,col,ts,seq,false,val⟩) (l.drop (k+1)) from rfl,HE0.out,HKY.out,HC1.out];simp only[a1z,a1w,a1v];rfl
      ·simp only[a0z,a0w];have:(two n).length=2:=rfl;have:(two m).length=2:=rfl;have:tl.data.toList.length=tl.size:=rfl;have:val.data.toList.length=val.size:=rfl;omega
    ·have e4:¬(k:Int)%4=0:=by omega
     have HLA:Hid (G3 k last.data.toList=last.data.toList):=by unfold Hid G3;rw[if_neg h4]
     have HSZ:Hid ((last:ByteArray).size≤180):=by unfold Hid;omega
     go_wp2_with (fail)
     obtain⟨w8,hw8⟩:∃w8,wr.alloc (.cells #[.string row,.string col,.int .u64 ts,.int .u64 seq,.bool false,.string val] 80)=w8:=⟨_,rfl⟩
     rw[hw8]
     have HCW:Hid (C4 w8 wr.heap.size ⟨row,col,ts,seq,false,val⟩):=by rw[←hw8];exact Ai rfl _
     have hf8:Fp [] wr w8:=by rw[←hw8];exact Fp.alloc _ _
     have HS8:Hid (Ld w B wr.heap.size ⟨row,col,ts,seq,false,val⟩ acc w8):=⟨HF.out.trans hf8 (by simp),HBA.out.fp hf8 (by simp),HCW.out⟩
     have hcbn:wr.heap.size≠B:=by have:=Ab (HBA.out.at.choose_spec.2.choose_spec.1);omega
     obtain⟨CB,hCB⟩:∃CB,wr.heap.size=CB:=⟨_,rfl⟩
     rw[hCB] at HS8 hcbn;rw[hCB];clear hf8 hw8 hCB q0 q1 q2 q3 q4 q5 HCW;obtain⟨y0,y1,y2,y3,y4,y5,_⟩:=HS8.out.cel.facts0;(with_reducible refine(HKE.out _ (HM.out.fp HS8.out.fp a1x)).mono ?_);rintro e w9 ⟨rfl,hf⟩;have HS9:=a0x (HS8.out.on hf);clear hf;go_wp2_with (fail);(with_reducible refine(HSH.out last _ (by have:=HSZ.out;omega)).mono ?_);rintro e w10 ⟨rfl,hf⟩;have HS10:=a0x (HS9.out.on hf);clear hf;have hsl:=Rf (last:ByteArray).data.toList ky.data.toList
     have HE0:Hid (Ij (G3 k last.data.toList) ⟨row,col,ts,seq,false,val⟩=two (Eg last ky)++two (ky.size-Eg last ky)++(ky.extract (Eg last ky) ky.size).data.toList++[Rm false,a0u val.size]++val.data.toList):=by
      unfold Hid Ij;rw[HLA.out,show Em ⟨row,col,ts,seq,false,val⟩=ky.data.toList from HKY.out.symm,extract_to_end];rfl
     have hkd:ky.data.toList.length=ky.size:=rfl
     have hsle:Eg last ky≤ky.size:=by unfold Eg;omega
     obtain⟨n,hn⟩:∃n,Eg last ky=n:=⟨_,rfl⟩
     rw[hn] at hsle HE0;rw[hn]
     obtain⟨m,hm⟩:∃m,ky.size-n=m:=⟨_,rfl⟩
     have em:(ky.size:Int)-(n:Int)=(m:Int):=by omega
     obtain⟨tl,htl⟩:∃tl,ky.extract n ky.size=tl:=⟨_,rfl⟩
     have htz:tl.size≤180:=by rw[←htl,a0v];omega
     rw[hm,htl] at HE0;have HTL:=a0x htl;clear hn hsl hkd hm htl
     have hn180:n≤180:=by omega
     have hm180:m≤180:=by omega
     go_wp2_with (fail);(with_reducible refine(HTW.out acc n _ HS10.out.bat (by omega) (by omega)).mono ?_);rintro e w11 ⟨rfl,hb,hf⟩;have HS11:=a0x (HS10.out.write hb hf HB0.out hcbn);clear hb hf;go_wp2_with (fail);(with_reducible refine(HTW.out (acc++two n) m _ HS11.out.bat (by rw[a0z];have:(two n).length=2:=rfl;omega) (by omega)).mono ?_);rintro e w12 ⟨rfl,hb,hf⟩;have HS12:=a0x (HS11.out.write hb hf HB0.out hcbn);clear hb hf;have hex:ky.extract n ky.size=tl:=HTL.out
     have hnky:(n:Int)≤(ky.size:Int):=by omega
     go_wp2_with (fail)
     go_still_tail 6,(by kernel_rfl)
     have HS13:=a0x (HS12.out.on (Fp.drew w12));go_wp2_with (fail);(with_reducible refine(HWS.out (acc++two n++two m) tl _ HS13.out.bat (by rw[a0z,a0z];have:(two n).length=2:=rfl;have:(two m).length=2:=rfl;omega)).mono ?_);rintro e w14 ⟨rfl,hb,hf⟩;have HS14:=a0x (HS13.out.write hb hf HB0.out hcbn);clear hb hf hex;have y4:w14.cell? ⟨CB,4,none⟩=some (.bool false):=HS14.out.cel.cell 4;go_wp2_with (fail);(with_reducible refine(HWZ0.out (acc++two n++two m++tl.data.toList) _ HS14.out.bat (by rw[a0z,a0z,a0z];have:(two n).length=2:=rfl;have:(two m).length=2:=rfl;have:tl.data.toList.length=tl.size:=rfl;omega)).mono ?_);rintro e w15 ⟨rfl,hb,hf⟩;have HS15:=a0x (HS14.out.write hb hf HB0.out hcbn);clear hb hf y4;have y5:w15.cell? ⟨CB,5,none⟩=some (.string val):=HS15.out.cel.cell 5;have y5d:w15.drew.cell? ⟨CB,5,none⟩=some (.string val):=y5;go_wp2_with (fail)
     go_still_tail 7,(by kernel_rfl)
     have HS16:=a0x (HS15.out.on (Fp.drew w15));go_wp2_with (fail);(with_reducible refine(HWB.out (acc++two n++two m++tl.data.toList++[0]) c1 _ HS16.out.bat (by simp only[a0z,a0w];have:(two n).length=2:=rfl;have:(two m).length=2:=rfl;have:tl.data.toList.length=tl.size:=rfl;omega)).mono ?_);rintro e w17 ⟨rfl,hb,hf⟩;have HS17:=a0x (HS16.out.write hb hf HB0.out hcbn);clear hb hf y5 y5d;have y5:w17.cell? ⟨CB,5,none⟩=some (.string val):=HS17.out.cel.cell 5;have y5d:w17.drew.cell? ⟨CB,5,none⟩=some (.string val):=y5;go_wp2_with (fail)
     go_still_tail 5,(by kernel_rfl)
     have HS18:=a0x (HS17.out.on (Fp.drew w17));go_wp2_with (fail);(with_reducible refine(HWS.out (acc++two n++two m++tl.data.toList++[0]++[c1]) val _ HS18.out.bat (by simp only[a0z,a0w];have:(two n).length=2:=rfl;have:(two m).length=2:=rfl;have:tl.data.toList.length=tl.size:=rfl;omega)).mono ?_);rintro e w19 ⟨rfl,hb,hf⟩;have HS19:=a0x (HS18.out.write hb hf HB0.out hcbn);clear hb hf y5 y5d;go_wp2_with (fail)
     go_roundg (gk-1)
     case measure=>omega
     case rel=>
      refine⟨k+1,ky,_,by omega,by simp,rfl,HS19.out.fp,HS19.out.bat,?_,?_,hkz⟩
      ·rw[HGO.out,HD.out,show Hi k last.data.toList (⟨row,col,ts,seq,false,val⟩::l.drop (k+1))=Ij (G3 k last.data.toList) ⟨row,col,ts,seq,false,val⟩++Hi (k+1) (Em ⟨row,col,ts,seq,false,val⟩) (l.drop (k+1)) from rfl,HE0.out,HKY.out,HC1.out];simp only[a1z,a1w,a1v];rfl
      ·simp only[a0z,a0w];have:(two n).length=2:=rfl;have:(two m).length=2:=rfl;have:tl.data.toList.length=tl.size:=rfl;have:val.data.toList.length=val.size:=rfl;omega
   ·by_cases h4:k%4=0
    ·have e4:(k:Int)%4=0:=by omega
     have HLA:Hid (G3 k last.data.toList=(⟨#[]⟩:ByteArray).data.toList):=by unfold Hid G3;rw[if_pos h4]
     have HSZ:Hid ((⟨#[]⟩:ByteArray).size≤180):=by unfold Hid;decide
     go_wp2_with (fail)
     obtain⟨w8,hw8⟩:∃w8,wr.alloc (.cells #[.string row,.string col,.int .u64 ts,.int .u64 seq,.bool true,.string val] 80)=w8:=⟨_,rfl⟩
     rw[hw8]
     have HCW:Hid (C4 w8 wr.heap.size ⟨row,col,ts,seq,true,val⟩):=by rw[←hw8];exact Ai rfl _
     have hf8:Fp [] wr w8:=by rw[←hw8];exact Fp.alloc _ _
     have HS8:Hid (Ld w B wr.heap.size ⟨row,col,ts,seq,true,val⟩ acc w8):=⟨HF.out.trans hf8 (by simp),HBA.out.fp hf8 (by simp),HCW.out⟩
     have hcbn:wr.heap.size≠B:=by have:=Ab (HBA.out.at.choose_spec.2.choose_spec.1);omega
     obtain⟨CB,hCB⟩:∃CB,wr.heap.size=CB:=⟨_,rfl⟩
     rw[hCB] at HS8 hcbn;rw[hCB];clear hf8 hw8 hCB q0 q1 q2 q3 q4 q5 HCW;obtain⟨y0,y1,y2,y3,y4,y5,_⟩:=HS8.out.cel.facts0;(with_reducible refine(HKE.out _ (HM.out.fp HS8.out.fp a1x)).mono ?_);rintro e w9 ⟨rfl,hf⟩;have HS9:=a0x (HS8.out.on hf);clear hf;go_wp2_with (fail);(with_reducible refine(HSH.out ⟨#[]⟩ _ (by have:=HSZ.out;omega)).mono ?_);rintro e w10 ⟨rfl,hf⟩;have HS10:=a0x (HS9.out.on hf);clear hf;have hsl:=Rf (⟨#[]⟩:ByteArray).data.toList ky.data.toList
     have HE0:Hid (Ij (G3 k last.data.toList) ⟨row,col,ts,seq,true,val⟩=two (Eg ⟨#[]⟩ ky)++two (ky.size-Eg ⟨#[]⟩ ky)++(ky.extract (Eg ⟨#[]⟩ ky) ky.size).data.toList++[Rm true,a0u val.size]++val.data.toList):=by
      unfold Hid Ij;rw[HLA.out,show Em ⟨row,col,ts,seq,true,val⟩=ky.data.toList from HKY.out.symm,extract_to_end];rfl
     have hkd:ky.data.toList.length=ky.size:=rfl
     have hsle:Eg ⟨#[]⟩ ky≤ky.size:=by unfold Eg;omega
     obtain⟨n,hn⟩:∃n,Eg ⟨#[]⟩ ky=n:=⟨_,rfl⟩
     rw[hn] at hsle HE0;rw[hn]
     obtain⟨m,hm⟩:∃m,ky.size-n=m:=⟨_,rfl⟩
     have em:(ky.size:Int)-(n:Int)=(m:Int):=by omega
     obtain⟨tl,htl⟩:∃tl,ky.extract n ky.size=tl:=⟨_,rfl⟩
     have htz:tl.size≤180:=by rw[←htl,a0v];omega
     rw[hm,htl] at HE0;have HTL:=a0x htl;clear hn hsl hkd hm htl
     have hn180:n≤180:=by omega
     have hm180:m≤180:=by omega
     go_wp2_with (fail);(with_reducible refine(HTW.out acc n _ HS10.out.bat (by omega) (by omega)).mono ?_);rintro e w11 ⟨rfl,hb,hf⟩;have HS11:=a0x (HS10.out.write hb hf HB0.out hcbn);clear hb hf;go_wp2_with (fail);(with_reducible refine(HTW.out (acc++two n) m _ HS11.out.bat (by rw[a0z];have:(two n).length=2:=rfl;omega) (by omega)).mono ?_);rintro e w12 ⟨rfl,hb,hf⟩;have HS12:=a0x (HS11.out.write hb hf HB0.out hcbn);clear hb hf;have hex:ky.extract n ky.size=tl:=HTL.out
     have hnky:(n:Int)≤(ky.size:Int):=by omega
     go_wp2_with (fail)
     go_still_tail 6,(by kernel_rfl)
     have HS13:=a0x (HS12.out.on (Fp.drew w12));go_wp2_with (fail);(with_reducible refine(HWS.out (acc++two n++two m) tl _ HS13.out.bat (by rw[a0z,a0z];have:(two n).length=2:=rfl;have:(two m).length=2:=rfl;omega)).mono ?_);rintro e w14 ⟨rfl,hb,hf⟩;have HS14:=a0x (HS13.out.write hb hf HB0.out hcbn);clear hb hf hex;have y4:w14.cell? ⟨CB,4,none⟩=some (.bool true):=HS14.out.cel.cell 4;go_wp2_with (fail);(with_reducible refine(HWZ1.out (acc++two n++two m++tl.data.toList) _ HS14.out.bat (by rw[a0z,a0z,a0z];have:(two n).length=2:=rfl;have:(two m).length=2:=rfl;have:tl.data.toList.length=tl.size:=rfl;omega)).mono ?_);rintro e w15 ⟨rfl,hb,hf⟩;have HS15:=a0x (HS14.out.write hb hf HB0.out hcbn);clear hb hf y4;have y5:w15.cell? ⟨CB,5,none⟩=some (.string val):=HS15.out.cel.cell 5;have y5d:w15.drew.cell? ⟨CB,5,none⟩=some (.string val):=y5;go_wp2_with (fail)
     go_still_tail 7,(by kernel_rfl)
     have HS16:=a0x (HS15.out.on (Fp.drew w15));go_wp2_with (fail);(with_reducible refine(HWB.out (acc++two n++two m++tl.data.toList++[1]) c1 _ HS16.out.bat (by simp only[a0z,a0w];have:(two n).length=2:=rfl;have:(two m).length=2:=rfl;have:tl.data.toList.length=tl.size:=rfl;omega)).mono ?_);rintro e w17 ⟨rfl,hb,hf⟩;have HS17:=a0x (HS16.out.write hb hf HB0.out hcbn);clear hb hf y5 y5d;have y5:w17.cell? ⟨CB,5,none⟩=some (.string val):=HS17.out.cel.cell 5;have y5d:w17.drew.cell? ⟨CB,5,none⟩=some (.string val):=y5;go_wp2_with (fail)
     go_still_tail 5,(by kernel_rfl)
     have HS18:=a0x (HS17.out.on (Fp.drew w17));go_wp2_with (fail);(with_reducible refine(HWS.out (acc++two n++two m++tl.data.toList++[1]++[c1]) val _ HS18.out.bat (by simp only[a0z,a0w];have:(two n).length=2:=rfl;have:(two m).length=2:=rfl;have:tl.data.toList.length=tl.size:=rfl;omega)).mono ?_);rintro e w19 ⟨rfl,hb,hf⟩;have HS19:=a0x (HS18.out.write hb hf HB0.out hcbn);clear hb hf y5 y5d;go_wp2_with (fail)
     go_roundg (gk-1)
     case measure=>omega
     case rel=>
      refine⟨k+1,ky,_,by omega,by simp,rfl,HS19.out.fp,HS19.out.bat,?_,?_,hkz⟩
      ·rw[HGO.out,HD.out,show Hi k last.data.toList (⟨row,col,ts,seq,true,val⟩::l.drop (k+1))=Ij (G3 k last.data.toList) ⟨row,col,ts,seq,true,val⟩++Hi (k+1) (Em ⟨row,col,ts,seq,true,val⟩) (l.drop (k+1)) from rfl,HE0.out,HKY.out,HC1.out];simp only[a1z,a1w,a1v];rfl
      ·simp only[a0z,a0w];have:(two n).length=2:=rfl;have:(two m).length=2:=rfl;have:tl.data.toList.length=tl.size:=rfl;have:val.data.toList.length=val.size:=rfl;omega
    ·have e4:¬(k:Int)%4=0:=by omega
     have HLA:Hid (G3 k last.data.toList=last.data.toList):=by unfold Hid G3;rw[if_neg h4]
     have HSZ:Hid ((last:ByteArray).size≤180):=by unfold Hid;omega
     go_wp2_with (fail)
     obtain⟨w8,hw8⟩:∃w8,wr.alloc (.cells #[.string row,.string col,.int .u64 ts,.int .u64 seq,.bool true,.string val] 80)=w8:=⟨_,rfl⟩
     rw[hw8]
     have HCW:Hid (C4 w8 wr.heap.size ⟨row,col,ts,seq,true,val⟩):=by rw[←hw8];exact Ai rfl _
     have hf8:Fp [] wr w8:=by rw[←hw8];exact Fp.alloc _ _
     have HS8:Hid (Ld w B wr.heap.size ⟨row,col,ts,seq,true,val⟩ acc w8):=⟨HF.out.trans hf8 (by simp),HBA.out.fp hf8 (by simp),HCW.out⟩
     have hcbn:wr.heap.size≠B:=by have:=Ab (HBA.out.at.choose_spec.2.choose_spec.1);omega
     obtain⟨CB,hCB⟩:∃CB,wr.heap.size=CB:=⟨_,rfl⟩
     rw[hCB] at HS8 hcbn;rw[hCB];clear hf8 hw8 hCB q0 q1 q2 q3 q4 q5 HCW;obtain⟨y0,y1,y2,y3,y4,y5,_⟩:=HS8.out.cel.facts0;(with_reducible refine(HKE.out _ (HM.out.fp HS8.out.fp a1x)).mono ?_);rintro e w9 ⟨rfl,hf⟩;have HS9:=a0x (HS8.out.on hf);clear hf;go_wp2_with (fail);(with_reducible refine(HSH.out last _ (by have:=HSZ.out;omega)).mono ?_);rintro e w10 ⟨rfl,hf⟩;have HS10:=a0x (HS9.out.on hf);clear hf;have hsl:=Rf (last:ByteArray).data.toList ky.data.toList
     have HE0:Hid (Ij (G3 k last.data.toList) ⟨row,col,ts,seq,true,val⟩=two (Eg last ky)++two (ky.size-Eg last ky)++(ky.extract (Eg last ky) ky.size).data.toList++[Rm true,a0u val.size]++val.data.toList):=by
      unfold Hid Ij;rw[HLA.out,show Em ⟨row,col,ts,seq,true,val⟩=ky.data.toList from HKY.out.symm,extract_to_end];rfl
     have hkd:ky.data.toList.length=ky.size:=rfl
     have hsle:Eg last ky≤ky.size:=by unfold Eg;omega
     obtain⟨n,hn⟩:∃n,Eg last ky=n:=⟨_,rfl⟩
     rw[hn] at hsle HE0;rw[hn]
     obtain⟨m,hm⟩:∃m,ky.size-n=m:=⟨_,rfl⟩
     have em:(ky.size:Int)-(n:Int)=(m:Int):=by omega
     obtain⟨tl,htl⟩:∃tl,ky.extract n ky.size=tl:=⟨_,rfl⟩
     have htz:tl.size≤180:=by rw[←htl,a0v];omega
     rw[hm,htl] at HE0;have HTL:=a0x htl;clear hn hsl hkd hm htl
     have hn180:n≤180:=by omega
     have hm180:m≤180:=by omega
     go_wp2_with (fail);(with_reducible refine(HTW.out acc n _ HS10.out.bat (by omega) (by omega)).mono ?_);rintro e w11 ⟨rfl,hb,hf⟩;have HS11:=a0x (HS10.out.write hb hf HB0.out hcbn);clear hb hf;go_wp2_with (fail);(with_reducible refine(HTW.out (acc++two n) m _ HS11.out.bat (by rw[a0z];have:(two n).length=2:=rfl;omega) (by omega)).mono ?_);rintro e w12 ⟨rfl,hb,hf⟩;have HS12:=a0x (HS11.out.write hb hf HB0.out hcbn);clear hb hf;have hex:ky.extract n ky.size=tl:=HTL.out
     have hnky:(n:Int)≤(ky.size:Int):=by omega
     go_wp2_with (fail)
     go_still_tail 6,(by kernel_rfl)
     have HS13:=a0x (HS12.out.on (Fp.drew w12));go_wp2_with (fail);(with_reducible refine(HWS.out (acc++two n++two m) tl _ HS13.out.bat (by rw[a0z,a0z];have:(two n).length=2:=rfl;have:(two m).length=2:=rfl;omega)).mono ?_);rintro e w14 ⟨rfl,hb,hf⟩;have HS14:=a0x (HS13.out.write hb hf HB0.out hcbn);clear hb hf hex;have y4:w14.cell? ⟨CB,4,none⟩=some (.bool true):=HS14.out.cel.cell 4;go_wp2_with (fail);(with_reducible refine(HWZ1.out (acc++two n++two m++tl.data.toList) _ HS14.out.bat (by rw[a0z,a0z,a0z];have:(two n).length=2:=rfl;have:(two m).length=2:=rfl;have:tl.data.toList.length=tl.size:=rfl;omega)).mono ?_);rintro e w15 ⟨rfl,hb,hf⟩;have HS15:=a0x (HS14.out.write hb hf HB0.out hcbn);clear hb hf y4;have y5:w15.cell? ⟨CB,5,none⟩=some (.string val):=HS15.out.cel.cell 5;have y5d:w15.drew.cell? ⟨CB,5,none⟩=some (.string val):=y5;go_wp2_with (fail)
     go_still_tail 7,(by kernel_rfl)
     have HS16:=a0x (HS15.out.on (Fp.drew w15));go_wp2_with (fail);(with_reducible refine(HWB.out (acc++two n++two m++tl.data.toList++[1]) c1 _ HS16.out.bat (by simp only[a0z,a0w];have:(two n).length=2:=rfl;have:(two m).length=2:=rfl;have:tl.data.toList.length=tl.size:=rfl;omega)).mono ?_);rintro e w17 ⟨rfl,hb,hf⟩;have HS17:=a0x (HS16.out.write hb hf HB0.out hcbn);clear hb hf y5 y5d;have y5:w17.cell? ⟨CB,5,none⟩=some (.string val):=HS17.out.cel.cell 5;have y5d:w17.drew.cell? ⟨CB,5,none⟩=some (.string val):=y5;go_wp2_with (fail)
     go_still_tail 5,(by kernel_rfl)
     have HS18:=a0x (HS17.out.on (Fp.drew w17));go_wp2_with (fail);(with_reducible refine(HWS.out (acc++two n++two m++tl.data.toList++[1]++[c1]) val _ HS18.out.bat (by simp only[a0z,a0w];have:(two n).length=2:=rfl;have:(two m).length=2:=rfl;have:tl.data.toList.length=tl.size:=rfl;omega)).mono ?_);rintro e w19 ⟨rfl,hb,hf⟩;have HS19:=a0x (HS18.out.write hb hf HB0.out hcbn);clear hb hf y5 y5d;go_wp2_with (fail)
     go_roundg (gk-1)
     case measure=>omega
     case rel=>
      refine⟨k+1,ky,_,by omega,by simp,rfl,HS19.out.fp,HS19.out.bat,?_,?_,hkz⟩
      ·rw[HGO.out,HD.out,show Hi k last.data.toList (⟨row,col,ts,seq,true,val⟩::l.drop (k+1))=Ij (G3 k last.data.toList) ⟨row,col,ts,seq,true,val⟩++Hi (k+1) (Em ⟨row,col,ts,seq,true,val⟩) (l.drop (k+1)) from rfl,HE0.out,HKY.out,HC1.out];simp only[a1z,a1w,a1v];rfl
      ·simp only[a0z,a0w];have:(two n).length=2:=rfl;have:(two m).length=2:=rfl;have:tl.data.toList.length=tl.size:=rfl;have:val.data.toList.length=val.size:=rfl;omega
  ·have hkl:¬(k:Int)<(len:Int):=by omega
   have HD:Hid (l.drop k=[]):=List.drop_eq_nil_of_le (by rw[←HLEN.out];omega);go_wp2_with (fail);(with_reducible refine(HST.out acc _ HBA.out).mono ?_);rintro e w4 ⟨rfl,hb⟩;have HF4:Hid (Fp [] w w4):=HF.out.belowTrans (hb.mono HB0.out);clear hb;go_wp2_with (fail);go_ret2;rw[HR.out,←HLEN.out,HC0.out,HGO.out,HD.out];exact⟨by rw[show Hi k last.data.toList []=[] from rfl,List.append_nil];rfl,HF4.out⟩
end
section
open Go.RowKit
def C1(i:Nat)(w0:World)(rb:Nat)(r r':Rb)(b:Nat→Bool)(w:World):Prop:=Fp [rb] w0 w∧Ly w rb (bif b i then r' else r)
theorem C1.fp{i:Nat}{w0 w:World}{rb:Nat}{r r':Rb}{b:Nat→Bool}(h:C1 i w0 rb r r' b w):Fp [rb] w0 w:=h.1
theorem C1.first{i:Nat}{w0 w:World}{rb:Nat}{r r':Rb}{b:Nat→Bool}(h:C1 i w0 rb r r' b w)(h1:b i=false):Ly w rb r:=by have:=h.2;rw[h1] at this;exact this
theorem C1.last{i:Nat}{w0 w:World}{rb:Nat}{r r':Rb}{b:Nat→Bool}(h:C1 i w0 rb r r' b w)(h1:b i=true):Ly w rb r':=by have:=h.2;rw[h1] at this;exact this
theorem C1.did{i:Nat}{w0 w w':World}{rb:Nat}{r r':Rb}{b:Nat→Bool}(h:C1 i w0 rb r r' b w)(hr:Ly w' rb r')(hf:Fp [rb] w w'):C1 i w0 rb r r' (Ap b i) w':=
 ⟨h.1.trans hf (by simp),by rw[wG];exact hr⟩
theorem C1.on{i j:Nat}{w0 w w':World}{rb:Nat}{r r':Rb}{b:Nat→Bool}(h:C1 i w0 rb r r' b w)(hij:i≠j)(hf:Fp [] w w'):C1 i w0 rb r r' (Ap b j) w':=
 ⟨h.1.trans hf (by simp),by rw[wH hij];exact h.2.fp hf (by simp)⟩
attribute [local go_sem] Oper.semAt_some
end
section
section
open Go.RowKit
def B9(w:World)(base:Nat)(v:Value)(l:List ByteArray):Prop:=w.ownsRow base 9 1 v l.length (l.map Value.string)
theorem B9.nil(w:World)(base:Nat):B9 w base (.slice none 0 0) []:=World.ownsRow_nil w base _ _
theorem B9.mono{w:World}{base base':Nat}{v:Value}{l:List ByteArray}(h:B9 w base v l)(hb:base'≤base):B9 w base' v l:=by
 obtain⟨h1,h2⟩:=h;refine⟨h1,?_⟩
 rcases h2 with h2|⟨g,cap,cur,hv,hg,r⟩
 ·exact Or.inl h2
 ·exact Or.inr ⟨g,cap,cur,hv,Nat.le_trans hb hg,r⟩
theorem B9.lt{w:World}{base:Nat}{v:Value}{l:List ByteArray}(h:B9 w base v l):∀k,v.ownBlock=some k→base≤k∧k<w.heap.size:=World.ownsRow.lt h
theorem B9.kept{w w':World}{base:Nat}{v:Value}{l:List ByteArray}(h:B9 w base v l)(hf:∀k,v.ownBlock=some k→w'.heap[k]?=w.heap[k]?):B9 w' base v l:=by
 obtain⟨h1,h2⟩:=h;refine⟨h1,?_⟩
 rcases h2 with h2|⟨g,cap,cur,hv,hg,hh,r⟩
 ·exact Or.inl h2
 ·exact Or.inr ⟨g,cap,cur,hv,hg,(hf g (by rw[hv];rfl)).trans hh,r⟩
theorem B9.fp{w w':World}{base:Nat}{v:Value}{l:List ByteArray}{S:List Nat}(h:B9 w base v l)(hf:Fp S w w')(hS:∀i∈S,i<base):B9 w' base v l:=
 h.kept fun k hk=>hf.block k (h.lt k hk).2 (fun hm=>by have:=hS k hm;have:=(h.lt k hk).1;omega)
theorem B9.made(w:World)(base:Nat)(hb:base≤w.heap.size):B9 (w.alloc (.cells #[] 9)) base (.slice (some ⟨w.heap.size,0,none⟩) 0 0) []:=
 World.ownsRow_made w #[] 0 hb (by decide) rfl
theorem B9.at{w:World}{base:Nat}{v:Value}{l:List ByteArray}(h:B9 w base v l):(∃a cap,v=.slice a l.length cap)∧(l=[]∨∃g cap,v=.slice (some ⟨g,0,none⟩) l.length cap∧base≤g∧g<w.heap.size∧∀i (hi:i<l.length),w.cell? ⟨g,i,none⟩=some (.string l[i])):=by
 obtain⟨h1,h2⟩:=h
 rcases h2 with⟨rfl,h0⟩|⟨g,cap,cur,rfl,hg,hh,hn,hm,hs,ht⟩
 ·have:l=[]:=a1u h0;subst this;exact⟨⟨_,_,rfl⟩,Or.inl rfl⟩
 ·refine⟨⟨_,_,rfl⟩,Or.inr ⟨g,cap,rfl,hg,Ab hh,fun i hi=>?_⟩⟩
  have h3:(cur.toList.take (l.length*1))[i]?=(l.map Value.string)[i]?:=by rw[ht]
  rw[List.getElem?_take,if_pos (by omega),List.getElem?_map,a2z hi,a2x] at h3;rw[Aa hh,h3];rfl
theorem Tryz.info9:(Tryz.prog.info? 9).map (fun i=>(i.zero,i.size,i.bytes))=some (some (.string ⟨#[]⟩),1,16):=by kernel_rfl
theorem mB{w:World}{ops:Array Oper}{rest:List Oper}{o:Oper}{a:Act}{Q:Exit→Act→World→Prop}(hgd:o.guard=none)(s x:Operand)
  (ho:o.op=.call {callee:=.builtin .append,args:=#[s,x],argTypes:=#[22,22]})(base:Nat)(v:Value)(l:List ByteArray)(hs:a.eval s=v)(hown:B9 w base v l)
  (g:Nat)(t:ByteArray)(hx:a.eval x=.slice (some ⟨g,0,none⟩) 1 1)(hg:w.cell? ⟨g,0,none⟩=some (.string t))(hlen:l.length+1≤1000000000)(hbase:base≤w.heap.size)
  (h:∀v' w',B9 w' base v' (l++[t])→Below base w w'→wpList Tryz.prog ops Q rest (a.put o.dst v') w'):wpList Tryz.prog ops Q (o::rest) a w:=by
 obtain⟨i0,hi,hz0,hz1,hz2⟩:=info_parts Tryz.info9;refine wpList_append_own w hgd s x 22 ho base 9 i0 _ 1 16 Tryz.underlying22 hi hz0 hz1 hz2 rfl (by decide) v l.length (l.map Value.string) hs hown ⟨g,0,none⟩ 1 1 [.string t] hx rfl ?_ (by intro u hu;simp at hu;subst hu;rfl) (by unfold maxLen;omega) (by omega) hbase ?_
 ·intro j u hu
  have hj:j=0:=by
   have:=(List.getElem?_eq_some_iff.1 hu).1
   simpa using this
  subst hj;simp at hu;subst hu
  have e1:(⟨g,0,none⟩:Addr).add 0=⟨g,0,none⟩:=by unfold Addr.add;split<;>simp_all
  rw[e1];exact hg
 ·intro v' w' h1 h2 _;refine h v' w' ?_ ((Below.refl base w).grown h2 hbase (fun k hk=>(hown.lt k hk).1));unfold B9;rw[a0z,List.map_append];exact h1
end
section
open Go.RowKit
def Bg(e:TypeId)(w:World)(base:Nat)(v:Value)(l:List Value):Prop:=w.ownsRow base e 1 v l.length l
theorem Bg.nil(e:TypeId)(w:World)(base:Nat):Bg e w base (.slice none 0 0) []:=World.ownsRow_nil w base _ _
theorem Bg.mono{e:TypeId}{w:World}{base base':Nat}{v:Value}{l:List Value}(h:Bg e w base v l)(hb:base'≤base):Bg e w base' v l:=by
 obtain⟨h1,h2⟩:=h;refine⟨h1,?_⟩
 rcases h2 with h2|⟨g,cap,cur,hv,hg,r⟩
 ·exact Or.inl h2
 ·exact Or.inr ⟨g,cap,cur,hv,Nat.le_trans hb hg,r⟩
theorem Bg.lt{e:TypeId}{w:World}{base:Nat}{v:Value}{l:List Value}(h:Bg e w base v l):∀k,v.ownBlock=some k→base≤k∧k<w.heap.size:=World.ownsRow.lt h
theorem Bg.kept{e:TypeId}{w w':World}{base:Nat}{v:Value}{l:List Value}(h:Bg e w base v l)(hf:∀k,v.ownBlock=some k→w'.heap[k]?=w.heap[k]?):Bg e w' base v l:=by
 obtain⟨h1,h2⟩:=h;refine⟨h1,?_⟩
 rcases h2 with h2|⟨g,cap,cur,hv,hg,hh,r⟩
 ·exact Or.inl h2
 ·exact Or.inr ⟨g,cap,cur,hv,hg,(hf g (by rw[hv];rfl)).trans hh,r⟩
theorem Bg.fp{e:TypeId}{w w':World}{base:Nat}{v:Value}{l:List Value}{S:List Nat}(h:Bg e w base v l)(hf:Fp S w w')(hS:∀i∈S,i<base):Bg e w' base v l:=
 h.kept fun k hk=>hf.block k (h.lt k hk).2 (fun hm=>by have:=hS k hm;have:=(h.lt k hk).1;omega)
theorem Bg.made(e:TypeId)(w:World)(base:Nat)(hb:base≤w.heap.size):Bg e (w.alloc (.cells #[] e)) base (.slice (some ⟨w.heap.size,0,none⟩) 0 0) []:=
 World.ownsRow_made w #[] 0 hb (by decide) rfl
theorem Bg.at{e:TypeId}{w:World}{base:Nat}{v:Value}{l:List Value}(h:Bg e w base v l):(∃a cap,v=.slice a l.length cap)∧(l=[]∨∃g cap,v=.slice (some ⟨g,0,none⟩) l.length cap∧base≤g∧g<w.heap.size∧∀i (hi:i<l.length),w.cell? ⟨g,i,none⟩=some l[i]):=by
 obtain⟨h1,h2⟩:=h
 rcases h2 with⟨rfl,h0⟩|⟨g,cap,cur,rfl,hg,hh,hn,hm,hs,ht⟩
 ·have:l=[]:=a1u h0;subst this;exact⟨⟨_,_,rfl⟩,Or.inl rfl⟩
 ·refine⟨⟨_,_,rfl⟩,Or.inr ⟨g,cap,rfl,hg,Ab hh,fun i hi=>?_⟩⟩
  have h3:(cur.toList.take (l.length*1))[i]?=l[i]?:=by rw[ht]
  rw[List.getElem?_take,if_pos (by omega),a2z hi,a2x] at h3;rw[Aa hh,h3]
end
end
end Go.Proofs.YtkagolpnaicdoaaGreatDoor
