/-
 Build.
-/
import Derived.Test.YtkagolpnaicdoaaGreatDoorPBlkB
import Derived.StillTailTactics
set_option maxRecDepth 100000
set_option maxHeartbeats 8000000
open List renaming length_append->a0z,length_singleton->a0w,append_assoc->a1z,not_mem_nil->a1x,cons_append->a1w,nil_append->a1v
open Go.Lib renaming hid->a0x
open ByteArray renaming size_extract->a0v
open UInt8 renaming ofNat->a0u
namespace Go.Proofs.YtkagolpnaicdoaaGreatDoor
open Go.RowKit Go.Lib
structure Ni(w0:World)(B CB:Nat)(c:Aa)(acc:List UInt8)(W:World):Prop where
 fp:Fp [] w0 W
 bat:Dp 232 B B acc W
 cel:Di W CB c
theorem Ni.on{d W W':World}{B CB:Nat}{c:Aa}{a:List UInt8}(h:Ni d B CB c a W)(b:Fp [] W W'):Ni d B CB c a W':=
 ⟨h.fp.trans b (by simp),h.bat.fp b (by simp),h.cel.fp b (by simp)⟩
theorem Ni.write{b W W':World}{B CB:Nat}{c:Aa}{d a:List UInt8}(h:Ni b B CB c d W)(i:Dp 232 B B a W')(f:K5 B B W W')(j:b.heap.size<=B)(g:CB≠B):Ni b B CB c a W':=
 ⟨h.fp.bfp f j,i,f.others CB _ h.cel (fun e=>g (Option.some.inj e)) (fun l k e=>by cases e)⟩
theorem sX{l:List Aa}(h:l.length>255):Da l=(⟨#[]⟩,71):=if_pos h
theorem sY{l:List Aa}(h:¬l.length>255)(a:l.all B8=false):Da l=(⟨#[]⟩,1):=by unfold Da;rw[if_neg h,if_pos a]
theorem sZ{l:List Aa}(h:¬l.length>255)(b:l.all B8=true)(a:risC l=false):Da l=(⟨#[]⟩,40):=by unfold Da;rw[if_neg h,if_neg (by simp[b]),if_pos a]
theorem fF{l:List Aa}(h:¬l.length>255)(b:l.all B8=true)(a:risC l=true):Da l=(bl (a0u l.length::E6 0 [] l),0):=by unfold Da;rw[if_neg h,if_neg (by simp[b]),if_neg (by simp[a])]
theorem fG(w:World)(a:Option Addr)(len cap:Nat)(l:List Aa)(hl:Bh w a len l)(X:len≤9223372036854775807)(hm:Ia w):
  Calls Tryz.prog 91 #[.slice a len cap] w fun e w'=>e=.returned (.tuple #[.string (Da l).1,.int .i64 ((Da l).2:Nat)])/\Fp [] w w':=by
 have HL:=a0x hl;have HM:=a0x hm;have aa:=a0x hl.len;have av:=a0x (fun w hl=>sV w a len cap l hl X);have aF:=a0x (fun w hl=>Xu w a len cap l hl X);clear hl hm
 by_cases a1:len>255
 ·have z:(len:Int)>255:=by omega
  have HR:=a0x (sX (l:=l) (by rw[<-aa.out];exact a1));go_enter Tryz.func91,Tryz.ntmps91;go_wp2_with (fail);go_ret2;rw[HR.out];exact⟨rfl,Fp.refl _ _⟩
 have z:¬(len:Int)>255:=by omega
 have ah:¬l.length>255:=by rw[<-aa.out];exact a1
 cases hma:l.all B8
 ·have HR:=a0x (sY ah hma);rw[hma] at av;clear hma;go_enter Tryz.func91,Tryz.ntmps91;go_wp2_with (fail);(with_reducible refine(av.out _ HL.out).mono ?_);rintro e w1 ⟨rfl,d⟩;have HF:=a0x d;clear d;go_wp2_with (fail);go_ret2;rw[HR.out];exact⟨rfl,HF.out⟩
 rw[hma] at av;cases hri:risC l
 ·have HR:=a0x (sZ ah hma hri);rw[hri] at aF;clear hma hri;go_enter Tryz.func91,Tryz.ntmps91;go_wp2_with (fail);(with_reducible refine(av.out _ HL.out).mono ?_);rintro e w1 ⟨rfl,d⟩;have HF:=a0x d;clear d;go_wp2_with (fail);(with_reducible refine(aF.out _ (HL.out.fp HF.out)).mono ?_);rintro e w2 ⟨rfl,d⟩;have aS:=a0x (HF.out.trans d (by simp));clear d;go_wp2_with (fail);go_ret2;rw[HR.out];exact⟨rfl,aS.out⟩
 have HR:=a0x (fF ah hma hri);have bi:=a0x hma;rw[hri] at aF;clear hma hri;go_enter Tryz.func91,Tryz.ntmps91;go_wp2_with (fail);(with_reducible refine(av.out _ HL.out).mono ?_);rintro e w1 ⟨rfl,d⟩;have HF:=a0x d;clear d;go_wp2_with (fail);(with_reducible refine(aF.out _ (HL.out.fp HF.out)).mono ?_);rintro e w2 ⟨rfl,d⟩;have aS:=a0x (HF.out.trans d (by simp));clear d;have q:Hid (w.heap.size<=w2.heap.size):=aS.out.size
 obtain⟨B,hB⟩:∃B,w2.heap.size=B:=⟨_,rfl⟩
 have HI:Hid (Dp 232 B B [] (w2.alloc (.cells #[.pointer none,.slice none 0 0] 232))):=by unfold Hid;rw[<-hB];exact Dp.fresh _ w2
 have ak:=a0x (fun l c w h1 h2=>gC Z4 (show 232≠5 by decide) B B l c w h1 h2);have Y:=a0x (fun l s w h1 h2=>Su Z4 (show 232≠5 by decide) B B l s w h1 h2);have Z:=a0x (fun l n w h1 h2 h3=>sW B B l n w h1 h2 h3);have bj:=a0x (fun l w h=>aD (T:=232) B B l w h);have z8:=W8 len
 obtain⟨c0,ba⟩:∃c,a0u len=c:=⟨_,rfl⟩
 have bo:=a0x ba;rw[ba] at z8;clear ba;go_wp2_with (fail);(with_reducible refine(ak.out [] c0 _ HI.out (by decide)).mono ?_);rintro e w3 ⟨rfl,bh,bf⟩;have bn:Hid (Fp [] w w3):=(aS.out.alloc' _).bfp bf (by rw[<-hB];exact q.out);have bp:=a0x bh
 have q:Hid (w.heap.size<=B):=by unfold Hid;rw[<-hB];exact q.out
 clear bh bf hB
 have a3:Hid (∀l w,Dp 232 B B l w->l.length+1<=1000000000->Calls Tryz.prog 151 #[.pointer (some ⟨B,0,none⟩),.int .u8 0] w fun e w'=>e=.returned .nilIface/\Dp 232 B B (l++[0]) w'/\K5 B B w w'):=fun l w h1 h2=>ak.out l 0 w h1 h2
 have a2:Hid (∀l w,Dp 232 B B l w->l.length+1<=1000000000->Calls Tryz.prog 151 #[.pointer (some ⟨B,0,none⟩),.int .u8 1] w fun e w'=>e=.returned .nilIface/\Dp 232 B B (l++[1]) w'/\K5 B B w w'):=fun l w h1 h2=>ak.out l 1 w h1 h2
 go_wp2_with (fail)
 go_loopg [6,35] len (fun g vl vi wr=>∃(k:Nat) (last:ByteArray) (p:List UInt8),g+k=len/\vi=.int .i64 k/\vl=.string last/\Fp [] w wr/\Dp 232 B B p wr/\c0::E6 0 [] l=p++E6 k last.data.toList (l.drop k)/\p.length<=1+k*400/\last.size<=180)
 case atStart=>exact⟨0,⟨#[]⟩,[]++[c0],rfl,rfl,rfl,bn.out,bp.out,rfl,Nat.le_refl _,by decide⟩
 case round=>
  obtain⟨k,last,p,hg,rfl,rfl,d,bg,be,bq,bt⟩:=hrel;have HF:=a0x d;have W:=a0x bg;have au:=a0x be;clear d bg be
  by_cases hk:k<len
  ·have ay:k<l.length:=by rw[←aa.out];exact hk
   obtain⟨b1,o1,rfl,bv,V⟩:=Lj HL.out ay
   obtain⟨c,hc⟩:∃c,l[k]=c:=⟨_,rfl⟩
   have HD:Hid (l.drop k=c::l.drop (k+1)):=by unfold Hid;rw[<-hc];exact List.drop_eq_getElem_cons ay
   have a8:c∈l:=by rw[<-hc];exact List.getElem_mem ay
   have bk:=a0x (HL.out.ok c a8);have ap:B8 c=true:=List.all_eq_true.1 bi.out c a8;have bd:=Z3 ap;have bc:=(Sl ap).2.2;rw[hc] at V;obtain⟨q0,q1,q2,q3,q4,q5⟩:=V wr HF.out;have aq:=a0x (fun w hm=>hG c w bk.out ap hm)
   obtain⟨ky,ax⟩:∃ky:ByteArray,⟨(Bq c).toArray⟩=ky:=⟨_,rfl⟩
   have ab:Hid (ky.data.toList=Bq c):=by unfold Hid;rw[<-ax]
   have aw:ky.size<=180:=by rw[<-ax];show(Bq c).toArray.size<=180;rw[List.size_toArray];exact bd
   rw[ax] at aq;have az:=a0x (fun(x:ByteArray) w h1=>tW x ky w h1 (by omega));clear V hc a8 bd ax ap;obtain⟨j,o,J,seq,bb,b⟩:=c;have br:b.size<=100:=bc;rw[show Bm (⟨j,o,J,seq,bb,b⟩:Aa)=.agg #[.string j,.string o,.int .u64 J,.int .u64 seq,.bool bb,.string b] from rfl] at aq;have z9:=W8 b.size
   obtain⟨c1,a9⟩:∃c,a0u b.size=c:=⟨_,rfl⟩
   have a0:=a0x a9;rw[a9] at z9;clear a9 bc;cases bb
   ·by_cases h4:k%4=0
    ·have e4:(k:Int)%4=0:=by omega
     have ao:Hid (Dq k last.data.toList=(⟨#[]⟩:ByteArray).data.toList):=by unfold Hid Dq;rw[if_pos h4]
     have am:Hid ((⟨#[]⟩:ByteArray).size<=180):=by unfold Hid;decide
     go_wp2_with (fail)
     obtain⟨w8,t⟩:∃w8,wr.alloc (.cells #[.string j,.string o,.int .u64 J,.int .u64 seq,.bool false,.string b] 80)=w8:=⟨_,rfl⟩
     rw[t]
     have U:Hid (Di w8 wr.heap.size ⟨j,o,J,seq,false,b⟩):=by rw[<-t];exact Ai rfl _
     have N:Fp [] wr w8:=by rw[<-t];exact Fp.alloc _ _
     have v:Hid (Ni w B wr.heap.size ⟨j,o,J,seq,false,b⟩ p w8):=⟨HF.out.trans N (by simp),W.out.fp N (by simp),U.out⟩
     have f:wr.heap.size≠B:=by have:=Ac (W.out.at.choose_spec.2.choose_spec.1);omega
     obtain⟨CB,O⟩:∃CB,wr.heap.size=CB:=⟨_,rfl⟩
     rw[O] at v f;rw[O];clear N t O q0 q1 q2 q3 q4 q5 U;obtain⟨y0,y1,y2,y3,y4,Q,_⟩:=v.out.cel.facts0;(with_reducible refine(aq.out _ (HM.out.fp v.out.fp a1x)).mono ?_);rintro e w9 ⟨rfl,d⟩;have an:=a0x (v.out.on d);clear d;go_wp2_with (fail);(with_reducible refine(az.out ⟨#[]⟩ _ (by have:=am.out;omega)).mono ?_);rintro e a6 ⟨rfl,d⟩;have I:=a0x (an.out.on d);clear d;have ae:=Q0 (⟨#[]⟩:ByteArray).data.toList ky.data.toList
     have P:Hid (G3 (Dq k last.data.toList) ⟨j,o,J,seq,false,b⟩=two (Eu ⟨#[]⟩ ky)++two (ky.size-Eu ⟨#[]⟩ ky)++(ky.extract (Eu ⟨#[]⟩ ky) ky.size).data.toList++[Np false,a0u b.size]++b.data.toList):=by
      unfold Hid G3;rw[ao.out,show Bq ⟨j,o,J,seq,false,b⟩=ky.data.toList from ab.out.symm,extract_to_end];rfl
     have ai:ky.data.toList.length=ky.size:=rfl
     have R:Eu ⟨#[]⟩ ky<=ky.size:=by unfold Eu;omega
     obtain⟨n,X⟩:∃n,Eu ⟨#[]⟩ ky=n:=⟨_,rfl⟩
     rw[X] at R P;rw[X]
     obtain⟨m,hm⟩:∃m,ky.size-n=m:=⟨_,rfl⟩
     have em:(ky.size:Int)-(n:Int)=(m:Int):=by omega
     obtain⟨tl,u⟩:∃tl,ky.extract n ky.size=tl:=⟨_,rfl⟩
     have a7:tl.size<=180:=by rw[<-u,a0v];omega
     rw[hm,u] at P;have al:=a0x u;clear X ae ai hm u
     have af:n<=180:=by omega
     have ag:m<=180:=by omega
     go_wp2_with (fail);(with_reducible refine(Z.out p n _ I.out.bat (by omega) (by omega)).mono ?_);rintro e a5 ⟨rfl,i,d⟩;have G:=a0x (I.out.write i d q.out f);clear i d;go_wp2_with (fail);(with_reducible refine(Z.out (p++two n) m _ G.out.bat (by rw[a0z];have:(two n).length=2:=rfl;omega) (by omega)).mono ?_);rintro e ad ⟨rfl,i,d⟩;have S:=a0x (G.out.write i d q.out f);clear i d;have aj:ky.extract n ky.size=tl:=al.out
     have ar:(n:Int)<=(ky.size:Int):=by omega
     go_wp2_with (fail)
     go_still_tail 6,(by kernel_rfl)
     have F:=a0x (S.out.on (Fp.drew ad));go_wp2_with (fail);(with_reducible refine(Y.out (p++two n++two m) tl _ F.out.bat (by rw[a0z,a0z];have:(two n).length=2:=rfl;have:(two m).length=2:=rfl;omega)).mono ?_);rintro e ac ⟨rfl,i,d⟩;have r:=a0x (F.out.write i d q.out f);clear i d aj;have y4:ac.cell? ⟨CB,4,none⟩=some (.bool false):=r.out.cel.cell 4;go_wp2_with (fail);(with_reducible refine(a3.out (p++two n++two m++tl.data.toList) _ r.out.bat (by rw[a0z,a0z,a0z];have:(two n).length=2:=rfl;have:(two m).length=2:=rfl;have:tl.data.toList.length=tl.size:=rfl;omega)).mono ?_);rintro e M ⟨rfl,i,d⟩;have E:=a0x (r.out.write i d q.out f);clear i d y4;have Q:M.cell? ⟨CB,5,none⟩=some (.string b):=E.out.cel.cell 5;have K:M.drew.cell? ⟨CB,5,none⟩=some (.string b):=Q;go_wp2_with (fail)
     go_still_tail 7,(by kernel_rfl)
     have D:=a0x (E.out.on (Fp.drew M));go_wp2_with (fail);(with_reducible refine(ak.out (p++two n++two m++tl.data.toList++[0]) c1 _ D.out.bat (by simp only[a0z,a0w];have:(two n).length=2:=rfl;have:(two m).length=2:=rfl;have:tl.data.toList.length=tl.size:=rfl;omega)).mono ?_);rintro e L ⟨rfl,i,d⟩;have C:=a0x (D.out.write i d q.out f);clear i d Q K;have Q:L.cell? ⟨CB,5,none⟩=some (.string b):=C.out.cel.cell 5;have K:L.drew.cell? ⟨CB,5,none⟩=some (.string b):=Q;go_wp2_with (fail)
     go_still_tail 5,(by kernel_rfl)
     have A:=a0x (C.out.on (Fp.drew L));go_wp2_with (fail);(with_reducible refine(Y.out (p++two n++two m++tl.data.toList++[0]++[c1]) b _ A.out.bat (by simp only[a0z,a0w];have:(two n).length=2:=rfl;have:(two m).length=2:=rfl;have:tl.data.toList.length=tl.size:=rfl;omega)).mono ?_);rintro e a4 ⟨rfl,i,d⟩;have y:=a0x (A.out.write i d q.out f);clear i d Q K;go_wp2_with (fail)
     go_roundg (gk-1)
     case measure=>omega
     case rel=>
      refine⟨k+1,ky,_,by omega,by simp,rfl,y.out.fp,y.out.bat,?_,?_,aw⟩
      ·rw[au.out,HD.out,show E6 k last.data.toList (⟨j,o,J,seq,false,b⟩::l.drop (k+1))=G3 (Dq k last.data.toList) ⟨j,o,J,seq,false,b⟩++E6 (k+1) (Bq ⟨j,o,J,seq,false,b⟩) (l.drop (k+1)) from rfl,P.out,ab.out,a0.out];simp only[a1z,a1w,a1v];rfl
      ·simp only[a0z,a0w];have:(two n).length=2:=rfl;have:(two m).length=2:=rfl;have:tl.data.toList.length=tl.size:=rfl;have:b.data.toList.length=b.size:=rfl;omega
    ·have e4:¬(k:Int)%4=0:=by omega
     have ao:Hid (Dq k last.data.toList=last.data.toList):=by unfold Hid Dq;rw[if_neg h4]
     have am:Hid ((last:ByteArray).size<=180):=by unfold Hid;omega
     go_wp2_with (fail)
     obtain⟨w8,t⟩:∃w8,wr.alloc (.cells #[.string j,.string o,.int .u64 J,.int .u64 seq,.bool false,.string b] 80)=w8:=⟨_,rfl⟩
     rw[t]
     have U:Hid (Di w8 wr.heap.size ⟨j,o,J,seq,false,b⟩):=by rw[<-t];exact Ai rfl _
     have N:Fp [] wr w8:=by rw[<-t];exact Fp.alloc _ _
     have v:Hid (Ni w B wr.heap.size ⟨j,o,J,seq,false,b⟩ p w8):=⟨HF.out.trans N (by simp),W.out.fp N (by simp),U.out⟩
     have f:wr.heap.size≠B:=by have:=Ac (W.out.at.choose_spec.2.choose_spec.1);omega
     obtain⟨CB,O⟩:∃CB,wr.heap.size=CB:=⟨_,rfl⟩
     rw[O] at v f;rw[O];clear N t O q0 q1 q2 q3 q4 q5 U;obtain⟨y0,y1,y2,y3,y4,Q,_⟩:=v.out.cel.facts0;(with_reducible refine(aq.out _ (HM.out.fp v.out.fp a1x)).mono ?_);rintro e w9 ⟨rfl,d⟩;have an:=a0x (v.out.on d);clear d;go_wp2_with (fail);(with_reducible refine(az.out last _ (by have:=am.out;omega)).mono ?_);rintro e a6 ⟨rfl,d⟩;have I:=a0x (an.out.on d);clear d;have ae:=Q0 (last:ByteArray).data.toList ky.data.toList
     have P:Hid (G3 (Dq k last.data.toList) ⟨j,o,J,seq,false,b⟩=two (Eu last ky)++two (ky.size-Eu last ky)++(ky.extract (Eu last ky) ky.size).data.toList++[Np false,a0u b.size]++b.data.toList):=by
      unfold Hid G3;rw[ao.out,show Bq ⟨j,o,J,seq,false,b⟩=ky.data.toList from ab.out.symm,extract_to_end];rfl
     have ai:ky.data.toList.length=ky.size:=rfl
     have R:Eu last ky<=ky.size:=by unfold Eu;omega
     obtain⟨n,X⟩:∃n,Eu last ky=n:=⟨_,rfl⟩
     rw[X] at R P;rw[X]
     obtain⟨m,hm⟩:∃m,ky.size-n=m:=⟨_,rfl⟩
     have em:(ky.size:Int)-(n:Int)=(m:Int):=by omega
     obtain⟨tl,u⟩:∃tl,ky.extract n ky.size=tl:=⟨_,rfl⟩
     have a7:tl.size<=180:=by rw[<-u,a0v];omega
     rw[hm,u] at P;have al:=a0x u;clear X ae ai hm u
     have af:n<=180:=by omega
     have ag:m<=180:=by omega
     go_wp2_with (fail);(with_reducible refine(Z.out p n _ I.out.bat (by omega) (by omega)).mono ?_);rintro e a5 ⟨rfl,i,d⟩;have G:=a0x (I.out.write i d q.out f);clear i d;go_wp2_with (fail);(with_reducible refine(Z.out (p++two n) m _ G.out.bat (by rw[a0z];have:(two n).length=2:=rfl;omega) (by omega)).mono ?_);rintro e ad ⟨rfl,i,d⟩;have S:=a0x (G.out.write i d q.out f);clear i d;have aj:ky.extract n ky.size=tl:=al.out
     have ar:(n:Int)<=(ky.size:Int):=by omega
     go_wp2_with (fail)
     go_still_tail 6,(by kernel_rfl)
     have F:=a0x (S.out.on (Fp.drew ad));go_wp2_with (fail);(with_reducible refine(Y.out (p++two n++two m) tl _ F.out.bat (by rw[a0z,a0z];have:(two n).length=2:=rfl;have:(two m).length=2:=rfl;omega)).mono ?_);rintro e ac ⟨rfl,i,d⟩;have r:=a0x (F.out.write i d q.out f);clear i d aj;have y4:ac.cell? ⟨CB,4,none⟩=some (.bool false):=r.out.cel.cell 4;go_wp2_with (fail);(with_reducible refine(a3.out (p++two n++two m++tl.data.toList) _ r.out.bat (by rw[a0z,a0z,a0z];have:(two n).length=2:=rfl;have:(two m).length=2:=rfl;have:tl.data.toList.length=tl.size:=rfl;omega)).mono ?_);rintro e M ⟨rfl,i,d⟩;have E:=a0x (r.out.write i d q.out f);clear i d y4;have Q:M.cell? ⟨CB,5,none⟩=some (.string b):=E.out.cel.cell 5;have K:M.drew.cell? ⟨CB,5,none⟩=some (.string b):=Q;go_wp2_with (fail)
     go_still_tail 7,(by kernel_rfl)
     have D:=a0x (E.out.on (Fp.drew M));go_wp2_with (fail);(with_reducible refine(ak.out (p++two n++two m++tl.data.toList++[0]) c1 _ D.out.bat (by simp only[a0z,a0w];have:(two n).length=2:=rfl;have:(two m).length=2:=rfl;have:tl.data.toList.length=tl.size:=rfl;omega)).mono ?_);rintro e L ⟨rfl,i,d⟩;have C:=a0x (D.out.write i d q.out f);clear i d Q K;have Q:L.cell? ⟨CB,5,none⟩=some (.string b):=C.out.cel.cell 5;have K:L.drew.cell? ⟨CB,5,none⟩=some (.string b):=Q;go_wp2_with (fail)
     go_still_tail 5,(by kernel_rfl)
     have A:=a0x (C.out.on (Fp.drew L));go_wp2_with (fail);(with_reducible refine(Y.out (p++two n++two m++tl.data.toList++[0]++[c1]) b _ A.out.bat (by simp only[a0z,a0w];have:(two n).length=2:=rfl;have:(two m).length=2:=rfl;have:tl.data.toList.length=tl.size:=rfl;omega)).mono ?_);rintro e a4 ⟨rfl,i,d⟩;have y:=a0x (A.out.write i d q.out f);clear i d Q K;go_wp2_with (fail)
     go_roundg (gk-1)
     case measure=>omega
     case rel=>
      refine⟨k+1,ky,_,by omega,by simp,rfl,y.out.fp,y.out.bat,?_,?_,aw⟩
      ·rw[au.out,HD.out,show E6 k last.data.toList (⟨j,o,J,seq,false,b⟩::l.drop (k+1))=G3 (Dq k last.data.toList) ⟨j,o,J,seq,false,b⟩++E6 (k+1) (Bq ⟨j,o,J,seq,false,b⟩) (l.drop (k+1)) from rfl,P.out,ab.out,a0.out];simp only[a1z,a1w,a1v];rfl
      ·simp only[a0z,a0w];have:(two n).length=2:=rfl;have:(two m).length=2:=rfl;have:tl.data.toList.length=tl.size:=rfl;have:b.data.toList.length=b.size:=rfl;omega
   ·by_cases h4:k%4=0
    ·have e4:(k:Int)%4=0:=by omega
     have ao:Hid (Dq k last.data.toList=(⟨#[]⟩:ByteArray).data.toList):=by unfold Hid Dq;rw[if_pos h4]
     have am:Hid ((⟨#[]⟩:ByteArray).size<=180):=by unfold Hid;decide
     go_wp2_with (fail)
     obtain⟨w8,t⟩:∃w8,wr.alloc (.cells #[.string j,.string o,.int .u64 J,.int .u64 seq,.bool true,.string b] 80)=w8:=⟨_,rfl⟩
     rw[t]
     have U:Hid (Di w8 wr.heap.size ⟨j,o,J,seq,true,b⟩):=by rw[<-t];exact Ai rfl _
     have N:Fp [] wr w8:=by rw[<-t];exact Fp.alloc _ _
     have v:Hid (Ni w B wr.heap.size ⟨j,o,J,seq,true,b⟩ p w8):=⟨HF.out.trans N (by simp),W.out.fp N (by simp),U.out⟩
     have f:wr.heap.size≠B:=by have:=Ac (W.out.at.choose_spec.2.choose_spec.1);omega
     obtain⟨CB,O⟩:∃CB,wr.heap.size=CB:=⟨_,rfl⟩
     rw[O] at v f;rw[O];clear N t O q0 q1 q2 q3 q4 q5 U;obtain⟨y0,y1,y2,y3,y4,Q,_⟩:=v.out.cel.facts0;(with_reducible refine(aq.out _ (HM.out.fp v.out.fp a1x)).mono ?_);rintro e w9 ⟨rfl,d⟩;have an:=a0x (v.out.on d);clear d;go_wp2_with (fail);(with_reducible refine(az.out ⟨#[]⟩ _ (by have:=am.out;omega)).mono ?_);rintro e a6 ⟨rfl,d⟩;have I:=a0x (an.out.on d);clear d;have ae:=Q0 (⟨#[]⟩:ByteArray).data.toList ky.data.toList
     have P:Hid (G3 (Dq k last.data.toList) ⟨j,o,J,seq,true,b⟩=two (Eu ⟨#[]⟩ ky)++two (ky.size-Eu ⟨#[]⟩ ky)++(ky.extract (Eu ⟨#[]⟩ ky) ky.size).data.toList++[Np true,a0u b.size]++b.data.toList):=by
      unfold Hid G3;rw[ao.out,show Bq ⟨j,o,J,seq,true,b⟩=ky.data.toList from ab.out.symm,extract_to_end];rfl
     have ai:ky.data.toList.length=ky.size:=rfl
     have R:Eu ⟨#[]⟩ ky<=ky.size:=by unfold Eu;omega
     obtain⟨n,X⟩:∃n,Eu ⟨#[]⟩ ky=n:=⟨_,rfl⟩
     rw[X] at R P;rw[X]
     obtain⟨m,hm⟩:∃m,ky.size-n=m:=⟨_,rfl⟩
     have em:(ky.size:Int)-(n:Int)=(m:Int):=by omega
     obtain⟨tl,u⟩:∃tl,ky.extract n ky.size=tl:=⟨_,rfl⟩
     have a7:tl.size<=180:=by rw[<-u,a0v];omega
     rw[hm,u] at P;have al:=a0x u;clear X ae ai hm u
     have af:n<=180:=by omega
     have ag:m<=180:=by omega
     go_wp2_with (fail);(with_reducible refine(Z.out p n _ I.out.bat (by omega) (by omega)).mono ?_);rintro e a5 ⟨rfl,i,d⟩;have G:=a0x (I.out.write i d q.out f);clear i d;go_wp2_with (fail);(with_reducible refine(Z.out (p++two n) m _ G.out.bat (by rw[a0z];have:(two n).length=2:=rfl;omega) (by omega)).mono ?_);rintro e ad ⟨rfl,i,d⟩;have S:=a0x (G.out.write i d q.out f);clear i d;have aj:ky.extract n ky.size=tl:=al.out
     have ar:(n:Int)<=(ky.size:Int):=by omega
     go_wp2_with (fail)
     go_still_tail 6,(by kernel_rfl)
     have F:=a0x (S.out.on (Fp.drew ad));go_wp2_with (fail);(with_reducible refine(Y.out (p++two n++two m) tl _ F.out.bat (by rw[a0z,a0z];have:(two n).length=2:=rfl;have:(two m).length=2:=rfl;omega)).mono ?_);rintro e ac ⟨rfl,i,d⟩;have r:=a0x (F.out.write i d q.out f);clear i d aj;have y4:ac.cell? ⟨CB,4,none⟩=some (.bool true):=r.out.cel.cell 4;go_wp2_with (fail);(with_reducible refine(a2.out (p++two n++two m++tl.data.toList) _ r.out.bat (by rw[a0z,a0z,a0z];have:(two n).length=2:=rfl;have:(two m).length=2:=rfl;have:tl.data.toList.length=tl.size:=rfl;omega)).mono ?_);rintro e M ⟨rfl,i,d⟩;have E:=a0x (r.out.write i d q.out f);clear i d y4;have Q:M.cell? ⟨CB,5,none⟩=some (.string b):=E.out.cel.cell 5;have K:M.drew.cell? ⟨CB,5,none⟩=some (.string b):=Q;go_wp2_with (fail)
     go_still_tail 7,(by kernel_rfl)
     have D:=a0x (E.out.on (Fp.drew M));go_wp2_with (fail);(with_reducible refine(ak.out (p++two n++two m++tl.data.toList++[1]) c1 _ D.out.bat (by simp only[a0z,a0w];have:(two n).length=2:=rfl;have:(two m).length=2:=rfl;have:tl.data.toList.length=tl.size:=rfl;omega)).mono ?_);rintro e L ⟨rfl,i,d⟩;have C:=a0x (D.out.write i d q.out f);clear i d Q K;have Q:L.cell? ⟨CB,5,none⟩=some (.string b):=C.out.cel.cell 5;have K:L.drew.cell? ⟨CB,5,none⟩=some (.string b):=Q;go_wp2_with (fail)
     go_still_tail 5,(by kernel_rfl)
     have A:=a0x (C.out.on (Fp.drew L));go_wp2_with (fail);(with_reducible refine(Y.out (p++two n++two m++tl.data.toList++[1]++[c1]) b _ A.out.bat (by simp only[a0z,a0w];have:(two n).length=2:=rfl;have:(two m).length=2:=rfl;have:tl.data.toList.length=tl.size:=rfl;omega)).mono ?_);rintro e a4 ⟨rfl,i,d⟩;have y:=a0x (A.out.write i d q.out f);clear i d Q K;go_wp2_with (fail)
     go_roundg (gk-1)
     case measure=>omega
     case rel=>
      refine⟨k+1,ky,_,by omega,by simp,rfl,y.out.fp,y.out.bat,?_,?_,aw⟩
      ·rw[au.out,HD.out,show E6 k last.data.toList (⟨j,o,J,seq,true,b⟩::l.drop (k+1))=G3 (Dq k last.data.toList) ⟨j,o,J,seq,true,b⟩++E6 (k+1) (Bq ⟨j,o,J,seq,true,b⟩) (l.drop (k+1)) from rfl,P.out,ab.out,a0.out];simp only[a1z,a1w,a1v];rfl
      ·simp only[a0z,a0w];have:(two n).length=2:=rfl;have:(two m).length=2:=rfl;have:tl.data.toList.length=tl.size:=rfl;have:b.data.toList.length=b.size:=rfl;omega
    ·have e4:¬(k:Int)%4=0:=by omega
     have ao:Hid (Dq k last.data.toList=last.data.toList):=by unfold Hid Dq;rw[if_neg h4]
     have am:Hid ((last:ByteArray).size<=180):=by unfold Hid;omega
     go_wp2_with (fail)
     obtain⟨w8,t⟩:∃w8,wr.alloc (.cells #[.string j,.string o,.int .u64 J,.int .u64 seq,.bool true,.string b] 80)=w8:=⟨_,rfl⟩
     rw[t]
     have U:Hid (Di w8 wr.heap.size ⟨j,o,J,seq,true,b⟩):=by rw[<-t];exact Ai rfl _
     have N:Fp [] wr w8:=by rw[<-t];exact Fp.alloc _ _
     have v:Hid (Ni w B wr.heap.size ⟨j,o,J,seq,true,b⟩ p w8):=⟨HF.out.trans N (by simp),W.out.fp N (by simp),U.out⟩
     have f:wr.heap.size≠B:=by have:=Ac (W.out.at.choose_spec.2.choose_spec.1);omega
     obtain⟨CB,O⟩:∃CB,wr.heap.size=CB:=⟨_,rfl⟩
     rw[O] at v f;rw[O];clear N t O q0 q1 q2 q3 q4 q5 U;obtain⟨y0,y1,y2,y3,y4,Q,_⟩:=v.out.cel.facts0;(with_reducible refine(aq.out _ (HM.out.fp v.out.fp a1x)).mono ?_);rintro e w9 ⟨rfl,d⟩;have an:=a0x (v.out.on d);clear d;go_wp2_with (fail);(with_reducible refine(az.out last _ (by have:=am.out;omega)).mono ?_);rintro e a6 ⟨rfl,d⟩;have I:=a0x (an.out.on d);clear d;have ae:=Q0 (last:ByteArray).data.toList ky.data.toList
     have P:Hid (G3 (Dq k last.data.toList) ⟨j,o,J,seq,true,b⟩=two (Eu last ky)++two (ky.size-Eu last ky)++(ky.extract (Eu last ky) ky.size).data.toList++[Np true,a0u b.size]++b.data.toList):=by
      unfold Hid G3;rw[ao.out,show Bq ⟨j,o,J,seq,true,b⟩=ky.data.toList from ab.out.symm,extract_to_end];rfl
     have ai:ky.data.toList.length=ky.size:=rfl
     have R:Eu last ky<=ky.size:=by unfold Eu;omega
     obtain⟨n,X⟩:∃n,Eu last ky=n:=⟨_,rfl⟩
     rw[X] at R P;rw[X]
     obtain⟨m,hm⟩:∃m,ky.size-n=m:=⟨_,rfl⟩
     have em:(ky.size:Int)-(n:Int)=(m:Int):=by omega
     obtain⟨tl,u⟩:∃tl,ky.extract n ky.size=tl:=⟨_,rfl⟩
     have a7:tl.size<=180:=by rw[<-u,a0v];omega
     rw[hm,u] at P;have al:=a0x u;clear X ae ai hm u
     have af:n<=180:=by omega
     have ag:m<=180:=by omega
     go_wp2_with (fail);(with_reducible refine(Z.out p n _ I.out.bat (by omega) (by omega)).mono ?_);rintro e a5 ⟨rfl,i,d⟩;have G:=a0x (I.out.write i d q.out f);clear i d;go_wp2_with (fail);(with_reducible refine(Z.out (p++two n) m _ G.out.bat (by rw[a0z];have:(two n).length=2:=rfl;omega) (by omega)).mono ?_);rintro e ad ⟨rfl,i,d⟩;have S:=a0x (G.out.write i d q.out f);clear i d;have aj:ky.extract n ky.size=tl:=al.out
     have ar:(n:Int)<=(ky.size:Int):=by omega
     go_wp2_with (fail)
     go_still_tail 6,(by kernel_rfl)
     have F:=a0x (S.out.on (Fp.drew ad));go_wp2_with (fail);(with_reducible refine(Y.out (p++two n++two m) tl _ F.out.bat (by rw[a0z,a0z];have:(two n).length=2:=rfl;have:(two m).length=2:=rfl;omega)).mono ?_);rintro e ac ⟨rfl,i,d⟩;have r:=a0x (F.out.write i d q.out f);clear i d aj;have y4:ac.cell? ⟨CB,4,none⟩=some (.bool true):=r.out.cel.cell 4;go_wp2_with (fail);(with_reducible refine(a2.out (p++two n++two m++tl.data.toList) _ r.out.bat (by rw[a0z,a0z,a0z];have:(two n).length=2:=rfl;have:(two m).length=2:=rfl;have:tl.data.toList.length=tl.size:=rfl;omega)).mono ?_);rintro e M ⟨rfl,i,d⟩;have E:=a0x (r.out.write i d q.out f);clear i d y4;have Q:M.cell? ⟨CB,5,none⟩=some (.string b):=E.out.cel.cell 5;have K:M.drew.cell? ⟨CB,5,none⟩=some (.string b):=Q;go_wp2_with (fail)
     go_still_tail 7,(by kernel_rfl)
     have D:=a0x (E.out.on (Fp.drew M));go_wp2_with (fail);(with_reducible refine(ak.out (p++two n++two m++tl.data.toList++[1]) c1 _ D.out.bat (by simp only[a0z,a0w];have:(two n).length=2:=rfl;have:(two m).length=2:=rfl;have:tl.data.toList.length=tl.size:=rfl;omega)).mono ?_);rintro e L ⟨rfl,i,d⟩;have C:=a0x (D.out.write i d q.out f);clear i d Q K;have Q:L.cell? ⟨CB,5,none⟩=some (.string b):=C.out.cel.cell 5;have K:L.drew.cell? ⟨CB,5,none⟩=some (.string b):=Q;go_wp2_with (fail)
     go_still_tail 5,(by kernel_rfl)
     have A:=a0x (C.out.on (Fp.drew L));go_wp2_with (fail);(with_reducible refine(Y.out (p++two n++two m++tl.data.toList++[1]++[c1]) b _ A.out.bat (by simp only[a0z,a0w];have:(two n).length=2:=rfl;have:(two m).length=2:=rfl;have:tl.data.toList.length=tl.size:=rfl;omega)).mono ?_);rintro e a4 ⟨rfl,i,d⟩;have y:=a0x (A.out.write i d q.out f);clear i d Q K;go_wp2_with (fail)
     go_roundg (gk-1)
     case measure=>omega
     case rel=>
      refine⟨k+1,ky,_,by omega,by simp,rfl,y.out.fp,y.out.bat,?_,?_,aw⟩
      ·rw[au.out,HD.out,show E6 k last.data.toList (⟨j,o,J,seq,true,b⟩::l.drop (k+1))=G3 (Dq k last.data.toList) ⟨j,o,J,seq,true,b⟩++E6 (k+1) (Bq ⟨j,o,J,seq,true,b⟩) (l.drop (k+1)) from rfl,P.out,ab.out,a0.out];simp only[a1z,a1w,a1v];rfl
      ·simp only[a0z,a0w];have:(two n).length=2:=rfl;have:(two m).length=2:=rfl;have:tl.data.toList.length=tl.size:=rfl;have:b.data.toList.length=b.size:=rfl;omega
  ·have ay:¬(k:Int)<(len:Int):=by omega
   have HD:Hid (l.drop k=[]):=List.drop_eq_nil_of_le (by rw[<-aa.out];omega);go_wp2_with (fail);(with_reducible refine(bj.out p _ W.out).mono ?_);rintro e w4 ⟨rfl,i⟩;have bm:Hid (Fp [] w w4):=HF.out.belowTrans (i.mono q.out);clear i;go_wp2_with (fail);go_ret2;rw[HR.out,<-aa.out,bo.out,au.out,HD.out];exact⟨by rw[show E6 k last.data.toList []=[] from rfl,List.append_nil];rfl,bm.out⟩
end Go.Proofs.YtkagolpnaicdoaaGreatDoor
