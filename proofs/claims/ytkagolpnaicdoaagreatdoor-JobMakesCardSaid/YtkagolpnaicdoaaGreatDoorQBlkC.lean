/- Lemmas. -/
import Derived.Test.YtkagolpnaicdoaaGreatDoorQBlkB
import Derived.StillTailTactics
import Derived.Test.YtkagolpnaicdoaaGreatDoorQSymB
import Derived.OwnWalkIn
import Derived.TacticsInMore
set_option maxRecDepth 100000
set_option maxHeartbeats 8000000
open Go.Lib renaming hid->X
open List renaming length_append->Y,length_singleton->a0z,setIfInBounds_toArray->a0x,set_cons_succ->a0v,set_cons_zero->a0u,getElem?_eq_getElem->a1w,not_mem_nil->a1v,append_assoc->a2u,cons_append->a3x,nil_append->a3w,eq_nil_of_length_eq_zero->a3v,getD_eq_getElem?_getD->a4x
open UInt8 renaming ofNat->Z
open Go.IntKind renaming wrap_u32->a0w,wrap_i64->a1u
open ByteArray renaming size_extract->a1z,size_append->a4v
open Nat renaming xor_lt_two_pow->a1x,mod_two_eq_zero_or_one->a2x,mod_eq_of_lt->a2v,two_pow_add_eq_or_of_lt->a3u,xor_assoc->a4z,le_trans->a4u
open BitVec renaming toNat_ofNat->a2z,ofInt->a2w,ofInt_natCast->a3z
open Array renaming getElem?_toList->a4w
namespace Go.Proofs.YtkagolpnaicdoaaGreatDoor
section
open Go.RowKit Go.Lib
structure Ni(w0:World)(B CB:Nat)(c:Ac)(acc:List UInt8)(W:World):Prop where
 fp:Fp [] w0 W
 bat:D5 232 B B acc W
 cel:C3 W CB c
theorem Ni.on{d W W':World}{B CB:Nat}{c:Ac}{a:List UInt8}(h:Ni d B CB c a W)(b:Fp [] W W'):Ni d B CB c a W':=
 ⟨h.fp.trans b,h.bat.fp b,h.cel.fp b⟩
theorem Ni.write{b W W':World}{B CB:Nat}{c:Ac}{d a:List UInt8}(h:Ni b B CB c d W)(j:D5 232 B B a W')(g:Lp B B W W')(k:b.heap.size<=B)(i:CB≠B):Ni b B CB c a W':=
 ⟨h.fp.bfp g k,j,g.others CB _ h.cel (fun e=>i (Option.some.inj e)) (fun m l e=>by cases e)⟩
theorem eG{l:List Ac}(h:l.length>255):Ec l=(⟨#[]⟩,71):=if_pos h
theorem eH{l:List Ac}(h:¬l.length>255)(a:l.all Bh=false):Ec l=(⟨#[]⟩,1):=by unfold Ec;rw[if_neg h,if_pos a]
theorem eI{l:List Ac}(h:¬l.length>255)(b:l.all Bh=true)(a:risC l=false):Ec l=(⟨#[]⟩,40):=by unfold Ec;rw[if_neg h,if_neg (by simp[b]),if_pos a]
theorem Y9{l:List Ac}(h:¬l.length>255)(b:l.all Bh=true)(a:risC l=true):Ec l=(bl (Z l.length::Ef 0 [] l),0):=by unfold Ec;rw[if_neg h,if_neg (by simp[b]),if_neg (by simp[a])]
theorem rC(w:World)(a:Option Addr)(len cap:Nat)(l:List Ac)(hl:Ba w a len l)(hn:len≤9223372036854775807)(hm:M5 w):
  Calls Tryz.prog 91 #[.slice a len cap] w fun e w'=>e=.returned (.tuple #[.string (Ec l).1,.int .i64 ((Ec l).2:Nat)])/\Fp [] w w':=by
 have HL:=X hl;have HM:=X hm;have ae:=X hl.len;have az:=X (fun w hl=>rA w a len cap l hl hn);have a4:=X (fun w hl=>W8 w a len cap l hl hn);clear hl hm;by_cases a7:len>255
 .have z:(len:Int)>255:=by omega
  have HR:=X (eG (l:=l) (by rw[<-ae.o];exact a7));go_in;go_wp2_with fail;go_ret2;rw[HR.o];exact⟨rfl,Fp.refl _ _⟩
 have z:¬(len:Int)>255:=by omega
 have al:¬l.length>255:=by rw[<-ae.o];exact a7
 cases hma:l.all Bh
 .have HR:=X (eH al hma);rw[hma] at az;clear hma;go_in;go_wp2_with fail;refine(az.o _ HL.o).nexh fun w1 HF=>?_;go_wp2_with fail;go_ret2;rw[HR.o];exact⟨rfl,HF.o⟩
 rw[hma] at az;cases hri:risC l
 .have HR:=X (eI al hma hri);rw[hri] at a4;clear hma hri;go_in;go_wp2_with fail;refine(az.o _ HL.o).nexh fun w1 HF=>?_;go_wp2_with fail;refine(a4.o _ (HL.o.fp HF.o)).next HF fun w2 a5=>?_;go_wp2_with fail;go_ret2;rw[HR.o];exact⟨rfl,a5.o⟩
 have HR:=X (Y9 al hma hri);have bp:=X hma;rw[hri] at a4;clear hma hri;go_in;go_wp2_with fail;refine(az.o _ HL.o).nexh fun w1 HF=>?_;go_wp2_with fail;refine(a4.o _ (HL.o.fp HF.o)).next HF fun w2 a5=>?_;have t:Hid (w.heap.size<=w2.heap.size):=a5.o.size;obtain⟨B,hB⟩:=Aa w2.heap.size
 have HI:Hid (D5 232 B B [] (w2.alloc (.cells #[.pointer none,.slice none 0 0] 232))):=by unfold Hid;rw[<-hB];exact D5.fresh _ w2
 have ao:=X (fun l c w h1 h2=>fZ Y8 (show 232≠5 by decide) B B l c w h1 h2);have ac:=X (fun l s w h1 h2=>Wv Y8 (show 232≠5 by decide) B B l s w h1 h2);have ad:=X (fun l n w h1 h2 h3=>rB B B l n w h1 h2 h3);have bq:=X (fun l w h=>gA (T:=232) B B l w h);have z8:=Wa len;obtain⟨c0,bg⟩:=Aa (Z len);have bv:=X bg;rw[bg] at z8;clear bg;go_wp2_with fail;refine(ao.o [] c0 _ HI.o (by decide)).mono ?_;rintro e w3 ⟨rfl,bo,bm⟩;have bt:Hid (Fp [] w w3):=(a5.o.alloc' _).bfp bm (by rw[<-hB];exact t.o);have bw:=X bo
 have t:Hid (w.heap.size<=B):=by unfold Hid;rw[<-hB];exact t.o
 clear bo bm hB;have a9:Hid (∀l w,D5 232 B B l w->l.length+1<=1000000000->Calls Tryz.prog 151 #[.pointer (some ⟨B,0,none⟩),.int .u8 0] w fun e w'=>e=.returned .nilIface/\D5 232 B B (l++[0]) w'/\Lp B B w w'):=fun l w h1 h2=>ao.o l 0 w h1 h2;have a8:Hid (∀l w,D5 232 B B l w->l.length+1<=1000000000->Calls Tryz.prog 151 #[.pointer (some ⟨B,0,none⟩),.int .u8 1] w fun e w'=>e=.returned .nilIface/\D5 232 B B (l++[1]) w'/\Lp B B w w'):=fun l w h1 h2=>ao.o l 1 w h1 h2;go_wp2_with fail
 go_loopg [6,35] len (fun g vl vi wr=>∃(k:Nat) (last:ByteArray) (r:List UInt8),g+k=len/\vi=.int .i64 k/\vl=.string last/\Fp [] w wr/\D5 232 B B r wr/\c0::Ef 0 [] l=r++Ef k last.data.toList (l.drop k)/\r.length<=1+k*400/\last.size<=180)
 case atStart=>exact⟨0,⟨#[]⟩,[]++[c0],rfl,rfl,rfl,bt.o,bw.o,rfl,Nat.le_refl _,by decide⟩
 case round=>
  obtain⟨k,last,r,hg,rfl,rfl,d,bn,bk,bx,b0⟩:=hrel;have HF:=X d;have ab:=X bn;have ay:=X bk;clear d bn bk;by_cases hk:k<len
  .have a2:k<l.length:=(by rw[←ae.o];exact hk)
   obtain⟨b1,o1,rfl,b2,aa⟩:=J2 HL.o a2;obtain⟨c,hc⟩:=Aa (l[k])
   have HD:Hid (l.drop k=c::l.drop (k+1)):=(by unfold Hid;rw[<-hc];exact List.drop_eq_getElem_cons a2)
   have be:c∈l:=(by rw[<-hc];exact List.getElem_mem a2)
   have br:=X (HL.o.ok c be);have av:Bh c=true:=List.all_eq_true.1 bp.o c be;have bj:=Un av;have bi:=(Rz av).2.2;rw[hc] at aa;obtain⟨q0,q1,q2,q3,q4,q5⟩:=aa wr HF.o;have aw:=X (fun w hm=>tZ c w br.o av hm)
   obtain⟨ky,a1⟩:∃ky:ByteArray,⟨(B7 c).toArray⟩=ky:=⟨_,rfl⟩
   have af:Hid (ky.data.toList=B7 c):=(by unfold Hid;rw[<-a1])
   have a0:ky.size<=180:=(by rw[<-a1];show(B7 c).toArray.size<=180;rw[List.size_toArray];exact bj)
   rw[a1] at aw;have a3:=X (fun(x:ByteArray) w h1=>sT x ky w h1 (by omega));clear aa hc be bj a1 av;obtain⟨p,q,L,seq,bh,b⟩:=c;have bz:b.size<=100:=bi;rw[show A7 (⟨p,q,L,seq,bh,b⟩:Ac)=.agg #[.string p,.string q,.int .u64 L,.int .u64 seq,.bool bh,.string b] from rfl] at aw;have z9:=Wa b.size;obtain⟨c1,bf⟩:=Aa (Z b.size);have a6:=X bf;rw[bf] at z9;clear bf bi;cases bh
   .by_cases h4:k%4=0
    .have e4:(k:Int)%4=0:=(by omega)
     have au:Hid (D9 k last.data.toList=(⟨#[]⟩:ByteArray).data.toList):=(by unfold Hid D9;rw[if_pos h4])
     have aq:Hid ((⟨#[]⟩:ByteArray).size<=180):=(by unfold Hid;decide)
     go_wp2_with fail;obtain⟨w8,v⟩:=Aa (wr.alloc (.cells #[.string p,.string q,.int .u64 L,.int .u64 seq,.bool false,.string b] 80));rw[v]
     have W:Hid (C3 w8 wr.heap.size ⟨p,q,L,seq,false,b⟩):=(by rw[<-v];exact Ai rfl _)
     have P:Fp [] wr w8:=(by rw[<-v];exact Fp.alloc _ _)
     have A:Hid (Ni w B wr.heap.size ⟨p,q,L,seq,false,b⟩ r w8):=⟨HF.o.trans P,ab.o.fp P,W.o⟩
     have i:wr.heap.size≠B:=by have:=Ae (ab.o.at.choose_spec.2.choose_spec.1);omega
     obtain⟨CB,Q⟩:=Aa wr.heap.size;rw[Q] at A i;rw[Q];clear P v Q q0 q1 q2 q3 q4 q5 W;obtain⟨y0,y1,y2,y3,y4,S,_⟩:=A.o.cel.facts0;refine(aw.o _ (HM.o.fp A.o.fp a1v)).mono ?_;rintro e w9 ⟨rfl,d⟩;have ar:=X (A.o.on d);clear d;go_wp2_with fail;refine(a3.o ⟨#[]⟩ _ (by have:=aq.o;omega)).mono ?_;rintro e bc ⟨rfl,d⟩;have K:=X (ar.o.on d);clear d;have ai:=Qr (⟨#[]⟩:ByteArray).data.toList ky.data.toList;have R:Hid (Fg (D9 k last.data.toList) ⟨p,q,L,seq,false,b⟩=two (Da ⟨#[]⟩ ky)++two (ky.size-Da ⟨#[]⟩ ky)++(ky.extract (Da ⟨#[]⟩ ky) ky.size).data.toList++[On false,Z b.size]++b.data.toList):=by
      unfold Hid Fg;rw[au.o,show B7 ⟨p,q,L,seq,false,b⟩=ky.data.toList from af.o.symm,extract_to_end];rfl
     have am:ky.data.toList.length=ky.size:=rfl
     have U:Da ⟨#[]⟩ ky<=ky.size:=(by unfold Da;omega)
     obtain⟨n,hn⟩:=Aa (Da ⟨#[]⟩ ky);rw[hn] at U R;rw[hn];obtain⟨m,hm⟩:=Aa (ky.size-n)
     have em:(ky.size:Int)-(n:Int)=(m:Int):=(by omega)
     obtain⟨tl,y⟩:=Aa (ky.extract n ky.size)
     have bd:tl.size<=180:=(by rw[<-y,a1z];omega)
     rw[hm,y] at R;have ap:=X y;clear hn ai am hm y
     have aj:n<=180:=(by omega)
     have ak:m<=180:=(by omega)
     go_wp2_with fail;refine(ad.o r n _ K.o.bat (by omega) (by omega)).mono ?_;rintro e bb ⟨rfl,j,d⟩;have J:=X (K.o.write j d t.o i);clear j d;go_wp2_with fail;refine(ad.o (r++two n) m _ J.o.bat (by rw[Y];have:(two n).length=2:=rfl;omega) (by omega)).mono ?_;rintro e ah ⟨rfl,j,d⟩;have V:=X (J.o.write j d t.o i);clear j d;have an:ky.extract n ky.size=tl:=ap.o
     have ax:(n:Int)<=(ky.size:Int):=(by omega)
     go_wp2_with fail
     go_still_tail 6,(by kernel_rfl)
     have I:=X (V.o.on (Fp.drew ah));go_wp2_with fail;refine(ac.o (r++two n++two m) tl _ I.o.bat (by rw[Y,Y];have:(two n).length=2:=rfl;have:(two m).length=2:=rfl;omega)).mono ?_;rintro e ag ⟨rfl,j,d⟩;have u:=X (I.o.write j d t.o i);clear j d an;have y4:ag.cell? ⟨CB,4,none⟩=some (.bool false):=u.o.cel.cell 4;go_wp2_with fail;refine(a9.o (r++two n++two m++tl.data.toList) _ u.o.bat (by rw[Y,Y,Y];have:(two n).length=2:=rfl;have:(two m).length=2:=rfl;have:tl.data.toList.length=tl.size:=rfl;omega)).mono ?_;rintro e O ⟨rfl,j,d⟩;have G:=X (u.o.write j d t.o i);clear j d y4;have S:O.cell? ⟨CB,5,none⟩=some (.string b):=G.o.cel.cell 5;have M:O.drew.cell? ⟨CB,5,none⟩=some (.string b):=S;go_wp2_with fail
     go_still_tail 7,(by kernel_rfl)
     have F:=X (G.o.on (Fp.drew O));go_wp2_with fail;refine(ao.o (r++two n++two m++tl.data.toList++[0]) c1 _ F.o.bat (by simp only[Y,a0z];have:(two n).length=2:=rfl;have:(two m).length=2:=rfl;have:tl.data.toList.length=tl.size:=rfl;omega)).mono ?_;rintro e N ⟨rfl,j,d⟩;have E:=X (F.o.write j d t.o i);clear j d S M;have S:N.cell? ⟨CB,5,none⟩=some (.string b):=E.o.cel.cell 5;have M:N.drew.cell? ⟨CB,5,none⟩=some (.string b):=S;go_wp2_with fail
     go_still_tail 5,(by kernel_rfl)
     have D:=X (E.o.on (Fp.drew N));go_wp2_with fail;refine(ac.o (r++two n++two m++tl.data.toList++[0]++[c1]) b _ D.o.bat (by simp only[Y,a0z];have:(two n).length=2:=rfl;have:(two m).length=2:=rfl;have:tl.data.toList.length=tl.size:=rfl;omega)).mono ?_;rintro e ba ⟨rfl,j,d⟩;have C:=X (D.o.write j d t.o i);clear j d S M;go_wp2_with fail
     go_roundg (gk-1)
     case measure=>omega
     case rel=>
      refine⟨k+1,ky,_,by omega,by simp,rfl,C.o.fp,C.o.bat,?_,?_,a0⟩
      .rw[ay.o,HD.o,show Ef k last.data.toList (⟨p,q,L,seq,false,b⟩::l.drop (k+1))=Fg (D9 k last.data.toList) ⟨p,q,L,seq,false,b⟩++Ef (k+1) (B7 ⟨p,q,L,seq,false,b⟩) (l.drop (k+1)) from rfl,R.o,af.o,a6.o];simp only[a2u,a3x,a3w];rfl
      .simp only[Y,a0z];have:(two n).length=2:=rfl;have:(two m).length=2:=rfl;have:tl.data.toList.length=tl.size:=rfl;have:b.data.toList.length=b.size:=rfl;omega
    .have e4:¬(k:Int)%4=0:=(by omega)
     have au:Hid (D9 k last.data.toList=last.data.toList):=(by unfold Hid D9;rw[if_neg h4])
     have aq:Hid ((last:ByteArray).size<=180):=(by unfold Hid;omega)
     go_wp2_with fail;obtain⟨w8,v⟩:=Aa (wr.alloc (.cells #[.string p,.string q,.int .u64 L,.int .u64 seq,.bool false,.string b] 80));rw[v]
     have W:Hid (C3 w8 wr.heap.size ⟨p,q,L,seq,false,b⟩):=(by rw[<-v];exact Ai rfl _)
     have P:Fp [] wr w8:=(by rw[<-v];exact Fp.alloc _ _)
     have A:Hid (Ni w B wr.heap.size ⟨p,q,L,seq,false,b⟩ r w8):=⟨HF.o.trans P,ab.o.fp P,W.o⟩
     have i:wr.heap.size≠B:=by have:=Ae (ab.o.at.choose_spec.2.choose_spec.1);omega
     obtain⟨CB,Q⟩:=Aa wr.heap.size;rw[Q] at A i;rw[Q];clear P v Q q0 q1 q2 q3 q4 q5 W;obtain⟨y0,y1,y2,y3,y4,S,_⟩:=A.o.cel.facts0;refine(aw.o _ (HM.o.fp A.o.fp a1v)).mono ?_;rintro e w9 ⟨rfl,d⟩;have ar:=X (A.o.on d);clear d;go_wp2_with fail;refine(a3.o last _ (by have:=aq.o;omega)).mono ?_;rintro e bc ⟨rfl,d⟩;have K:=X (ar.o.on d);clear d;have ai:=Qr (last:ByteArray).data.toList ky.data.toList;have R:Hid (Fg (D9 k last.data.toList) ⟨p,q,L,seq,false,b⟩=two (Da last ky)++two (ky.size-Da last ky)++(ky.extract (Da last ky) ky.size).data.toList++[On false,Z b.size]++b.data.toList):=by
      unfold Hid Fg;rw[au.o,show B7 ⟨p,q,L,seq,false,b⟩=ky.data.toList from af.o.symm,extract_to_end];rfl
     have am:ky.data.toList.length=ky.size:=rfl
     have U:Da last ky<=ky.size:=(by unfold Da;omega)
     obtain⟨n,hn⟩:=Aa (Da last ky);rw[hn] at U R;rw[hn];obtain⟨m,hm⟩:=Aa (ky.size-n)
     have em:(ky.size:Int)-(n:Int)=(m:Int):=(by omega)
     obtain⟨tl,y⟩:=Aa (ky.extract n ky.size)
     have bd:tl.size<=180:=(by rw[<-y,a1z];omega)
     rw[hm,y] at R;have ap:=X y;clear hn ai am hm y
     have aj:n<=180:=(by omega)
     have ak:m<=180:=(by omega)
     go_wp2_with fail;refine(ad.o r n _ K.o.bat (by omega) (by omega)).mono ?_;rintro e bb ⟨rfl,j,d⟩;have J:=X (K.o.write j d t.o i);clear j d;go_wp2_with fail;refine(ad.o (r++two n) m _ J.o.bat (by rw[Y];have:(two n).length=2:=rfl;omega) (by omega)).mono ?_;rintro e ah ⟨rfl,j,d⟩;have V:=X (J.o.write j d t.o i);clear j d;have an:ky.extract n ky.size=tl:=ap.o
     have ax:(n:Int)<=(ky.size:Int):=(by omega)
     go_wp2_with fail
     go_still_tail 6,(by kernel_rfl)
     have I:=X (V.o.on (Fp.drew ah));go_wp2_with fail;refine(ac.o (r++two n++two m) tl _ I.o.bat (by rw[Y,Y];have:(two n).length=2:=rfl;have:(two m).length=2:=rfl;omega)).mono ?_;rintro e ag ⟨rfl,j,d⟩;have u:=X (I.o.write j d t.o i);clear j d an;have y4:ag.cell? ⟨CB,4,none⟩=some (.bool false):=u.o.cel.cell 4;go_wp2_with fail;refine(a9.o (r++two n++two m++tl.data.toList) _ u.o.bat (by rw[Y,Y,Y];have:(two n).length=2:=rfl;have:(two m).length=2:=rfl;have:tl.data.toList.length=tl.size:=rfl;omega)).mono ?_;rintro e O ⟨rfl,j,d⟩;have G:=X (u.o.write j d t.o i);clear j d y4;have S:O.cell? ⟨CB,5,none⟩=some (.string b):=G.o.cel.cell 5;have M:O.drew.cell? ⟨CB,5,none⟩=some (.string b):=S;go_wp2_with fail
     go_still_tail 7,(by kernel_rfl)
     have F:=X (G.o.on (Fp.drew O));go_wp2_with fail;refine(ao.o (r++two n++two m++tl.data.toList++[0]) c1 _ F.o.bat (by simp only[Y,a0z];have:(two n).length=2:=rfl;have:(two m).length=2:=rfl;have:tl.data.toList.length=tl.size:=rfl;omega)).mono ?_;rintro e N ⟨rfl,j,d⟩;have E:=X (F.o.write j d t.o i);clear j d S M;have S:N.cell? ⟨CB,5,none⟩=some (.string b):=E.o.cel.cell 5;have M:N.drew.cell? ⟨CB,5,none⟩=some (.string b):=S;go_wp2_with fail
     go_still_tail 5,(by kernel_rfl)
     have D:=X (E.o.on (Fp.drew N));go_wp2_with fail;refine(ac.o (r++two n++two m++tl.data.toList++[0]++[c1]) b _ D.o.bat (by simp only[Y,a0z];have:(two n).length=2:=rfl;have:(two m).length=2:=rfl;have:tl.data.toList.length=tl.size:=rfl;omega)).mono ?_;rintro e ba ⟨rfl,j,d⟩;have C:=X (D.o.write j d t.o i);clear j d S M;go_wp2_with fail
     go_roundg (gk-1)
     case measure=>omega
     case rel=>
      refine⟨k+1,ky,_,by omega,by simp,rfl,C.o.fp,C.o.bat,?_,?_,a0⟩
      .rw[ay.o,HD.o,show Ef k last.data.toList (⟨p,q,L,seq,false,b⟩::l.drop (k+1))=Fg (D9 k last.data.toList) ⟨p,q,L,seq,false,b⟩++Ef (k+1) (B7 ⟨p,q,L,seq,false,b⟩) (l.drop (k+1)) from rfl,R.o,af.o,a6.o];simp only[a2u,a3x,a3w];rfl
      .simp only[Y,a0z];have:(two n).length=2:=rfl;have:(two m).length=2:=rfl;have:tl.data.toList.length=tl.size:=rfl;have:b.data.toList.length=b.size:=rfl;omega
   .by_cases h4:k%4=0
    .have e4:(k:Int)%4=0:=(by omega)
     have au:Hid (D9 k last.data.toList=(⟨#[]⟩:ByteArray).data.toList):=(by unfold Hid D9;rw[if_pos h4])
     have aq:Hid ((⟨#[]⟩:ByteArray).size<=180):=(by unfold Hid;decide)
     go_wp2_with fail;obtain⟨w8,v⟩:=Aa (wr.alloc (.cells #[.string p,.string q,.int .u64 L,.int .u64 seq,.bool true,.string b] 80));rw[v]
     have W:Hid (C3 w8 wr.heap.size ⟨p,q,L,seq,true,b⟩):=(by rw[<-v];exact Ai rfl _)
     have P:Fp [] wr w8:=(by rw[<-v];exact Fp.alloc _ _)
     have A:Hid (Ni w B wr.heap.size ⟨p,q,L,seq,true,b⟩ r w8):=⟨HF.o.trans P,ab.o.fp P,W.o⟩
     have i:wr.heap.size≠B:=by have:=Ae (ab.o.at.choose_spec.2.choose_spec.1);omega
     obtain⟨CB,Q⟩:=Aa wr.heap.size;rw[Q] at A i;rw[Q];clear P v Q q0 q1 q2 q3 q4 q5 W;obtain⟨y0,y1,y2,y3,y4,S,_⟩:=A.o.cel.facts0;refine(aw.o _ (HM.o.fp A.o.fp a1v)).mono ?_;rintro e w9 ⟨rfl,d⟩;have ar:=X (A.o.on d);clear d;go_wp2_with fail;refine(a3.o ⟨#[]⟩ _ (by have:=aq.o;omega)).mono ?_;rintro e bc ⟨rfl,d⟩;have K:=X (ar.o.on d);clear d;have ai:=Qr (⟨#[]⟩:ByteArray).data.toList ky.data.toList;have R:Hid (Fg (D9 k last.data.toList) ⟨p,q,L,seq,true,b⟩=two (Da ⟨#[]⟩ ky)++two (ky.size-Da ⟨#[]⟩ ky)++(ky.extract (Da ⟨#[]⟩ ky) ky.size).data.toList++[On true,Z b.size]++b.data.toList):=by
      unfold Hid Fg;rw[au.o,show B7 ⟨p,q,L,seq,true,b⟩=ky.data.toList from af.o.symm,extract_to_end];rfl
     have am:ky.data.toList.length=ky.size:=rfl
     have U:Da ⟨#[]⟩ ky<=ky.size:=(by unfold Da;omega)
     obtain⟨n,hn⟩:=Aa (Da ⟨#[]⟩ ky);rw[hn] at U R;rw[hn];obtain⟨m,hm⟩:=Aa (ky.size-n)
     have em:(ky.size:Int)-(n:Int)=(m:Int):=(by omega)
     obtain⟨tl,y⟩:=Aa (ky.extract n ky.size)
     have bd:tl.size<=180:=(by rw[<-y,a1z];omega)
     rw[hm,y] at R;have ap:=X y;clear hn ai am hm y
     have aj:n<=180:=(by omega)
     have ak:m<=180:=(by omega)
     go_wp2_with fail;refine(ad.o r n _ K.o.bat (by omega) (by omega)).mono ?_;rintro e bb ⟨rfl,j,d⟩;have J:=X (K.o.write j d t.o i);clear j d;go_wp2_with fail;refine(ad.o (r++two n) m _ J.o.bat (by rw[Y];have:(two n).length=2:=rfl;omega) (by omega)).mono ?_;rintro e ah ⟨rfl,j,d⟩;have V:=X (J.o.write j d t.o i);clear j d;have an:ky.extract n ky.size=tl:=ap.o
     have ax:(n:Int)<=(ky.size:Int):=(by omega)
     go_wp2_with fail
     go_still_tail 6,(by kernel_rfl)
     have I:=X (V.o.on (Fp.drew ah));go_wp2_with fail;refine(ac.o (r++two n++two m) tl _ I.o.bat (by rw[Y,Y];have:(two n).length=2:=rfl;have:(two m).length=2:=rfl;omega)).mono ?_;rintro e ag ⟨rfl,j,d⟩;have u:=X (I.o.write j d t.o i);clear j d an;have y4:ag.cell? ⟨CB,4,none⟩=some (.bool true):=u.o.cel.cell 4;go_wp2_with fail;refine(a8.o (r++two n++two m++tl.data.toList) _ u.o.bat (by rw[Y,Y,Y];have:(two n).length=2:=rfl;have:(two m).length=2:=rfl;have:tl.data.toList.length=tl.size:=rfl;omega)).mono ?_;rintro e O ⟨rfl,j,d⟩;have G:=X (u.o.write j d t.o i);clear j d y4;have S:O.cell? ⟨CB,5,none⟩=some (.string b):=G.o.cel.cell 5;have M:O.drew.cell? ⟨CB,5,none⟩=some (.string b):=S;go_wp2_with fail
     go_still_tail 7,(by kernel_rfl)
     have F:=X (G.o.on (Fp.drew O));go_wp2_with fail;refine(ao.o (r++two n++two m++tl.data.toList++[1]) c1 _ F.o.bat (by simp only[Y,a0z];have:(two n).length=2:=rfl;have:(two m).length=2:=rfl;have:tl.data.toList.length=tl.size:=rfl;omega)).mono ?_;rintro e N ⟨rfl,j,d⟩;have E:=X (F.o.write j d t.o i);clear j d S M;have S:N.cell? ⟨CB,5,none⟩=some (.string b):=E.o.cel.cell 5;have M:N.drew.cell? ⟨CB,5,none⟩=some (.string b):=S;go_wp2_with fail
     go_still_tail 5,(by kernel_rfl)
     have D:=X (E.o.on (Fp.drew N));go_wp2_with fail;refine(ac.o (r++two n++two m++tl.data.toList++[1]++[c1]) b _ D.o.bat (by simp only[Y,a0z];have:(two n).length=2:=rfl;have:(two m).length=2:=rfl;have:tl.data.toList.length=tl.size:=rfl;omega)).mono ?_;rintro e ba ⟨rfl,j,d⟩;have C:=X (D.o.write j d t.o i);clear j d S M;go_wp2_with fail
     go_roundg (gk-1)
     case measure=>omega
     case rel=>
      refine⟨k+1,ky,_,by omega,by simp,rfl,C.o.fp,C.o.bat,?_,?_,a0⟩
      .rw[ay.o,HD.o,show Ef k last.data.toList (⟨p,q,L,seq,true,b⟩::l.drop (k+1))=Fg (D9 k last.data.toList) ⟨p,q,L,seq,true,b⟩++Ef (k+1) (B7 ⟨p,q,L,seq,true,b⟩) (l.drop (k+1)) from rfl,R.o,af.o,a6.o];simp only[a2u,a3x,a3w];rfl
      .simp only[Y,a0z];have:(two n).length=2:=rfl;have:(two m).length=2:=rfl;have:tl.data.toList.length=tl.size:=rfl;have:b.data.toList.length=b.size:=rfl;omega
    .have e4:¬(k:Int)%4=0:=(by omega)
     have au:Hid (D9 k last.data.toList=last.data.toList):=(by unfold Hid D9;rw[if_neg h4])
     have aq:Hid ((last:ByteArray).size<=180):=(by unfold Hid;omega)
     go_wp2_with fail;obtain⟨w8,v⟩:=Aa (wr.alloc (.cells #[.string p,.string q,.int .u64 L,.int .u64 seq,.bool true,.string b] 80));rw[v]
     have W:Hid (C3 w8 wr.heap.size ⟨p,q,L,seq,true,b⟩):=(by rw[<-v];exact Ai rfl _)
     have P:Fp [] wr w8:=(by rw[<-v];exact Fp.alloc _ _)
     have A:Hid (Ni w B wr.heap.size ⟨p,q,L,seq,true,b⟩ r w8):=⟨HF.o.trans P,ab.o.fp P,W.o⟩
     have i:wr.heap.size≠B:=by have:=Ae (ab.o.at.choose_spec.2.choose_spec.1);omega
     obtain⟨CB,Q⟩:=Aa wr.heap.size;rw[Q] at A i;rw[Q];clear P v Q q0 q1 q2 q3 q4 q5 W;obtain⟨y0,y1,y2,y3,y4,S,_⟩:=A.o.cel.facts0;refine(aw.o _ (HM.o.fp A.o.fp a1v)).mono ?_;rintro e w9 ⟨rfl,d⟩;have ar:=X (A.o.on d);clear d;go_wp2_with fail;refine(a3.o last _ (by have:=aq.o;omega)).mono ?_;rintro e bc ⟨rfl,d⟩;have K:=X (ar.o.on d);clear d;have ai:=Qr (last:ByteArray).data.toList ky.data.toList;have R:Hid (Fg (D9 k last.data.toList) ⟨p,q,L,seq,true,b⟩=two (Da last ky)++two (ky.size-Da last ky)++(ky.extract (Da last ky) ky.size).data.toList++[On true,Z b.size]++b.data.toList):=by
      unfold Hid Fg;rw[au.o,show B7 ⟨p,q,L,seq,true,b⟩=ky.data.toList from af.o.symm,extract_to_end];rfl
     have am:ky.data.toList.length=ky.size:=rfl
     have U:Da last ky<=ky.size:=(by unfold Da;omega)
     obtain⟨n,hn⟩:=Aa (Da last ky);rw[hn] at U R;rw[hn];obtain⟨m,hm⟩:=Aa (ky.size-n)
     have em:(ky.size:Int)-(n:Int)=(m:Int):=(by omega)
     obtain⟨tl,y⟩:=Aa (ky.extract n ky.size)
     have bd:tl.size<=180:=(by rw[<-y,a1z];omega)
     rw[hm,y] at R;have ap:=X y;clear hn ai am hm y
     have aj:n<=180:=(by omega)
     have ak:m<=180:=(by omega)
     go_wp2_with fail;refine(ad.o r n _ K.o.bat (by omega) (by omega)).mono ?_;rintro e bb ⟨rfl,j,d⟩;have J:=X (K.o.write j d t.o i);clear j d;go_wp2_with fail;refine(ad.o (r++two n) m _ J.o.bat (by rw[Y];have:(two n).length=2:=rfl;omega) (by omega)).mono ?_;rintro e ah ⟨rfl,j,d⟩;have V:=X (J.o.write j d t.o i);clear j d;have an:ky.extract n ky.size=tl:=ap.o
     have ax:(n:Int)<=(ky.size:Int):=(by omega)
     go_wp2_with fail
     go_still_tail 6,(by kernel_rfl)
     have I:=X (V.o.on (Fp.drew ah));go_wp2_with fail;refine(ac.o (r++two n++two m) tl _ I.o.bat (by rw[Y,Y];have:(two n).length=2:=rfl;have:(two m).length=2:=rfl;omega)).mono ?_;rintro e ag ⟨rfl,j,d⟩;have u:=X (I.o.write j d t.o i);clear j d an;have y4:ag.cell? ⟨CB,4,none⟩=some (.bool true):=u.o.cel.cell 4;go_wp2_with fail;refine(a8.o (r++two n++two m++tl.data.toList) _ u.o.bat (by rw[Y,Y,Y];have:(two n).length=2:=rfl;have:(two m).length=2:=rfl;have:tl.data.toList.length=tl.size:=rfl;omega)).mono ?_;rintro e O ⟨rfl,j,d⟩;have G:=X (u.o.write j d t.o i);clear j d y4;have S:O.cell? ⟨CB,5,none⟩=some (.string b):=G.o.cel.cell 5;have M:O.drew.cell? ⟨CB,5,none⟩=some (.string b):=S;go_wp2_with fail
     go_still_tail 7,(by kernel_rfl)
     have F:=X (G.o.on (Fp.drew O));go_wp2_with fail;refine(ao.o (r++two n++two m++tl.data.toList++[1]) c1 _ F.o.bat (by simp only[Y,a0z];have:(two n).length=2:=rfl;have:(two m).length=2:=rfl;have:tl.data.toList.length=tl.size:=rfl;omega)).mono ?_;rintro e N ⟨rfl,j,d⟩;have E:=X (F.o.write j d t.o i);clear j d S M;have S:N.cell? ⟨CB,5,none⟩=some (.string b):=E.o.cel.cell 5;have M:N.drew.cell? ⟨CB,5,none⟩=some (.string b):=S;go_wp2_with fail
     go_still_tail 5,(by kernel_rfl)
     have D:=X (E.o.on (Fp.drew N));go_wp2_with fail;refine(ac.o (r++two n++two m++tl.data.toList++[1]++[c1]) b _ D.o.bat (by simp only[Y,a0z];have:(two n).length=2:=rfl;have:(two m).length=2:=rfl;have:tl.data.toList.length=tl.size:=rfl;omega)).mono ?_;rintro e ba ⟨rfl,j,d⟩;have C:=X (D.o.write j d t.o i);clear j d S M;go_wp2_with fail
     go_roundg (gk-1)
     case measure=>omega
     case rel=>
      refine⟨k+1,ky,_,by omega,by simp,rfl,C.o.fp,C.o.bat,?_,?_,a0⟩
      .rw[ay.o,HD.o,show Ef k last.data.toList (⟨p,q,L,seq,true,b⟩::l.drop (k+1))=Fg (D9 k last.data.toList) ⟨p,q,L,seq,true,b⟩++Ef (k+1) (B7 ⟨p,q,L,seq,true,b⟩) (l.drop (k+1)) from rfl,R.o,af.o,a6.o];simp only[a2u,a3x,a3w];rfl
      .simp only[Y,a0z];have:(two n).length=2:=rfl;have:(two m).length=2:=rfl;have:tl.data.toList.length=tl.size:=rfl;have:b.data.toList.length=b.size:=rfl;omega
  .have a2:¬(k:Int)<(len:Int):=(by omega)
   have HD:Hid (l.drop k=[]):=List.drop_eq_nil_of_le (by rw[<-ae.o];omega);go_wp2_with fail;refine(bq.o r _ ab.o).mono ?_;rintro e w4 ⟨rfl,j⟩;have bs:Hid (Fp [] w w4):=HF.o.belowTrans (j.mono t.o);clear j;go_wp2_with fail;go_ret2;rw[HR.o,<-ae.o,bv.o,ay.o,HD.o];exact⟨by rw[show Ef k last.data.toList []=[] from rfl,List.append_nil];rfl,bs.o⟩
end
section
open Go.RowKit
def C1(i:Nat)(w0:World)(rb:Nat)(r r':Rb)(b:Nat->Bool)(w:World):Prop:=Fp [rb] w0 w/\N9 w rb (bif b i then r' else r)
theorem C1.fp{i:Nat}{a w:World}{c:Nat}{r d:Rb}{b:Nat->Bool}(h:C1 i a c r d b w):Fp [c] a w:=h.1
theorem C1.first{i:Nat}{c w:World}{a:Nat}{r d:Rb}{b:Nat->Bool}(h:C1 i c a r d b w)(g:b i=false):N9 w a r:=by have:=h.2;rw[g] at this;exact this
theorem C1.last{i:Nat}{c w:World}{a:Nat}{r r':Rb}{b:Nat->Bool}(h:C1 i c a r r' b w)(d:b i=true):N9 w a r':=by have:=h.2;rw[d] at this;exact this
theorem C1.did{i:Nat}{d w w':World}{a:Nat}{r c:Rb}{b:Nat->Bool}(h:C1 i d a r c b w)(g:N9 w' a c)(j:Fp [a] w w'):C1 i d a r c (Ak b i) w':=
 ⟨h.1.trans j,by rw[Ac3];exact g⟩
theorem C1.on{i j:Nat}{c w w':World}{d:Nat}{r g:Rb}{b:Nat->Bool}(h:C1 i c d r g b w)(a:i≠j)(k:Fp [] w w'):C1 i c d r g (Ak b j) w':=
 ⟨h.1.trans k,by rw[Ac4 a];exact h.2.fp k⟩
attribute [local go_sem] Oper.semAt_some
end
section
open Go.RowKit
def Ce(w:World)(base:Nat)(v:Value)(l:List ByteArray):Prop:=w.ownsRow base 9 1 v l.length (l.map Value.string)
theorem Ce.nil(w:World)(base:Nat):Ce w base (.slice none 0 0) []:=World.ownsRow_nil w base _ _
theorem Ce.mono{w:World}{base base':Nat}{v:Value}{l:List ByteArray}(h:Ce w base v l)(i:base'<=base):Ce w base' v l:=by
 obtain⟨j,a⟩:=h;refine⟨j,?_⟩;rcases a with a|⟨g,cap,b,c,d,r⟩
 .exact Or.inl a
 .exact Or.inr ⟨g,cap,b,c,a4u i d,r⟩
theorem Ce.lt{w:World}{base:Nat}{v:Value}{l:List ByteArray}(h:Ce w base v l):∀k,v.ownBlock=some k->base<=k/\k<w.heap.size:=World.ownsRow.lt h
theorem Ce.kept{w w':World}{base:Nat}{v:Value}{l:List ByteArray}(h:Ce w base v l)(j:∀k,v.ownBlock=some k->w'.heap[k]?=w.heap[k]?):Ce w' base v l:=by
 obtain⟨m,a⟩:=h;refine⟨m,?_⟩;rcases a with a|⟨g,cap,b,c,i,d,r⟩
 .exact Or.inl a
 .exact Or.inr ⟨g,cap,b,c,i,(j g (by rw[c];rfl)).trans d,r⟩
theorem Ce.fp{w w':World}{base:Nat}{v:Value}{l:List ByteArray}{S:List Nat}(h:Ce w base v l)(c:Fp S w w')(d:∀i∈S,i<base:=by simp):Ce w' base v l:=
 h.kept fun k a=>c.block k (h.lt k a).2 (fun b=>by have:=d k b;have:=(h.lt k a).1;omega)
theorem Ce.made(w:World)(base:Nat)(a:base<=w.heap.size):Ce (w.alloc (.cells #[] 9)) base (.slice (some ⟨w.heap.size,0,none⟩) 0 0) []:=
 World.ownsRow_made w #[] 0 a (by decide) rfl
theorem Ce.at{w:World}{base:Nat}{v:Value}{l:List ByteArray}(h:Ce w base v l):(∃a cap,v=.slice a l.length cap)∧(l=[]∨∃g cap,v=.slice (some ⟨g,0,none⟩) l.length cap∧base≤g∧g<w.heap.size∧∀i (c:i<l.length),w.cell? ⟨g,i,none⟩=some (.string l[i])):=by
 obtain⟨t,n⟩:=h;rcases n with⟨rfl,p⟩|⟨g,cap,b,rfl,m,d,r,s,q,k⟩
 .have:l=[]:=a3v p;subst this;exact⟨⟨_,_,rfl⟩,Or.inl rfl⟩
 .refine⟨⟨_,_,rfl⟩,Or.inr ⟨g,cap,rfl,m,Ae d,fun i c=>?_⟩⟩
  have j:(b.toList.take (l.length*1))[i]?=(l.map Value.string)[i]?:=by rw[k]
  rw[List.getElem?_take,if_pos (by omega),List.getElem?_map,a1w c,a4w] at j;rw[Ab d,j];rfl
theorem Tryz.info9:(Tryz.prog.info? 9).map (fun i=>(i.zero,i.size,i.bytes))=some (some (.string ⟨#[]⟩),1,16):=by kernel_rfl
theorem Uo{w:World}{i:Array Oper}{rest:List Oper}{o:Oper}{a:Act}{Q:Exit→Act→World→Prop}(r:o.guard=none)(s x:Operand)
  (C:o.op=.call {callee:=.builtin .append,args:=#[s,x],argTypes:=#[22,22]})(base:Nat)(v:Value)(l:List ByteArray)(B:a.eval s=v)(c:Ce w base v l)
  (g:Nat)(t:ByteArray)(A:a.eval x=.slice (some ⟨g,0,none⟩) 1 1)(G:w.cell? ⟨g,0,none⟩=some (.string t))(y:l.length+1<=1000000000)(b:base<=w.heap.size)
  (h:∀m w',Ce w' base m (l++[t])->Below base w w'->wpList Tryz.prog i Q rest (a.put o.dst m) w'):wpList Tryz.prog i Q (o::rest) a w:=by
 obtain⟨z,F,q,p,n⟩:=info_parts Tryz.info9;refine wpList_append_own w r s x 22 C base 9 z _ 1 16 Tryz.underlying22 F q p n rfl (by decide) v l.length (l.map Value.string) B c ⟨g,0,none⟩ 1 1 [.string t] A rfl ?_ (by intro u d;simp at d;subst d;rfl) (by unfold maxLen;omega) (by omega) b ?_
 .intro j u d;have E:j=0:=by
   have:=(List.getElem?_eq_some_iff.1 d).1
   simpa using this
  subst E;simp at d;subst d
  have K:(⟨g,0,none⟩:Addr).add 0=⟨g,0,none⟩:=by unfold Addr.add;split<;>simp_all
  rw[K];exact G
 .intro m w' J I _;refine h m w' ?_ ((Below.refl base w).grown I b (fun k D=>(c.lt k D).1));unfold Ce;rw[Y,List.map_append];exact J
def An(e:TypeId)(w:World)(base:Nat)(v:Value)(l:List Value):Prop:=w.ownsRow base e 1 v l.length l
theorem An.nil(e:TypeId)(w:World)(base:Nat):An e w base (.slice none 0 0) []:=World.ownsRow_nil w base _ _
theorem An.mono{e:TypeId}{w:World}{base base':Nat}{v:Value}{l:List Value}(h:An e w base v l)(i:base'<=base):An e w base' v l:=by
 obtain⟨j,a⟩:=h;refine⟨j,?_⟩;rcases a with a|⟨g,cap,b,c,d,r⟩
 .exact Or.inl a
 .exact Or.inr ⟨g,cap,b,c,a4u i d,r⟩
theorem An.lt{e:TypeId}{w:World}{base:Nat}{v:Value}{l:List Value}(h:An e w base v l):∀k,v.ownBlock=some k->base<=k/\k<w.heap.size:=World.ownsRow.lt h
theorem An.kept{e:TypeId}{w w':World}{base:Nat}{v:Value}{l:List Value}(h:An e w base v l)(j:∀k,v.ownBlock=some k->w'.heap[k]?=w.heap[k]?):An e w' base v l:=by
 obtain⟨m,a⟩:=h;refine⟨m,?_⟩;rcases a with a|⟨g,cap,b,c,i,d,r⟩
 .exact Or.inl a
 .exact Or.inr ⟨g,cap,b,c,i,(j g (by rw[c];rfl)).trans d,r⟩
theorem An.fp{e:TypeId}{w w':World}{base:Nat}{v:Value}{l:List Value}{S:List Nat}(h:An e w base v l)(c:Fp S w w')(d:∀i∈S,i<base:=by simp):An e w' base v l:=
 h.kept fun k a=>c.block k (h.lt k a).2 (fun b=>by have:=d k b;have:=(h.lt k a).1;omega)
theorem An.made(e:TypeId)(w:World)(base:Nat)(a:base<=w.heap.size):An e (w.alloc (.cells #[] e)) base (.slice (some ⟨w.heap.size,0,none⟩) 0 0) []:=
 World.ownsRow_made w #[] 0 a (by decide) rfl
theorem An.at{e:TypeId}{w:World}{base:Nat}{v:Value}{l:List Value}(h:An e w base v l):(∃a cap,v=.slice a l.length cap)∧(l=[]∨∃g cap,v=.slice (some ⟨g,0,none⟩) l.length cap∧base≤g∧g<w.heap.size∧∀i (c:i<l.length),w.cell? ⟨g,i,none⟩=some l[i]):=by
 obtain⟨t,n⟩:=h;rcases n with⟨rfl,p⟩|⟨g,cap,b,rfl,m,d,r,s,q,k⟩
 .have:l=[]:=a3v p;subst this;exact⟨⟨_,_,rfl⟩,Or.inl rfl⟩
 .refine⟨⟨_,_,rfl⟩,Or.inr ⟨g,cap,rfl,m,Ae d,fun i c=>?_⟩⟩
  have j:(b.toList.take (l.length*1))[i]?=l[i]?:=by rw[k]
  rw[List.getElem?_take,if_pos (by omega),a1w c,a4w] at j;rw[Ab d,j]
theorem Za(T e:TypeId){z:Value}{b:Nat}(d:Tryz.prog.underlying T=some (.slice e))(n:(Tryz.prog.info? e).map (fun i=>(i.zero,i.size,i.bytes))=some (some z,1,b))(y:z.cells.size=1)(E:b≤100000)
  {w:World}{p:Array Oper}{rest:List Oper}{o:Oper}{a:Act}{Q:Exit->Act->World->Prop}(D:o.guard=none)(s x:Operand)
  (K:o.op=.call {callee:=.builtin .append,args:=#[s,x],argTypes:=#[T,T]})(base:Nat)(v:Value)(l:List Value)(J:a.eval s=v)(m:An e w base v l)
  (g:Nat)(t:Value)(I:t.oneCell'=true)(G:a.eval x=.slice (some ⟨g,0,none⟩) 1 1)(O:w.cell? ⟨g,0,none⟩=some t)(q:l.length+1<=1000000000)(c:base<=w.heap.size)
  (h:∀r w',An e w' base r (l++[t])->Below base w w'->wpList Tryz.prog p Q rest (a.put o.dst r) w'):wpList Tryz.prog p Q (o::rest) a w:=by
 obtain⟨F,N,C,B,A⟩:=info_parts n;refine wpList_append_own w D s x T K base e F _ 1 b d N C B A y (by decide) v l.length l J m ⟨g,0,none⟩ 1 1 [t] G rfl ?_ (by intro u d;simp at d;subst d;exact I) (by unfold maxLen;omega) (a4u (Nat.mul_le_mul q E) (by decide)) c ?_
 .intro j u d;have M:j=0:=by
   have:=(List.getElem?_eq_some_iff.1 d).1
   simpa using this
  subst M;simp at d;subst d
  have S:(⟨g,0,none⟩:Addr).add 0=⟨g,0,none⟩:=by unfold Addr.add;split<;>simp_all
  rw[S];exact O
 .intro r w' R P _;refine h r w' ?_ ((Below.refl base w).grown P c (fun k L=>(m.lt k L).1));unfold An;rw[Y];exact R
end
section
open Go.RowKit Go.Lib
def D1(sz len i:Nat):List (Nat × Nat):=if i<len/\0<sz then(i,min sz (len-i))::D1 sz len (i+sz) else[]
 termination_by len-i
theorem Po{a len i:Nat}(h:i<len)(b:0<a):D1 a len i=(i,min a (len-i))::D1 a len (i+a):=by
 rw[D1];exact if_pos ⟨h,b⟩
theorem Wb{a len i:Nat}(h:¬i<len):D1 a len i=[]:=by
 rw[D1];exact if_neg (fun c=>h c.1)
theorem Wc(a len i:Nat):(D1 a len i).length<=len-i:=by
 rw[D1];split
 .rename_i h;have:=Wc a len (i+a);rw[List.length_cons];omega
 .simp
 termination_by len-i
def Up(b o:Nat)(x:Nat × Nat):Value:=.slice (some ⟨b,o+x.1*7,none⟩) x.2 x.2
def We(b o:Nat)(x:Nat × Nat):Array Value:=#[Up b o x]
theorem rD(base L n F M p:Nat)(S:0<p)(aq:p<2^63)(w:World)(b o len cap:Nat)(hn:1≤n)(ae:w.heap[F]?=some (.cells #[.slice (some ⟨b,o,none⟩) len cap] 162 (0,0)))(af:w.heap[M]?=some (.cells #[.int .i64 p] 3 (0,0)))
  (av:len<=cap)(ay:len<=1000000000)(ad:F<base)(D:M<base)(ak:F≠L)(U:M≠L)
  (S0:List Nat)(ag:∀k∈S0,k<base/\k≠F/\k≠M)(J Jx:List (Nat × Nat)->World->Prop)
  (hJ:∀s A B,J s A->Fp [] A B->J s B)
  (hy:∀c x W,(∃Q,D1 p len 0=c++x::Q)->J c W->YieldAt Fence.wide (n-1) Tryz.prog L (We b o x) W fun e W'=>(e=.returned (.bool true)/\J (c++[x]) W'/\Ao 221 base (L::S0) W W')∨(e=.returned (.bool false)/\Jx (c++[x]) W'))
  (h0:J [] w):
  CallsIn Fence.wide n Tryz.prog 215 #[.func (.yield L) #[] #[],.pointer (some ⟨F,0,none⟩),.pointer (some ⟨M,0,none⟩)] w fun e w'=>(∃v,e=.returned v)/\((∃xs,xs=D1 p len 0/\J xs w')∨∃c,Jx c w'):=by
 rw[callsIn_wide];have HY:=X hy;have HJ:=X hJ;have N:=X ag;have aj:=X ae;have z:=X af;clear hy hJ ag ae af;go_in;go_wp2_with fail
 go_loopg [4] len (fun g vi wr=>∃(i:Nat) (c:List (Nat × Nat)),g=len-i/\(i=0∨p<=i)/\vi=.int .i64 i/\D1 p len 0=c++D1 p len i/\J c wr/\Ao 221 base (L::S0) w wr)
 case atStart=>exact⟨0,[],rfl,.inl rfl,rfl,rfl,h0,Ao.of (Fp.refl [] _) (by simp) |>.mono (by simp)⟩
 case round=>
  obtain⟨i,c,hg,ab,rfl,l,hj,hf⟩:=hrel;have P:=X hf;have ai:=X hj;clear hf hj;have t:wr.heap[F]?=some (.cells #[.slice (some ⟨b,o,none⟩) len cap] 162 (0,0)):=(P.o.low _ ad (Ae aj.o) (by intro h;rcases List.mem_cons.1 h with h|h;exact ak h;exact(N.o _ h).2.1 rfl)).trans aj.o;have E:wr.heap[M]?=some (.cells #[.int .i64 p] 3 (0,0)):=(P.o.low _ D (Ae z.o) (by intro h;rcases List.mem_cons.1 h with h|h;exact U h;exact(N.o _ h).2.2 rfl)).trans z.o;have q0:wr.cell? ⟨F,0,none⟩=some (.slice (some ⟨b,o,none⟩) len cap):=Ab t 0;have q:=X t;have r:=X E;clear t E;by_cases aa:i<len
  .have z0:(i:Int)<(len:Int):=(by omega)
   have z1:(i:Int)<=(len:Int):=(by omega)
   have z2:(len:Int)<=(cap:Int):=(by omega)
   have az:¬cap=i:=(by omega)
   rw[Po aa S] at l;obtain⟨m,hm⟩:=Aa (min p (len-i))
   have V:min (p:Int) ((len-i:Nat):Int)=(m:Int):=(by omega)
   have au:0<m:=(by omega)
   rw[hm] at l;have ah:=X l;obtain⟨d,hd⟩:=Aa (len-i);rw[hd] at V;obtain⟨e2,ac⟩:=Aa (i+m)
   have n1:IntKind.i64.wrap ((i:Int)+(m:Int))=(e2:Int):=(by rw[a1u];omega)
   have z3:(e2:Int)<=(cap:Int):=(by omega)
   have z4:(i:Int)<=(e2:Int):=(by omega)
   have ax:e2-i=m:=(by omega)
   have aw:¬e2=i:=(by omega)
   have n2:IntKind.i64.wrap ((i:Int)+(p:Int))=((i+p:Nat):Int):=(by rw[a1u];omega)
   obtain⟨j,I⟩:=Aa (i+p);rw[I] at n2;have HG:=X hg;have a1:=X ac;have O:=X I;clear hg ab l hm ac I;go_wp2_with fail;refine Bo (by kernel_rfl) (by kernel_rfl) ?_
   iterate 7
    apply A1 rfl rfl rfl
    .intro a w u y K hK;have:=y.f 2;have:=y.f 1;have:=y.f 4;(try have:=y.e 1 14);(try have:=y.e 2 15);(try have:=y.e 3 16);(try have:=y.e 0 13);(try have:=y.e 4 17);(try have:=y.e 5 18);have r0:=Ab ((u.block _ (Ae q.o) (by simp)).trans q.o) 0;have r1:=Ab ((u.block _ (Ae r.o) (by simp)).trans r.o) 0;simp only[List.getElem?_toArray,List.getElem?_cons_zero] at r0 r1;simp only[Oper.wp,execOp];go_simp;exact hK _ u (Fp.refl _ _)
   refine Bn ?_
   iterate 7 refine Bm ?_
   refine Bl fun w' u=>?_
   .simp only[Aj,Act.put,a0x,a0v,a0u];have ap:=X (P.o.trans (Ao.of (u.mono (by simp):Fp [] wr w') (by simp)));have ao:=X (HJ.o _ _ _ ai.o u);have C:=(u.block _ (Ae q.o) (by simp)).trans q.o;have q1:w'.cell? ⟨F,0,none⟩=some (.slice (some ⟨b,o,none⟩) len cap):=Ab C 0;have ar:=X ((u.block _ (Ae r.o) (by simp)).trans r.o);clear u C;obtain⟨fn,tm,a0,bd,R,T⟩:=HY.o c (i,m) w' ⟨_,ah.o⟩ ao.o;have al:=X T;clear T;unfold We Up at R;simp only at R
    go_upto_region 4 with(fail)
    refine(wpIn_wide (n:=n)).1 ?_
    gi_wp2_with fail
    refine al.o.mono ?_;rintro e W1 (⟨rfl,hj1,hf1⟩|⟨rfl,hjx⟩)
    .have an:=X hj1;have G:=X (ap.o.trans hf1 (by intro i hi;exact hi));have r2:W1.cell? ⟨M,0,none⟩=some (.int .i64 p):=Ab ((G.o.low _ D (Ae z.o) (by intro h;rcases List.mem_cons.1 h with h|h;exact U h;exact(N.o _ h).2.2 rfl)).trans z.o) 0;clear hj1 hf1
     gi_wp2_with fail
     go_wp2_with fail
     go_roundg (len-j)
     case measure=>have:=HG.o;have:=O.o;omega
     case rel=>
      refine⟨j,c++[(i,m)],rfl,.inr (by have:=O.o;omega),rfl,?_,an.o,G.o⟩;have h2:=ah.o;rw[O.o] at h2;rw[h2,a2u];rfl
    .have am:=X hjx;clear hjx
     gi_wp2_with fail
     go_wp2_with fail;refine bodyPost_ret (results_none rfl _ _ _) rfl ?_;exact⟨⟨_,rfl⟩,Or.inr ⟨_,am.o⟩⟩
  .have z0:¬(i:Int)<(len:Int):=(by omega)
   rw[Wb aa,List.append_nil] at l;have HP:=X l;have HG:=X hg;clear l hg ab;go_wp2_with fail;go_end0;refine⟨⟨_,rfl⟩,Or.inl ?_⟩;rw[HP.o];exact ai.o
theorem rE(w:World)(b:Nat)(c:0<b)(v:Value)(a:Option Addr)(len cap:Nat)(d:v=.slice a len cap):Calls Tryz.prog 140 #[v,.int .i64 b] w fun e w'=>e=.returned (.func (.func 215) #[] #[.pointer (some ⟨w.heap.size,0,none⟩),.pointer (some ⟨w.heap.size+1,0,none⟩)])∧
  w'.heap[w.heap.size]?=some (.cells #[v] 162 (0,0))/\w'.heap[w.heap.size+1]?=some (.cells #[.int .i64 b] 3 (0,0))/\Fp [] w w':=by
 subst d
 have z1:¬(b:Int)<1:=by omega
 have q:((w.alloc (.cells #[.slice a len cap] 162)).alloc (.cells #[.int .i64 b] 3)).cell? ⟨w.heap.size+1,0,none⟩=some (.int .i64 b):=Ab (Ai (by simp) _) 0;go_in;go_wp2_with fail;go_ret;exact⟨rfl,Dy (Ai rfl _),Ai (by simp) _,(Fp.alloc _ _).alloc' _⟩
end
def Zb:Nat:=3988292384
def Ep(n:Nat):Nat:=(n/2) ^^^ (if n%2=1 then Zb else 0)
def Jb:List Nat:=[0,498536548,997073096,651767980,1994146192,1802195444,1303535960,1342533948,3988292384,4027552580,3604390888,3412177804,2607071920,2262029012,2685067896,3183342108]
def Nj(n:Nat):Nat:=(n/16) ^^^ Jb.getD (n%16) 0
theorem rF(a b:Nat):(a ^^^ b)/2=(a/2) ^^^ (b/2):=by
 have:=Nat.shiftRight_xor_distrib (a:=a) (b:=b) (i:=1)
 simpa [Nat.shiftRight_eq_div_pow] using this
theorem rG(a b:Nat):(a ^^^ b)%2=(a%2+b%2)%2:=by
 have h:=Nat.xor_mod_two_pow (a:=a) (b:=b) (n:=1);rw[Nat.pow_one] at h;rw[h]
 rcases a2x a with d|d<;>rcases a2x b with c|c<;>rw[d,c]<;>rfl
theorem Wg(a b:Nat):Ep (a ^^^ b)=Ep a ^^^ Ep b:=by
 unfold Ep;rw[rF,rG]
 rcases a2x a with d|d<;>rcases a2x b with c|c<;>rw[d,c]
 .simp
 .simp[a4z]
 .simp[a4z,Nat.xor_comm (b/2)]
 .simp only[Nat.reduceAdd,Nat.reduceMod,Nat.reduceEqDiff,if_false,if_true,Nat.xor_zero];rw[a4z,Nat.xor_comm Zb,a4z,Nat.xor_self,Nat.xor_zero]
theorem Wh(m:Nat):Ep (2*m)=m:=by
 unfold Ep;rw[Nat.mul_div_cancel_left m (by decide),Nat.mul_mod_right,if_neg (by decide),Nat.xor_zero]
theorem rH(n:Nat):n=(16*(n/16)) ^^^ (n%16):=by
 have h:=a3u (i:=4) (b:=n%16) (Nat.mod_lt _ (by decide)) (n/16);have c:(16*(n/16)) ^^^ (n%16)=2^4*(n/16)+n%16:=by
  apply Nat.eq_of_testBit_eq;intro i;rw[Nat.testBit_two_pow_mul_add _ (Nat.mod_lt _ (by decide)),Nat.testBit_xor,show(16:Nat)=2^4 from rfl,Nat.testBit_two_pow_mul,Nat.testBit_mod_two_pow];by_cases a:i<4
  .have:¬4<=i:=(by omega)
   simp[a,this]
  .simp[a];omega
 omega
theorem eJ(n:Nat):Nj n=Ep (Ep (Ep (Ep n))):=by
 conv=>rhs;rw[rH n]
 rw[Wg,show 16*(n/16)=2*(8*(n/16)) by omega,Wh,Wg,show 8*(n/16)=2*(4*(n/16)) by omega,Wh,Wg,show 4*(n/16)=2*(2*(n/16)) by omega,Wh,Wg,Wh];unfold Nj;congr 1;have h:n%16<16:=Nat.mod_lt _ (by decide);generalize n%16=r at h
 have a:∀r,r<16->Jb.getD r 0=Ep (Ep (Ep (Ep r))):=by decide
 exact a r h
def Zc(n:Nat)(b:UInt8):Nat:=Nj (Nj (n ^^^ b.toNat))
def Nk(n:Nat)(b:UInt8):Nat:=Ep (Ep (Ep (Ep (Ep (Ep (Ep (Ep (n ^^^ b.toNat))))))))
theorem rI(n:Nat)(b:UInt8):Zc n b=Nk n b:=by unfold Zc Nk;rw[eJ,eJ]
def Lm(n:Nat)(l:List UInt8):Nat:=l.foldl Nk n
theorem Of{n:Nat}(h:n<4294967296):Ep n<4294967296:=by
 unfold Ep;refine a1x (n:=32) (by omega) ?_
 split<;>decide
theorem rJ{n:Nat}{b:UInt8}(h:n<4294967296):Nk n b<4294967296:=by
 have a:=b.toNat_lt;unfold Nk;exact Of (Of (Of (Of (Of (Of (Of (Of (a1x (n:=32) h (by omega)))))))))
section
open Go.RowKit
theorem R0(a b:Nat)(i:a<4294967296)(h:b<4294967296):bits .xor .u32 (a:Int) (b:Int)=((a ^^^ b:Nat):Int):=by
 have g:a ^^^ b<2^32:=a1x (by omega) (by omega);have d:(a2w 32 (a:Int)).toNat=a:=by
  rw[a3z,a2z];exact a2v (by omega)
 have c:(a2w 32 (b:Int)).toNat=b:=by
  rw[a3z,a2z];exact a2v (by omega)
 show IntKind.u32.wrap ((a2w 32 (a:Int) ^^^ a2w 32 (b:Int)).toNat:Int)=_;rw[BitVec.toNat_xor,d,c,a0w];omega
theorem eK(a:Nat)(b:a<4294967296):bits .and .u32 (a:Int) 15=((a%16:Nat):Int):=
 bits_mask .u32 32 (by decide) (fun n d c=>by rw[a0w];omega) 4 (by decide) a (by omega) (by omega)
def Dp(w:World):Prop:=∀i,i<16->w.cell? ⟨0,i,none⟩=some (.int .u32 (Jb.getD i 0:Nat))
theorem Dp.fp{w w':World}{S:List Nat}(h:Dp w)(c:Fp S w w')(b:0∉S:=by simp):Dp w':=fun i a=>
 (c.cell (p:=⟨0,i,none⟩) (World.block_lt_of_cell? _ _ (h i a)) b).trans (h i a)
theorem eL(i:Nat):Jb.getD i 0<4294967296:=by
 by_cases h:i<16
 .have a:∀r,r<16->Jb.getD r 0<4294967296:=by decide
  exact a i h
 .rw[a4x,List.getElem?_eq_none (by show 16<=i;omega)];decide
theorem rK(w:World)(s:ByteArray):∃cap W,(convert 9 113 (.string s)).run Tryz.prog w=.ok (.slice (some ⟨w.heap.size,0,none⟩) s.size cap) W∧
  (∀j (h:j<s.size),W.cell? ⟨w.heap.size,j,none⟩=some (.int .u8 s[j].toNat))/\Fp [] w W:=by
 have h:=run_bytes_of_string (P:=Tryz.prog) w 9 113 5 s Tryz.underlying9 Tryz.underlying113 Tryz.underlying5;refine⟨_,_,h,?_,(Fp.drew w).alloc' _⟩;have b:=Ai (w:=w.drew) (n:=w.heap.size) rfl (.cells (bytesRow s (grownCap w s.size 0 5)) 5 ((bytesRow s (grownCap w s.size 0 5)).size,(bytesRow s (grownCap w s.size 0 5)).size+1));intro j a;rw[Ab b,bytesRow_at s _ j a];rfl
theorem rL(n:Nat)(l:List UInt8)(b:UInt8):Lm n (l++[b])=Nk (Lm n l) b:=by unfold Lm;rw[List.foldl_append];rfl
theorem eM(l:List UInt8):∀n,n<4294967296->Lm n l<4294967296:=by
 induction l with
 |nil=>intro n h;exact h
 |cons b l ih=>intro n h;exact ih _ (rJ h)
def Ks(n:Nat)(s:ByteArray)(k:Nat):Nat:=Lm n (s.data.toList.take k)
theorem eN(n:Nat)(s:ByteArray)(k:Nat)(b:k<s.size):Ks n s (k+1)=Nk (Ks n s k) s[k]:=by
 have a:k<s.data.toList.length:=b;have e:s.data.toList[k]?=some s[k]:=by
  rw[a1w a];simp;rfl
 rw[a1w a] at e;unfold Ks;rw[List.take_succ_eq_append_getElem a,rL,Option.some.inj e]
theorem eO(n:Nat)(s:ByteArray):Ks n s s.size=Lm n s.data.toList:=by
 unfold Ks;exact congrArg (Lm n) (List.take_of_length_le (Nat.le_refl s.data.toList.length))
theorem Wi{n:Nat}(s:ByteArray)(k:Nat)(h:n<4294967296):Ks n s k<4294967296:=eM _ _ h
def B0(n:Nat)(s:ByteArray):Nat:=4294967295-Lm (4294967295-n) s.data.toList
theorem eP(n:Nat)(h:n<4294967296):bits .xor .u32 IntKind.u32.max (n:Int)=((4294967295-n:Nat):Int):=by
 have e:IntKind.u32.max=((4294967295:Nat):Int):=rfl;rw[e,R0 _ _ (by decide) h];congr 1;have a:(BitVec.allOnes 32 ^^^ BitVec.ofNat 32 n).toNat=4294967295 ^^^ n:=by
  rw[BitVec.toNat_xor,BitVec.toNat_allOnes,a2z,a2v (by omega)]
 rw[<-a,BitVec.allOnes_xor,BitVec.toNat_not,a2z,a2v (by omega)]
theorem Wj(n:Nat)(s:ByteArray)(w:World)(hn:n<4294967296)(hs:s.size≤100000000)(ht:Dp w):
  Calls Tryz.prog 98 #[.int .u32 n,.string s] w fun e w'=>e=.returned (.int .u32 (B0 n s))/\Fp [] w w':=by
 obtain⟨cap,W,U,c,B⟩:=rK w s;have HT:=X (ht.fp B a1v);have d:=X c;have aa:=X B;clear ht c B;have ab:IntKind.u32.signed=false:=rfl;have D:=eP n hn;obtain⟨y,q⟩:=Aa (4294967295-n)
 have HM:Hid (B0 n s=4294967295-Ks y s s.size):=by unfold Hid B0;rw[q,eO]
 have E:y<4294967296:=by omega
 rw[q] at D;clear q;go_in;go_wp2_with fail
 go_loopg [5,13] s.size (fun g vn vi wr=>∃k:Nat,g+k=s.size/\vn=.int .u32 (Ks y s k)/\vi=.int .i64 k/\Fp [] W wr)
 case atStart=>exact⟨0,by omega,rfl,rfl,Fp.refl _ _⟩
 case round=>
  obtain⟨k,hg,rfl,rfl,B⟩:=hrel;have P:=X B;clear B;by_cases T:k<s.size
  .have HS:=X (eN y s k T);have a:=Wi s k E;obtain⟨m,A⟩:=Aa (Ks y s k);rw[A] at HS a;rw[A];have q0:wr.cell? ⟨w.heap.size,k,none⟩=some (.int .u8 s[k].toNat):=by
    rw[P.o.cell (p:=⟨w.heap.size,k,none⟩) (World.block_lt_of_cell? _ _ (d.o k T)) a1v];exact d.o k T
   obtain⟨b,hb⟩:=Aa (s[k]);rw[hb] at q0 HS;have ac:=b.toNat_lt
   have wb:IntKind.u32.wrap (b.toNat:Int)=(b.toNat:Int):=(by rw[a0w];omega)
   have x1:=R0 m b.toNat a (by omega);have l1:m ^^^ b.toNat<4294967296:=a1x (n:=32) a (by omega);obtain⟨z,r⟩:=Aa (m ^^^ b.toNat);rw[r] at x1 l1;have O:=X (HT.o.fp P.o a1v)
   have HB:Hid (Nk m b=Nj (Nj z)):=(by unfold Hid;rw[<-rI,Zc,r])
   clear A hb r;obtain⟨i,l⟩:=Aa (z%16)
   have R:i<16:=(by omega)
   have a1:=eK z l1;rw[l] at a1;obtain⟨N,L⟩:=Aa (z/16)
   have e1:(z:Int)/16=(N:Int):=(by omega)
   have t1:wr.cell? ⟨0,i,none⟩=some (.int .u32 (Jb.getD i 0:Nat)):=O.o i R;have u:=eL i
   have x:Hid (Nj z=N ^^^ Jb.getD i 0):=(by unfold Hid Nj;rw[l,L])
   obtain⟨f1,J⟩:=Aa (Jb.getD i 0);rw[J] at t1 u x;have x2:=R0 N f1 (by omega) u;have l2:N ^^^ f1<4294967296:=a1x (n:=32) (by omega) u;obtain⟨C,G⟩:=Aa (N ^^^ f1);rw[G] at x2 l2 x;clear l L J G;obtain⟨h,j⟩:=Aa (C%16)
   have Q:h<16:=(by omega)
   have a2:=eK C l2;rw[j] at a2;obtain⟨M,K⟩:=Aa (C/16)
   have e2:(C:Int)/16=(M:Int):=(by omega)
   have t2:wr.cell? ⟨0,h,none⟩=some (.int .u32 (Jb.getD h 0:Nat)):=O.o h Q;have t:=eL h
   have v:Hid (Nj C=M ^^^ Jb.getD h 0):=(by unfold Hid Nj;rw[j,K])
   obtain⟨V,I⟩:=Aa (Jb.getD h 0);rw[I] at t2 t v;have x3:=R0 M V (by omega) t;have l3:M ^^^ V<4294967296:=a1x (n:=32) (by omega) t;obtain⟨m3,F⟩:=Aa (M ^^^ V);rw[F] at x3 l3 v;clear j K I F;go_wp2_with fail
   go_roundg (gk-1)
   case measure=>omega
   case rel=>exact⟨k+1,by omega,by rw[HS.o,HB.o,x.o,v.o],by simp,P.o⟩
  .obtain rfl:k=s.size:=by omega
   have a:=Wi s s.size E;obtain⟨m,A⟩:=Aa (Ks y s s.size);rw[A] at HM a;rw[A];have S:=eP m a;go_wp2_with fail;go_ret;exact⟨by rw[HM.o];rfl,aa.o.trans P.o⟩
def Pq(m:Nat):Nat->Nat
 |0=>m
 |j+1=>Ep (Pq m j)
theorem eQ{m:Nat}(h:m<4294967296):∀j,Pq m j<4294967296
 |0=>h
 |j+1=>Of (eQ h j)
theorem rM(n:Nat)(b:UInt8):Nk n b=Pq (n ^^^ b.toNat) 8:=rfl
theorem rN{m:Nat}(h:m%2=1):Ep m=(m/2) ^^^ 3988292384:=by unfold Ep Zb;rw[if_pos h]
theorem rO{m:Nat}(h:¬m%2=1):Ep m=m/2:=by unfold Ep;rw[if_neg h,Nat.xor_zero]
theorem rP(n:Nat)(s:ByteArray)(w:World)(T:n<4294967296)(S:s.size≤100000000):
  Calls Tryz.prog 105 #[.int .u32 n,.string s] w fun e w'=>e=.returned (.int .u32 (B0 n s))/\Fp [] w w':=by
 obtain⟨c,t⟩:=Aa (4294967295-n)
 have E:Hid (B0 n s=4294967295-Ks c s s.size):=by unfold Hid B0;rw[t,eO]
 have r:c<4294967296:=by omega
 have N:(4294967295:Int)-(n:Int)=(c:Int):=by omega
 clear t;go_in;go_wp2_with fail
 go_loopg [5,6] s.size (fun g y K wr=>∃k:Nat,g+k=s.size/\y=.int .u32 (Ks c s k)/\K=.int .i64 k/\Fp [] w wr)
 case atStart=>exact⟨0,by omega,rfl,rfl,Fp.refl _ _⟩
 case round=>
  obtain⟨k,V,rfl,rfl,v⟩:=hrel;have F:=X v;clear v;by_cases M:k<s.size
  .have D:=X (eN c s k M);have a:=Wi s k r;obtain⟨m,l⟩:=Aa (Ks c s k);rw[l] at D a;rw[l];have P:=s[k].toNat_lt
   have R:IntKind.u32.wrap (s[k].toNat:Int)=(s[k].toNat:Int):=(by rw[a0w];omega)
   have I:=R0 m s[k].toNat a (by omega);have l1:m ^^^ s[k].toNat<4294967296:=a1x (n:=32) a (by omega);obtain⟨q,h⟩:=Aa (m ^^^ s[k].toNat)
   have Q:Hid (Nk m s[k]=Pq q 8):=(by unfold Hid;rw[rM,h])
   rw[h] at I l1;clear l h;go_wp2_with fail
   go_loopg [5,7] 8 (fun g y J wr=>∃j:Nat,g+j=8/\y=.int .u32 (Pq q j)/\J=.int .i64 j/\Fp [] w wr)
   case atStart=>exact⟨0,rfl,rfl,rfl,F.o⟩
   case round=>
    obtain⟨j,O,rfl,rfl,v⟩:=hrel;have i:=X v;clear v;by_cases U:j<8
    .have L:=eQ l1 j;have B:Hid (Pq q (j+1)=Ep (Pq q j)):=rfl;obtain⟨b,A⟩:=Aa (Pq q j);rw[A] at L B;rw[A];clear A;obtain⟨d,x⟩:=Aa (b/2)
     have W:(b:Int)/2=(d:Int):=(by omega)
     by_cases C:b%2=1
     .have z:(b:Int)%2=1:=(by omega)
      have p:=X (rN C);have G:bits .xor .u32 (d:Int) 3988292384=((d ^^^ 3988292384:Nat):Int):=R0 d 3988292384 (by omega) (by decide);rw[x] at p;obtain⟨f,u⟩:=Aa (d ^^^ 3988292384);rw[u] at p G;clear u;clear x;go_wp2_with fail
      go_roundg (8-(j+1))
      case measure=>omega
      case rel=>exact⟨j+1,by omega,by rw[B.o,p.o],by simp,i.o⟩
     .have z:¬(b:Int)%2=1:=(by omega)
      have p:=X (rO C);rw[x] at p;clear x;go_wp2_with fail
      go_roundg (8-(j+1))
      case measure=>omega
      case rel=>exact⟨j+1,by omega,by rw[B.o,p.o],by simp,i.o⟩
    .obtain rfl:j=8:=by omega
     go_wp2_with fail
     go_roundg (s.size-(k+1))
     case measure=>omega
     case rel=>exact⟨k+1,by omega,by rw[D.o,Q.o],by simp,i.o⟩
  .obtain rfl:k=s.size:=by omega
   have a:=Wi s s.size r;obtain⟨m,l⟩:=Aa (Ks c s s.size);rw[l] at E a;rw[l];go_wp2_with fail;go_ret;refine⟨?_,F.o⟩;rw[E.o];exact lA (by omega)
theorem Ur(s:ByteArray)(w:World)(b:s.size≤100000000)(a:Dp w):
  Calls Tryz.prog 52 #[.string s] w fun e w'=>e=.returned (.int .u32 (B0 0 s))/\Fp [] w w':=by
 have H:Hid (∀w,Dp w->Calls Tryz.prog 98 #[.int .u32 0,.string s] w fun e w'=>e=.returned (.int .u32 (B0 0 s))/\Fp [] w w'):=fun w a=>Wj 0 s w (by decide) b a;have c:=X a;clear a;go_in;go_wp2_with fail;refine(H.o _ c.o).nexh fun g d=>?_;go_wp2_with fail;go_ret;exact⟨rfl,d.o⟩
theorem Us(s:ByteArray)(w:World)(a:s.size≤100000000):
  Calls Tryz.prog 56 #[.string s] w fun e w'=>e=.returned (.int .u32 (B0 0 s))/\Fp [] w w':=by
 have H:Hid (∀w,Calls Tryz.prog 105 #[.int .u32 0,.string s] w fun e w'=>e=.returned (.int .u32 (B0 0 s))/\Fp [] w w'):=fun w=>rP 0 s w (by decide) a;go_in;go_wp2_with fail;refine(H.o _).nexh fun c b=>?_;go_wp2_with fail;go_ret;exact⟨rfl,b.o⟩
def Ih(n:Nat):List UInt8:=[Z n,Z (n/256),Z (n/65536),Z (n/16777216)]
def Qp(a b c d:UInt8):Nat:=a.toNat+b.toNat*256+c.toNat*65536+d.toNat*16777216
theorem rQ(n:Nat)(h:n<4294967296):Qp (Z n) (Z (n/256)) (Z (n/65536)) (Z (n/16777216))=n:=by
 unfold Qp;simp only[UInt8.toNat_ofNat'];omega
def Ln(h s:ByteArray):Nat:=B0 (B0 0 h) s
theorem Og(n:Nat)(s:ByteArray):B0 n s<4294967296:=by unfold B0;omega
theorem Zd(h s:ByteArray):Ln h s<4294967296:=Og _ _
theorem eR(n:Nat)(a b:ByteArray)(c:n<4294967296):B0 n (a++b)=B0 (B0 n a) b:=by
 have d:Lm (4294967295-n) a.data.toList<4294967296:=eM _ _ (by omega);unfold B0;rw[show 4294967295-(4294967295-Lm (4294967295-n) a.data.toList)=Lm (4294967295-n) a.data.toList from by omega];rw[show(a++b).data.toList=a.data.toList++b.data.toList from by simp];unfold Lm;rw[List.foldl_append]
def Jc(s:ByteArray):ByteArray:=bl (two s.size)++bl (Ih (Ln (bl (two s.size)) s))++s
def I1(s:ByteArray):ByteArray × Nat:=if s.size>65535 then(⟨#[]⟩,71) else(Jc s,0)
theorem eS(s:ByteArray):(Jc s).size=6+s.size:=by
 unfold Jc;rw[a4v,a4v,Dt,Dt];rfl
def Gs(s:ByteArray):Nat:=6+(A4 s 0).toNat+(A4 s 1).toNat*256
def Dq(s:ByteArray):ByteArray × Nat × Nat:=
 if s.size=0 then(⟨#[]⟩,0,3) else if s.size<6 then(⟨#[]⟩,0,10) else if s.size<Gs s then(⟨#[]⟩,0,10)
 else if Ln (s.extract 0 2) (s.extract 6 (Gs s))=Qp (A4 s 2) (A4 s 3) (A4 s 4) (A4 s 5) then(s.extract 6 (Gs s),Gs s,0) else(⟨#[]⟩,0,20)
theorem eT{w:World}{g a b c d:Nat}(h:w.heap[g]?=some (.cells #[.int .u8 a,.int .u8 b,.int .u8 c,.int .u8 d] 5 (0,0)))(m:a<256)(l:b<256)(k:c<256)(i:d<256):
  (convert 113 9 (.slice (some ⟨g,0,none⟩) 4 4)).run Tryz.prog w=.ok (.string (bl [Z a,Z b,Z c,Z d])) w:=by
 refine P3 (cap:=4) (n:=4) (f:=fun j=>[Z a,Z b,Z c,Z d].getD j 0) ⟨Ae h,fun j q=>?_,fun j _=>Av h j⟩
 have p:j=0∨j=1∨j=2∨j=3:=by omega
 rcases p with rfl|rfl|rfl|rfl
 .rw[Ab h];show _ =some (A5 (Z a));rw[Ku m];rfl
 .rw[Ab h];show _ =some (A5 (Z b));rw[Ku l];rfl
 .rw[Ab h];show _ =some (A5 (Z c));rw[Ku k];rfl
 .rw[Ab h];show _ =some (A5 (Z d));rw[Ku i];rfl
theorem R3(n:Nat):∃m:Nat,m<256/\IntKind.u8.wrap (n:Int)=(m:Int)/\Z n=Z m:=by
 refine⟨n%256,by omega,by rw[IntKind.wrap_u8];omega,?_⟩;apply UInt8.toNat_inj.1;simp only[UInt8.toNat_ofNat'];omega
theorem eU(s:ByteArray)(w:World)(hs:s.size≤100000000)(b:Dp w):
  Calls Tryz.prog 155 #[.string s] w fun e w'=>e=.returned (.tuple #[.string (I1 s).1,.int .i64 (I1 s).2])/\Fp [] w w':=by
 by_cases hw:s.size>65535
 .have A:I1 s=(⟨#[]⟩,71):=if_pos hw;rw[A]
  have z:(s.size:Int)>65535:=by omega
  go_in;go_wp2_with fail;go_ret2;exact⟨rfl,Fp.refl _ _⟩
 .have A:I1 s=(Jc s,0):=if_neg hw;rw[A]
  have z:¬(s.size:Int)>65535:=by omega
  obtain⟨x,y⟩:=Aa (Ln (bl (two s.size)) s)
  have ab:x<4294967296:=by rw[<-y];exact Zd _ _
  have P:Hid (Jc s=bl (two s.size)++bl (Ih x)++s):=by unfold Hid Jc;rw[y]
  have HS:=X (fun w b=>Ur (bl (two s.size)) w (by rw[Dt];show 2<=_;decide) b);have N:=X (fun w b=>Wj (B0 0 (bl (two s.size))) s w (Og _ _) hs b);rw[show B0 (B0 0 (bl (two s.size))) s=x from y] at N;have I:=Og 0 (bl (two s.size));obtain⟨m,hm⟩:=Aa (B0 0 (bl (two s.size)));rw[hm] at HS N I;have HT:=X b;clear y hm A b;obtain⟨a0,G,ad,u⟩:=R3 s.size;obtain⟨a1,F,M,t⟩:=R3 (s.size/256);obtain⟨y1,h⟩:=Aa (s.size/256)
  have d1:(s.size:Int)/256=(y1:Int):=by omega
  have O:Hid (bl [Z a0,Z a1]=bl (two s.size)):=by unfold Hid two;rw[u,t]
  rw[h] at M;obtain⟨V,E,ac,r⟩:=R3 x;obtain⟨U,D,L,q⟩:=R3 (x/256);obtain⟨T,C,K,p⟩:=R3 (x/65536);obtain⟨S,B,J,n⟩:=R3 (x/16777216);obtain⟨z1,g⟩:=Aa (x/256);obtain⟨z2,d⟩:=Aa (x/65536);obtain⟨z3,c⟩:=Aa (x/16777216)
  have ag:(x:Int)/256=(z1:Int):=by omega
  have af:(x:Int)/65536=(z2:Int):=by omega
  have ae:(x:Int)/16777216=(z3:Int):=by omega
  have HQ:Hid (bl [Z V,Z U,Z T,Z S]=bl (Ih x)):=by unfold Hid Ih;rw[r,q,p,n]
  rw[g] at L;rw[d] at K;rw[c] at J;clear u t r q p n g d c h;have R:=X (P5 (w:=w.alloc (.cells #[.int .u8 a0,.int .u8 a1] 5)) (Ai rfl _) G F);have l:=R.o;rw[O.o] at l;go_in;go_wp2_with fail;refine(HS.o _ (HT.o.fp (Fp.alloc _ _))).mono ?_;rintro e w1 ⟨rfl,k⟩;have v:=X ((Fp.alloc w _).trans k);clear k l;go_wp2_with fail;refine(N.o _ (HT.o.fp v.o)).next v fun w2 Q=>?_;have a:=eT (w:=w2.alloc (.cells #[.int .u8 V,.int .u8 U,.int .u8 T,.int .u8 S] 5)) (Ai rfl _) E D C B;rw[HQ.o] at a
  have l1:(bl (two s.size)).size=2:=by rw[Dt];rfl
  have l2:(bl (Ih x)).size=4:=by rw[Dt];rfl
  obtain⟨t1,j⟩:=Aa (bl (two s.size));obtain⟨W,i⟩:=Aa (bl (Ih x));rw[j] at l1 P ⊢;rw[i] at l2 P a
  have zl:¬t1.size+W.size>9223372036854775807:=by omega
  have aa:¬t1.size+W.size+s.size>9223372036854775807:=by omega
  clear j i l1 l2;go_wp2_with fail;go_ret2;exact⟨by rw[P.o];rfl,Q.o.alloc' _⟩
theorem Ze(n m k:Nat)(a:n<2^k)(g:n+m*2^k<4294967296):bits .or .u32 (n:Int) ((m*2^k:Nat):Int)=((n+m*2^k:Nat):Int):=by
 have d:(a2w 32 (n:Int)).toNat=n:=by
  rw[a3z,a2z];exact a2v (by omega)
 have c:(a2w 32 ((m*2^k:Nat):Int)).toNat=m*2^k:=by
  rw[a3z,a2z];exact a2v (by omega)
 show IntKind.u32.wrap ((a2w 32 (n:Int) ||| a2w 32 ((m*2^k:Nat):Int)).toNat:Int)=_;have b:=a3u a m;rw[BitVec.toNat_or,d,c,Nat.or_comm,Nat.mul_comm,<-b,a0w];rw[Nat.mul_comm (2^k) m];omega
theorem Wl{s:ByteArray}(h:s.size=0):Dq s=(⟨#[]⟩,0,3):=if_pos h
theorem eV{s:ByteArray}(a:¬s.size=0)(h:s.size<6):Dq s=(⟨#[]⟩,0,10):=by unfold Dq;rw[if_neg a,if_pos h]
theorem eW{s:ByteArray}(b:¬s.size=0)(a:¬s.size<6)(h:s.size<Gs s):Dq s=(⟨#[]⟩,0,10):=by unfold Dq;rw[if_neg b,if_neg a,if_pos h]
theorem eX{s:ByteArray}(c:¬s.size=0)(b:¬s.size<6)(a:¬s.size<Gs s)(h:¬Ln (s.extract 0 2) (s.extract 6 (Gs s))=Qp (A4 s 2) (A4 s 3) (A4 s 4) (A4 s 5)):Dq s=(⟨#[]⟩,0,20):=by
 unfold Dq;rw[if_neg c,if_neg b,if_neg a,if_neg h]
theorem Zf{s:ByteArray}(c:¬s.size=0)(b:¬s.size<6)(a:¬s.size<Gs s)(h:Ln (s.extract 0 2) (s.extract 6 (Gs s))=Qp (A4 s 2) (A4 s 3) (A4 s 4) (A4 s 5)):Dq s=(s.extract 6 (Gs s),Gs s,0):=by
 unfold Dq;rw[if_neg c,if_neg b,if_neg a,if_pos h]
theorem Oh(s:ByteArray)(i:Nat)(h:i<s.size):s[i]=A4 s i:=by
 unfold A4;rw[a4x,a1w (by simpa using h)];simp;rfl
theorem rR(s:ByteArray)(w:World)(hs:s.size≤100000000)(y:Dp w):
  Calls Tryz.prog 73 #[.string s] w fun e w'=>e=.returned (.tuple #[.string (Dq s).1,.int .i64 (Dq s).2.1,.int .i64 (Dq s).2.2])/\Fp [] w w':=by
 by_cases n:s.size=0
 .rw[Wl n];obtain rfl:s=⟨#[]⟩:=ByteArray.ext (Array.eq_empty_of_size_eq_zero n);go_in;go_wp2_with fail;refine bodyPost_ret (v:=.tuple #[.string ⟨#[]⟩,.int .i64 0,.int .i64 3]) (by simp[results,Tryz.results73,go_sem, *]) rfl ⟨rfl,Fp.refl _ _⟩
 have ah:(s.toList==([]:List UInt8))=false:=by
  rw[beq_eq_false_iff_ne];intro e;apply n;have A:=congrArg List.length e;rw[ByteArray.toList_eq] at A;exact A
 by_cases R:s.size<6
 .rw[eV n R]
  have z:(s.size:Int)<6:=by omega
  go_in;go_wp2_with fail;refine bodyPost_ret (v:=.tuple #[.string ⟨#[]⟩,.int .i64 0,.int .i64 10]) (by simp[results,Tryz.results73,go_sem, *]) rfl ⟨rfl,Fp.refl _ _⟩
 have z1:¬(s.size:Int)<6:=by omega
 have e0:=Oh s 0 (by omega)
 have p0:0<s.size:=by omega
 have e1:=Oh s 1 (by omega)
 have p1:(1:Int)<(s.size:Int):=by omega
 have e2:=Oh s 2 (by omega)
 have p2:(2:Int)<(s.size:Int):=by omega
 have e3:=Oh s 3 (by omega)
 have p3:(3:Int)<(s.size:Int):=by omega
 have e4:=Oh s 4 (by omega)
 have p4:(4:Int)<(s.size:Int):=by omega
 have e5:=Oh s 5 (by omega)
 have p5:(5:Int)<(s.size:Int):=by omega
 have af:=(A4 s 0).toNat_lt;have ae:=(A4 s 1).toNat_lt;have ad:=(A4 s 2).toNat_lt;have ac:=(A4 s 3).toNat_lt;have ab:=(A4 s 4).toNat_lt;have aa:=(A4 s 5).toNat_lt;obtain⟨x0,N⟩:=Aa ((A4 s 0).toNat);obtain⟨x1,M⟩:=Aa ((A4 s 1).toNat);obtain⟨x2,L⟩:=Aa ((A4 s 2).toNat);obtain⟨x3,J⟩:=Aa ((A4 s 3).toNat);obtain⟨x4,I⟩:=Aa ((A4 s 4).toNat);obtain⟨x5,G⟩:=Aa ((A4 s 5).toNat);obtain⟨en,t⟩:=Aa (Gs s);obtain⟨q,W⟩:=Aa (Qp (A4 s 2) (A4 s 3) (A4 s 4) (A4 s 5))
 have Q:en=6+x0+x1*256:=by rw[<-t,<-N,<-M];rfl
 have V:q=x2+x3*256+x4*65536+x5*16777216:=by rw[<-W,<-L,<-J,<-I,<-G];rfl
 have p:=X (fun h=>eW n R h);have j:=X (fun A h=>eX n R A h);have k:=X (fun A h=>Zf n R A h);rw[t] at p j k;rw[W] at j k;rw[N] at af;rw[M] at ae;rw[L] at ad;rw[J] at ac;rw[I] at ab;rw[G] at aa
 have k0:IntKind.i64.wrap (x0:Int)=x0:=by rw[a1u];omega
 have k1:IntKind.i64.wrap (x1:Int)=x1:=by rw[a1u];omega
 have k2:IntKind.i64.wrap (6+(x0:Int))=6+x0:=by rw[a1u];omega
 obtain⟨y1,U⟩:=Aa (x1*256)
 have k3:IntKind.i64.wrap ((x1:Int)*256)=(y1:Int):=by rw[a1u];omega
 have k4:IntKind.i64.wrap (6+(x0:Int)+(y1:Int))=(en:Int):=by rw[a1u];omega
 have aj:6<=en:=by omega
 have ai:en<=70000:=by omega
 have u2:IntKind.u32.wrap (x2:Int)=x2:=by rw[a0w];omega
 have u3:IntKind.u32.wrap (x3:Int)=x3:=by rw[a0w];omega
 have u4:IntKind.u32.wrap (x4:Int)=x4:=by rw[a0w];omega
 have u5:IntKind.u32.wrap (x5:Int)=x5:=by rw[a0w];omega
 obtain⟨y3,F⟩:=Aa (x3*2^8);obtain⟨y4,E⟩:=Aa (x4*2^16);obtain⟨y5,D⟩:=Aa (x5*2^24)
 have v3:IntKind.u32.wrap ((x3:Int)*256)=(y3:Int):=by rw[a0w];omega
 have v4:IntKind.u32.wrap ((x4:Int)*65536)=(y4:Int):=by rw[a0w];omega
 have v5:IntKind.u32.wrap ((x5:Int)*16777216)=(y5:Int):=by rw[a0w];omega
 have o3:=Ze x2 x3 8 (by omega) (by omega);rw[F] at o3;obtain⟨r3,P⟩:=Aa (x2+y3);rw[P] at o3;have o4:=Ze r3 x4 16 (by omega) (by omega);rw[E] at o4;obtain⟨r4,O⟩:=Aa (r3+y4);rw[O] at o4;have o5:=Ze r4 x5 24 (by omega) (by omega);rw[D] at o5;rw[show r4+y5=q from by omega] at o5
 have ag:q<4294967296:=by omega
 clear t W Q V U F E D P O n;have T:=X y;clear y;by_cases hE:s.size<en
 .rw[p.o hE]
  have z2:(s.size:Int)<en:=by omega
  go_in;go_wp2_with fail;refine Bo (by kernel_rfl) (by kernel_rfl) ?_
  iterate 10
   apply A1 rfl rfl rfl
   .intro a w c b K d;have:=b.f 0;(try have:=b.e 0 14);(try have:=b.e 1 15);(try have:=b.e 2 16);(try have:=b.e 4 18);(try have:=b.e 5 19);(try have:=b.e 6 20);(try have:=b.e 3 17);(try have:=b.e 7 21);(try have:=b.e 8 22);simp only[Oper.wp,execOp];go_simp;exact d _ c (Fp.refl _ _)
  refine Bn ?_
  iterate 10 refine Bm ?_
  refine Bl fun w' c=>?_
  .simp only[Aj,Act.put,a0x,a0v,a0u];go_wp2_with fail;refine bodyPost_ret (v:=.tuple #[.string ⟨#[]⟩,.int .i64 0,.int .i64 10]) (by simp[results,Tryz.results73,go_sem, *]) rfl ⟨rfl,c⟩
 have z2:¬(s.size:Int)<en:=by omega
 have ak:(en:Int)<=s.size:=by omega
 have am:(2:Int)<=s.size:=by omega
 have al:(6:Int)<=en:=by omega
 obtain⟨g,hg⟩:=Aa (Ln (s.extract 0 2) (s.extract 6 en));rw[hg] at j k
 have C:(s.extract 0 2).size<=100000000:=by rw[a1z];omega
 have B:(s.extract 6 en).size<=100000000:=by rw[a1z];omega
 have HS:=X (fun w y=>Ur (s.extract 0 2) w C y);have S:=X (fun w y=>Wj (B0 0 (s.extract 0 2)) (s.extract 6 en) w (Og _ _) B y);rw[show B0 (B0 0 (s.extract 0 2)) (s.extract 6 en)=g from hg] at S;obtain⟨m,hm⟩:=Aa (B0 0 (s.extract 0 2));rw[hm] at HS S;clear hg hm C B;by_cases r:g=q
 .rw[k.o hE r];subst r;go_in;go_wp2_with fail;refine Bo (by kernel_rfl) (by kernel_rfl) ?_
  iterate 10
   apply A1 rfl rfl rfl
   .intro a w c b K d;have:=b.f 0;(try have:=b.e 0 14);(try have:=b.e 1 15);(try have:=b.e 2 16);(try have:=b.e 4 18);(try have:=b.e 5 19);(try have:=b.e 6 20);(try have:=b.e 3 17);(try have:=b.e 7 21);(try have:=b.e 8 22);simp only[Oper.wp,execOp];go_simp;exact d _ c (Fp.refl _ _)
  refine Bn ?_
  iterate 10 refine Bm ?_
  refine Bl fun w' c=>?_
  .simp only[Aj,Act.put,a0x,a0v,a0u];have x:=X c;clear c;go_wp2_with fail;refine Bo (by kernel_rfl) (by kernel_rfl) ?_
   iterate 19
    apply A1 rfl rfl rfl
    .intro a w c b K d;have:=b.f 0;(try have:=b.e 0 27);(try have:=b.e 1 28);(try have:=b.e 3 30);(try have:=b.e 4 31);(try have:=b.e 5 32);(try have:=b.e 2 29);(try have:=b.e 6 33);(try have:=b.e 8 35);(try have:=b.e 9 36);(try have:=b.e 10 37);(try have:=b.e 7 34);(try have:=b.e 11 38);(try have:=b.e 13 40);(try have:=b.e 14 41);(try have:=b.e 15 42);(try have:=b.e 12 39);(try have:=b.e 16 43);(try have:=b.e 17 44);simp only[Oper.wp,execOp];go_simp;exact d _ c (Fp.refl _ _)
   refine Bn ?_
   iterate 19 refine Bm ?_
   refine Bl fun w' c=>?_
   .simp only[Aj,Act.put,a0x,a0v,a0u];have i:=X (x.o.trans c);clear c;go_wp2_with fail;refine Bo (by kernel_rfl) (by kernel_rfl) ?_
    iterate 9
     apply A1 rfl rfl rfl
     .intro a w c b K d;have:=b.f 0;have:=b.f 5;have:=b.f 6;(try have:=b.e 0 45);(try have:=b.e 1 46);(try have:=b.e 3 48);(try have:=b.e 4 49);(try have:=b.e 2 47);(try have:=b.e 5 50);(try have:=b.e 6 51);(try have:=b.e 7 52);simp only[Oper.wp,execOp];go_simp
      first
      |exact d _ c (Fp.refl _ _)
      |first
        |((with_reducible refine(HS.o _ (T.o.fp (i.o.trans c (by simp)))).mono ?_);rintro e w2 ⟨rfl,l⟩;exact d _ (c.trans l) l)
        |((with_reducible refine(S.o _ (T.o.fp (i.o.trans c (by simp)))).mono ?_);rintro e w2 ⟨rfl,l⟩;exact d _ (c.trans l) l)
    refine Bn ?_
    iterate 9 refine Bm ?_
    refine Bl fun w' c=>?_
    .simp only[Aj,Act.put,a0x,a0v,a0u];have u:=X (i.o.trans c);clear c;go_wp2_with fail;refine bodyPost_ret (v:=.tuple #[.string (s.extract 6 en),.int .i64 en,.int .i64 0]) (by simp[results,Tryz.results73,go_sem, *]) rfl ⟨rfl,u.o⟩
 .rw[j.o hE r]
  have zq:((g:Int)!=(q:Int))=true:=by rw[bne_iff_ne];omega
  go_in;go_wp2_with fail;refine Bo (by kernel_rfl) (by kernel_rfl) ?_
  iterate 10
   apply A1 rfl rfl rfl
   .intro a w c b K d;have:=b.f 0;(try have:=b.e 0 14);(try have:=b.e 1 15);(try have:=b.e 2 16);(try have:=b.e 4 18);(try have:=b.e 5 19);(try have:=b.e 6 20);(try have:=b.e 3 17);(try have:=b.e 7 21);(try have:=b.e 8 22);simp only[Oper.wp,execOp];go_simp;exact d _ c (Fp.refl _ _)
  refine Bn ?_
  iterate 10 refine Bm ?_
  refine Bl fun w' c=>?_
  .simp only[Aj,Act.put,a0x,a0v,a0u];have x:=X c;clear c;go_wp2_with fail;refine Bo (by kernel_rfl) (by kernel_rfl) ?_
   iterate 19
    apply A1 rfl rfl rfl
    .intro a w c b K d;have:=b.f 0;(try have:=b.e 0 27);(try have:=b.e 1 28);(try have:=b.e 3 30);(try have:=b.e 4 31);(try have:=b.e 5 32);(try have:=b.e 2 29);(try have:=b.e 6 33);(try have:=b.e 8 35);(try have:=b.e 9 36);(try have:=b.e 10 37);(try have:=b.e 7 34);(try have:=b.e 11 38);(try have:=b.e 13 40);(try have:=b.e 14 41);(try have:=b.e 15 42);(try have:=b.e 12 39);(try have:=b.e 16 43);(try have:=b.e 17 44);simp only[Oper.wp,execOp];go_simp;exact d _ c (Fp.refl _ _)
   refine Bn ?_
   iterate 19 refine Bm ?_
   refine Bl fun w' c=>?_
   .simp only[Aj,Act.put,a0x,a0v,a0u];have i:=X (x.o.trans c);clear c;go_wp2_with fail;refine Bo (by kernel_rfl) (by kernel_rfl) ?_
    iterate 9
     apply A1 rfl rfl rfl
     .intro a w c b K d;have:=b.f 0;have:=b.f 5;have:=b.f 6;(try have:=b.e 0 45);(try have:=b.e 1 46);(try have:=b.e 3 48);(try have:=b.e 4 49);(try have:=b.e 2 47);(try have:=b.e 5 50);(try have:=b.e 6 51);(try have:=b.e 7 52);simp only[Oper.wp,execOp];go_simp
      first
      |exact d _ c (Fp.refl _ _)
      |first
        |((with_reducible refine(HS.o _ (T.o.fp (i.o.trans c (by simp)))).mono ?_);rintro e w2 ⟨rfl,l⟩;exact d _ (c.trans l) l)
        |((with_reducible refine(S.o _ (T.o.fp (i.o.trans c (by simp)))).mono ?_);rintro e w2 ⟨rfl,l⟩;exact d _ (c.trans l) l)
    refine Bn ?_
    iterate 9 refine Bm ?_
    refine Bl fun w' c=>?_
    .simp only[Aj,Act.put,a0x,a0v,a0u];have u:=X (i.o.trans c);clear c;go_wp2_with fail;refine bodyPost_ret (v:=.tuple #[.string ⟨#[]⟩,.int .i64 0,.int .i64 20]) (by simp[results,Tryz.results73,go_sem, *]) rfl ⟨rfl,u.o⟩
end
end Go.Proofs.YtkagolpnaicdoaaGreatDoor
