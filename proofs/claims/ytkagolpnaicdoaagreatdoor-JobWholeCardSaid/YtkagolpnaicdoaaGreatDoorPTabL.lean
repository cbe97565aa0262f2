/-
 table.Build: a file's bytes. table.Open: a file that is opened. table.Open: the walk.
-/
import Derived.Test.YtkagolpnaicdoaaGreatDoorPJobB
set_option maxRecDepth 100000
set_option maxHeartbeats 8000000
open Go.Lib renaming hid->a0z
open ByteArray renaming size_extract->a0x,size_append->a4w
open List renaming getElem?_eq_getElem->a0w,length_append->a0v,setIfInBounds_toArray->a1z,getElem_mem->a1x,take_succ_eq_append_getElem->a1w,set_cons_succ->a1v,set_cons_zero->a1u,map_cons->a2z,reverse_cons->a2x,length_drop->a2w,reverse_nil->a2v,cons_append->a2u,length_cons->a3z,getElem?_cons_succ->a3x,getElem?_cons_zero->a3w,nil_append->a3v,take_of_length_le->a3u,getElem?_toArray->a4v,sum_cons->a4u
open Go.IntKind renaming wrap_i64->a0u
open Nat renaming le_refl->a4z,zero_le->a4x
namespace Go.Proofs.YtkagolpnaicdoaaGreatDoor
section
open Go.RowKit
def Bl(l:List Aa):Nat:=(l.length+7)/8
def D8(l:List Aa)(k:Nat):List Aa:=(l.drop (8*k)).take 8
def M8(l:List Aa)(k:Nat):ByteArray:=Jd (Da (D8 l k)).1
def Du(l:List Aa):Nat->Nat
 |0=>0
 |k+1=>if Du l k≠0 then Du l k else(Da (D8 l k)).2
def F3(l:List Aa)(k:Nat):List UInt8:=(List.range k).flatMap fun j=>(M8 l j).data.toList
def Gp(l:List Aa):Nat->ByteArray
 |0=>Em (Bl l) 2
 |k+1=>Gp l k++Em (M8 l k).size 4
def dX(l:List Aa):ByteArray:=bl (F3 l (Bl l))
def Oa(l:List Aa):ByteArray:=Jd (Gp l (Bl l))
def Pi(l:List Aa):ByteArray:=Jd (G6 (Fe l))
def Hu(l:List Aa)(seq:Nat):Gn:=⟨(F3 l (Bl l)).length,(Oa l).size,(Pi l).size,seq⟩
def E3(l:List Aa)(seq:Nat):ByteArray:=dX l++Oa l++Pi l++Jd (Hu l seq).text
def G1(l:List Aa)(seq:Nat):ByteArray × Nat:=
 if l.length>2000 then(⟨#[]⟩,71) else if l.length=0 then(⟨#[]⟩,1) else if Du l (Bl l)≠0 then(⟨#[]⟩,Du l (Bl l)) else if risC l=false then(⟨#[]⟩,40) else(E3 l seq,0)
theorem pU{l:List Aa}{k:Nat}(h:Du l k≠0):∀m,k≤m→Du l m=Du l k
 |0,hm=>by obtain rfl:k=0:=by omega
           rfl
 |m+1,hm=>by
  by_cases e:k=m+1
  ·rw[e]
  ·have a:=pU h m (by omega);show(if Du l m≠0 then Du l m else _)=_;rw[a,if_pos h]
theorem Afi{l:List Aa}{k m:Nat}(d:Du l k=0)(h:(Da (D8 l k)).2≠0)(b:k<m):Du l m=(Da (D8 l k)).2:=by
 have a:Du l (k+1)=(Da (D8 l k)).2:=by show(if Du l k≠0 then Du l k else _)=_;rw[if_neg (by simp[d])]
 rw[pU (k:=k+1) (by rw[a];exact h) m b,a]
theorem pV{l:List Aa}{k:Nat}(a:Du l k=0)(h:(Da (D8 l k)).2=0):Du l (k+1)=0:=by
 show(if Du l k≠0 then Du l k else _)=_;rw[if_neg (by simp[a]),h]
theorem pW(l:List Aa)(k:Nat):F3 l (k+1)=F3 l k++(M8 l k).data.toList:=by
 unfold F3;rw[List.range_succ,List.flatMap_append];simp
theorem pX(l:List Aa)(k:Nat):(D8 l k).length=min 8 (l.length-8*k):=by
 unfold D8;rw[List.length_take,a2w]
theorem pY{w:World}{b o len:Nat}{l:List Aa}{k:Nat}(h:Bh w (some ⟨b,o,none⟩) len l)(g:8*k<len):Bh w (some ⟨b,o+8*k*6,none⟩) (min 8 (len-8*k)) (D8 l k):=by
 have d:=h.drop (8*k) (len-8*k) (by omega);have a:=d.take (min 8 (len-8*k)) (by omega);unfold D8;have f:=h.len
 by_cases e:len-8*k<=8
 ·rw[a3u (by rw[a2w];omega)];rw[a3u (by rw[a2w];omega)] at a;exact a
 ·rw[Nat.min_eq_left (by omega)] at a ⊢;exact a
theorem Zb(s:ByteArray):(Jd s).size<=6+s.size:=by
 unfold Jd L3;split
 ·show 0<=_;omega
 ·exact Nat.le_of_eq (X2 s)
theorem pZ(l:List Aa)(k:Nat):(M8 l k).size<=80006:=by
 have b:=Zb (Da (D8 l k)).1;have a:=lF (l:=D8 l k);unfold M8;omega
theorem Zc(l:List Aa):∀k,(F3 l k).length≤80006*k
 |0=>a4z _
 |k+1=>by
  rw[pW,a0v];have d:=Zc l k;have b:=pZ l k;have a:(M8 l k).data.toList.length=(M8 l k).size:=rfl;omega
theorem Zd(l:List Aa):∀k,(Gp l k).size=2+4*k
 |0=>by show(Em _ 2).size=_;rw[Ph]
 |k+1=>by
  show(Gp l k++Em _ 4).size=_;rw[a4w,Zd l k,Ph];omega
theorem E2.get{w:World}{base:Nat}{v:Value}{a:List Value}(h:E2 w base v a){k:Nat}(q:k<a.length):∃g cap,v=.slice (some ⟨g,0,none⟩) a.length cap∧base≤g∧g<w.heap.size∧∀i (d:i<a.length),w.cell? ⟨g,i,none⟩=some a[i]:=by
 rcases h.2 with⟨_,r⟩|⟨g,cap,b,e,m,f,o,p,n,l⟩
 ·omega
 ·refine⟨g,cap,e,m,Ac f,fun i d=>?_⟩
  have j:(b.toList.take (a.length*1))[i]?=a[i]?:=by rw[l]
  rw[List.getElem?_take,if_pos (by omega),a0w d,Array.getElem?_toList] at j;rw[Ab f,j]
theorem qA{len k:Nat}(h:k<(D6 len).length):(D6 len)[k]=(8*k,min 8 (len-8*k)):=by simp[D6]
theorem Ze{l:List Aa}:∀{m:Nat},Du l m=0→∀k,k<m→(Da (D8 l k)).2=0
 |0,_,k,hk=>absurd hk (Nat.not_lt_zero _)
 |m+1,h,k,hk=>by
  by_cases a:Du l m=0
  ·have b:(Da (D8 l m)).2=0:=by
    have:Du l (m+1)=(Da (D8 l m)).2:=by show(if Du l m≠0 then Du l m else _)=_;rw[if_neg (by simp[a])]
    rw[<-this];exact h
   by_cases e:k=m
   ·rw[e];exact b
   ·exact Ze a k (by omega)
  ·have:Du l (m+1)=Du l m:=by show(if Du l m≠0 then Du l m else _)=_;rw[if_pos a]
   rw[this] at h;exact absurd h a
theorem Afj{l:List Aa}(h:Du l (Bl l)=0):∀c∈l,B8 c=true:=by
 intro c g;obtain⟨i,f,rfl⟩:=List.getElem_of_mem g;have b:=(Vw (Ze h (i/8) (by unfold Bl;omega))).2.1;rw[List.all_eq_true] at b;apply b
 have a:i%8<(D8 l (i/8)).length:=by rw[pX];omega
 have d:(D8 l (i/8))[i%8]?=l[i]?:=by
  unfold D8;rw[List.getElem?_take,if_pos (Nat.mod_lt _ (by decide)),List.getElem?_drop];congr 1;omega
 have e:(D8 l (i/8))[i%8]=l[i]:=by
  rw[a0w a,a0w f] at d;exact Option.some.inj d
 rw[<-e];exact a1x a
theorem Afk{l:List Aa}{s:ByteArray}(h:s∈Fe l):∃c∈l,c.row=s:=by
 unfold Fe V1 at h;obtain⟨j,b,rfl⟩:=List.mem_map.1 h;have a:=List.mem_range.1 (List.mem_filter.1 b).1;refine⟨l.getD j Az,?_,rfl⟩;rw[List.getD_eq_getElem?_getD,a0w a];exact a1x a
theorem qB(names:List ByteArray):(G6 names).size=Rk names.length:=by
 unfold G6;rw[Dm,cD]
structure Js(w1:World)(bf:Nat)(f:Gn)(bs:List UInt8)(done:Bool)(w':World):Prop where
 fp:Fp [] w1 w'
 box:w'.heap[bf]?=some (.cells #[.int .i64 f.blocks,.int .i64 f.index,.int .i64 f.filter,.int .u64 f.seq] 144 (0,0))
 bu:done=false->Dp 131 w1.heap.size w1.heap.size bs w'
def CJ(w1:World)(bf:Nat)(f:Gn)(bs:List UInt8)(b:Nat->Bool)(w':World):Prop:=Js w1 bf f bs (b 0) w'
theorem Js.on{b A B:World}{g:Nat}{f:Gn}{bs:List UInt8}{d:Bool}(h:Js b g f bs d A)(a:Fp [] A B):Js b g f bs d B:=
 ⟨h.fp.trans a (by simp),(a.block _ (Ac h.box) (by simp)).trans h.box,fun e=>(h.bu e).fp a (by simp)⟩
theorem CJ.bu{a w':World}{g:Nat}{f:Gn}{bs:List UInt8}{b:Nat->Bool}(h:CJ a g f bs b w')(d:b 0=false):Dp 131 a.heap.size a.heap.size bs w':=Js.bu h d
theorem CJ.fp{a w':World}{d:Nat}{f:Gn}{bs:List UInt8}{b:Nat->Bool}(h:CJ a d f bs b w'):Fp [] a w':=Js.fp h
theorem dY:liesAt Tryz.prog Tryz.prog.depth 131 (2/Tryz.prog.cellsOf 131) 0 131 1=true:=by kernel_rfl
theorem qC(w:World)(a:Option Addr)(len cap:Nat)(l:List Aa)(seq:Nat)(I:Bh w a len l)(b2:len≤cap)(b5:len≤1000000000)(hq:seq<18446744073709551616)(hm:Ia w)(R:Dl w):
  Calls Tryz.prog 51 #[.slice a len cap,.int .u64 seq] w fun e w'=>e=.returned (.tuple #[.string (G1 l seq).1,.int .i64 ((G1 l seq).2:Nat)])/\Fp [] w w':=by
 have HL:=a0z I;have ce:=a0z I.len;have HM:=a0z hm;have HT:=a0z R
 by_cases h1:len>2000
 ·have hb:G1 l seq=(⟨#[]⟩,71):=if_pos (by rw[<-I.len];exact h1);rw[hb]
  have z:(len:Int)>2000:=by omega
  clear I hm R hb;go_enter Tryz.func51,Tryz.ntmps51;go_wp2_with (fail);go_ret2;exact⟨rfl,Fp.refl _ _⟩
 by_cases h2:len=0
 ·have hb:G1 l seq=(⟨#[]⟩,1):=by unfold G1;rw[if_neg (by rw[<-I.len];exact h1),if_pos (by rw[<-I.len];exact h2)]
  rw[hb];subst h2;clear I hm R hb;go_enter Tryz.func51,Tryz.ntmps51;go_wp2_with (fail);go_ret2;exact⟨rfl,Fp.refl _ _⟩
 have hb:G1 l seq=if Du l (Bl l)≠0 then(⟨#[]⟩,Du l (Bl l)) else if risC l=false then(⟨#[]⟩,40) else(E3 l seq,0):=by
  unfold G1;rw[if_neg (by rw[<-I.len];exact h1),if_neg (by rw[<-I.len];exact h2)]
 have HB:=a0z hb
 have y1:¬(len:Int)>2000:=by omega
 have y2:((len:Int)==0)=false:=by rw[beq_eq_false_iff_ne];omega
 obtain⟨b,o,rfl⟩:∃b o,a=some ⟨b,o,none⟩:=by
  rcases I.cells with h0|⟨b,o,e,_⟩
  ·rw[h0] at I;have:=I.len;simp at this;omega
  ·exact⟨b,o,e⟩
 obtain⟨m,L⟩:∃m,Bl l=m:=⟨_,rfl⟩
 have bc:m=(len+7)/8:=by rw[<-L,Bl,I.len]
 have cd:=a0z bc
 have cq:8*m<len+8:=by omega
 have cp:len<=8*m:=by omega
 have f:=a0z L;have bn:=a0z (fun w=>pP w b o len cap b2 b5);clear I hm R hb L bc;go_enter Tryz.func51,Tryz.ntmps51;go_wp2_with (fail);(with_reducible refine(bn.out _).mono ?_);rintro e G ⟨v1,rfl,ba,bg⟩
 have af:((D6 len).map (Iu b o)).length=m:=by rw[List.length_map,R1,cd.out]
 obtain⟨g1,c1,rfl,cu,be,bh⟩:=ba.get (k:=0) (by rw[af];omega);rw[af]
 have ck:Hid (∀k,k<m->G.cell? ⟨g1,k,none⟩=some (.slice (some ⟨b,o+8*k*6,none⟩) (min 8 (len-8*k)) (min 8 (len-8*k)))):=by
  intro k hk;have h:=bh k (by rw[af];exact hk);rw[List.getElem_map,qA] at h;exact h
 have d:=a0z bg;have bj:=Dp.fresh 131 G;have cl:=a0z bj
 have u1:IntKind.u64.wrap (m:Int)=(m:Int):=by rw[IntKind.wrap_u64];omega
 have cf:=a0z (fun w n (h:n<18446744073709551616)=>R0 w n 2 h (by decide))
 have bp:Hid (∀w,Calls Tryz.prog 90 #[.int .u64 m,.int .i64 2] w fun e w'=>e=.returned (.string (Gp l 0))/\Fp [] w w'):=by
  intro w;rw[show Gp l 0=Em m 2 from by show Em (Bl l) 2=_;rw[f.out]];exact R0 w m 2 (by omega) (by decide)
 clear bj bh ba bg cf bn;go_wp2_with (fail);(with_reducible refine(bp.out _).mono ?_);rintro e w2 ⟨rfl,T⟩;have c5:=a0z (d.out.trans ((Fp.alloc G (.cells #[.pointer none,.slice none 0 0] 131)).trans T (by simp)) (by simp));have bq:=a0z ((Fp.alloc G (.cells #[.pointer none,.slice none 0 0] 131)).trans T (by simp));have cn:=a0z (cl.out.fp T (by simp));clear T bp;go_wp2_with (fail)
 go_loopg [8,34] m (fun g vi vk wr=>∃k:Nat,g+k=m/\vi=.string (Gp l k)/\vk=.int .i64 k/\Dp 131 G.heap.size G.heap.size (F3 l k) wr/\Fp [] G wr/\Du l k=0)
 case atStart=>exact⟨0,by omega,rfl,rfl,cn.out,bq.out,rfl⟩
 case round=>
  obtain⟨k,hg,rfl,rfl,bi,hf,he⟩:=hrel;have bx:=a0z bi;have HF:=a0z hf;have HE:=a0z he;clear bi hf he
  by_cases hk:k<m
  ·have zk:(k:Int)<(m:Int):=by omega
   have q0:wr.cell? ⟨g1,k,none⟩=some (.slice (some ⟨b,o+8*k*6,none⟩) (min 8 (len-8*k)) (min 8 (len-8*k))):=(HF.out.cell (p:=⟨g1,k,none⟩) be (by simp)).trans (ck.out k hk);have au:=a0z (fG wr (some ⟨b,o+8*k*6,none⟩) (min 8 (len-8*k)) (min 8 (len-8*k)) (D8 l k) (pY (HL.out.fp (d.out.trans HF.out (by simp))) (by omega)) (by omega) (HM.out.fp (d.out.trans HF.out (by simp)) (by simp)));have bt:=a0z (fun h=>Afi (m:=Bl l) HE.out h (by rw[f.out];exact hk));have br:=a0z (fun h=>pV HE.out h);have ap:Hid (M8 l k=Jd (Da (D8 l k)).1):=rfl;have al:=lF (l:=D8 l k)
   obtain⟨⟨s,e⟩,a4⟩:∃t,Da (D8 l k)=t:=⟨_,rfl⟩
   rw[a4] at au bt br ap al
   obtain⟨mm,L⟩:∃mm,min 8 (len-8*k)=mm:=⟨_,rfl⟩
   rw[L] at q0 au;clear a4 L;go_wp2_with (fail);(with_reducible refine au.out.mono ?_);rintro U w3 ⟨rfl,A⟩;have az:=a0z (bx.out.fp A (by simp));have E:=a0z (HF.out.trans A (by simp));clear A
   by_cases he:e=0
   ·subst he;have cj:=a0z (br.out rfl);have aq:=a0z (Y8 s w3 (by omega) (HT.out.fp (d.out.trans E.out (by simp)) (by simp)));rw[<-ap.out] at aq;have b0:=pZ l k;have bw:=a0z (pW l k);have X:Hid (Gp l (k+1)=Gp l k++Em (M8 l k).size 4):=rfl;have ah:=Zd l k;have am:=Zc l k
    obtain⟨j,ae⟩:∃r,M8 l k=r:=⟨_,rfl⟩
    rw[ae] at aq b0 bw X
    obtain⟨ix,v⟩:∃r,Gp l k=r:=⟨_,rfl⟩
    rw[v] at X ah;rw[v];clear ae v ap;go_wp2_with (fail);(with_reducible refine aq.out.mono ?_);rintro U w4 ⟨rfl,y⟩;have ay:=a0z (az.out.fp y (by simp));have ab:=a0z (E.out.trans y (by simp));clear y;go_wp2_with (fail);(with_reducible refine(Su dY (by decide) G.heap.size G.heap.size (F3 l k) j w4 ay.out (by omega)).mono ?_);rintro U w5 ⟨rfl,bm,M⟩;have ac:=a0z bm;have aa:=a0z (ab.out.bfp M (a4z _))
    have u2:IntKind.u64.wrap (j.size:Int)=(j.size:Int):=by rw[IntKind.wrap_u64];omega
    have bo:Hid (∀w,Calls Tryz.prog 90 #[.int .u64 j.size,.int .i64 4] w fun e w'=>e=.returned (.string (Em j.size 4))/\Fp [] w w'):=fun w=>R0 w j.size 4 (by omega) (by decide)
    have b1:=Ph j.size 4
    obtain⟨le,bd⟩:∃r,Em j.size 4=r:=⟨_,rfl⟩
    rw[bd] at bo b1 X
    have zl:¬ix.size+4>9223372036854775807:=by omega
    clear bm M bd;go_wp2_with (fail);(with_reducible refine(bo.out _).mono ?_);rintro U w6 ⟨rfl,x⟩;have ax:=a0z (ac.out.fp x (by simp));have Z:=a0z (aa.out.trans x (by simp));clear x;go_wp2_with (fail)
    go_roundg (gk-1)
    case measure=>omega
    case rel=>exact⟨k+1,by omega,by rw[X.out],by simp,by rw[bw.out];exact ax.out,Z.out,cj.out⟩
   ·have ze:((e:Int)!=0)=true:=by rw[bne_iff_ne];omega
    have q:=HB.out;rw[f.out] at q;have ak:=bt.out he;rw[f.out] at ak;rw[ak,if_pos he] at q;have Q:=a0z q;clear q ak;go_wp2_with (fail);go_ret2;exact⟨by rw[Q.out];rfl,d.out.trans E.out (by simp)⟩
  ·obtain rfl:k=m:=by omega
   have zk:¬(k:Int)<(k:Int):=by omega
   have q:=HB.out;rw[f.out,HE.out,if_neg (by decide)] at q;have HB2':=a0z q;have ca:=a0z (Xu wr (some ⟨b,o,none⟩) len cap l (HL.out.fp (d.out.trans HF.out (by simp))) (by omega));clear q;go_wp2_with (fail);(with_reducible refine ca.out.mono ?_);rintro U w3 ⟨rfl,A⟩;have az:=a0z (bx.out.fp A (by simp));have E:=a0z (HF.out.trans A (by simp));clear A
   by_cases J:risC l=false
   ·have B:=HB2'.out;rw[if_pos J] at B;have Q:=a0z B;rw[J];clear B J;go_wp2_with (fail);go_ret2;exact⟨by rw[Q.out];rfl,d.out.trans E.out (by simp)⟩
   ·have ad:risC l=true:=by simpa using J
    have B:=HB2'.out;rw[if_neg J] at B;have Q:=a0z B;rw[ad];clear B J ad;have b9:=a0z (Aan w3 (some ⟨b,o,none⟩) len cap l (HL.out.fp (d.out.trans E.out (by simp))) (by omega));go_wp2_with (fail);(with_reducible refine b9.out.mono ?_);rintro U w4 ⟨v4,rfl,a9,y⟩;have ay:=a0z (az.out.fp y (by simp));have ab:=a0z (E.out.trans y (by simp))
    have a8:(Fe l).length<=2000:=by have h1:=lW l l.length;have h2:=ce.out;unfold Fe;omega
    have al:=qB (Fe l)
    have b6:Rk (Fe l).length<=3000:=by unfold Rk;omega
    have cc:=a0z (Aa2 w4 v4 w3.heap.size (Fe l) a9 a8 (by
     intro s hs;obtain⟨c,hc,rfl⟩:=Afk hs;have:=(Sl (Afj (by rw[f.out];exact HE.out) c hc)).1
     omega) (HT.out.fp (d.out.trans ab.out (by simp)) (by simp)))
    clear y a9 a8;go_wp2_with (fail);(with_reducible refine cc.out.mono ?_);rintro U w5 ⟨rfl,M⟩;have ac:=a0z (ay.out.fp M (by simp));have aa:=a0z (ab.out.trans M (by simp))
    have av:Hid (Oa l=Jd (Gp l k)):=by unfold Hid Oa;rw[f.out]
    have aw:Hid (Pi l=Jd (G6 (Fe l))):=rfl;have ah:=Zd l k;have a7:=Zb (Gp l k);have a6:=Zb (G6 (Fe l));have W:=a0z (fun w R=>Y8 (Gp l k) w (by omega) R);have V:=a0z (fun w R=>Y8 (G6 (Fe l)) w (by omega) R)
    have b3:(Oa l).size<=10000:=by rw[av.out];omega
    have b4:(Pi l).size<=10000:=by rw[aw.out];omega
    have Y:Hid (Hu l seq=⟨(F3 l k).length,(Oa l).size,(Pi l).size,seq⟩):=by unfold Hid Hu;rw[f.out]
    have i:Hid (E3 l seq=bl (F3 l k)++Oa l++Pi l++Jd (Hu l seq).text):=by unfold Hid E3 dX;rw[f.out]
    rw[<-av.out] at W;rw[<-aw.out] at V
    obtain⟨ix,v⟩:∃r,Gp l k=r:=⟨_,rfl⟩
    rw[v] at W;rw[v]
    obtain⟨fl,ai⟩:∃r,G6 (Fe l)=r:=⟨_,rfl⟩
    rw[ai] at V;rw[ai];have am:=Zc l k
    obtain⟨u,a0⟩:∃r,Oa l=r:=⟨_,rfl⟩
    rw[a0] at W b3 Y i
    obtain⟨F,aS⟩:∃r,Pi l=r:=⟨_,rfl⟩
    rw[aS] at V b4 Y i;rw[Y.out] at i
    obtain⟨bs,P⟩:∃r,F3 l k=r:=⟨_,rfl⟩
    rw[P] at ac am i;clear M v ai a0 aS P al b6 ah a7 a6 Y av aw;go_wp2_with (fail);(with_reducible refine(W.out _ (HT.out.fp (d.out.trans aa.out (by simp)) (by simp))).mono ?_);rintro U w6 ⟨rfl,x⟩;have ax:=a0z (ac.out.fp x (by simp));have Z:=a0z (aa.out.trans x (by simp));clear x;go_wp2_with (fail);(with_reducible refine(V.out _ (HT.out.fp (d.out.trans Z.out (by simp)) (by simp))).mono ?_);rintro U w7 ⟨rfl,aj⟩;have bz:=a0z (ax.out.fp aj (by simp));have ci:=a0z (Z.out.trans aj (by simp));clear aj;go_wp2_with (fail);(with_reducible refine(Tryz.Builder_Len G.heap.size G.heap.size (Lib.byteCells bs) w7 (by have h:=bz.out;unfold Dp at h;exact h)).mono ?_);rintro U w8 ⟨rfl,rfl⟩;rw[Lib.byteCells_length]
    obtain⟨nb,ag⟩:∃n,bs.length=n:=⟨_,rfl⟩
    rw[ag] at i ⊢
    have co:nb<=160012000:=by omega
    go_wp2_with (fail);have O:(w8.alloc (.cells #[.int .i64 nb,.int .i64 u.size,.int .i64 F.size,.int .u64 seq] 144)).heap[w8.heap.size]?=some (.cells #[.int .i64 nb,.int .i64 u.size,.int .i64 F.size,.int .u64 seq] 144 (0,0)):=Ai rfl _;have N:=ci.out.alloc' (.cells #[.int .i64 nb,.int .i64 u.size,.int .i64 F.size,.int .u64 seq] 144);have an:=bz.out.fp (Fp.alloc w8 (.cells #[.int .i64 nb,.int .i64 u.size,.int .i64 F.size,.int .u64 seq] 144)) (by simp)
    obtain⟨w9,a2⟩:∃w,w8.alloc (.cells #[.int .i64 nb,.int .i64 u.size,.int .i64 F.size,.int .u64 seq] 144)=w:=⟨_,rfl⟩
    rw[a2] at O N an ⊢;have bv:=a0z O;have ch:=a0z N;have cm:=a0z an
    have bf:(Gn.text ⟨nb,u.size,F.size,seq⟩).size=20:=by
     unfold Gn.text;simp only[a4w,Ph]
    have a5:=Zb (Gn.text ⟨nb,u.size,F.size,seq⟩);have ao:=a0z (fun w=>Ae4 ⟨nb,u.size,F.size,seq⟩ w (by show nb<=_;omega) (by show u.size<=_;omega) (by show F.size<=_;omega) hq);have ar:=a0z (fun w R=>Y8 (Gn.text ⟨nb,u.size,F.size,seq⟩) w (by omega) R);simp only[dW] at ao
    obtain⟨tx,a3⟩:∃t,Gn.text ⟨nb,u.size,F.size,seq⟩=t:=⟨_,rfl⟩
    rw[a3] at ao ar bf a5 i
    obtain⟨x4,aF⟩:∃t,Jd tx=t:=⟨_,rfl⟩
    rw[aF] at ar a5 i
    obtain⟨x1,S⟩:∃t,bl bs=t:=⟨_,rfl⟩
    have a1:x1.size=nb:=by rw[<-S,Dm,ag]
    have b8:Hid ((⟨bs.toArray⟩:ByteArray)=x1):=S;rw[S] at i
    have ct:¬x1.size+u.size>9223372036854775807:=by omega
    have cs:¬x1.size+u.size+F.size>9223372036854775807:=by omega
    have cr:¬x1.size+u.size+F.size+x4.size>9223372036854775807:=by omega
    clear O N an a2 a3 aF S a1 ag am;refine Ft (CJ G w8.heap.size ⟨nb,u.size,F.size,seq⟩ bs) (fun _ _=>True) (by kernel_rfl) (by kernel_rfl) ⟨ch.out.drew',((Fp.drew w9).block _ (Ac bv.out) (by simp)).trans bv.out,fun _=>cm.out.fp (Fp.drew w9) (by simp)⟩ ?_;apply Fb (B6 (.string x1)) rfl rfl rfl
    ·intro b a w C D K hK;have h7:=D.fr 7 rfl;simp only[Oper.wp,execOp];go_simp;(with_reducible refine(yM G.heap.size G.heap.size bs w (C.bu D.self)).mono ?_);rintro e w2 ⟨rfl,bk,hk⟩;rw[b8.out];exact hK _ _ ⟨(Js.fp C).belowTrans bk,hk _ _ _ (by decide) (Js.box C),fun h=>by cases h⟩ trivial rfl
    iterate 10
     apply Be (fun _ _ h=>h) rfl rfl rfl
     ·intro b a w C D K hK
      try have h8:=D.fr 8 rfl
      try have c2:=D.eq 0 81 rfl
      try have c0:=D.eq 1 82 rfl
      try have c4:=D.fr 15 rfl
      try have cS:=D.eq 2 83 rfl
      try have cF:=D.eq 3 84 rfl
      try have c3:=D.fr 17 rfl
      try have cy:=D.eq 5 86 rfl
      try have cx:=D.eq 6 87 rfl
      try have cz:=D.eq 4 85 rfl
      try have cw:=D.eq 7 88 rfl
      try have cv:=D.eq 8 89 rfl
      have q0:=Ab (Js.box C) 0;have q1:=Ab (Js.box C) 1;have q2:=Ab (Js.box C) 2;have q3:=Ab (Js.box C) 3;simp only[a4v,a3x,a3w] at q0 q1 q2 q3;simp only[Oper.wp,execOp];go_simp
      first
      |exact hK _ C trivial
      |first
        |((with_reducible refine(ao.out _).mono ?_);rintro e w2 ⟨rfl,hf⟩;exact hK _ (Js.on C hf) trivial)
        |((with_reducible refine(ar.out _ (HT.out.fp (d.out.trans C.fp (by simp)) (by simp))).mono ?_);rintro e w2 ⟨rfl,hf⟩;exact hK _ (Js.on C hf) trivial)
    refine⟨?_,?_⟩
    ·refine Cc _ ?_
     iterate 9 refine Cc _ ?_
     refine⟨fun _ _ _ _ h=>h,?_⟩;exact trivial
    ·intro wz bb C b7;simp only[a2x,a2v,a3v,a2u];refine Ap ?_;intro v0 u0;obtain rfl:=u0
     iterate 10 (refine Am ?_)
     refine A0 ?_;simp only[Aj,Act.put,a1z,a1v,a1u];have cg:=a0z (Js.fp C);clear C b7;go_wp2_with (fail);go_ret2;exact⟨by rw[Q.out,i.out];rfl,d.out.trans cg.out (by simp)⟩
end
section
open Go.RowKit
def R3(t:ByteArray):Gn:=⟨Bn (t.extract 0 4) 4,Bn (t.extract 4 8) 4,Bn (t.extract 8 12) 4,Bn (t.extract 12 20) 8⟩
def Hk(s:ByteArray)(n:Nat):List ByteArray:=(Dy (s.extract 0 n)).map (·.2)
def Iw(ts:List ByteArray)(k:Nat):List Aa:=((ts.take k).map fun t=>(Ej t).getD []).flatten
def Ob(ts:List ByteArray)(k:Nat):Bool:=(ts.take k).all fun t=>(Ej t).isSome
structure M9 where
 l:List Aa
 f:Gn
 fil:ByteArray
def Uo(s:ByteArray)(f:Gn):Option M9:=
 if f.blocks+f.index+f.filter≠s.size-26 then none
 else if Ob (Hk s f.blocks) (Hk s f.blocks).length=false then none
 else if G1 (Iw (Hk s f.blocks) (Hk s f.blocks).length) f.seq=(s,0) then some ⟨Iw (Hk s f.blocks) (Hk s f.blocks).length,f,(B4 (s.extract (f.blocks+f.index) s.size)).1⟩
 else none
def qD:Option M9->Option M9 × Nat
 |none=>(none,50)
 |some F=>(some F,0)
def Oc(s:ByteArray):Option M9 × Nat:=
 if(B4 (s.extract (s.size-26) s.size)).2.2≠0∨s.size<26 then(none,20)
 else if(B4 (s.extract (s.size-26) s.size)).1.size≠20 then(none,50)
 else qD (Uo s (R3 (B4 (s.extract (s.size-26) s.size)).1))
structure Na(w:World)(bt:Nat)(F:M9):Prop where
 ex:∃pv b o,w.heap[bt]?=some (.cells #[.int .i64 F.f.blocks,.int .i64 F.f.index,.int .i64 F.f.filter,.int .u64 F.f.seq,pv,.string F.fil] 152 (0,0))/\
  Bh w (some ⟨b,o,none⟩) F.l.length F.l/\E2 w 0 pv ((D6 F.l.length).map (Iu b o))
theorem Na.fp{w w':World}{f:Nat}{F:M9}(h:Na w f F)(a:Fp [] w w'):Na w' f F:=by
 obtain⟨g,b,o,d,j,i⟩:=h.ex;exact⟨g,b,o,(a.block _ (Ac d) (by simp)).trans d,j.fp a,i.fp a (by simp)⟩
def Afl(w:World)(v:Value):Option M9->Prop
 |none=>v=.pointer none
 |some F=>∃bt,v=.pointer (some ⟨bt,0,none⟩)/\Na w bt F
def R4(T:TypeId)(w w':World):Prop:=∀(B:Nat) (cs:Array Value) (fz:Nat × Nat),w.heap.size<=B->w'.heap[B]?≠some (.cells cs T fz)
structure Gg(T:TypeId)(z fv:Array Value)(w0:World)(made done:Bool)(w:World):Prop where
 fp:Fp [] w0 w
 no:made=false->∀(B:Nat) (cs:Array Value) (fz:Nat × Nat),w0.heap.size<=B->w.heap[B]?≠some (.cells cs T fz)
 one:made=true->∃B,w0.heap.size<=B/\w.heap[B]?=some (.cells (if done=true then fv else z) T (0,0))/\∀(B':Nat) (cs:Array Value) (fz:Nat × Nat),w0.heap.size<=B'->w.heap[B']?=some (.cells cs T fz)->B'=B
theorem Gg.start{T:TypeId}{z b:Array Value}{a w:World}{done:Bool}(h:Fp [] a w)(d:w.heap.size=a.heap.size):Gg T z b a false done w:=
 ⟨h,fun _ B i g f e=>by have:=Ac e;omega,fun e=>by cases e⟩
theorem Gg.call{T:TypeId}{z m:Array Value}{k w w':World}{made done:Bool}(h:Gg T z m k made done w)(g:Fp [] w w')(n:R4 T w w'):Gg T z m k made done w':=by
 have back:∀(B:Nat) (b:Array Value) (a:Nat × Nat),w'.heap[B]?=some (.cells b T a)->w.heap[B]?=some (.cells b T a):=fun B b a e=>by
  rcases Nat.lt_or_ge B w.heap.size with d|f
  ·rw[<-g.block B d (by simp)];exact e
  ·exact absurd e (n B b a f)
 refine⟨h.fp.trans g (by simp),fun e B b a o j=>h.no e B b a o (back _ _ _ j),fun e=>?_⟩;obtain⟨B,q,l,p⟩:=h.one e;exact⟨B,q,(g.block B (Ac l) (by simp)).trans l,fun B' b a i j=>p B' b a i (back _ _ _ j)⟩
theorem Gg.make{T:TypeId}{z f:Array Value}{d w:World}{done:Bool}(h:Gg T z f d false done w)(i:done=false):Gg T z f d true done (w.alloc (.cells z T)):=by
 refine⟨h.fp.alloc' _,fun e=>(by cases e),fun _=>⟨w.heap.size,h.fp.size,by rw[i];exact Ai rfl _,fun B' k j b e=>?_⟩⟩
 rcases Nat.lt_or_ge B' w.heap.size with a|g
 ·exact absurd ((((Fp.alloc w (.cells z T)).block B' a (by simp)).symm).trans e) (h.no rfl B' k j b)
 ·have:=Ac e;simp at this;omega
theorem Gg.store{T:TypeId}{z g:Array Value}{d w w':World}{done:Bool}{B:Nat}(h:Gg T z g d true done w){n:Array Value}(l:d.heap.size<=B)(r:w.heap[B]?=some (.cells n T (0,0)))(k:Fp [B] w w')(p:w'.heap.size=w.heap.size)(o:w'.heap[B]?=some (.cells g T (0,0))):Gg T z g d true true w':=by
 obtain⟨x,v,u,m⟩:=h.one rfl;have t:=m B n _ l r;refine⟨h.fp.trans k (by intro i q;right;simp at q;omega),fun e=>(by cases e),fun _=>⟨B,l,o,fun B' j s f e=>?_⟩⟩
 by_cases b:B'=B
 ·exact b
 ·have a:=Ac e;rw[p] at a;rw[k.block B' a (by simpa using b)] at e;rw[t];exact m B' j s f e
theorem Afm(w:World)(s:ByteArray)(T:TypeId)(f:T≠5):∃cap W,(convert 9 113 (.string s)).run Tryz.prog w=.ok (.slice (some ⟨w.heap.size,0,none⟩) s.size cap) W∧
  (∀j (h:j<s.size),W.cell? ⟨w.heap.size,j,none⟩=some (.int .u8 s[j].toNat))/\Fp [] w W/\R4 T w W:=by
 have h:=run_bytes_of_string (P:=Tryz.prog) w 9 113 5 s Tryz.underlying9 Tryz.underlying113 Tryz.underlying5;have b:=Ai (w:=w.drew) (n:=w.heap.size) rfl (.cells (bytesRow s (grownCap w s.size 0 5)) 5 ((bytesRow s (grownCap w s.size 0 5)).size,(bytesRow s (grownCap w s.size 0 5)).size+1));refine⟨_,_,h,?_,(Fp.drew w).alloc' _,fun B k i g e=>?_⟩
 ·intro j d;rw[Ab b,bytesRow_at s _ j d];rfl
 ·have a:=Ac e;simp at a
  obtain rfl:B=w.heap.size:=by omega
  rw[b] at e;cases e;exact f rfl
theorem Zf(w:World)(s:ByteArray)(T:TypeId)(q:T≠5)(t:s.size≤8):
  Calls Tryz.prog 74 #[.string s] w fun e w'=>e=.returned (.int .u64 (Bn s s.size))/\Fp [] w w'/\R4 T w w':=by
 obtain⟨cap,W,h,a,n,b⟩:=Afm w s T q;have d:=a0z a;have l:=a0z n;have j:=a0z b;clear a n b;go_enter Tryz.func74,Tryz.ntmps74;go_wp2_with (fail)
 go_loopg [2,8] s.size (fun g p i wr=>∃k:Nat,g+k=s.size/\p=.int .u64 (Bn s k)/\i=.int .i64 k/\wr=W)
 case atStart=>exact⟨0,by omega,rfl,rfl,rfl⟩
 case round=>
  obtain⟨k,u,rfl,rfl,rfl⟩:=hrel
  by_cases m:k<s.size
  ·have f:k<8:=by omega
   have o:(k:Int)<(s.size:Int):=by omega
   have q0:wr.cell? ⟨w.heap.size,k,none⟩=some (.int .u8 s[k].toNat):=d.out k m;have r:=a0z (aM m f);go_wp2_with (fail)
   go_roundg (gk-1)
   case measure=>omega
   case rel=>exact⟨k+1,by omega,by rw[r.out],by go_num,rfl⟩
  ·obtain rfl:k=s.size:=by omega
   have o:¬(s.size:Int)<(s.size:Int):=by omega
   go_wp2_with (fail);go_ret;exact⟨rfl,l.out,j.out⟩
end
section
open Go.RowKit
theorem qE:∀(l:List Aa) (i:Nat) (last:List UInt8),l.length≤(E6 i last l).length
 |[],_,_=>a4x _
 |c::l,i,last=>by
  have a:=qE l (i+1) (Bq c);show l.length+1<=(G3 (Dq i last) c++E6 (i+1) (Bq c) l).length;rw[a0v]
  have:1<=(G3 (Dq i last) c).length:=by
   unfold G3 two;simp only[a0v,a3z,List.length_nil];omega
  omega
theorem Afn{t:ByteArray}{l:List Aa}(h:Ej t=some l):l.length<=t.size:=by
 have f:=lD h;obtain⟨_,d,b⟩:=f;have a:=(Vw d).2.2.2;rw[b] at a;rw[a,Dm,a3z];have:=qE l 0 [];omega
theorem qF:∀(n a:Nat) (s:ByteArray),a≤s.size→((Jq n a s).map fun x=>x.2.size+6).sum+a≤s.size
 |0,a,s,h=>by show 0+a<=_;omega
 |n+1,a,s,h=>by
  obtain⟨⟨t,k,e⟩,b⟩:∃x,B4 (s.extract a s.size)=x:=⟨_,rfl⟩
  by_cases d:e=0
  ·subst d;obtain⟨m,i,g,l⟩:=Wn b
   have f:t.size=k-6:=by
    rw[g,a0x,a0x];omega
   rw[Pe b,a2z,a4u];have j:=qF n (a+k) s i;show t.size+6+_ +_ <=_;omega
  ·rw[Pg b d];show 0+a<=_;omega
theorem qG:∀(n a:Nat) (s:ByteArray),∀x∈Jq n a s,x.2.size≤65541
 |0,_,_,x,h=>by cases h
 |n+1,a,s,x,h=>by
  obtain⟨⟨t,k,e⟩,b⟩:∃x,B4 (s.extract a s.size)=x:=⟨_,rfl⟩
  by_cases d:e=0
  ·subst d;obtain⟨j,i,f,g⟩:=Wn b;rw[Pe b] at h
   rcases List.mem_cons.1 h with rfl|h
   ·show t.size<=_;rw[f,a0x];omega
   ·exact qG n _ s x h
  ·rw[Pg b d] at h;cases h
theorem Afo(s:ByteArray)(n:Nat):∀t∈Hk s n,t.size<=65541:=by
 intro t a;unfold Hk Dy at a;obtain⟨x,b,rfl⟩:=List.mem_map.1 a;exact qG _ _ _ x b
theorem Afp(s:ByteArray)(n:Nat):((Hk s n).map fun t=>t.size+6).sum<=s.size:=by
 unfold Hk Dy;have h:=qF ((s.extract 0 n).size+1) 0 (s.extract 0 n) (a4x _);rw[List.map_map]
 have a:(s.extract 0 n).size<=s.size:=by rw[a0x];omega
 exact Nat.le_trans (by simpa [Function.comp_def] using h) a
theorem Afq{a:List ByteArray}{k:Nat}(h:k<a.length):Iw a (k+1)=Iw a k++(Ej a[k]).getD []:=by
 unfold Iw;rw[a1w h,List.map_append,List.flatten_append];simp
theorem Afr{a:List ByteArray}{k:Nat}(h:k<a.length):Ob a (k+1)=(Ob a k&&(Ej a[k]).isSome):=by
 unfold Ob;rw[a1w h,List.all_append];simp
theorem Afs{a:List ByteArray}{k:Nat}(h:k<a.length)(b:Ej a[k]=none):Ob a a.length=false:=by
 unfold Ob;rw[List.take_length,List.all_eq_false];exact⟨a[k],a1x h,by rw[b];decide⟩
theorem Aft(t:ByteArray):((Ej t).getD []).length<=t.size:=by
 cases h:Ej t with
 |none=>exact a4x _
 |some l=>exact Afn h
theorem qH(a:List ByteArray):∀k,(Iw a k).length≤((a.take k).map fun t=>t.size+6).sum:=by
 intro k;unfold Iw;generalize a.take k=l
 induction l with
 |nil=>exact a4z _
 |cons t l ih=>
  rw[a2z,List.flatten_cons,a0v,a2z,a4u];have:=Aft t;omega
theorem qI(f:ByteArray->Nat)(a:List ByteArray)(k:Nat):((a.take k).map f).sum<=(a.map f).sum:=by
 conv=>rhs;rw[<-List.take_append_drop k a,List.map_append,List.sum_append]
 omega
theorem Afu(a:List ByteArray):a.length<=(a.map fun t=>t.size+6).sum:=by
 induction a with
 |nil=>exact a4z _
 |cons t l ih=>rw[a3z,a2z,a4u];omega
theorem Afv{b:List ByteArray}(h:∀t∈b,t.size<=65541)(k:Nat):∀c∈Iw b k,B3 c:=by
 intro c d;unfold Iw at d;obtain⟨l,i,a⟩:=List.mem_flatten.1 d;obtain⟨t,g,rfl⟩:=List.mem_map.1 i;have f:=h t (List.mem_of_mem_take g)
 cases hp:Ej t with
 |none=>rw[hp] at a;cases a
 |some l=>rw[hp] at a;exact lE (by omega) hp c a
def CK(fv:Array Value)(w0:World)(b:Nat->Bool)(w:World):Prop:=Gg 144 #[.int .i64 0,.int .i64 0,.int .i64 0,.int .u64 0] fv w0 (b 16) (b 17) w
def RT(T:TypeId)(w w':World):Prop:=∀(B:Nat) (cs:Array Value),w.heap[B]?=some (.cells cs T (0,0))->∃cs',w'.heap[B]?=some (.cells cs' T (0,0))
def SB(T:TypeId)(base:Nat)(w:World)(v:Value):Prop:=∃B,v=.pointer (some ⟨B,0,none⟩)/\base<=B/\∃cs,w.heap[B]?=some (.cells cs T (0,0))
theorem SB.stab{T:TypeId}{base:Nat}{w w':World}{v:Value}(a:RT T w w')(h:SB T base w v):SB T base w' v:=by
 obtain⟨B,e,d,f,b⟩:=h;exact⟨B,e,d,a B f b⟩
theorem RT.refl(T:TypeId)(w:World):RT T w w:=fun _ a h=>⟨a,h⟩
theorem RT.fp{T:TypeId}{w w':World}(h:Fp [] w w'):RT T w w':=fun B a e=>⟨a,(h.block B (Ac e) (by simp)).trans e⟩
theorem CK.make{d:Array Value}{a w:World}{b:Nat->Bool}(h:CK d a b w)(i:b 16=false)(g:b 17=false):CK d a (Ah b 16) (w.alloc (.cells #[.int .i64 0,.int .i64 0,.int .i64 0,.int .u64 0] 144)):=by
 have f:Gg 144 #[.int .i64 0,.int .i64 0,.int .i64 0,.int .u64 0] d a (b 16) (b 17) w:=h;rw[i,g] at f;show Gg _ _ _ _ (Ah b 16 16) (Ah b 16 17) _;rw[show Ah b 16 16=true from rfl,show Ah b 16 17=b 17 from rfl,g];exact f.make rfl
theorem CK.cells{g:Array Value}{f w:World}{b:Nat->Bool}(h:CK g f b w)(j:b 16=true){B:Nat}{d:Array Value}(i:f.heap.size<=B)(a:w.heap[B]?=some (.cells d 144 (0,0))):d=if b 17=true then g else#[.int .i64 0,.int .i64 0,.int .i64 0,.int .u64 0]:=by
 obtain⟨n,m,l,k⟩:=Gg.one h j;obtain rfl:=k B d _ i a;rw[l] at a;cases a;rfl
theorem CK.stored{f:Array Value}{d w w':World}{b:Nat→Bool}(h:CK f d b w)(l:b 16=true){B:Nat}{p:Array Value}(o:d.heap.size≤B)(n:w.heap[B]?=some (.cells p 144 (0,0)))(j:Fp [B] w w')(m:w'.heap.size=w.heap.size)(i:w'.heap[B]?=some (.cells f 144 (0,0))):
  CK f d (Ah b 17) w'/\RT 144 w w':=by
 have k:Gg 144 #[.int .i64 0,.int .i64 0,.int .i64 0,.int .u64 0] f d (b 16) (b 17) w:=h;rw[l] at k;refine⟨?_,fun B' g e=>?_⟩
 ·show Gg _ _ _ _ (Ah b 17 16) (Ah b 17 17) _;rw[show Ah b 17 17=true from rfl,show Ah b 17 16=b 16 from rfl,l];exact k.store o n j m i
 ·by_cases a:B'=B
  ·subst a;exact⟨_,i⟩
  ·exact⟨g,(j.block B' (Ac e) (by simpa using a)).trans e⟩
def Zg(base n g:Nat)(w:World)(v:Value):Prop:=∃pa pn pc,v=.slice pa pn pc/\E2 w base v ((D6 n).map (Iu g 0))
def Zh(base n g b1 b2 b3 sq:Nat)(fil:ByteArray)(w:World)(v:Value):Prop:=∃pa pn pc,v=.agg #[.int .i64 b1,.int .i64 b2,.int .i64 b3,.int .u64 sq,.slice pa pn pc,.string fil]/\E2 w base (.slice pa pn pc) ((D6 n).map (Iu g 0))
def Ws(base n g b1 b2 b3 sq:Nat)(fil:ByteArray)(w:World)(v:Value):Prop:=∃pa pn pc bt,v=.pointer (some ⟨bt,0,none⟩)/\w.heap[bt]?=some (.cells #[.int .i64 b1,.int .i64 b2,.int .i64 b3,.int .u64 sq,.slice pa pn pc,.string fil] 152 (0,0))/\E2 w base (.slice pa pn pc) ((D6 n).map (Iu g 0))
theorem Zg.fp{base n g:Nat}{w w':World}{v:Value}(h:Zg base n g w v)(f:Fp [] w w'):Zg base n g w' v:=by
 obtain⟨d,a,b,e,i⟩:=h;exact⟨d,a,b,e,i.fp f (by simp)⟩
theorem Zh.fp{base n g i f d b:Nat}{a:ByteArray}{w w':World}{v:Value}(h:Zh base n g i f d b a w v)(m:Fp [] w w'):Zh base n g i f d b a w' v:=by
 obtain⟨l,j,k,e,o⟩:=h;exact⟨l,j,k,e,o.fp m (by simp)⟩
theorem Ws.fp{base n g k j i b:Nat}{a:ByteArray}{w w':World}{v:Value}(h:Ws base n g k j i b a w v)(d:Fp [] w w'):Ws base n g k j i b a w' v:=by
 obtain⟨o,l,m,q,e,f,p⟩:=h;exact⟨o,l,m,q,e,(d.block _ (Ac f) (by simp)).trans f,p.fp d (by simp)⟩
theorem Afw(w:World)(s:ByteArray)(hs:s.size≤100000000)(hm:Ia w)(ht:Dl w):
  Calls Tryz.prog 37 #[.string s] w fun e w'=>∃v,e=.returned (.tuple #[v,.int .i64 ((Oc s).2:Nat)])/\Afl w' v (Oc s).1/\Fp [] w w':=by
 have HM:=a0z hm;have HT:=a0z ht
 obtain⟨A,O⟩:∃a,s.size-26=a:=⟨_,rfl⟩
 have e1:max (0:Int) ((s.size:Int)-26)=(A:Int):=by omega
 have z1:(A:Int)<=(s.size:Int):=by omega
 have HG:=a0z (aY (s.extract A s.size) w (by rw[a0x];omega) ht)
 have d:Oc s=if(B4 (s.extract A s.size)).2.2≠0∨s.size<26 then(none,20)
   else if(B4 (s.extract A s.size)).1.size≠20 then(none,50)
   else qD (Uo s (R3 (B4 (s.extract A s.size)).1)):=by unfold Oc;rw[O]
 have q:=pJ (s.extract A s.size)
 obtain⟨⟨t,n,e⟩,hg⟩:∃x,B4 (s.extract A s.size)=x:=⟨_,rfl⟩
 rw[hg] at HG d q;simp only at d q;have b9:=a0z O;clear hg hm ht
 by_cases he:e=0
 case neg=>
  rw[if_pos (Or.inl he)] at d;rw[d]
  have ze:((e:Int)!=0)=true:=by rw[bne_iff_ne];omega
  clear d O q;go_enter Tryz.func37,Tryz.ntmps37;go_wp2_with (fail);(with_reducible refine HG.out.mono ?_);rintro e2 w1 ⟨rfl,y⟩;have E:=a0z y;clear y;go_wp2_with (fail);go_ret2;exact⟨_,rfl,rfl,E.out⟩
 subst he
 by_cases cv:s.size<26
 ·rw[if_pos (Or.inr cv)] at d;rw[d]
  have z2:(s.size:Int)<26:=by omega
  clear d O q;go_enter Tryz.func37,Tryz.ntmps37;go_wp2_with (fail);(with_reducible refine HG.out.mono ?_);rintro e2 w1 ⟨rfl,y⟩;have E:=a0z y;clear y;go_wp2_with (fail);go_ret2;exact⟨_,rfl,rfl,E.out⟩
 have z2:¬(s.size:Int)<26:=by omega
 rw[if_neg (by simp;omega)] at d
 by_cases bf:t.size=20
 case neg=>
  rw[if_pos bf] at d;rw[d]
  have z3:((t.size:Int)!=20)=true:=by rw[bne_iff_ne];omega
  clear d O q;go_enter Tryz.func37,Tryz.ntmps37;go_wp2_with (fail);(with_reducible refine HG.out.mono ?_);rintro e2 w1 ⟨rfl,y⟩;have E:=a0z y;clear y;go_wp2_with (fail);go_ret2;exact⟨_,rfl,rfl,E.out⟩
 rw[if_neg (by simpa using bf)] at d
 have u:∀a b,b<=20->(t.extract a b).size=b-a:=fun a b h=>by rw[a0x];omega
 obtain⟨b1,am⟩:∃x,Bn (t.extract 0 4) 4=x:=⟨_,rfl⟩
 obtain⟨b2,al⟩:∃x,Bn (t.extract 4 8) 4=x:=⟨_,rfl⟩
 obtain⟨b3,ak⟩:∃x,Bn (t.extract 8 12) 4=x:=⟨_,rfl⟩
 obtain⟨F,af⟩:∃x,Bn (t.extract 12 20) 8=x:=⟨_,rfl⟩
 have l1:b1<4294967296:=by rw[<-am];exact K7 _ 4
 have l2:b2<4294967296:=by rw[<-al];exact K7 _ 4
 have l3:b3<4294967296:=by rw[<-ak];exact K7 _ 4
 have l4:F<18446744073709551616:=by rw[<-af];exact K7 _ 8
 have M1:Hid (∀w,Calls Tryz.prog 74 #[.string (t.extract 0 4)] w fun e w'=>e=.returned (.int .u64 b1)/\Fp [] w w'/\R4 144 w w'):=fun w=>by
  have h:=Zf w (t.extract 0 4) 144 (by decide) (by rw[u _ _ (by decide)];decide);rw[u 0 4 (by decide)] at h;rw[<-am];exact h
 have M2:Hid (∀w,Calls Tryz.prog 74 #[.string (t.extract 4 8)] w fun e w'=>e=.returned (.int .u64 b2)/\Fp [] w w'/\R4 144 w w'):=fun w=>by
  have h:=Zf w (t.extract 4 8) 144 (by decide) (by rw[u _ _ (by decide)];decide);rw[u 4 8 (by decide)] at h;rw[<-al];exact h
 have M3:Hid (∀w,Calls Tryz.prog 74 #[.string (t.extract 8 12)] w fun e w'=>e=.returned (.int .u64 b3)/\Fp [] w w'/\R4 144 w w'):=fun w=>by
  have h:=Zf w (t.extract 8 12) 144 (by decide) (by rw[u _ _ (by decide)];decide);rw[u 8 12 (by decide)] at h;rw[<-ak];exact h
 have M4:Hid (∀w,Calls Tryz.prog 74 #[.string (t.extract 12 20)] w fun e w'=>e=.returned (.int .u64 F)/\Fp [] w w'/\R4 144 w w'):=fun w=>by
  have h:=Zf w (t.extract 12 20) 144 (by decide) (by rw[u _ _ (by decide)];decide);rw[u 12 20 (by decide)] at h;rw[<-af];exact h
 have b0:R3 t=⟨b1,b2,b3,F⟩:=by unfold R3;rw[am,al,ak,af]
 rw[b0] at d;have ac:=a0z d
 have u1:IntKind.i64.wrap (b1:Int)=b1:=by rw[a0u];omega
 have u2:IntKind.i64.wrap (b2:Int)=b2:=by rw[a0u];omega
 have u3:IntKind.i64.wrap (b3:Int)=b3:=by rw[a0u];omega
 have z3:((t.size:Int)!=20)=false:=by rw[bf];rfl
 clear d O q u am al ak af b0;go_enter Tryz.func37,Tryz.ntmps37;go_wp2_with (fail);(with_reducible refine HG.out.mono ?_);rintro e2 w1 ⟨rfl,y⟩;have E:=a0z y;clear y;go_wp2_with (fail);refine Ft (CK #[.int .i64 b1,.int .i64 b2,.int .i64 b3,.int .u64 F] w1) (RT 144) (by kernel_rfl) (by kernel_rfl) (Gg.start (Fp.drew w1) rfl) ?_
 iterate 16
  apply Be (fun _ _ h=>h) rfl rfl rfl
  ·intro b a w m j K z
   try have h5:=j.fr 5 rfl
   try have dx:=j.eq 0 45 rfl
   try have dw:=j.eq 1 46 rfl
   try have dv:=j.eq 2 47 rfl
   try have dt:=j.eq 4 49 rfl
   try have ds:=j.eq 5 50 rfl
   try have dr:=j.eq 6 51 rfl
   try have dp:=j.eq 8 53 rfl
   try have dn:=j.eq 9 54 rfl
   try have dm:=j.eq 10 55 rfl
   try have dk:=j.eq 12 57 rfl
   try have dj:=j.eq 13 58 rfl
   try have du:=j.eq 3 48 rfl
   try have dq:=j.eq 7 52 rfl
   try have dl:=j.eq 11 56 rfl
   try have di:=j.eq 14 59 rfl
   simp only[Oper.wp,execOp];go_simp
   first
   |exact z _ m (RT.refl _ _)
   |first
     |((with_reducible refine(M1.out _).mono ?_);rintro e w2 ⟨rfl,r,hn⟩;exact z _ (Gg.call m r hn) (RT.fp r))
     |((with_reducible refine(M2.out _).mono ?_);rintro e w2 ⟨rfl,r,hn⟩;exact z _ (Gg.call m r hn) (RT.fp r))
     |((with_reducible refine(M3.out _).mono ?_);rintro e w2 ⟨rfl,r,hn⟩;exact z _ (Gg.call m r hn) (RT.fp r))
     |((with_reducible refine(M4.out _).mono ?_);rintro e w2 ⟨rfl,r,hn⟩;exact z _ (Gg.call m r hn) (RT.fp r))
 apply Fb (SB 144 w1.heap.size) rfl rfl rfl
 ·intro b a w m j K z;have bw:=CK.make m j.self (j.post 17 (by kernel_rfl));have u:=(Gg.fp m).size;simp only[Oper.wp,execOp];go_simp;exact z _ _ bw (RT.fp (Fp.alloc _ _)) ⟨_,rfl,u,_,Ai rfl _⟩
 apply Gs (fun _=>True) rfl rfl
 ·intro b a w m j K z;have h8:=j.dep 16 8 _ (by kernel_rfl) rfl;have dh:=j.eq 15 60 rfl;obtain⟨B,h8,hB,cs,o⟩:=h8;have ca:=j.pre 16 (by kernel_rfl);have hz:=CK.cells m ca hB o;rw[j.self] at hz;rw[hz] at o;have e0:w.cell? ⟨B,0,none⟩=some (.int .i64 0):=Ab o 0;have e1:w.cell? ⟨B,1,none⟩=some (.int .i64 0):=Ab o 1;have e2:w.cell? ⟨B,2,none⟩=some (.int .i64 0):=Ab o 2;have e3:w.cell? ⟨B,3,none⟩=some (.int .u64 0):=Ab o 3;have g0:=Ar o 0;have g1:=Ar o 1;have g2:=Ar o 2;have g3:=Ar o 3;have bo:=CK.stored m ca hB o (w':=(((w.setCell ⟨B,0,none⟩ (.int .i64 b1)).setCell ⟨B,1,none⟩ (.int .i64 b2)).setCell ⟨B,2,none⟩ (.int .i64 b3)).setCell ⟨B,3,none⟩ (.int .u64 F)) ((((Fp.setCell w ⟨B,0,none⟩ _).setCell' (Or.inl (by simp)) _).setCell' (Or.inl (by simp)) _).setCell' (Or.inl (by simp)) _) (by simp[World.setCell]) (by rw[Bd (Bd (Bd (Bd o _) _) _) _];rfl);simp only[Oper.wp,execOp];go_simp;exact z undef _ bo.1 bo.2 trivial
 refine⟨?_,?_⟩
 ·refine⟨fun _ _ _ _ _=>trivial,?_⟩;refine⟨fun _ _ _ hr h=>SB.stab hr h,?_⟩
  iterate 16 refine Cc _ ?_
  exact trivial
 ·intro wf bb m a8;simp only[a2x,a2v,a3v,a2u]
  iterate 16 (refine Am ?_)
  refine Ap ?_;intro df u16;refine Ap ?_;intro de u17;refine A0 ?_;simp only[Aj,Act.put,a1z,a1v,a1u];obtain⟨B,ct,P,bm⟩:=Gg.one m (a8 16 (by decide));rw[a8 17 (by decide),if_pos rfl] at P;obtain⟨B',rfl,cu,cs,o⟩:=u16;obtain rfl:=bm B' cs _ cu o;have ci:=a0z P;have bi:=a0z (E.out.trans (Gg.fp m) (by simp));have dg:w.heap.size<=B':=Nat.le_trans E.out.size ct;have q0:wf.cell? ⟨B',0,none⟩=some (.int .i64 b1):=Ab P 0;have q1:wf.cell? ⟨B',1,none⟩=some (.int .i64 b2):=Ab P 1;have q2:wf.cell? ⟨B',2,none⟩=some (.int .i64 b3):=Ab P 2
  have n1:IntKind.i64.wrap ((b1:Int)+(b2:Int))=((b1+b2:Nat):Int):=by rw[a0u];omega
  obtain⟨Q,aw⟩:∃x,b1+b2=x:=⟨_,rfl⟩
  rw[aw] at n1
  have n2:IntKind.i64.wrap ((Q:Int)+(b3:Int))=((Q+b3:Nat):Int):=by rw[a0u];omega
  obtain⟨aa,a9⟩:∃x,Q+b3=x:=⟨_,rfl⟩
  rw[a9] at n2;clear m a8 u17 bm o P
  by_cases bn:aa=A
  case neg=>
   have i:Uo s ⟨b1,b2,b3,F⟩=none:=if_pos (by show b1+b2+b3≠s.size-26;rw[b9.out];omega)
   have zs:((aa:Int)!=(A:Int))=true:=by rw[bne_iff_ne];omega
   have d:=ac.out;rw[i] at d;have f:Hid (Oc s=(none,50)):=d;clear i d;go_wp2_with (fail);go_ret2;exact⟨_,by rw[f.out];rfl,by rw[f.out];rfl,bi.out⟩
  have zs:((aa:Int)!=(A:Int))=false:=by subst bn;simp
  have dd:(b1:Int)<=(s.size:Int):=by omega
  have c8:b1<=s.size:=by omega
  have bg:Hid (Uo s ⟨b1,b2,b3,F⟩=if Ob (Hk s b1) (Hk s b1).length=false then none
   else if G1 (Iw (Hk s b1) (Hk s b1).length) F=(s,0) then some ⟨Iw (Hk s b1) (Hk s b1).length,⟨b1,b2,b3,F⟩,(B4 (s.extract (b1+b2) s.size)).1⟩ else none):=
    if_neg (by show ¬(b1+b2+b3≠s.size-26);rw[b9.out];omega)
  have aq:=a0z (pN wf (s.extract 0 b1) (by rw[a0x];omega) (HT.out.fp bi.out (by simp)));rw[show(Dy (s.extract 0 b1)).map (·.2)=Hk s b1 from rfl] at aq;have a1:=Afo s b1;have G:=Afp s b1
  obtain⟨en,b4⟩:∃en,Gm (Dy (s.extract 0 b1))=en:=⟨_,rfl⟩
  obtain⟨ts,T⟩:∃ts,Hk s b1=ts:=⟨_,rfl⟩
  rw[T] at aq bg a1 G;rw[b4] at aq;have ce:=a0z a1;have ab:=a0z G;clear T b4 a1 G M1 M2 M3 M4 HG;go_wp2_with (fail);(with_reducible refine aq.out.mono ?_);rintro e2 w3 ⟨v3,rfl,br,a5⟩;have bh:=a0z (bi.out.trans a5 (by simp));have aS:=a0z ((a5.block _ (Ac ci.out) (by simp)).trans ci.out);obtain⟨⟨a3,c3,rfl⟩,ax⟩:=br.at;have cl:=a0z ax;clear a5 br ax q0 q1 q2
  obtain⟨nt,bv⟩:∃n,ts.length=n:=⟨_,rfl⟩
  rw[bv];have cf:=a0z bv
  have c7:nt<=100000000:=by have h1:=Afu ts;have h2:=ab.out;omega
  go_wp2_with (fail)
  go_loopg [9,81] nt (fun g vl vk wr=>∃(k:Nat) (v:Value),g+k=nt/\v=vl/\vk=.int .i64 k/\Ao wr w3.heap.size v (Iw ts k)/\Ob ts k=true/\Fp [] w3 wr)
  case atStart=>exact⟨0,_,by omega,rfl,rfl,Ao.nil _ _,rfl,Fp.refl _ _⟩
  case round=>
   obtain⟨k,v,hg,rfl,rfl,ho,ha,r⟩:=hrel;have HO:=a0z ho;have HA:=a0z ha;have HF:=a0z r;clear ho ha r
   by_cases hk:k<nt
   ·have zk:(k:Int)<(nt:Int):=by omega
    have J:k<ts.length:=by rw[cf.out];exact hk
    have a6:∃g3 c4,a3=some ⟨g3,0,none⟩∧c3=c4∧wr.cell? ⟨g3,k,none⟩=some (.string ts[k]):=by
     rcases cl.out with h|⟨g3,c4,e0,_,cn,hc⟩
     ·rw[h] at J;exact absurd J (Nat.not_lt_zero _)
     ·injection e0 with e1 _ e3
      exact⟨g3,c4,e1,e3,(HF.out.cell (p:=⟨g3,k,none⟩) cn (by simp)).trans (hc k J)⟩
    obtain⟨g3,c4,rfl,rfl,q0⟩:=a6;have an:=Afq J;have bd:=Afr J
    have bc:=fun h=>Afs J h
    have a2:=qH ts (k+1);have W:=qI (fun t=>t.size+6) ts (k+1)
    have I:(Iw ts (k+1)).length<=100000000:=by have:=ab.out;omega
    obtain⟨tk,a0⟩:∃x,ts[k]=x:=⟨_,rfl⟩
    have T:tk.size<=100000:=by have:=ce.out tk (by rw[<-a0];exact a1x J);omega
    rw[a0] at an bd bc q0;rw[an,a0v] at I;have R:=a0z (tM wr tk T (HM.out.fp (bh.out.trans HF.out (by simp)) (by simp)));have bj:=a0z an;have cm:=a0z bd;have cg:=a0z bc
    have ba:=fun l h=>lE (s:=tk) (l:=l) T h
    obtain⟨pr,M⟩:∃p,Ej tk=p:=⟨_,rfl⟩
    rw[M] at R bj cm cg I;clear an bd bc a2 W a0
    cases pr with
    |none=>
     have b5:Qy tk=50:=U9 M;rw[b5] at R;have i:=bg.out;rw[cg.out rfl,if_pos rfl] at i;have d:=ac.out;rw[i] at d;have f:Hid (Oc s=(none,50)):=d;clear i d M ba;go_wp2_with (fail);(with_reducible refine R.out.mono ?_);rintro e2 w4 ⟨v4,rfl,ag,N⟩;have ap:=a0z (HF.out.trans N (by simp));clear ag N;go_wp2_with (fail);go_ret2;exact⟨_,by rw[f.out];rfl,by rw[f.out];rfl,bh.out.trans ap.out (by simp)⟩
    |some lk=>
     have b6:Qy tk=0:=fW M;rw[b6] at R;have U:=ba lk M;rw[Option.getD_some] at R bj I;clear M ba b6;go_wp2_with (fail);(with_reducible refine R.out.mono ?_);rintro e2 w4 ⟨v4,rfl,ag,N⟩;obtain⟨a4,c5,rfl,ah,C⟩:=ag.at2 U;have ae:=a0z C;have cF:=a0z ah;have ap:=a0z (HF.out.trans N (by simp));have cz:=a0z (HO.out.fp N (by simp));have cS:=a0z I;have bk:w3.heap.size<=w4.heap.size:=ap.out.size;clear ag N C ah U I;go_wp2_with (at_builtin;refine Rr rfl _ _ rfl w3.heap.size _ _ rfl cz.out _ _ _ lk rfl ae.out cF.out (by have:=cS.out;omega) bk ?_;intro v5 w5 bq b8;have cy:=a0z bq;have S:=a0z (ap.out.belowTrans b8);clear bq b8);go_wp2_with (fail)
     go_roundg (gk-1)
     case measure=>omega
     case rel=>exact⟨k+1,_,by omega,rfl,by go_num,by rw[bj.out];exact cy.out,by rw[cm.out,HA.out];rfl,S.out⟩
   ·obtain rfl:k=nt:=by omega
    have zk:¬(k:Int)<(k:Int):=by omega
    have U:=Afv ce.out k;have a2:=qH ts k;have W:=qI (fun t=>t.size+6) ts k
    have I:(Iw ts k).length<=100000000:=by have:=ab.out;omega
    have i:=bg.out;rw[cf.out,HA.out,if_neg (by decide)] at i;have D:=a0z i
    obtain⟨l,hl⟩:∃l,Iw ts k=l:=⟨_,rfl⟩
    rw[hl] at U I D HO;obtain⟨a4,c5,rfl,ah,C⟩:=HO.out.at2 U;have ae:=a0z C
    have bz:l.length≤c5:=by
     by_cases h0:l.length=0
     ·omega
     ·obtain⟨g,cap,cw,e0,_,_,hn,_⟩:=Ao.open HO.out (by omega)
      injection e0 with _ _ e3
      omega
    have ad:=a0z (bh.out.trans HF.out (by simp));have X:=(HF.out.block _ (Ac aS.out) (by simp)).trans aS.out;have aF:=a0z X;have q3:wr.cell? ⟨B',3,none⟩=some (.int .u64 F):=Ab X 3;have cd:=a0z (qC wr a4 l.length c5 l F C bz (by omega) l4 (HM.out.fp ad.out (by simp)) (HT.out.fp ad.out (by simp)))
    obtain⟨⟨bx,be⟩,a7⟩:∃t,G1 l F=t:=⟨_,rfl⟩
    have c6:=a0z a7;rw[a7] at cd D;clear i hl ah C a2 W a7 X;go_wp2_with (fail);(with_reducible refine cd.out.mono ?_);rintro e2 w5 ⟨rfl,aj⟩;have S:=a0z (ad.out.trans aj (by simp));have L:=a0z ((aj.block _ (Ac aF.out) (by simp)).trans aF.out);have ck:=a0z (ae.out.fp aj);clear aj q3
    by_cases b7:be=0
    case neg=>
     have dc:((be:Int)!=0)=true:=by rw[bne_iff_ne];omega
     have i:=D.out;rw[if_neg (by intro e;exact b7 (congrArg Prod.snd e))] at i;have d:=ac.out;rw[i] at d;have f:Hid (Oc s=(none,50)):=d;clear i d;go_wp2_with (fail);go_ret2;exact⟨_,by rw[f.out];rfl,by rw[f.out];rfl,S.out⟩
    subst b7;have bp:=Afd bx s
    by_cases Y:bx=s
    case neg=>
     have V:Un bx s=true:=by unfold Un;simpa using Y
     rw[V] at bp;have i:=D.out;rw[if_neg (by intro e;exact Y (congrArg Prod.fst e))] at i;have d:=ac.out;rw[i] at d;have f:Hid (Oc s=(none,50)):=d;clear i d V;go_wp2_with (fail);go_ret2;exact⟨_,by rw[f.out];rfl,by rw[f.out];rfl,S.out⟩
    have i:=D.out;rw[Y,if_pos rfl] at i;have d:=ac.out;rw[i] at d;have f:=a0z d
    have V:Un bx s=false:=by unfold Un;simpa using Y
    rw[V] at bp;have q0:w5.cell? ⟨B',0,none⟩=some (.int .i64 b1):=Ab L.out 0;have q1:w5.cell? ⟨B',1,none⟩=some (.int .i64 b2):=Ab L.out 1;clear i d V Y
    have cr:(Q:Int)<=(s.size:Int):=by omega
    have ch:=a0z (aY (s.extract Q s.size) w5 (by rw[a0x];omega) (HT.out.fp S.out (by simp)));rw[aw] at f
    obtain⟨⟨ao,fn,fe⟩,au⟩:∃x,B4 (s.extract Q s.size)=x:=⟨_,rfl⟩
    rw[au] at ch f;clear au
    have co:0<l.length:=by
     have h1:=c6.out
     rcases Nat.eq_zero_or_pos l.length with h0|h0
     ·unfold G1 at h1;rw[if_neg (by omega),if_pos h0] at h1;cases h1
     ·exact h0
    obtain⟨g,cp,e4,cq⟩:∃g cp,a4=some ⟨g,0,none⟩/\c5=cp:=by
     obtain⟨g,cap,cw,e0,_⟩:=Ao.open HO.out co
     injection e0 with e1 _ e3
     exact⟨g,cap,e1,e3⟩
    subst e4 cq;go_wp2_with (fail);(with_reducible refine ch.out.mono ?_);rintro e2 w6 ⟨rfl,ai⟩;have c2:=a0z (S.out.trans ai (by simp));have az:=a0z ((ai.block _ (Ac L.out) (by simp)).trans L.out);have cj:=a0z (ck.out.fp ai);have cx:=a0z (fun w=>pP w g 0 l.length c5 bz (by omega));clear ai q0 q1;go_wp2_with (fail);refine C9 (by kernel_rfl) (by kernel_rfl) ?_
    iterate 2
     apply Aw rfl rfl rfl
     ·intro a w m j K z
      try have h8:=j.fr 8 rfl
      try have h9:=j.fr 9 rfl
      have hb:=(m.block _ (Ac az.out) (by simp)).trans az.out;have q0:=Ab hb 0;have q1:=Ab hb 1;have q2:=Ab hb 2;have q3:=Ab hb 3;simp only[a4v,a3x,a3w] at q0 q1 q2 q3;simp only[Oper.wp,execOp];go_simp;exact z _ m (Fp.refl _ _)
    apply Qp (Zg w6.heap.size l.length g) rfl rfl rfl
    ·intro a w m j K z;have da:=j.eq 1 123 rfl;simp only[Oper.wp,execOp];go_simp;(with_reducible refine(cx.out _).mono ?_);rintro e w2 ⟨v,rfl,ho,r⟩;obtain⟨pa,pn,pc,rfl⟩:=ho.slice;exact z _ _ (m.trans r (by simp)) r ⟨pa,pn,pc,rfl,ho.mono m.size⟩
    apply Aw rfl rfl rfl
    ·intro a w m j K z;have dy:=j.fr 18 rfl;simp only[Oper.wp,execOp];go_simp;exact z _ m (Fp.refl _ _)
    apply Qp (Zh w6.heap.size l.length g b1 b2 b3 F ao) rfl rfl rfl
    ·intro a w m j K z;have db:=j.eq 0 122 rfl;have Z:=j.dep 2 124 _ (by kernel_rfl) rfl;have c9:=j.eq 3 125 rfl;obtain⟨pa,pn,pc,Z,ho⟩:=Z;rw[Z] at ho;simp only[Oper.wp,execOp];go_simp;exact z _ _ m (Fp.refl _ _) ⟨pa,pn,pc,rfl,ho⟩
    apply Qp (Ws w6.heap.size l.length g b1 b2 b3 F ao) rfl rfl rfl
    ·intro a w m j K z;have ay:=j.dep 4 126 _ (by kernel_rfl) rfl;obtain⟨pa,pn,pc,ay,ho⟩:=ay;simp only[Oper.wp,execOp];go_simp;exact z _ _ (m.alloc' _) (Fp.alloc _ _) ⟨pa,pn,pc,_,rfl,Ai rfl _,ho.fp (Fp.alloc _ _) (by simp)⟩
    apply Qp (Ws w6.heap.size l.length g b1 b2 b3 F ao) rfl rfl rfl
    ·intro a w m j K z;have cc:=j.dep 5 127 _ (by kernel_rfl) rfl;simp only[Oper.wp,execOp];go_simp;exact z _ _ m (Fp.refl _ _) cc
    apply Aw rfl rfl rfl
    ·intro a w m j K z;simp only[Oper.wp,execOp];go_simp;exact z _ m (Fp.refl _ _)
    refine⟨?_,?_⟩
    ·refine B7 _ ?_;refine⟨fun _ _ _ _ r h=>h.fp r,?_⟩;refine⟨fun _ _ _ _ r h=>h.fp r,?_⟩;refine⟨fun _ _ _ _ r h=>h.fp r,?_⟩;refine B7 _ ?_;refine⟨fun _ _ _ _ r h=>h.fp r,?_⟩;refine B7 _ ?_;refine B7 _ ?_;exact trivial
    ·intro w' m;simp only[a2x,a2v,a3v,a2u]
     iterate 2 (refine Am ?_)
     refine Ap ?_;intro v2 u2
     iterate 1 (refine Am ?_)
     refine Ap ?_;intro v4 u4;refine Ap ?_;intro v5 u5;refine Ap ?_;intro v6 u6
     iterate 1 (refine Am ?_)
     refine A0 ?_;simp only[Aj,Act.put,a1z,a1v,a1u];obtain⟨pa,pn,pc,bt,rfl,av,ar⟩:=u6;have c1:=a0z (c2.out.trans m (by simp))
     have c0:Hid (Na w' bt ⟨l,⟨b1,b2,b3,F⟩,ao⟩):=⟨.slice pa pn pc,g,0,av,cj.out.fp m,ar.mono (a4x _)⟩
     clear u2 u4 u5 av ar m;go_wp2_with (fail);go_ret2;exact⟨_,by rw[f.out];rfl,by rw[f.out];exact⟨bt,rfl,c0.out⟩,c1.out⟩
end
end Go.Proofs.YtkagolpnaicdoaaGreatDoor
