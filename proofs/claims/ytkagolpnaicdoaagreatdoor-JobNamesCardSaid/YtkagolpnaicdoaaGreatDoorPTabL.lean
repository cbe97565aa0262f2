/-
 table.Build: a file's bytes. table.Open: a file that is opened. table.Open: the walk. What an opened file says: Blocks, Many, Cells. What an opened file says of a row: near, Looks, Row. Files: what is built is opened to what it was built of. The law's own helpers: bounded, cells. A row's cells lie in the parts that are near; a filter has all its names. The law's own helper: shown. wal: what its functions compute, over the disk as data (plain). Slices whose elements are of k cells each, of any type: as they lie; of the call's own; append; an element stored.
-/
import Derived.Test.YtkagolpnaicdoaaGreatDoorPTabG
import Derived.Test.YtkagolpnaicdoaaGreatDoorPVdOps2
import Derived.Test.YtkagolpnaicdoaaGreatDoorPMaps
import Derived.Test.YtkagolpnaicdoaaGreatDoorPRegion
import Derived.Test.YtkagolpnaicdoaaGreatDoorRows
import Derived.Maps.AppendAt
import Derived.Laws.AppendOwnNone
set_option maxRecDepth 100000
set_option maxHeartbeats 8000000
open Go.Lib renaming hid→a0z
open List renaming length_append→a0x,getElem?_eq_getElem→a0u,getElem?_take→a1x,length_drop→a1v,append_assoc→a1u,length_take→a2x,eq_nil_of_length_eq_zero→a2u,flatMap_append→a3z,flatMap_cons→a3x,length_set→a3w,take_of_length_le→a3v,getElem?_toArray→a4z
open ByteArray renaming size_append→a0w
open Nat renaming mul_le_mul_right→a0v,succ_mul→a1z,not_lt_zero→a2v,le_refl→a3u,le_trans→a4x,zero_add→a4w
open Array renaming getElem?_setIfInBounds→a1w,getElem?_toList→a2w
open UInt8 renaming ofNat→a2z
namespace Go.Proofs.YtkagolpnaicdoaaGreatDoor
section
section
open Go.RowKit
def E4(l:List Ac):Nat:=(l.length+7)/8
def F2(l:List Ac)(k:Nat):List Ac:=(l.drop (8*k)).take 8
def L8(l:List Ac)(k:Nat):ByteArray:=Iu (Ek (F2 l k)).1
def Dz(l:List Ac):Nat→Nat
 |0=>0
 |k+1=>if Dz l k≠0 then Dz l k else(Ek (F2 l k)).2
def I6(l:List Ac)(k:Nat):List UInt8:=(List.range k).flatMap fun j=>(L8 l j).data.toList
def Hr(l:List Ac):Nat→ByteArray
 |0=>Ef (E4 l) 2
 |k+1=>Hr l k++Ef (L8 l k).size 4
def Zg(l:List Ac):ByteArray:=bl (I6 l (E4 l))
def Nj(l:List Ac):ByteArray:=Iu (Hr l (E4 l))
def Ob(l:List Ac):ByteArray:=Iu (Jn (G2 l))
def Q2(l:List Ac)(seq:Nat):Hg:=⟨(I6 l (E4 l)).length,(Nj l).size,(Ob l).size,seq⟩
def Nk(l:List Ac)(seq:Nat):ByteArray:=Zg l++Nj l++Ob l++Iu (Q2 l seq).text
def Hh(l:List Ac)(seq:Nat):ByteArray × Nat:=
 if l.length>2000 then(⟨#[]⟩,71) else if l.length=0 then(⟨#[]⟩,1) else if Dz l (E4 l)≠0 then(⟨#[]⟩,Dz l (E4 l)) else if risC l=false then(⟨#[]⟩,40) else(Nk l seq,0)
theorem jI{l:List Ac}{k:Nat}(h:Dz l k≠0):∀m,k≤m→Dz l m=Dz l k
 |0,hm=>by obtain rfl:k=0:=by omega
           rfl
 |m+1,hm=>by
  by_cases e:k=m+1
  ·rw[e]
  ·have ih:=jI h m (by omega);show(if Dz l m≠0 then Dz l m else _)=_;rw[ih,if_pos h]
theorem yT{l:List Ac}{k m:Nat}(h0:Dz l k=0)(h:(Ek (F2 l k)).2≠0)(hk:k<m):Dz l m=(Ek (F2 l k)).2:=by
 have h1:Dz l (k+1)=(Ek (F2 l k)).2:=by show(if Dz l k≠0 then Dz l k else _)=_;rw[if_neg (by simp[h0])]
 rw[jI (k:=k+1) (by rw[h1];exact h) m hk,h1]
theorem yU{l:List Ac}{k:Nat}(h0:Dz l k=0)(h:(Ek (F2 l k)).2=0):Dz l (k+1)=0:=by
 show(if Dz l k≠0 then Dz l k else _)=_;rw[if_neg (by simp[h0]),h]
theorem jJ(l:List Ac)(k:Nat):I6 l (k+1)=I6 l k++(L8 l k).data.toList:=by
 unfold I6;rw[List.range_succ,a3z];simp
theorem yV(l:List Ac)(k:Nat):(F2 l k).length=min 8 (l.length-8*k):=by
 unfold F2;rw[a2x,a1v]
theorem yW{w:World}{b o len:Nat}{l:List Ac}{k:Nat}(h:Bt w (some ⟨b,o,none⟩) len l)(hk:8*k<len):Bt w (some ⟨b,o+8*k*6,none⟩) (min 8 (len-8*k)) (F2 l k):=by
 have h1:=h.drop (8*k) (len-8*k) (by omega);have h2:=h1.take (min 8 (len-8*k)) (by omega);unfold F2;have hl:=h.len
 by_cases e:len-8*k≤8
 ·rw[a3v (by rw[a1v];omega)];rw[a3v (by rw[a1v];omega)] at h2;exact h2
 ·rw[Nat.min_eq_left (by omega)] at h2 ⊢;exact h2
theorem V8(s:ByteArray):(Iu s).size≤6+s.size:=by
 unfold Iu K8;split
 ·show 0≤_;omega
 ·exact Nat.le_of_eq (iO s)
theorem jK(l:List Ac)(k:Nat):(L8 l k).size≤80006:=by
 have h1:=V8 (Ek (F2 l k)).1;have h2:=jH (l:=F2 l k);unfold L8;omega
theorem V9(l:List Ac):∀k,(I6 l k).length≤80006*k
 |0=>a3u _
 |k+1=>by
  rw[jJ,a0x];have h1:=V9 l k;have h2:=jK l k;have h3:(L8 l k).data.toList.length=(L8 l k).size:=rfl;omega
theorem Wa(l:List Ac):∀k,(Hr l k).size=2+4*k
 |0=>by show(Ef _ 2).size=_;rw[Ni]
 |k+1=>by
  show(Hr l k++Ef _ 4).size=_;rw[a0w,Wa l k,Ni];omega
theorem Fz.get{w:World}{base:Nat}{v:Value}{vs:List Value}(h:Fz w base v vs){k:Nat}(hk:k<vs.length):∃g cap,v=.slice (some ⟨g,0,none⟩) vs.length cap∧base≤g∧g<w.heap.size∧∀i (hi:i<vs.length),w.cell? ⟨g,i,none⟩=some vs[i]:=by
 rcases h.2 with⟨_,h1⟩|⟨g,cap,cur,e,hg,hh,hn,hm,hs,ht⟩
 ·omega
 ·refine⟨g,cap,e,hg,Ab hh,fun i hi=>?_⟩
  have h3:(cur.toList.take (vs.length*1))[i]?=vs[i]?:=by rw[ht]
  rw[a1x,if_pos (by omega),a0u hi,a2w] at h3;rw[Aa hh,h3]
theorem yX{len k:Nat}(h:k<(Eo len).length):(Eo len)[k]=(8*k,min 8 (len-8*k)):=by simp[Eo]
theorem jL{l:List Ac}:∀{m:Nat},Dz l m=0→∀k,k<m→(Ek (F2 l k)).2=0
 |0,_,k,hk=>absurd hk (a2v _)
 |m+1,h,k,hk=>by
  by_cases h0:Dz l m=0
  ·have h1:(Ek (F2 l m)).2=0:=by
    have:Dz l (m+1)=(Ek (F2 l m)).2:=by show(if Dz l m≠0 then Dz l m else _)=_;rw[if_neg (by simp[h0])]
    rw[←this];exact h
   by_cases e:k=m
   ·rw[e];exact h1
   ·exact jL h0 k (by omega)
  ·have:Dz l (m+1)=Dz l m:=by show(if Dz l m≠0 then Dz l m else _)=_;rw[if_pos h0]
   rw[this] at h;exact absurd h h0
theorem yY{l:List Ac}(h:Dz l (E4 l)=0):∀c∈l,Di c=true:=by
 intro c hc;obtain⟨i,hi,rfl⟩:=List.getElem_of_mem hc;have h1:=(jC (jL h (i/8) (by unfold E4;omega))).2.1;rw[List.all_eq_true] at h1;apply h1
 have hlt:i%8<(F2 l (i/8)).length:=by rw[yV];omega
 have e0:(F2 l (i/8))[i%8]?=l[i]?:=by
  unfold F2;rw[a1x,if_pos (Nat.mod_lt _ (by decide)),List.getElem?_drop];congr 1;omega
 have e:(F2 l (i/8))[i%8]=l[i]:=by
  rw[a0u hlt,a0u hi] at e0;exact Option.some.inj e0
 rw[←e];exact List.getElem_mem hlt
theorem yZ{l:List Ac}{s:ByteArray}(h:s∈G2 l):∃c∈l,c.row=s:=by
 unfold G2 Tj at h;obtain⟨j,hj,rfl⟩:=List.mem_map.1 h;have hlt:=List.mem_range.1 (List.mem_filter.1 hj).1;refine⟨l.getD j Bv,?_,rfl⟩;rw[List.getD_eq_getElem?_getD,a0u hlt];exact List.getElem_mem hlt
theorem jM(names:List ByteArray):(Jn names).size=Pj names.length:=by
 unfold Jn;rw[D1,Zd]
structure Iw(w1:World)(bf:Nat)(f:Hg)(bs:List UInt8)(done:Bool)(w':World):Prop where
 fp:Fp [] w1 w'
 box:w'.heap[bf]?=some (.cells #[.int .i64 f.blocks,.int .i64 f.index,.int .i64 f.filter,.int .u64 f.seq] 144 (0,0))
 bu:done=false→Da 131 w1.heap.size w1.heap.size bs w'
def CJ(w1:World)(bf:Nat)(f:Hg)(bs:List UInt8)(b:Nat→Bool)(w':World):Prop:=Iw w1 bf f bs (b 0) w'
theorem Iw.on{w1 A B:World}{bf:Nat}{f:Hg}{bs:List UInt8}{d:Bool}(h:Iw w1 bf f bs d A)(hf:Fp [] A B):Iw w1 bf f bs d B:=
 ⟨h.fp.trans hf (by simp),(hf.block _ (Ab h.box) (by simp)).trans h.box,fun e=>(h.bu e).fp hf (by simp)⟩
theorem CJ.bu{w1 w':World}{bf:Nat}{f:Hg}{bs:List UInt8}{b:Nat→Bool}(h:CJ w1 bf f bs b w')(h0:b 0=false):Da 131 w1.heap.size w1.heap.size bs w':=Iw.bu h h0
theorem CJ.fp{w1 w':World}{bf:Nat}{f:Hg}{bs:List UInt8}{b:Nat→Bool}(h:CJ w1 bf f bs b w'):Fp [] w1 w':=Iw.fp h
theorem Zh:liesAt Tryz.prog Tryz.prog.depth 131 (2/Tryz.prog.cellsOf 131) 0 131 1=true:=by kernel_rfl
theorem zA(w:World)(a:Option Addr)(len cap:Nat)(l:List Ac)(seq:Nat)(hl:Bt w a len l)(hlc:len≤cap)(hcm:len≤1000000000)(hq:seq<18446744073709551616)(hm:K2 w)(ht:Ce w):
  Calls Tryz.prog 51 #[.slice a len cap,.int .u64 seq] w fun e w'=>e=.returned (.tuple #[.string (Hh l seq).1,.int .i64 ((Hh l seq).2:Nat)])∧Fp [] w w':=by
 have HL:=a0z hl;have HLN:=a0z hl.len;have HM:=a0z hm;have HT:=a0z ht
 by_cases h1:len>2000
 ·have hb:Hh l seq=(⟨#[]⟩,71):=if_pos (by rw[←hl.len];exact h1);rw[hb]
  have z:(len:Int)>2000:=by omega
  clear hl hm ht hb;go_enter Tryz.func51,Tryz.ntmps51;go_wp2_with (fail);go_ret2;exact⟨rfl,Fp.refl _ _⟩
 by_cases h2:len=0
 ·have hb:Hh l seq=(⟨#[]⟩,1):=by unfold Hh;rw[if_neg (by rw[←hl.len];exact h1),if_pos (by rw[←hl.len];exact h2)]
  rw[hb];subst h2;clear hl hm ht hb;go_enter Tryz.func51,Tryz.ntmps51;go_wp2_with (fail);go_ret2;exact⟨rfl,Fp.refl _ _⟩
 have hb:Hh l seq=if Dz l (E4 l)≠0 then(⟨#[]⟩,Dz l (E4 l)) else if risC l=false then(⟨#[]⟩,40) else(Nk l seq,0):=by
  unfold Hh;rw[if_neg (by rw[←hl.len];exact h1),if_neg (by rw[←hl.len];exact h2)]
 have HB:=a0z hb
 have y1:¬(len:Int)>2000:=by omega
 have y2:((len:Int)==0)=false:=by rw[beq_eq_false_iff_ne];omega
 obtain⟨b,o,rfl⟩:∃b o,a=some ⟨b,o,none⟩:=by
  rcases hl.cells with h0|⟨b,o,e,_⟩
  ·rw[h0] at hl;have:=hl.len;simp at this;omega
  ·exact⟨b,o,e⟩
 obtain⟨m,hmm⟩:∃m,E4 l=m:=⟨_,rfl⟩
 have hm8:m=(len+7)/8:=by rw[←hmm,E4,hl.len]
 have HM8:=a0z hm8
 have hm8a:8*m<len+8:=by omega
 have hm8b:len≤8*m:=by omega
 have HMM:=a0z hmm;have HPT:=a0z (fun w=>xW w b o len cap hlc hcm);clear hl hm ht hb hmm hm8;go_enter Tryz.func51,Tryz.ntmps51;go_wp2_with (fail);(with_reducible refine(HPT.out _).mono ?_);rintro e w1 ⟨v1,rfl,ho1,hf1⟩
 have hpl:((Eo len).map (K9 b o)).length=m:=by rw[List.length_map,Ti,HM8.out]
 obtain⟨g1,c1,rfl,hg1,hgl1,hcs⟩:=ho1.get (k:=0) (by rw[hpl];omega);rw[hpl]
 have HCS:Hid (∀k,k<m→w1.cell? ⟨g1,k,none⟩=some (.slice (some ⟨b,o+8*k*6,none⟩) (min 8 (len-8*k)) (min 8 (len-8*k)))):=by
  intro k hk;have h:=hcs k (by rw[hpl];exact hk);rw[List.getElem_map,yX] at h;exact h
 have HF1:=a0z hf1;have hbf:=Da.fresh 131 w1;have HBF:=a0z hbf
 have u1:IntKind.u64.wrap (m:Int)=(m:Int):=by rw[IntKind.wrap_u64];omega
 have HLI:=a0z (fun w n (h:n<18446744073709551616)=>Ph w n 2 h (by decide))
 have HL2:Hid (∀w,Calls Tryz.prog 90 #[.int .u64 m,.int .i64 2] w fun e w'=>e=.returned (.string (Hr l 0))∧Fp [] w w'):=by
  intro w;rw[show Hr l 0=Ef m 2 from by show Ef (E4 l) 2=_;rw[HMM.out]];exact Ph w m 2 (by omega) (by decide)
 clear hbf hcs ho1 hf1 HLI HPT;go_wp2_with (fail);(with_reducible refine(HL2.out _).mono ?_);rintro e w2 ⟨rfl,hf2⟩;have HF2:=a0z (HF1.out.trans ((Fp.alloc w1 (.cells #[.pointer none,.slice none 0 0] 131)).trans hf2 (by simp)) (by simp));have HF12:=a0z ((Fp.alloc w1 (.cells #[.pointer none,.slice none 0 0] 131)).trans hf2 (by simp));have HB2:=a0z (HBF.out.fp hf2 (by simp));clear hf2 HL2;go_wp2_with (fail)
 go_loopg [8,34] m (fun g vi vk wr=>∃k:Nat,g+k=m∧vi=.string (Hr l k)∧vk=.int .i64 k∧Da 131 w1.heap.size w1.heap.size (I6 l k) wr∧Fp [] w1 wr∧Dz l k=0)
 case atStart=>exact⟨0,by omega,rfl,rfl,HB2.out,HF12.out,rfl⟩
 case round=>
  obtain⟨k,hg,rfl,rfl,hbk,hf,he⟩:=hrel;have HBK:=a0z hbk;have HF:=a0z hf;have HE:=a0z he;clear hbk hf he
  by_cases hk:k<m
  ·have zk:(k:Int)<(m:Int):=by omega
   have q0:wr.cell? ⟨g1,k,none⟩=some (.slice (some ⟨b,o+8*k*6,none⟩) (min 8 (len-8*k)) (min 8 (len-8*k))):=(HF.out.cell (p:=⟨g1,k,none⟩) hgl1 (by simp)).trans (HCS.out k hk);have HPB:=a0z (mA wr (some ⟨b,o+8*k*6,none⟩) (min 8 (len-8*k)) (min 8 (len-8*k)) (F2 l k) (yW (HL.out.fp (HF1.out.trans HF.out (by simp))) (by omega)) (by omega) (HM.out.fp (HF1.out.trans HF.out (by simp)) (by simp)));have HEB:=a0z (fun h=>yT (m:=E4 l) HE.out h (by rw[HMM.out];exact hk));have HEG:=a0z (fun h=>yU HE.out h);have HRK:Hid (L8 l k=Iu (Ek (F2 l k)).1):=rfl;have hbs:=jH (l:=F2 l k)
   obtain⟨⟨s,e⟩,hse⟩:∃t,Ek (F2 l k)=t:=⟨_,rfl⟩
   rw[hse] at HPB HEB HEG HRK hbs
   obtain⟨mm,hmm⟩:∃mm,min 8 (len-8*k)=mm:=⟨_,rfl⟩
   rw[hmm] at q0 HPB;clear hse hmm;go_wp2_with (fail);(with_reducible refine HPB.out.mono ?_);rintro e1 w3 ⟨rfl,hf3⟩;have HB3:=a0z (HBK.out.fp hf3 (by simp));have HF3:=a0z (HF.out.trans hf3 (by simp));clear hf3
   by_cases he:e=0
   ·subst he;have HE1:=a0z (HEG.out rfl);have HRC:=a0z (V0 s w3 (by omega) (HT.out.fp (HF1.out.trans HF3.out (by simp)) (by simp)));rw[←HRK.out] at HRC;have hrs:=jK l k;have HBS:=a0z (jJ l k);have HIS:Hid (Hr l (k+1)=Hr l k++Ef (L8 l k).size 4):=rfl;have his:=Wa l k;have hbl:=V9 l k
    obtain⟨rec,hrec⟩:∃r,L8 l k=r:=⟨_,rfl⟩
    rw[hrec] at HRC hrs HBS HIS
    obtain⟨ix,hix⟩:∃r,Hr l k=r:=⟨_,rfl⟩
    rw[hix] at HIS his;rw[hix];clear hrec hix HRK;go_wp2_with (fail);(with_reducible refine HRC.out.mono ?_);rintro e1 w4 ⟨rfl,hf4⟩;have HB4:=a0z (HB3.out.fp hf4 (by simp));have HF4:=a0z (HF3.out.trans hf4 (by simp));clear hf4;go_wp2_with (fail);(with_reducible refine(Uc Zh (by decide) w1.heap.size w1.heap.size (I6 l k) rec w4 HB4.out (by omega)).mono ?_);rintro e1 w5 ⟨rfl,hb5,hf5⟩;have HB5:=a0z hb5;have HF5:=a0z (HF4.out.bfp hf5 (a3u _))
    have u2:IntKind.u64.wrap (rec.size:Int)=(rec.size:Int):=by rw[IntKind.wrap_u64];omega
    have HL4:Hid (∀w,Calls Tryz.prog 90 #[.int .u64 rec.size,.int .i64 4] w fun e w'=>e=.returned (.string (Ef rec.size 4))∧Fp [] w w'):=fun w=>Ph w rec.size 4 (by omega) (by decide)
    have hls:=Ni rec.size 4
    obtain⟨le,hle⟩:∃r,Ef rec.size 4=r:=⟨_,rfl⟩
    rw[hle] at HL4 hls HIS
    have zl:¬ix.size+4>9223372036854775807:=by omega
    clear hb5 hf5 hle;go_wp2_with (fail);(with_reducible refine(HL4.out _).mono ?_);rintro e1 w6 ⟨rfl,hf6⟩;have HB6:=a0z (HB5.out.fp hf6 (by simp));have HF6:=a0z (HF5.out.trans hf6 (by simp));clear hf6;go_wp2_with (fail)
    go_roundg (gk-1)
    case measure=>omega
    case rel=>exact⟨k+1,by omega,by rw[HIS.out],by simp,by rw[HBS.out];exact HB6.out,HF6.out,HE1.out⟩
   ·have ze:((e:Int)!=0)=true:=by rw[bne_iff_ne];omega
    have hb2:=HB.out;rw[HMM.out] at hb2;have he2:=HEB.out he;rw[HMM.out] at he2;rw[he2,if_pos he] at hb2;have HBB:=a0z hb2;clear hb2 he2;go_wp2_with (fail);go_ret2;exact⟨by rw[HBB.out];rfl,HF1.out.trans HF3.out (by simp)⟩
  ·obtain rfl:k=m:=by omega
   have zk:¬(k:Int)<(k:Int):=by omega
   have hb2:=HB.out;rw[HMM.out,HE.out,if_neg (by decide)] at hb2;have HB2':=a0z hb2;have HRI:=a0z (Uf wr (some ⟨b,o,none⟩) len cap l (HL.out.fp (HF1.out.trans HF.out (by simp))) (by omega));clear hb2;go_wp2_with (fail);(with_reducible refine HRI.out.mono ?_);rintro e1 w3 ⟨rfl,hf3⟩;have HB3:=a0z (HBK.out.fp hf3 (by simp));have HF3:=a0z (HF.out.trans hf3 (by simp));clear hf3
   by_cases hri:risC l=false
   ·have hb3:=HB2'.out;rw[if_pos hri] at hb3;have HBB:=a0z hb3;rw[hri];clear hb3 hri;go_wp2_with (fail);go_ret2;exact⟨by rw[HBB.out];rfl,HF1.out.trans HF3.out (by simp)⟩
   ·have hri2:risC l=true:=by simpa using hri
    have hb3:=HB2'.out;rw[if_neg hri] at hb3;have HBB:=a0z hb3;rw[hri2];clear hb3 hri hri2;have HRW:=a0z (xZ w3 (some ⟨b,o,none⟩) len cap l (HL.out.fp (HF1.out.trans HF3.out (by simp))) (by omega));go_wp2_with (fail);(with_reducible refine HRW.out.mono ?_);rintro e1 w4 ⟨v4,rfl,ho4,hf4⟩;have HB4:=a0z (HB3.out.fp hf4 (by simp));have HF4:=a0z (HF3.out.trans hf4 (by simp))
    have hrl:(G2 l).length≤2000:=by have h1:=jA l l.length;have h2:=HLN.out;unfold G2;omega
    have hbs:=jM (G2 l)
    have hbn:Pj (G2 l).length≤3000:=by unfold Pj;omega
    have HMK:=a0z (yO w4 v4 w3.heap.size (G2 l) ho4 hrl (by
     intro s hs;obtain⟨c,hc,rfl⟩:=yZ hs;have:=(T9 (yY (by rw[HMM.out];exact HE.out) c hc)).1
     omega) (HT.out.fp (HF1.out.trans HF4.out (by simp)) (by simp)))
    clear hf4 ho4 hrl;go_wp2_with (fail);(with_reducible refine HMK.out.mono ?_);rintro e1 w5 ⟨rfl,hf5⟩;have HB5:=a0z (HB4.out.fp hf5 (by simp));have HF5:=a0z (HF4.out.trans hf5 (by simp))
    have HFI:Hid (Nj l=Iu (Hr l k)):=by unfold Hid Nj;rw[HMM.out]
    have HFF:Hid (Ob l=Iu (Jn (G2 l))):=rfl;have his:=Wa l k;have hrs1:=V8 (Hr l k);have hrs2:=V8 (Jn (G2 l));have HP1:=a0z (fun w ht=>V0 (Hr l k) w (by omega) ht);have HP2:=a0z (fun w ht=>V0 (Jn (G2 l)) w (by omega) ht)
    have hfi:(Nj l).size≤10000:=by rw[HFI.out];omega
    have hff:(Ob l).size≤10000:=by rw[HFF.out];omega
    have HFT:Hid (Q2 l seq=⟨(I6 l k).length,(Nj l).size,(Ob l).size,seq⟩):=by unfold Hid Q2;rw[HMM.out]
    have HFB:Hid (Nk l seq=bl (I6 l k)++Nj l++Ob l++Iu (Q2 l seq).text):=by unfold Hid Nk Zg;rw[HMM.out]
    rw[←HFI.out] at HP1;rw[←HFF.out] at HP2
    obtain⟨ix,hix⟩:∃r,Hr l k=r:=⟨_,rfl⟩
    rw[hix] at HP1;rw[hix]
    obtain⟨fl,hfl⟩:∃r,Jn (G2 l)=r:=⟨_,rfl⟩
    rw[hfl] at HP2;rw[hfl];have hbl:=V9 l k
    obtain⟨x2,hx2⟩:∃r,Nj l=r:=⟨_,rfl⟩
    rw[hx2] at HP1 hfi HFT HFB
    obtain⟨x3,hx3⟩:∃r,Ob l=r:=⟨_,rfl⟩
    rw[hx3] at HP2 hff HFT HFB;rw[HFT.out] at HFB
    obtain⟨bs,hbseq⟩:∃r,I6 l k=r:=⟨_,rfl⟩
    rw[hbseq] at HB5 hbl HFB;clear hf5 hix hfl hx2 hx3 hbseq hbs hbn his hrs1 hrs2 HFT HFI HFF;go_wp2_with (fail);(with_reducible refine(HP1.out _ (HT.out.fp (HF1.out.trans HF5.out (by simp)) (by simp))).mono ?_);rintro e1 w6 ⟨rfl,hf6⟩;have HB6:=a0z (HB5.out.fp hf6 (by simp));have HF6:=a0z (HF5.out.trans hf6 (by simp));clear hf6;go_wp2_with (fail);(with_reducible refine(HP2.out _ (HT.out.fp (HF1.out.trans HF6.out (by simp)) (by simp))).mono ?_);rintro e1 w7 ⟨rfl,hf7⟩;have HB7:=a0z (HB6.out.fp hf7 (by simp));have HF7:=a0z (HF6.out.trans hf7 (by simp));clear hf7;go_wp2_with (fail);(with_reducible refine(Tryz.Builder_Len w1.heap.size w1.heap.size (Lib.byteCells bs) w7 (by have h:=HB7.out;unfold Da at h;exact h)).mono ?_);rintro e1 w8 ⟨rfl,rfl⟩;rw[Lib.byteCells_length]
    obtain⟨nb,hnb⟩:∃n,bs.length=n:=⟨_,rfl⟩
    rw[hnb] at HFB ⊢
    have hnb2:nb≤160012000:=by omega
    go_wp2_with (fail);have hfb8:(w8.alloc (.cells #[.int .i64 nb,.int .i64 x2.size,.int .i64 x3.size,.int .u64 seq] 144)).heap[w8.heap.size]?=some (.cells #[.int .i64 nb,.int .i64 x2.size,.int .i64 x3.size,.int .u64 seq] 144 (0,0)):=Ai rfl _;have hfp8:=HF7.out.alloc' (.cells #[.int .i64 nb,.int .i64 x2.size,.int .i64 x3.size,.int .u64 seq] 144);have hb8:=HB7.out.fp (Fp.alloc w8 (.cells #[.int .i64 nb,.int .i64 x2.size,.int .i64 x3.size,.int .u64 seq] 144)) (by simp)
    obtain⟨w9,hw9⟩:∃w,w8.alloc (.cells #[.int .i64 nb,.int .i64 x2.size,.int .i64 x3.size,.int .u64 seq] 144)=w:=⟨_,rfl⟩
    rw[hw9] at hfb8 hfp8 hb8 ⊢;have HBX:=a0z hfb8;have HF9:=a0z hfp8;have HB9:=a0z hb8
    have hfts:(Hg.text ⟨nb,x2.size,x3.size,seq⟩).size=20:=by
     unfold Hg.text;simp only[a0w,Ni]
    have hrt:=V8 (Hg.text ⟨nb,x2.size,x3.size,seq⟩);have HTX:=a0z (fun w=>xP ⟨nb,x2.size,x3.size,seq⟩ w (by show nb≤_;omega) (by show x2.size≤_;omega) (by show x3.size≤_;omega) hq);have HPX:=a0z (fun w ht=>V0 (Hg.text ⟨nb,x2.size,x3.size,seq⟩) w (by omega) ht);simp only[Zb] at HTX
    obtain⟨tx,htx⟩:∃t,Hg.text ⟨nb,x2.size,x3.size,seq⟩=t:=⟨_,rfl⟩
    rw[htx] at HTX HPX hfts hrt HFB
    obtain⟨x4,hx4⟩:∃t,Iu tx=t:=⟨_,rfl⟩
    rw[hx4] at HPX hrt HFB
    obtain⟨x1,hx1⟩:∃t,bl bs=t:=⟨_,rfl⟩
    have hx1s:x1.size=nb:=by rw[←hx1,D1,hnb]
    have HX1:Hid ((⟨bs.toArray⟩:ByteArray)=x1):=hx1;rw[hx1] at HFB
    have zl1:¬x1.size+x2.size>9223372036854775807:=by omega
    have zl2:¬x1.size+x2.size+x3.size>9223372036854775807:=by omega
    have zl3:¬x1.size+x2.size+x3.size+x4.size>9223372036854775807:=by omega
    clear hfb8 hfp8 hb8 hw9 htx hx4 hx1 hx1s hnb hbl;refine F9 (CJ w1 w8.heap.size ⟨nb,x2.size,x3.size,seq⟩ bs) (fun _ _=>True) (by kernel_rfl) (by kernel_rfl) ⟨HF9.out.drew',((Fp.drew w9).block _ (Ab HBX.out) (by simp)).trans HBX.out,fun _=>HB9.out.fp (Fp.drew w9) (by simp)⟩ ?_;apply He (B0 (.string x1)) rfl rfl rfl
    ·intro b a w hC hA K hK;have h7:=hA.fr 7 rfl;simp only[Oper.wp,execOp];go_simp;(with_reducible refine(yS w1.heap.size w1.heap.size bs w (hC.bu hA.self)).mono ?_);rintro e w2 ⟨rfl,hbel,hk⟩;rw[HX1.out];exact hK _ _ ⟨(Iw.fp hC).belowTrans hbel,hk _ _ _ (by decide) (Iw.box hC),fun h=>by cases h⟩ trivial rfl
    iterate 10
     apply Bi (fun _ _ h=>h) rfl rfl rfl
     ·intro b a w hC hA K hK
      try have h8:=hA.fr 8 rfl
      try have h81:=hA.eq 0 81 rfl
      try have h82:=hA.eq 1 82 rfl
      try have h15:=hA.fr 15 rfl
      try have h83:=hA.eq 2 83 rfl
      try have h84:=hA.eq 3 84 rfl
      try have h17:=hA.fr 17 rfl
      try have h86:=hA.eq 5 86 rfl
      try have h87:=hA.eq 6 87 rfl
      try have h85:=hA.eq 4 85 rfl
      try have h88:=hA.eq 7 88 rfl
      try have h89:=hA.eq 8 89 rfl
      have q0:=Aa (Iw.box hC) 0;have q1:=Aa (Iw.box hC) 1;have q2:=Aa (Iw.box hC) 2;have q3:=Aa (Iw.box hC) 3;simp only[a4z,List.getElem?_cons_succ,List.getElem?_cons_zero] at q0 q1 q2 q3;simp only[Oper.wp,execOp];go_simp
      first
      |exact hK _ hC trivial
      |first
        |((with_reducible refine(HTX.out _).mono ?_);rintro e w2 ⟨rfl,hf⟩;exact hK _ (Iw.on hC hf) trivial)
        |((with_reducible refine(HPX.out _ (HT.out.fp (HF1.out.trans hC.fp (by simp)) (by simp))).mono ?_);rintro e w2 ⟨rfl,hf⟩;exact hK _ (Iw.on hC hf) trivial)
    refine⟨?_,?_⟩
    ·refine Cc _ ?_
     iterate 9 refine Cc _ ?_
     refine⟨fun _ _ _ _ h=>h,?_⟩;exact trivial
    ·intro wz bb hC hbb;simp only[List.reverse_cons,List.reverse_nil,List.nil_append,List.cons_append];refine Az ?_;intro v0 u0;obtain rfl:=u0
     iterate 10 (refine Au ?_)
     refine A6 ?_;simp only[Am,Act.put,List.setIfInBounds_toArray,List.set_cons_succ,List.set_cons_zero];have HFZ:=a0z (Iw.fp hC);clear hC hbb;go_wp2_with (fail);go_ret2;exact⟨by rw[HBB.out,HFB.out];rfl,HF1.out.trans HFZ.out (by simp)⟩
end
section
open Go.RowKit
end
section
open Go.RowKit
end
end
section
section
open Go.RowKit
theorem A2.len{w:World}{base:Nat}{v:Value}{l:List Ac}(h:A2 w base v l):∃a cap,v=.slice a l.length cap:=by
 rcases h.2 with⟨rfl,h0⟩|⟨g,cap,cur,rfl,_⟩
 ·have:l=[]:=a2u h0;subst this;exact⟨_,_,rfl⟩
 ·exact⟨_,_,rfl⟩
end
section
open Go.RowKit
end
end
section
section
open Go.RowKit
def B8(x:ByteArray):List UInt8:=two x.size++(L1 (L3 (bl (two x.size)) x)++x.data.toList)
theorem Wb(x:ByteArray):Jm x=bl (B8 x):=by
 unfold Jm B8
 conv=>lhs;rw[←M5 x]
 simp only[M5,Ln];rw[show(x:ByteArray)=bl x.data.toList from(M5 x).symm];simp only[Ln,Rn,a1u,D1]
theorem Nl(x:ByteArray):(B8 x).length=6+x.size:=by
 unfold B8 two L1;simp only[a0x,List.length_cons,List.length_nil];show 0+1+1+(0+1+1+1+1+x.size)=_;omega
theorem Zi{x:ByteArray}(h:x.size≤65535):Iu x=Jm x:=by
 unfold Iu K8;rw[if_neg (by omega)]
theorem zB(x:ByteArray)(y:List UInt8)(h:x.size≤65535):Cm (bl (B8 x++y))=(x,6+x.size,0):=by
 obtain⟨c,hc⟩:∃c,L3 (bl (two x.size)) x=c:=⟨_,rfl⟩
 have hcl:c<4294967296:=by rw[←hc];exact iN _ _
 have hl:B8 x++y=two x.size++(L1 c++(x.data.toList++y)):=by unfold B8;rw[hc];simp only[a1u]
 have hsz:(bl (B8 x++y)).size=6+x.size+y.length:=by rw[D1,a0x,Nl]
 have hx:x.data.toList.length=x.size:=rfl
 have a0:Aq (bl (B8 x++y)) 0=a2z x.size:=by rw[Ky,hl];rfl
 have a1:Aq (bl (B8 x++y)) 1=a2z (x.size/256):=by rw[Ky,hl];rfl
 have a2:Aq (bl (B8 x++y)) 2=a2z c:=by rw[Ky,hl];rfl
 have a3:Aq (bl (B8 x++y)) 3=a2z (c/256):=by rw[Ky,hl];rfl
 have a4:Aq (bl (B8 x++y)) 4=a2z (c/65536):=by rw[Ky,hl];rfl
 have a5:Aq (bl (B8 x++y)) 5=a2z (c/16777216):=by rw[Ky,hl];rfl
 have he:E3 (bl (B8 x++y))=6+x.size:=by
  unfold E3;rw[a0,a1,UInt8.toNat_ofNat',UInt8.toNat_ofNat'];omega
 have e1:(bl (B8 x++y)).extract 0 2=bl (two x.size):=by
  rw[hl];exact Ze _ _ _ rfl
 have e2:(bl (B8 x++y)).extract 6 (6+x.size)=x:=by
  rw[hl,←a1u];rw[yQ (two x.size++L1 c) x.data.toList y 6 (6+x.size) rfl (by rw[hx];rfl),M5]
 have hg:=Y6 (s:=bl (B8 x++y)) (by rw[hsz];omega) (by rw[hsz];omega) (by rw[he,hsz];omega) (by
  rw[he,e1,e2,hc,a2,a3,a4,a5,xC c hcl])
 rw[hg,he,e2]
structure Tn(l:List Ac):Prop where
 len:l.length≤2000
 pos:0<l.length
 err:Dz l (E4 l)=0
 ris:risC l=true
theorem zC{l:List Ac}(seq:Nat)(h:Tn l):Hh l seq=(Nk l seq,0):=by
 have h1:=h.len;have h2:=h.pos;unfold Hh;rw[if_neg (by omega),if_neg (by omega),if_neg (by simp[h.err]),if_neg (by simp[h.ris])]
theorem zD{l:List Ac}{seq:Nat}(h:(Hh l seq).2=0):Tn l:=by
 unfold Hh at h;split at h
 ·cases h
 ·split at h
  ·cases h
  ·split at h
   ·rename_i h3;exact absurd h h3
   ·split at h
    ·cases h
    ·rename_i h1 h2 h3 h4;exact⟨by omega,by omega,by simpa using h3,by simpa using h4⟩
theorem zE(l:List Ac):(G2 l).length≤l.length:=jA l l.length
theorem jN{l:List Ac}(h:l.length≤2000):(Jn (G2 l)).size≤2501:=by
 rw[jM];have:=zE l;unfold Pj;omega
theorem jO{l:List Ac}(h:l.length≤2000):(Hr l (E4 l)).size≤1002:=by
 rw[Wa];unfold E4;omega
theorem jP(f:Hg):f.text.size=20:=by
 unfold Hg.text;simp only[a0w,Ni]
def Wc(l:List Ac)(seq:Nat):List UInt8:=I6 l (E4 l)++(B8 (Hr l (E4 l))++(B8 (Jn (G2 l))++B8 (Q2 l seq).text))
theorem zF{l:List Ac}(seq:Nat)(h:l.length≤2000):Nk l seq=bl (Wc l seq):=by
 have h1:=jO h;have h2:=jN h;have h3:=jP (Q2 l seq);unfold Nk Zg Nj Ob Wc;rw[Zi (by omega),Zi (by omega),Zi (by omega),Wb,Wb,Wb];simp only[Ln,a1u]
theorem zG{l:List Ac}(seq:Nat):(Wc l seq).length=(I6 l (E4 l)).length+(6+(Hr l (E4 l)).size)+(6+(Jn (G2 l)).size)+26:=by
 unfold Wc;simp only[a0x,Nl,jP];omega
theorem zH{l:List Ac}(h:Tn l):(I6 l (E4 l)).length≤80006*250:=by
 have h1:=V9 l (E4 l);have h2:=h.len
 have h3:E4 l≤250:=by unfold E4;omega
 exact a4x h1 (Nat.mul_le_mul_left _ h3)
end
section
open Go.RowKit
end
section
open Go.RowKit
end
section
open Go.RowKit
theorem zI{l:List Ac}(seq:Nat)(h:Tn l):(Nk l seq).size≤100000000:=by
 have h1:=zH h;have h2:=jO h.len;have h3:=jN h.len;rw[zF seq h.len,D1,zG];omega
end
end
section
open Go.RowKit Go.Maps Go.MapKept Go.ChangeMaps
theorem Ak.thereD{d:Dk}{name:ByteArray}{g:A5→Dk}(h:Ak d)(hg:d.named [name]=0→∀f,Ao d.files name=some f→Ak (g f)):Ak (d.thereD name g):=by
 unfold Dk.thereD;split
 ·exact h
 ·rename_i hn;split
  ·exact h
  ·rename_i f hf;exact(hg (by simpa using hn) f hf).burnt
theorem Ak.syncD{d:Dk}(h:Ak d)(name:ByteArray):Ak (d.sync name):=by
 refine h.thereD fun _ f hf=>?_
 unfold Dk.syncG;have hfile:=h.file hf;have hfi:=h.fits;split
 ·refine h.tick.put name _ ?_ (a3u _) (Or.inl (by show(Ao d.files name).isSome=true;rw[hf];rfl));rw[kC hf];show(total d.files:Int)+(f.s.size:Nat)-f.s.size≤d.cap;omega
 ·exact h.tick
theorem Ak.deleteD{d:Dk}(h:Ak d)(name:ByteArray):Ak (d.delete name):=by
 refine h.thereD fun _ f hf=>?_
 unfold Dk.deleteG;split
 ·exact h.tick.gone name (by show(Ao d.files name).isSome=true;rw[hf];rfl)
 ·exact h.tick
theorem Ak.appendD{d:Dk}(h:Ak d)(name s:ByteArray):Ak (d.append name s):=by
 unfold Dk.append;split
 ·exact h
 ·rename_i hfull
  refine h.thereD fun hn f hf=>?_
  have ho:=kA hn
  have hfit:d.size+s.size≤d.cap:=by
   unfold Dk.full at hfull;rw[hf,ho] at hfull
   simpa using hfull
  have hfile:=h.file hf;have hz:=h.size
  have hfg:Bj d.tick name=f:=by
   show(Ao d.files name).getD A3=f;rw[hf];rfl
  refine h.tick.put name _ ?_ ?_ (Or.inl (by show(Ao d.files name).isSome=true;rw[hf];rfl))
  ·rw[hfg];show(total d.files:Int)+((f.s++s).size:Nat)-f.s.size≤d.cap;simp only[a0w];omega
  ·show f.synced≤(f.s++s).size;simp only[a0w];omega
theorem Ak.renameD{d:Dk}(h:Ak d)(frm dst:ByteArray):Ak (d.rename frm dst):=by
 unfold Dk.rename;split
 ·exact h
 ·exact h.thereD fun _ f hf=>kE h hf
theorem Ak.createD{d:Dk}(h:Ak d)(name:ByteArray):Ak (d.create name):=by
 unfold Dk.create;split
 ·exact h
 ·split
  ·exact h
  ·split
   ·exact h
   ·exact(kF h (by omega)).burnt
def F3:List (Dk→Dk × Int)→Dk→Dk × Int
 |[],d=>(d,0)
 |g::r,d=>if(g d).2=0 then F3 r (g d).1 else g d
def A0(l:List ByteArray):List UInt8:=l.flatMap B8
theorem Zj(t:ByteArray)(r:List ByteArray):A0 (t::r)=B8 t++A0 r:=rfl
theorem We(a b:List ByteArray):A0 (a++b)=A0 a++A0 b:=by unfold A0;rw[a3z]
def Be:List ByteArray→Nat
 |[]=>0
 |t::r=>6+t.size+Be r
theorem To:∀(a b:List ByteArray),Be (a++b)=Be a+Be b
 |[],b=>by simp[Be]
 |t::r,b=>by show 6+t.size+Be (r++b)=6+t.size+Be r+Be b;rw[To r b];omega
theorem Ic:∀(l:List ByteArray),(A0 l).length=Be l
 |[]=>rfl
 |t::r=>by
  rw[Zj,a0x,Ic r,Nl];rfl
def Zk(l:List ByteArray):Bool:=l.all (fun t=>decide (t.size≤65535))
def Ie(l:List ByteArray):ByteArray × Int:=if Zk l then(bl (A0 l),0) else(⟨#[]⟩,71)
def I7:ByteArray:=⟨#[43]⟩
def Pn(name other s:ByteArray):List (Dk→Dk × Int):=
 [fun d=>(d.delete other,if d.thereE other=3 then 0 else d.thereE other),
  fun d=>(d.create other,d.createE other),
  fun d=>(d.append other s,d.appendE other s),
  fun d=>(d.sync other,d.thereE other),
  fun d=>(d.rename other name,d.renameE other name)]
def Dk.wWrite(d:Dk)(name s:ByteArray):Dk × Int:=F3 (Pn name (name++I7) s) d
def Po(name s:ByteArray):List (Dk→Dk × Int):=[fun d=>(d.append name s,d.appendE name s),fun d=>(d.sync name,d.thereE name)]
def Dk.wAppend(d:Dk)(name s:ByteArray):Dk × Int:=F3 (Po name s) d
theorem jQ:∀(l:List (Dk→Dk × Int)) {d:Dk},Ak d→(∀g∈l,∀d,Ak d→Ak (g d).1)→Ak (F3 l d).1
 |[],_,h,_=>h
 |g::r,d,h,hg=>by
  unfold F3;split
  ·exact jQ r (hg g List.mem_cons_self d h) (fun g' hm=>hg g' (List.mem_cons_of_mem _ hm))
  ·exact hg g List.mem_cons_self d h
theorem zJ(name other s:ByteArray):∀g∈Pn name other s,∀d,Ak d→Ak (g d).1:=by
 intro g hg d hd;simp only[Pn,List.mem_cons,List.not_mem_nil,or_false] at hg
 rcases hg with rfl|rfl|rfl|rfl|rfl
 ·exact hd.deleteD _
 ·exact hd.createD _
 ·exact hd.appendD _ _
 ·exact hd.syncD _
 ·exact hd.renameD _ _
theorem jR(name s:ByteArray):∀g∈Po name s,∀d,Ak d→Ak (g d).1:=by
 intro g hg d hd;simp only[Po,List.mem_cons,List.not_mem_nil,or_false] at hg
 rcases hg with rfl|rfl
 ·exact hd.appendD _ _
 ·exact hd.syncD _
theorem Ak.wAppendD{d:Dk}(h:Ak d)(name s:ByteArray):Ak (d.wAppend name s).1:=jQ _ h (jR _ _)
def Dk.wOpen(d:Dk)(name:ByteArray):Dk × Int × List ByteArray:=
 if name.size=0∨59<name.size then(d,1,[])
 else if(d.read name).2≠0∧(d.read name).2≠3 then(d,(d.read name).2,[])
 else
  let s:=(d.read name).1
  let r:=if(d.read name).2=3∨Fv (Ee s)<s.size then d.wWrite name (s.extract 0 (Fv (Ee s))) else(d.sync name,d.thereE name)
  (r.1,r.2,if r.2=0 then(Ee s).map (·.2) else[])
structure Lg where
 name:ByteArray
 many:Nat
 off:Bool
def I8(lg:Lg)(d:Dk)(texts:List ByteArray)(many:Nat)(g:ByteArray→Dk→Dk × Int):Lg × Dk × Int:=
 if lg.off then(lg,d,6)
 else if(Ie texts).2≠0 then(lg,d,(Ie texts).2)
 else
  let r:=g (Ie texts).1 d
  (if r.2=0 then{lg with many:=many} else if r.2=2 then lg else{lg with off:=true},r.1,r.2)
def Gg(lg:Lg)(d:Dk)(texts:List ByteArray):Lg × Dk × Int:=I8 lg d texts (lg.many+texts.length) (fun s d=>d.wAppend lg.name s)
end
section
open Go.RowKit
structure Gx(α:Type) where
 e:TypeId
 k:Nat
 enc:α→List Value
 len:∀x,(enc x).length=k
 pos:0<k
 one:∀x,∀v∈enc x,v.oneCell'=true
variable {α : Type} {R : Gx α}
theorem Pq(l:List α):(l.flatMap R.enc).length=l.length*R.k:=by
 induction l with
 |nil=>simp
 |cons x r ih=>rw[a3x,a0x,ih,R.len,List.length_cons,a1z,Nat.add_comm]
theorem Tq:∀(l:List α) (i j:Nat),j<R.k→(hi:i<l.length)→(l.flatMap R.enc)[i*R.k+j]?=(R.enc l[i])[j]?
 |[],_,_,_,hi=>absurd hi (a2v _)
 |x::r,0,j,hj,_=>by
  rw[a3x,Nat.zero_mul,a4w,List.getElem?_append_left (by rw[R.len];exact hj)];rfl
 |x::r,i+1,j,hj,hi=>by
  rw[a3x,List.getElem?_append_right (by rw[R.len,a1z];omega),R.len,show(i+1)*R.k+j-R.k=i*R.k+j by rw[a1z];omega];exact Tq r i j hj _
theorem jS(l:List α):∀u∈l.flatMap R.enc,u.oneCell'=true:=by
 intro u hu;obtain⟨x,_,hx⟩:=List.mem_flatMap.1 hu;exact R.one x u hx
theorem Zl{k x n:Nat}(h:x<n*k)(hk:0<k):x/k<n∧x%k<k∧x=x/k*k+x%k:=
 ⟨Nat.div_lt_of_lt_mul (by rw[Nat.mul_comm];exact h),Nat.mod_lt _ hk,(Nat.div_add_mod' x k).symm⟩
def Nn(R:Gx α)(w:World)(b o:Nat)(x:α):Prop:=∀j u,(R.enc x)[j]?=some u→w.cell? ⟨b,o+j,none⟩=some u
theorem Nn.fp{w w':World}{b o:Nat}{x:α}{S:List Nat}(h:Nn R w b o x)(hf:Fp S w w')(hb:b<w.heap.size)(hS:b∉S):Nn R w' b o x:=fun j u hu=>(hf.cell (p:=⟨b,o+j,none⟩) hb hS).trans (h j u hu)
structure Bf(R:Gx α)(w:World)(a:Option Addr)(n:Nat)(l:List α):Prop where
 len:n=l.length
 cells:l=[]∨∃b o,a=some ⟨b,o,none⟩∧b<w.heap.size∧∀i (h:i<l.length),Nn R w b (o+i*R.k) l[i]
theorem Bf.fp{w w':World}{a:Option Addr}{n:Nat}{l:List α}(h:Bf R w a n l)(hf:Fp [] w w'):Bf R w' a n l:=by
 refine⟨h.len,?_⟩
 rcases h.cells with h0|⟨b,o,e,hb,hc⟩
 ·exact Or.inl h0
 ·exact Or.inr ⟨b,o,e,Nat.lt_of_lt_of_le hb hf.size,fun i hi=>(hc i hi).fp hf hb (by simp)⟩
theorem Bf.get{w:World}{a:Option Addr}{n i:Nat}{l:List α}(h:Bf R w a n l)(hi:i<l.length):∃b o,a=some ⟨b,o,none⟩∧b<w.heap.size∧∀w',Fp [] w w'→Nn R w' b (o+i*R.k) l[i]:=by
 rcases h.cells with h0|⟨b,o,e,hb,hc⟩
 ·rw[h0] at hi;exact absurd hi (a2v _)
 ·exact⟨b,o,e,hb,fun w' hf=>(hc i hi).fp hf hb (by simp)⟩
theorem Bf.nil(w:World)(a:Option Addr):Bf R w a 0 []:=⟨rfl,Or.inl rfl⟩
theorem Bf.take{w:World}{a:Option Addr}{n:Nat}{l:List α}(h:Bf R w a n l)(m:Nat)(hm:m≤n):Bf R w a m (l.take m):=by
 have hl:=h.len;refine⟨by rw[a2x];omega,?_⟩
 rcases h.cells with h0|⟨b,o,e,hb,hc⟩
 ·left;rw[h0];simp
 ·exact Or.inr ⟨b,o,e,hb,fun i hi=>by rw[List.getElem_take];exact hc i (by rw[a2x] at hi;omega)⟩
theorem Bf.drop{w:World}{b o n:Nat}{l:List α}(h:Bf R w (some ⟨b,o,none⟩) n l)(m r:Nat)(hm:m+r=n):Bf R w (some ⟨b,o+m*R.k,none⟩) r (l.drop m):=by
 have hl:=h.len;refine⟨by rw[a1v];omega,?_⟩
 rcases h.cells with h0|⟨b',o',e,hb,hc⟩
 ·left;rw[h0];simp
 ·obtain⟨rfl,rfl⟩:b=b'∧o=o':=by cases e;exact⟨rfl,rfl⟩
  refine Or.inr ⟨b,o+m*R.k,rfl,hb,fun i hi=>?_⟩;rw[a1v] at hi;have:=hc (m+i) (by omega);rw[Nat.add_mul,←Nat.add_assoc] at this;rw[List.getElem_drop];exact this
theorem Bf.one{w:World}{g:Nat}{x:α}{e:TypeId}(h:w.heap[g]?=some (.cells (R.enc x).toArray e (0,0))):Bf R w (some ⟨g,0,none⟩) 1 [x]:=by
 refine⟨rfl,Or.inr ⟨g,0,rfl,Ab h,fun i hi=>?_⟩⟩
 have:i=0:=by simpa using hi
 subst this;intro j u hu;simp only[Nat.zero_mul,a4w];rw[Aa h,a4z];exact hu
def Ae(R:Gx α)(w:World)(base:Nat)(v:Value)(l:List α):Prop:=w.ownsRow base R.e R.k v l.length (l.flatMap R.enc)
theorem Ae.nil(w:World)(base:Nat):Ae R w base (.slice none 0 0) []:=World.ownsRow_nil w base _ _
theorem Ae.mono{w:World}{base base':Nat}{v:Value}{l:List α}(h:Ae R w base v l)(hb:base'≤base):Ae R w base' v l:=by
 obtain⟨h1,h2⟩:=h;refine⟨h1,?_⟩
 rcases h2 with h2|⟨g,cap,cur,hv,hg,r⟩
 ·exact Or.inl h2
 ·exact Or.inr ⟨g,cap,cur,hv,a4x hb hg,r⟩
theorem Ae.lt{w:World}{base:Nat}{v:Value}{l:List α}(h:Ae R w base v l):∀k,v.ownBlock=some k→base≤k∧k<w.heap.size:=World.ownsRow.lt h
theorem Ae.kept{w w':World}{base:Nat}{v:Value}{l:List α}(h:Ae R w base v l)(hf:∀k,v.ownBlock=some k→w'.heap[k]?=w.heap[k]?):Ae R w' base v l:=by
 obtain⟨h1,h2⟩:=h;refine⟨h1,?_⟩
 rcases h2 with h2|⟨g,cap,cur,hv,hg,hh,r⟩
 ·exact Or.inl h2
 ·exact Or.inr ⟨g,cap,cur,hv,hg,(hf g (by rw[hv];rfl)).trans hh,r⟩
theorem Ae.fp{w w':World}{base:Nat}{v:Value}{l:List α}{S:List Nat}(h:Ae R w base v l)(hf:Fp S w w')(hS:∀i∈S,i<base):Ae R w' base v l:=
 h.kept fun k hk=>hf.block k (h.lt k hk).2 (fun hm=>by have:=hS k hm;have:=(h.lt k hk).1;omega)
theorem Ae.made(w:World)(base:Nat)(hb:base≤w.heap.size):Ae R (w.alloc (.cells #[] R.e)) base (.slice (some ⟨w.heap.size,0,none⟩) 0 0) []:=
 World.ownsRow_made w #[] 0 hb (by decide) (by simp)
theorem Ae.open{w:World}{base:Nat}{v:Value}{l:List α}(h:Ae R w base v l)(h0:0<l.length):
  ∃g cap cur,v=.slice (some ⟨g,0,none⟩) l.length cap∧base≤g∧w.heap[g]?=some (.cells cur R.e (0,0))∧l.length≤cap∧cap≤maxLen∧cur.size=cap*R.k∧cur.toList.take (l.length*R.k)=l.flatMap R.enc:=by
 rcases h.2 with⟨rfl,hn⟩|h2
 ·omega
 ·exact h2
theorem Ae.len{w:World}{base:Nat}{v:Value}{l:List α}(h:Ae R w base v l):∃a cap,v=.slice a l.length cap∧(a=none→cap=0)∧l.length≤cap:=by
 rcases h.2 with⟨rfl,h0⟩|⟨g,cap,cur,rfl,_,_,hn,_⟩
 ·exact⟨none,0,by rw[h0],fun _=>rfl,by omega⟩
 ·exact⟨_,_,rfl,(fun h=>by cases h),hn⟩
theorem Wg{cur:Array Value}{l:List α}(h:cur.toList.take (l.length*R.k)=l.flatMap R.enc)(i:Nat)(hi:i<l.length)(j:Nat)(hj:j<R.k):cur[i*R.k+j]?=(R.enc l[i])[j]?:=by
 have:i*R.k+j<l.length*R.k:=Nat.lt_of_lt_of_le (by rw[a1z];omega) (a0v _ (show i+1≤l.length from hi));rw[←Tq l i j hj hi,←h,a1x,if_pos this,a2w]
theorem jT{cur:Array Value}{l:List α}(h:∀i (hi:i<l.length),∀j,j<R.k→cur[i*R.k+j]?=(R.enc l[i])[j]?):cur.toList.take (l.length*R.k)=l.flatMap R.enc:=by
 apply List.ext_getElem?;intro x
 by_cases hx:x<l.length*R.k
 ·obtain⟨h1,h2,h3⟩:=Zl hx R.pos;rw[a1x,if_pos hx,a2w];rw[h3,Tq l (x/R.k) (x%R.k) h2 h1];exact h (x/R.k) h1 (x%R.k) h2
 ·rw[a1x,if_neg hx,List.getElem?_eq_none (by rw[Pq];omega)]
theorem Ae.at{w:World}{base:Nat}{v:Value}{l:List α}(h:Ae R w base v l):∃a cap,v=.slice a l.length cap∧(a=none→cap=0)∧l.length≤cap∧Bf R w a l.length l:=by
 by_cases h0:0<l.length
 ·obtain⟨g,cap,cur,rfl,hg,hh,hn,hm,hs,ht⟩:=h.open h0;refine⟨_,_,rfl,(fun h=>by cases h),hn,rfl,Or.inr ⟨g,0,rfl,Ab hh,fun i hi j u hu=>?_⟩⟩
  have hj:j<R.k:=by rw[←R.len l[i]];exact(List.getElem?_eq_some_iff.1 hu).1
  rw[a4w,Aa hh,Wg ht i hi j hj];exact hu
 ·obtain⟨a,cap,e,h1,h2⟩:=h.len;exact⟨a,cap,e,h1,h2,rfl,Or.inl (a2u (by omega))⟩
theorem Wh(T:TypeId){z:Value}{bytes:Nat}(hu:Tryz.prog.underlying T=some (.slice R.e))(hinfo:(Tryz.prog.info? R.e).map (fun i=>(i.zero,i.size,i.bytes))=some (some z,R.k,bytes))(hzs:z.cells.size=R.k)(hby:bytes≤100000)
  {w:World}{ops:Array Oper}{rest:List Oper}{o:Oper}{a:Act}{Q:Exit→Act→World→Prop}(hgd:o.guard=none)(s x:Operand)
  (ho:o.op=.call {callee:=.builtin .append,args:=#[s,x],argTypes:=#[T,T]})(base:Nat)(v:Value)(l:List α)(hs:a.eval s=v)(hown:Ae R w base v l)
  (ad:Option Addr)(m c:Nat)(ls:List α)(hx:a.eval x=.slice ad m c)(hl:Bf R w ad m ls)(hnone:ad=none→c=0)(hlen:l.length+ls.length≤1000000000)(hbase:base≤w.heap.size)
  (h:∀v' w',Ae R w' base v' (l++ls)→Below base w w'→w.grownBy w' v.ownBlock→wpList Tryz.prog ops Q rest (a.put o.dst v') w'):wpList Tryz.prog ops Q (o::rest) a w:=by
 obtain⟨i0,hi,hz0,hz1,hz2⟩:=info_parts hinfo;have hm:=hl.len
 cases ad with
 |none=>
  have:ls=[]:=by
   rcases hl.cells with h0|⟨b,o,h0,_⟩
   ·exact h0
   ·cases h0
  subst this;obtain rfl:=hnone rfl;have hm0:m=0:=hm;subst hm0;refine wpList_append_own_none hgd s x T ho base R.e i0 R.k hu hi v l.length (l.flatMap R.enc) hs hown hx ?_;exact h v w (by rw[List.append_nil];exact hown) (Below.refl _ _) ⟨rfl,rfl,rfl,a3u _,fun _ _ _=>rfl⟩
 |some ad=>
  refine wpList_append_own w hgd s x T ho base R.e i0 _ R.k bytes hu hi hz0 hz1 hz2 hzs R.pos v l.length (l.flatMap R.enc) hs hown ad m c (ls.flatMap R.enc) hx (by rw[Pq,hm]) ?_ (jS ls) (by unfold maxLen;omega) (a4x (Nat.mul_le_mul (show l.length+m≤1000000000 by omega) hby) (by decide)) hbase ?_
  ·intro j u hju
   rcases hl.cells with h0|⟨b,o,h0,_,hc⟩
   ·subst h0;simp at hju
   ·obtain rfl:=Option.some.inj h0
    have e1:(⟨b,o,none⟩:Addr).add j=⟨b,o+j,none⟩:=by unfold Addr.add;split<;>simp_all
    rw[e1]
    have hjl:j<ls.length*R.k:=by rw[←Pq (R:=R)];exact(List.getElem?_eq_some_iff.1 hju).1
    obtain⟨h1,h2,h3⟩:=Zl hjl R.pos;rw[h3,Tq ls _ _ h2 h1] at hju;have:=hc (j/R.k) h1 (j%R.k) u hju;rw[Nat.add_assoc,←h3] at this;exact this
  ·intro v' w' h1 h2 _;refine h v' w' ?_ ((Below.refl base w).grown h2 hbase (fun k hk=>(hown.lt k hk).1)) h2;unfold Ae;rw[a0x,a3z,←hm];exact h1
theorem Zm{g:Nat}{e:TypeId}:∀(vs:List Value) (o:Nat) (w:World) (cur:Array Value),w.heap[g]?=some (.cells cur e (0,0))→∃cur':Array Value,(w.setCells g o vs).heap[g]?=some (.cells cur' e (0,0))∧cur'.size=cur.size∧
  (∀j,j<o→cur'[j]?=cur[j]?)∧(∀j,j<vs.length→o+j<cur.size→cur'[o+j]?=vs[j]?)∧(∀j,o+vs.length≤j→cur'[j]?=cur[j]?)∧Fp [g] w (w.setCells g o vs)
 |[],o,w,cur,h=>⟨cur,h,rfl,fun _ _=>rfl,fun j hj=>absurd hj (a2v _),fun _ _=>rfl,Fp.refl _ _⟩
 |v::vs,o,w,cur,h=>by
  have h1:(w.setCell ⟨g,o,none⟩ v).heap[g]?=some (.cells (cur.setIfInBounds o v) e (0,0)):=Bm h v;obtain⟨cur',g1,g2,g3,g4,g5,g6⟩:=Zm vs (o+1) (w.setCell ⟨g,o,none⟩ v) _ h1;refine⟨cur',g1,by rw[g2,Array.size_setIfInBounds],fun j hj=>?_,fun j hj hjs=>?_,fun j hj=>?_,(Fp.setCell w ⟨g,o,none⟩ v).trans g6 (by intro i hi;exact Or.inl hi)⟩
  ·rw[g3 j (by omega),a1w,if_neg (by omega)]
  ·cases j with
   |zero=>
    rw[Nat.add_zero,g3 o (by omega),a1w,if_pos rfl,if_pos (by omega)];rfl
   |succ j=>
    rw[show o+(j+1)=o+1+j from by omega,g4 j (by simpa using hj) (by rw[Array.size_setIfInBounds];omega)];rfl
  ·rw[g5 j (by simp at hj;omega),a1w,if_neg (by simp at hj;omega)]
theorem Ae.setQ{w:World}{base g i n cap:Nat}{l:List α}(x:α)(h:Ae R w base (.slice (some ⟨g,0,none⟩) n cap) l)(hi:i<l.length):
  Ae R (w.setCells g (i*R.k) (R.enc x)) base (.slice (some ⟨g,0,none⟩) n cap) (l.set i x)∧Fp [g] w (w.setCells g (i*R.k) (R.enc x)):=by
 obtain⟨g2,cap2,cur,e,hg,hh,hn,hm,hs,ht⟩:=h.open (by omega);cases e;obtain⟨cur',g1,g2,g3,g4,g5,g6⟩:=Zm (R.enc x) (i*R.k) w cur hh;have hle:(i+1)*R.k≤cap*R.k:=a0v _ (by omega);rw[a1z] at hle;refine⟨⟨by rw[Pq],Or.inr ⟨g,cap,cur',by rw[a3w],hg,g1,by rw[a3w];exact hn,hm,by rw[g2];exact hs,?_⟩⟩,g6⟩
 refine jT fun y hy j hj=>?_
 rw[a3w] at hy
 by_cases e:y=i
 ·subst e;rw[List.getElem_set_self,g4 j (by rw[R.len];exact hj) (by rw[hs];omega)]
 ·rw[List.getElem_set_ne (Ne.symm e),←Wg ht y hy j hj]
  rcases Nat.lt_or_ge y i with h|h
  ·have:(y+1)*R.k≤i*R.k:=a0v _ (by omega);rw[a1z] at this;exact g3 _ (by omega)
  ·have:(i+1)*R.k≤y*R.k:=a0v _ (by omega);rw[a1z] at this;exact g5 _ (by rw[R.len];omega)
theorem Ae.elem{w:World}{base g n cap i:Nat}{l:List α}(h:Ae R w base (.slice (some ⟨g,0,none⟩) n cap) l)(hi:i<l.length):Nn R w g (i*R.k) l[i]∧(∀o,w.frozen? ⟨g,o,none⟩=false)∧base≤g∧g<w.heap.size∧n=l.length∧n≤cap:=by
 obtain⟨g2,cap2,cur,e,hg,hh,hn,hm,hs,ht⟩:=h.open (by omega);cases e;refine⟨fun j u hu=>?_,fun o=>Ar hh o,hg,Ab hh,rfl,hn⟩
 have hj:j<R.k:=by rw[←R.len l[i]];exact(List.getElem?_eq_some_iff.1 hu).1
 rw[Aa hh,Wg ht i hi j hj];exact hu
theorem Ae.cut{w:World}{base g n cap m p:Nat}{l:List α}(vs:List Value)(h:Ae R w base (.slice (some ⟨g,0,none⟩) n cap) l)(hk:m≤l.length)(hl:0<l.length)(hm:p=m*R.k):
  Ae R (w.setCells g p vs) base (.slice (some ⟨g,0,none⟩) m cap) (l.take m)∧Fp [g] w (w.setCells g p vs):=by
 subst hm;obtain⟨g2,cap2,cur,e,hg,hh,hn,hm,hs,ht⟩:=h.open hl;cases e;obtain⟨cur',g1,g2,g3,g4,g5,g6⟩:=Zm vs (m*R.k) w cur hh
 have hlk:(l.take m).length=m:=by rw[a2x];omega
 refine⟨⟨by rw[Pq],Or.inr ⟨g,cap,cur',by rw[hlk],hg,g1,by rw[hlk];omega,hm,by rw[g2];exact hs,?_⟩⟩,g6⟩
 refine jT fun y hy j hj=>?_
 rw[hlk] at hy;rw[List.getElem_take,←Wg ht y (by omega) j hj];have:(y+1)*R.k≤m*R.k:=a0v _ (by omega);rw[a1z] at this;exact g3 _ (by omega)
theorem Ae.less{w:World}{base g n cap m:Nat}{l:List α}(h:Ae R w base (.slice (some ⟨g,0,none⟩) n cap) l)(hk:m≤l.length)(hl:0<l.length):Ae R w base (.slice (some ⟨g,0,none⟩) m cap) (l.take m):=(h.cut [] hk hl rfl).1
end
end Go.Proofs.YtkagolpnaicdoaaGreatDoor
