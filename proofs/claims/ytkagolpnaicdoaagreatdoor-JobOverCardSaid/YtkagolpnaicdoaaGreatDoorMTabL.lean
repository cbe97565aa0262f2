/-
 table.Build: a file's bytes. table.Open: a file that is opened. table.Open: the walk. What an opened file says: Blocks, Many, Cells. What an opened file says of a row: near, Looks, Row. Files: what is built is opened to what it was built of. The law's own helpers: bounded, cells. A row's cells lie in the parts that are near; a filter has all its names. The law's own helper: shown. wal: what its functions compute, over the disk as data (plain).
-/
import Derived.Test.YtkagolpnaicdoaaGreatDoorMTabG
import Derived.Test.YtkagolpnaicdoaaGreatDoorMVdOps2
set_option maxRecDepth 100000
set_option maxHeartbeats 8000000
open Go.Lib renaming hid→a0z
open ByteArray renaming size_append→a0x
open List renaming getElem?_eq_getElem→a0w,length_append→a0v,append_assoc→a0u,length_drop→a1x,take_of_length_le→a1w
open UInt8 renaming ofNat→a1z
namespace Go.Proofs.YtkagolpnaicdoaaGreatDoor
section
section
open Go.RowKit
def Ew(l:List Ac):Nat:=(l.length+7)/8
def Fh(l:List Ac)(k:Nat):List Ac:=(l.drop (8*k)).take 8
def Ll(l:List Ac)(k:Nat):ByteArray:=Ij (Ec (Fh l k)).1
def Dw(l:List Ac):Nat→Nat
 |0=>0
 |k+1=>if Dw l k≠0 then Dw l k else(Ec (Fh l k)).2
def Iu(l:List Ac)(k:Nat):List UInt8:=(List.range k).flatMap fun j=>(Ll l j).data.toList
def Hl(l:List Ac):Nat→ByteArray
 |0=>D7 (Ew l) 2
 |k+1=>Hl l k++D7 (Ll l k).size 4
def Ye(l:List Ac):ByteArray:=bl (Iu l (Ew l))
def L6(l:List Ac):ByteArray:=Ij (Hl l (Ew l))
def Nl(l:List Ac):ByteArray:=Ij (Jc (Gu l))
def Qd(l:List Ac)(seq:Nat):G5:=⟨(Iu l (Ew l)).length,(L6 l).size,(Nl l).size,seq⟩
def L8(l:List Ac)(seq:Nat):ByteArray:=Ye l++L6 l++Nl l++Ij (Qd l seq).text
def G6(l:List Ac)(seq:Nat):ByteArray × Nat:=
 if l.length>2000 then(⟨#[]⟩,71) else if l.length=0 then(⟨#[]⟩,1) else if Dw l (Ew l)≠0 then(⟨#[]⟩,Dw l (Ew l)) else if risC l=false then(⟨#[]⟩,40) else(L8 l seq,0)
theorem fW{l:List Ac}{k:Nat}(h:Dw l k≠0):∀m,k≤m→Dw l m=Dw l k
 |0,hm=>by obtain rfl:k=0:=by omega
           rfl
 |m+1,hm=>by
  by_cases e:k=m+1
  ·rw[e]
  ·have ih:=fW h m (by omega);show(if Dw l m≠0 then Dw l m else _)=_;rw[ih,if_pos h]
theorem wC{l:List Ac}{k m:Nat}(h0:Dw l k=0)(h:(Ec (Fh l k)).2≠0)(hk:k<m):Dw l m=(Ec (Fh l k)).2:=by
 have h1:Dw l (k+1)=(Ec (Fh l k)).2:=by show(if Dw l k≠0 then Dw l k else _)=_;rw[if_neg (by simp[h0])]
 rw[fW (k:=k+1) (by rw[h1];exact h) m hk,h1]
theorem wE{l:List Ac}{k:Nat}(h0:Dw l k=0)(h:(Ec (Fh l k)).2=0):Dw l (k+1)=0:=by
 show(if Dw l k≠0 then Dw l k else _)=_;rw[if_neg (by simp[h0]),h]
theorem fX(l:List Ac)(k:Nat):Iu l (k+1)=Iu l k++(Ll l k).data.toList:=by
 unfold Iu;rw[List.range_succ,List.flatMap_append];simp
theorem wF(l:List Ac)(k:Nat):(Fh l k).length=min 8 (l.length-8*k):=by
 unfold Fh;rw[List.length_take,a1x]
theorem wG{w:World}{b o len:Nat}{l:List Ac}{k:Nat}(h:Bn w (some ⟨b,o,none⟩) len l)(hk:8*k<len):Bn w (some ⟨b,o+8*k*6,none⟩) (min 8 (len-8*k)) (Fh l k):=by
 have h1:=h.drop (8*k) (len-8*k) (by omega);have h2:=h1.take (min 8 (len-8*k)) (by omega);unfold Fh;have hl:=h.len
 by_cases e:len-8*k≤8
 ·rw[a1w (by rw[a1x];omega)];rw[a1w (by rw[a1x];omega)] at h2;exact h2
 ·rw[Nat.min_eq_left (by omega)] at h2 ⊢;exact h2
theorem Vf(s:ByteArray):(Ij s).size≤6+s.size:=by
 unfold Ij Ku;split
 ·show 0≤_;omega
 ·exact Nat.le_of_eq (fB s)
theorem fY(l:List Ac)(k:Nat):(Ll l k).size≤80006:=by
 have h1:=Vf (Ec (Fh l k)).1;have h2:=fV (l:=Fh l k);unfold Ll;omega
theorem Vg(l:List Ac):∀k,(Iu l k).length≤80006*k
 |0=>Nat.le_refl _
 |k+1=>by
  rw[fX,a0v];have h1:=Vg l k;have h2:=fY l k;have h3:(Ll l k).data.toList.length=(Ll l k).size:=rfl;omega
theorem Vh(l:List Ac):∀k,(Hl l k).size=2+4*k
 |0=>by show(D7 _ 2).size=_;rw[L5]
 |k+1=>by
  show(Hl l k++D7 _ 4).size=_;rw[a0x,Vh l k,L5];omega
theorem Fg.get{w:World}{base:Nat}{v:Value}{vs:List Value}(h:Fg w base v vs){k:Nat}(hk:k<vs.length):∃g cap,v=.slice (some ⟨g,0,none⟩) vs.length cap∧base≤g∧g<w.heap.size∧∀i (hi:i<vs.length),w.cell? ⟨g,i,none⟩=some vs[i]:=by
 rcases h.2 with⟨_,h1⟩|⟨g,cap,cur,e,hg,hh,hn,hm,hs,ht⟩
 ·omega
 ·refine⟨g,cap,e,hg,Ab hh,fun i hi=>?_⟩
  have h3:(cur.toList.take (vs.length*1))[i]?=vs[i]?:=by rw[ht]
  rw[List.getElem?_take,if_pos (by omega),a0w hi,Array.getElem?_toList] at h3;rw[Aa hh,h3]
theorem wH{len k:Nat}(h:k<(Ej len).length):(Ej len)[k]=(8*k,min 8 (len-8*k)):=by simp[Ej]
theorem fZ{l:List Ac}:∀{m:Nat},Dw l m=0→∀k,k<m→(Ec (Fh l k)).2=0
 |0,_,k,hk=>absurd hk (Nat.not_lt_zero _)
 |m+1,h,k,hk=>by
  by_cases h0:Dw l m=0
  ·have h1:(Ec (Fh l m)).2=0:=by
    have:Dw l (m+1)=(Ec (Fh l m)).2:=by show(if Dw l m≠0 then Dw l m else _)=_;rw[if_neg (by simp[h0])]
    rw[←this];exact h
   by_cases e:k=m
   ·rw[e];exact h1
   ·exact fZ h0 k (by omega)
  ·have:Dw l (m+1)=Dw l m:=by show(if Dw l m≠0 then Dw l m else _)=_;rw[if_pos h0]
   rw[this] at h;exact absurd h h0
theorem wI{l:List Ac}(h:Dw l (Ew l)=0):∀c∈l,Db c=true:=by
 intro c hc;obtain⟨i,hi,rfl⟩:=List.getElem_of_mem hc;have h1:=(fR (fZ h (i/8) (by unfold Ew;omega))).2.1;rw[List.all_eq_true] at h1;apply h1
 have hlt:i%8<(Fh l (i/8)).length:=by rw[wF];omega
 have e0:(Fh l (i/8))[i%8]?=l[i]?:=by
  unfold Fh;rw[List.getElem?_take,if_pos (Nat.mod_lt _ (by decide)),List.getElem?_drop];congr 1;omega
 have e:(Fh l (i/8))[i%8]=l[i]:=by
  rw[a0w hlt,a0w hi] at e0;exact Option.some.inj e0
 rw[←e];exact List.getElem_mem hlt
theorem wJ{l:List Ac}{s:ByteArray}(h:s∈Gu l):∃c∈l,c.row=s:=by
 unfold Gu R0 at h;obtain⟨j,hj,rfl⟩:=List.mem_map.1 h;have hlt:=List.mem_range.1 (List.mem_filter.1 hj).1;refine⟨l.getD j Bo,?_,rfl⟩;rw[List.getD_eq_getElem?_getD,a0w hlt];exact List.getElem_mem hlt
theorem gA(names:List ByteArray):(Jc names).size=Ot names.length:=by
 unfold Jc;rw[Ef,Yc]
structure Ik(w1:World)(bf:Nat)(f:G5)(bs:List UInt8)(done:Bool)(w':World):Prop where
 fp:Fp [] w1 w'
 box:w'.heap[bf]?=some (.cells #[.int .i64 f.blocks,.int .i64 f.index,.int .i64 f.filter,.int .u64 f.seq] 144 (0,0))
 bu:done=false→C4 131 w1.heap.size w1.heap.size bs w'
def CJ(w1:World)(bf:Nat)(f:G5)(bs:List UInt8)(b:Nat→Bool)(w':World):Prop:=Ik w1 bf f bs (b 0) w'
theorem Ik.on{w1 A B:World}{bf:Nat}{f:G5}{bs:List UInt8}{d:Bool}(h:Ik w1 bf f bs d A)(hf:Fp [] A B):Ik w1 bf f bs d B:=
 ⟨h.fp.trans hf (by simp),(hf.block _ (Ab h.box) (by simp)).trans h.box,fun e=>(h.bu e).fp hf (by simp)⟩
theorem CJ.bu{w1 w':World}{bf:Nat}{f:G5}{bs:List UInt8}{b:Nat→Bool}(h:CJ w1 bf f bs b w')(h0:b 0=false):C4 131 w1.heap.size w1.heap.size bs w':=Ik.bu h h0
theorem CJ.fp{w1 w':World}{bf:Nat}{f:G5}{bs:List UInt8}{b:Nat→Bool}(h:CJ w1 bf f bs b w'):Fp [] w1 w':=Ik.fp h
theorem Yf:liesAt Tryz.prog Tryz.prog.depth 131 (2/Tryz.prog.cellsOf 131) 0 131 1=true:=by kernel_rfl
theorem wK(w:World)(a:Option Addr)(len cap:Nat)(l:List Ac)(seq:Nat)(hl:Bn w a len l)(hlc:len≤cap)(hcm:len≤1000000000)(hq:seq<18446744073709551616)(hm:Kp w)(ht:B0 w):
  Calls Tryz.prog 51 #[.slice a len cap,.int .u64 seq] w fun e w'=>e=.returned (.tuple #[.string (G6 l seq).1,.int .i64 ((G6 l seq).2:Nat)])∧Fp [] w w':=by
 have HL:=a0z hl;have HLN:=a0z hl.len;have HM:=a0z hm;have HT:=a0z ht
 by_cases h1:len>2000
 ·have hb:G6 l seq=(⟨#[]⟩,71):=if_pos (by rw[←hl.len];exact h1);rw[hb]
  have z:(len:Int)>2000:=by omega
  clear hl hm ht hb;go_enter Tryz.func51,Tryz.ntmps51;go_wp2_with (fail);go_ret2;exact⟨rfl,Fp.refl _ _⟩
 by_cases h2:len=0
 ·have hb:G6 l seq=(⟨#[]⟩,1):=by unfold G6;rw[if_neg (by rw[←hl.len];exact h1),if_pos (by rw[←hl.len];exact h2)]
  rw[hb];subst h2;clear hl hm ht hb;go_enter Tryz.func51,Tryz.ntmps51;go_wp2_with (fail);go_ret2;exact⟨rfl,Fp.refl _ _⟩
 have hb:G6 l seq=if Dw l (Ew l)≠0 then(⟨#[]⟩,Dw l (Ew l)) else if risC l=false then(⟨#[]⟩,40) else(L8 l seq,0):=by
  unfold G6;rw[if_neg (by rw[←hl.len];exact h1),if_neg (by rw[←hl.len];exact h2)]
 have HB:=a0z hb
 have y1:¬(len:Int)>2000:=by omega
 have y2:((len:Int)==0)=false:=by rw[beq_eq_false_iff_ne];omega
 obtain⟨b,o,rfl⟩:∃b o,a=some ⟨b,o,none⟩:=by
  rcases hl.cells with h0|⟨b,o,e,_⟩
  ·rw[h0] at hl;have:=hl.len;simp at this;omega
  ·exact⟨b,o,e⟩
 obtain⟨m,hmm⟩:∃m,Ew l=m:=⟨_,rfl⟩
 have hm8:m=(len+7)/8:=by rw[←hmm,Ew,hl.len]
 have HM8:=a0z hm8
 have hm8a:8*m<len+8:=by omega
 have hm8b:len≤8*m:=by omega
 have HMM:=a0z hmm;have HPT:=a0z (fun w=>vC w b o len cap hlc hcm);clear hl hm ht hb hmm hm8;go_enter Tryz.func51,Tryz.ntmps51;go_wp2_with (fail);(with_reducible refine(HPT.out _).mono ?_);rintro e w1 ⟨v1,rfl,ho1,hf1⟩
 have hpl:((Ej len).map (Kv b o)).length=m:=by rw[List.length_map,Rz,HM8.out]
 obtain⟨g1,c1,rfl,hg1,hgl1,hcs⟩:=ho1.get (k:=0) (by rw[hpl];omega);rw[hpl]
 have HCS:Hid (∀k,k<m→w1.cell? ⟨g1,k,none⟩=some (.slice (some ⟨b,o+8*k*6,none⟩) (min 8 (len-8*k)) (min 8 (len-8*k)))):=by
  intro k hk;have h:=hcs k (by rw[hpl];exact hk);rw[List.getElem_map,wH] at h;exact h
 have HF1:=a0z hf1;have hbf:=C4.fresh 131 w1;have HBF:=a0z hbf
 have u1:IntKind.u64.wrap (m:Int)=(m:Int):=by rw[IntKind.wrap_u64];omega
 have HLI:=a0z (fun w n (h:n<18446744073709551616)=>Oo w n 2 h (by decide))
 have HL2:Hid (∀w,Calls Tryz.prog 90 #[.int .u64 m,.int .i64 2] w fun e w'=>e=.returned (.string (Hl l 0))∧Fp [] w w'):=by
  intro w;rw[show Hl l 0=D7 m 2 from by show D7 (Ew l) 2=_;rw[HMM.out]];exact Oo w m 2 (by omega) (by decide)
 clear hbf hcs ho1 hf1 HLI HPT;go_wp2_with (fail);(with_reducible refine(HL2.out _).mono ?_);rintro e w2 ⟨rfl,hf2⟩;have HF2:=a0z (HF1.out.trans ((Fp.alloc w1 (.cells #[.pointer none,.slice none 0 0] 131)).trans hf2 (by simp)) (by simp));have HF12:=a0z ((Fp.alloc w1 (.cells #[.pointer none,.slice none 0 0] 131)).trans hf2 (by simp));have HB2:=a0z (HBF.out.fp hf2 (by simp));clear hf2 HL2;go_wp2_with (fail)
 go_loopg [8,34] m (fun g vi vk wr=>∃k:Nat,g+k=m∧vi=.string (Hl l k)∧vk=.int .i64 k∧C4 131 w1.heap.size w1.heap.size (Iu l k) wr∧Fp [] w1 wr∧Dw l k=0)
 case atStart=>exact⟨0,by omega,rfl,rfl,HB2.out,HF12.out,rfl⟩
 case round=>
  obtain⟨k,hg,rfl,rfl,hbk,hf,he⟩:=hrel;have HBK:=a0z hbk;have HF:=a0z hf;have HE:=a0z he;clear hbk hf he
  by_cases hk:k<m
  ·have zk:(k:Int)<(m:Int):=by omega
   have q0:wr.cell? ⟨g1,k,none⟩=some (.slice (some ⟨b,o+8*k*6,none⟩) (min 8 (len-8*k)) (min 8 (len-8*k))):=(HF.out.cell (p:=⟨g1,k,none⟩) hgl1 (by simp)).trans (HCS.out k hk);have HPB:=a0z (jN wr (some ⟨b,o+8*k*6,none⟩) (min 8 (len-8*k)) (min 8 (len-8*k)) (Fh l k) (wG (HL.out.fp (HF1.out.trans HF.out (by simp))) (by omega)) (by omega) (HM.out.fp (HF1.out.trans HF.out (by simp)) (by simp)));have HEB:=a0z (fun h=>wC (m:=Ew l) HE.out h (by rw[HMM.out];exact hk));have HEG:=a0z (fun h=>wE HE.out h);have HRK:Hid (Ll l k=Ij (Ec (Fh l k)).1):=rfl;have hbs:=fV (l:=Fh l k)
   obtain⟨⟨s,e⟩,hse⟩:∃t,Ec (Fh l k)=t:=⟨_,rfl⟩
   rw[hse] at HPB HEB HEG HRK hbs
   obtain⟨mm,hmm⟩:∃mm,min 8 (len-8*k)=mm:=⟨_,rfl⟩
   rw[hmm] at q0 HPB;clear hse hmm;go_wp2_with (fail);(with_reducible refine HPB.out.mono ?_);rintro e1 w3 ⟨rfl,hf3⟩;have HB3:=a0z (HBK.out.fp hf3 (by simp));have HF3:=a0z (HF.out.trans hf3 (by simp));clear hf3
   by_cases he:e=0
   ·subst he;have HE1:=a0z (HEG.out rfl);have HRC:=a0z (U8 s w3 (by omega) (HT.out.fp (HF1.out.trans HF3.out (by simp)) (by simp)));rw[←HRK.out] at HRC;have hrs:=fY l k;have HBS:=a0z (fX l k);have HIS:Hid (Hl l (k+1)=Hl l k++D7 (Ll l k).size 4):=rfl;have his:=Vh l k;have hbl:=Vg l k
    obtain⟨rec,hrec⟩:∃r,Ll l k=r:=⟨_,rfl⟩
    rw[hrec] at HRC hrs HBS HIS
    obtain⟨ix,hix⟩:∃r,Hl l k=r:=⟨_,rfl⟩
    rw[hix] at HIS his;rw[hix];clear hrec hix HRK;go_wp2_with (fail);(with_reducible refine HRC.out.mono ?_);rintro e1 w4 ⟨rfl,hf4⟩;have HB4:=a0z (HB3.out.fp hf4 (by simp));have HF4:=a0z (HF3.out.trans hf4 (by simp));clear hf4;go_wp2_with (fail);(with_reducible refine(R9 Yf (by decide) w1.heap.size w1.heap.size (Iu l k) rec w4 HB4.out (by omega)).mono ?_);rintro e1 w5 ⟨rfl,hb5,hf5⟩;have HB5:=a0z hb5;have HF5:=a0z (HF4.out.bfp hf5 (Nat.le_refl _))
    have u2:IntKind.u64.wrap (rec.size:Int)=(rec.size:Int):=by rw[IntKind.wrap_u64];omega
    have HL4:Hid (∀w,Calls Tryz.prog 90 #[.int .u64 rec.size,.int .i64 4] w fun e w'=>e=.returned (.string (D7 rec.size 4))∧Fp [] w w'):=fun w=>Oo w rec.size 4 (by omega) (by decide)
    have hls:=L5 rec.size 4
    obtain⟨le,hle⟩:∃r,D7 rec.size 4=r:=⟨_,rfl⟩
    rw[hle] at HL4 hls HIS
    have zl:¬ix.size+4>9223372036854775807:=by omega
    clear hb5 hf5 hle;go_wp2_with (fail);(with_reducible refine(HL4.out _).mono ?_);rintro e1 w6 ⟨rfl,hf6⟩;have HB6:=a0z (HB5.out.fp hf6 (by simp));have HF6:=a0z (HF5.out.trans hf6 (by simp));clear hf6;go_wp2_with (fail)
    go_roundg (gk-1)
    case measure=>omega
    case rel=>exact⟨k+1,by omega,by rw[HIS.out],by simp,by rw[HBS.out];exact HB6.out,HF6.out,HE1.out⟩
   ·have ze:((e:Int)!=0)=true:=by rw[bne_iff_ne];omega
    have hb2:=HB.out;rw[HMM.out] at hb2;have he2:=HEB.out he;rw[HMM.out] at he2;rw[he2,if_pos he] at hb2;have HBB:=a0z hb2;clear hb2 he2;go_wp2_with (fail);go_ret2;exact⟨by rw[HBB.out];rfl,HF1.out.trans HF3.out (by simp)⟩
  ·obtain rfl:k=m:=by omega
   have zk:¬(k:Int)<(k:Int):=by omega
   have hb2:=HB.out;rw[HMM.out,HE.out,if_neg (by decide)] at hb2;have HB2':=a0z hb2;have HRI:=a0z (Sm wr (some ⟨b,o,none⟩) len cap l (HL.out.fp (HF1.out.trans HF.out (by simp))) (by omega));clear hb2;go_wp2_with (fail);(with_reducible refine HRI.out.mono ?_);rintro e1 w3 ⟨rfl,hf3⟩;have HB3:=a0z (HBK.out.fp hf3 (by simp));have HF3:=a0z (HF.out.trans hf3 (by simp));clear hf3
   by_cases hri:risC l=false
   ·have hb3:=HB2'.out;rw[if_pos hri] at hb3;have HBB:=a0z hb3;rw[hri];clear hb3 hri;go_wp2_with (fail);go_ret2;exact⟨by rw[HBB.out];rfl,HF1.out.trans HF3.out (by simp)⟩
   ·have hri2:risC l=true:=by simpa using hri
    have hb3:=HB2'.out;rw[if_neg hri] at hb3;have HBB:=a0z hb3;rw[hri2];clear hb3 hri hri2;have HRW:=a0z (vG w3 (some ⟨b,o,none⟩) len cap l (HL.out.fp (HF1.out.trans HF3.out (by simp))) (by omega));go_wp2_with (fail);(with_reducible refine HRW.out.mono ?_);rintro e1 w4 ⟨v4,rfl,ho4,hf4⟩;have HB4:=a0z (HB3.out.fp hf4 (by simp));have HF4:=a0z (HF3.out.trans hf4 (by simp))
    have hrl:(Gu l).length≤2000:=by have h1:=fO l l.length;have h2:=HLN.out;unfold Gu;omega
    have hbs:=gA (Gu l)
    have hbn:Ot (Gu l).length≤3000:=by unfold Ot;omega
    have HMK:=a0z (vW w4 v4 w3.heap.size (Gu l) ho4 hrl (by
     intro s hs;obtain⟨c,hc,rfl⟩:=wJ hs;have:=(R6 (wI (by rw[HMM.out];exact HE.out) c hc)).1
     omega) (HT.out.fp (HF1.out.trans HF4.out (by simp)) (by simp)))
    clear hf4 ho4 hrl;go_wp2_with (fail);(with_reducible refine HMK.out.mono ?_);rintro e1 w5 ⟨rfl,hf5⟩;have HB5:=a0z (HB4.out.fp hf5 (by simp));have HF5:=a0z (HF4.out.trans hf5 (by simp))
    have HFI:Hid (L6 l=Ij (Hl l k)):=by unfold Hid L6;rw[HMM.out]
    have HFF:Hid (Nl l=Ij (Jc (Gu l))):=rfl;have his:=Vh l k;have hrs1:=Vf (Hl l k);have hrs2:=Vf (Jc (Gu l));have HP1:=a0z (fun w ht=>U8 (Hl l k) w (by omega) ht);have HP2:=a0z (fun w ht=>U8 (Jc (Gu l)) w (by omega) ht)
    have hfi:(L6 l).size≤10000:=by rw[HFI.out];omega
    have hff:(Nl l).size≤10000:=by rw[HFF.out];omega
    have HFT:Hid (Qd l seq=⟨(Iu l k).length,(L6 l).size,(Nl l).size,seq⟩):=by unfold Hid Qd;rw[HMM.out]
    have HFB:Hid (L8 l seq=bl (Iu l k)++L6 l++Nl l++Ij (Qd l seq).text):=by unfold Hid L8 Ye;rw[HMM.out]
    rw[←HFI.out] at HP1;rw[←HFF.out] at HP2
    obtain⟨ix,hix⟩:∃r,Hl l k=r:=⟨_,rfl⟩
    rw[hix] at HP1;rw[hix]
    obtain⟨fl,hfl⟩:∃r,Jc (Gu l)=r:=⟨_,rfl⟩
    rw[hfl] at HP2;rw[hfl];have hbl:=Vg l k
    obtain⟨x2,hx2⟩:∃r,L6 l=r:=⟨_,rfl⟩
    rw[hx2] at HP1 hfi HFT HFB
    obtain⟨x3,hx3⟩:∃r,Nl l=r:=⟨_,rfl⟩
    rw[hx3] at HP2 hff HFT HFB;rw[HFT.out] at HFB
    obtain⟨bs,hbseq⟩:∃r,Iu l k=r:=⟨_,rfl⟩
    rw[hbseq] at HB5 hbl HFB;clear hf5 hix hfl hx2 hx3 hbseq hbs hbn his hrs1 hrs2 HFT HFI HFF;go_wp2_with (fail);(with_reducible refine(HP1.out _ (HT.out.fp (HF1.out.trans HF5.out (by simp)) (by simp))).mono ?_);rintro e1 w6 ⟨rfl,hf6⟩;have HB6:=a0z (HB5.out.fp hf6 (by simp));have HF6:=a0z (HF5.out.trans hf6 (by simp));clear hf6;go_wp2_with (fail);(with_reducible refine(HP2.out _ (HT.out.fp (HF1.out.trans HF6.out (by simp)) (by simp))).mono ?_);rintro e1 w7 ⟨rfl,hf7⟩;have HB7:=a0z (HB6.out.fp hf7 (by simp));have HF7:=a0z (HF6.out.trans hf7 (by simp));clear hf7;go_wp2_with (fail);(with_reducible refine(Tryz.Builder_Len w1.heap.size w1.heap.size (Lib.byteCells bs) w7 (by have h:=HB7.out;unfold C4 at h;exact h)).mono ?_);rintro e1 w8 ⟨rfl,rfl⟩;rw[Lib.byteCells_length]
    obtain⟨nb,hnb⟩:∃n,bs.length=n:=⟨_,rfl⟩
    rw[hnb] at HFB ⊢
    have hnb2:nb≤160012000:=by omega
    go_wp2_with (fail);have hfb8:(w8.alloc (.cells #[.int .i64 nb,.int .i64 x2.size,.int .i64 x3.size,.int .u64 seq] 144)).heap[w8.heap.size]?=some (.cells #[.int .i64 nb,.int .i64 x2.size,.int .i64 x3.size,.int .u64 seq] 144 (0,0)):=Aj rfl _;have hfp8:=HF7.out.alloc' (.cells #[.int .i64 nb,.int .i64 x2.size,.int .i64 x3.size,.int .u64 seq] 144);have hb8:=HB7.out.fp (Fp.alloc w8 (.cells #[.int .i64 nb,.int .i64 x2.size,.int .i64 x3.size,.int .u64 seq] 144)) (by simp)
    obtain⟨w9,hw9⟩:∃w,w8.alloc (.cells #[.int .i64 nb,.int .i64 x2.size,.int .i64 x3.size,.int .u64 seq] 144)=w:=⟨_,rfl⟩
    rw[hw9] at hfb8 hfp8 hb8 ⊢;have HBX:=a0z hfb8;have HF9:=a0z hfp8;have HB9:=a0z hb8
    have hfts:(G5.text ⟨nb,x2.size,x3.size,seq⟩).size=20:=by
     unfold G5.text;simp only[a0x,L5]
    have hrt:=Vf (G5.text ⟨nb,x2.size,x3.size,seq⟩);have HTX:=a0z (fun w=>uX ⟨nb,x2.size,x3.size,seq⟩ w (by show nb≤_;omega) (by show x2.size≤_;omega) (by show x3.size≤_;omega) hq);have HPX:=a0z (fun w ht=>U8 (G5.text ⟨nb,x2.size,x3.size,seq⟩) w (by omega) ht);simp only[Ya] at HTX
    obtain⟨tx,htx⟩:∃t,G5.text ⟨nb,x2.size,x3.size,seq⟩=t:=⟨_,rfl⟩
    rw[htx] at HTX HPX hfts hrt HFB
    obtain⟨x4,hx4⟩:∃t,Ij tx=t:=⟨_,rfl⟩
    rw[hx4] at HPX hrt HFB
    obtain⟨x1,hx1⟩:∃t,bl bs=t:=⟨_,rfl⟩
    have hx1s:x1.size=nb:=by rw[←hx1,Ef,hnb]
    have HX1:Hid ((⟨bs.toArray⟩:ByteArray)=x1):=hx1;rw[hx1] at HFB
    have zl1:¬x1.size+x2.size>9223372036854775807:=by omega
    have zl2:¬x1.size+x2.size+x3.size>9223372036854775807:=by omega
    have zl3:¬x1.size+x2.size+x3.size+x4.size>9223372036854775807:=by omega
    clear hfb8 hfp8 hb8 hw9 htx hx4 hx1 hx1s hnb hbl;refine Gj (CJ w1 w8.heap.size ⟨nb,x2.size,x3.size,seq⟩ bs) (fun _ _=>True) (by kernel_rfl) (by kernel_rfl) ⟨HF9.out.drew',((Fp.drew w9).block _ (Ab HBX.out) (by simp)).trans HBX.out,fun _=>HB9.out.fp (Fp.drew w9) (by simp)⟩ ?_;apply Hk (Br (.string x1)) rfl rfl rfl
    ·intro b a w hC hA K hK;have h7:=hA.fr 7 rfl;simp only[Oper.wp,execOp];go_simp;(with_reducible refine(vZ w1.heap.size w1.heap.size bs w (hC.bu hA.self)).mono ?_);rintro e w2 ⟨rfl,hbel,hk⟩;rw[HX1.out];exact hK _ _ ⟨(Ik.fp hC).belowTrans hbel,hk _ _ _ (by decide) (Ik.box hC),fun h=>by cases h⟩ trivial rfl
    iterate 10
     apply Bm (fun _ _ h=>h) rfl rfl rfl
     ·intro b a w hC hA K hK
      try have h8:=hA.fr 8 rfl
      try have h81:=hA.eq 0 81 rfl
      try have h82:=hA.eq 1 82 rfl
      try have h15:=hA.fr 15 rfl
      try have h83:=hA.eq 2 83 rfl
      try have h84:=hA.eq 3 84 rfl
      try have h17:=hA.fr 17 rfl
      try have h86:=hA.eq 5 86 rfl
      try have h87:=hA.eq 6 87 rfl
      try have h85:=hA.eq 4 85 rfl
      try have h88:=hA.eq 7 88 rfl
      try have h89:=hA.eq 8 89 rfl
      have q0:=Aa (Ik.box hC) 0;have q1:=Aa (Ik.box hC) 1;have q2:=Aa (Ik.box hC) 2;have q3:=Aa (Ik.box hC) 3;simp only[List.getElem?_toArray,List.getElem?_cons_succ,List.getElem?_cons_zero] at q0 q1 q2 q3;simp only[Oper.wp,execOp];go_simp
      first
      |exact hK _ hC trivial
      |first
        |((with_reducible refine(HTX.out _).mono ?_);rintro e w2 ⟨rfl,hf⟩;exact hK _ (Ik.on hC hf) trivial)
        |((with_reducible refine(HPX.out _ (HT.out.fp (HF1.out.trans hC.fp (by simp)) (by simp))).mono ?_);rintro e w2 ⟨rfl,hf⟩;exact hK _ (Ik.on hC hf) trivial)
    refine⟨?_,?_⟩
    ·refine B6 _ ?_
     iterate 9 refine B6 _ ?_
     refine⟨fun _ _ _ _ h=>h,?_⟩;exact trivial
    ·intro wz bb hC hbb;simp only[List.reverse_cons,List.reverse_nil,List.nil_append,List.cons_append];refine Av ?_;intro v0 u0;obtain rfl:=u0
     iterate 10 (refine Aq ?_)
     refine A8 ?_;simp only[Am,Act.put,List.setIfInBounds_toArray,List.set_cons_succ,List.set_cons_zero];have HFZ:=a0z (Ik.fp hC);clear hC hbb;go_wp2_with (fail);go_ret2;exact⟨by rw[HBB.out,HFB.out];rfl,HF1.out.trans HFZ.out (by simp)⟩
end
section
open Go.RowKit
end
section
open Go.RowKit
end
end
section
section
open Go.RowKit
end
section
open Go.RowKit
end
end
section
section
open Go.RowKit
def Da(x:ByteArray):List UInt8:=Ai x.size++(Ld (Le (bl (Ai x.size)) x)++x.data.toList)
theorem Vi(x:ByteArray):Jb x=bl (Da x):=by
 unfold Jb Da
 conv=>lhs;rw[←Lp x]
 simp only[Lp,Nv];rw[show(x:ByteArray)=bl x.data.toList from(Lp x).symm];simp only[Nv,Qr,a0u,Ef]
theorem Qe(x:ByteArray):(Da x).length=6+x.size:=by
 unfold Da Ai Ld;simp only[a0v,List.length_cons,List.length_nil];show 0+1+1+(0+1+1+1+1+x.size)=_;omega
theorem Yg{x:ByteArray}(h:x.size≤65535):Ij x=Jb x:=by
 unfold Ij Ku;rw[if_neg (by omega)]
theorem wL(x:ByteArray)(y:List UInt8)(h:x.size≤65535):Cd (bl (Da x++y))=(x,6+x.size,0):=by
 obtain⟨c,hc⟩:∃c,Le (bl (Ai x.size)) x=c:=⟨_,rfl⟩
 have hcl:c<4294967296:=by rw[←hc];exact fA _ _
 have hl:Da x++y=Ai x.size++(Ld c++(x.data.toList++y)):=by unfold Da;rw[hc];simp only[a0u]
 have hsz:(bl (Da x++y)).size=6+x.size+y.length:=by rw[Ef,a0v,Qe]
 have hx:x.data.toList.length=x.size:=rfl
 have a0:A1 (bl (Da x++y)) 0=a1z x.size:=by rw[J6,hl];rfl
 have a1:A1 (bl (Da x++y)) 1=a1z (x.size/256):=by rw[J6,hl];rfl
 have a2:A1 (bl (Da x++y)) 2=a1z c:=by rw[J6,hl];rfl
 have a3:A1 (bl (Da x++y)) 3=a1z (c/256):=by rw[J6,hl];rfl
 have a4:A1 (bl (Da x++y)) 4=a1z (c/65536):=by rw[J6,hl];rfl
 have a5:A1 (bl (Da x++y)) 5=a1z (c/16777216):=by rw[J6,hl];rfl
 have he:Eu (bl (Da x++y))=6+x.size:=by
  unfold Eu;rw[a0,a1,UInt8.toNat_ofNat',UInt8.toNat_ofNat'];omega
 have e1:(bl (Da x++y)).extract 0 2=bl (Ai x.size):=by
  rw[hl];exact fQ _ _ _ rfl
 have e2:(bl (Da x++y)).extract 6 (6+x.size)=x:=by
  rw[hl,←a0u];rw[vX (Ai x.size++Ld c) x.data.toList y 6 (6+x.size) rfl (by rw[hx];rfl),Lp]
 have hg:=X6 (s:=bl (Da x++y)) (by rw[hsz];omega) (by rw[hsz];omega) (by rw[he,hsz];omega) (by
  rw[he,e1,e2,hc,a2,a3,a4,a5,uM c hcl])
 rw[hg,he,e2]
structure R2(l:List Ac):Prop where
 len:l.length≤2000
 pos:0<l.length
 err:Dw l (Ew l)=0
 ris:risC l=true
theorem wM{l:List Ac}(seq:Nat)(h:R2 l):G6 l seq=(L8 l seq,0):=by
 have h1:=h.len;have h2:=h.pos;unfold G6;rw[if_neg (by omega),if_neg (by omega),if_neg (by simp[h.err]),if_neg (by simp[h.ris])]
theorem wN{l:List Ac}{seq:Nat}(h:(G6 l seq).2=0):R2 l:=by
 unfold G6 at h;split at h
 ·cases h
 ·split at h
  ·cases h
  ·split at h
   ·rename_i h3;exact absurd h h3
   ·split at h
    ·cases h
    ·rename_i h1 h2 h3 h4;exact⟨by omega,by omega,by simpa using h3,by simpa using h4⟩
theorem wO(l:List Ac):(Gu l).length≤l.length:=fO l l.length
theorem gB{l:List Ac}(h:l.length≤2000):(Jc (Gu l)).size≤2501:=by
 rw[gA];have:=wO l;unfold Ot;omega
theorem gC{l:List Ac}(h:l.length≤2000):(Hl l (Ew l)).size≤1002:=by
 rw[Vh];unfold Ew;omega
theorem gG(f:G5):f.text.size=20:=by
 unfold G5.text;simp only[a0x,L5]
def Vj(l:List Ac)(seq:Nat):List UInt8:=Iu l (Ew l)++(Da (Hl l (Ew l))++(Da (Jc (Gu l))++Da (Qd l seq).text))
theorem wP{l:List Ac}(seq:Nat)(h:l.length≤2000):L8 l seq=bl (Vj l seq):=by
 have h1:=gC h;have h2:=gB h;have h3:=gG (Qd l seq);unfold L8 Ye L6 Nl Vj;rw[Yg (by omega),Yg (by omega),Yg (by omega),Vi,Vi,Vi];simp only[Nv,a0u]
theorem wQ{l:List Ac}(seq:Nat):(Vj l seq).length=(Iu l (Ew l)).length+(6+(Hl l (Ew l)).size)+(6+(Jc (Gu l)).size)+26:=by
 unfold Vj;simp only[a0v,Qe,gG];omega
theorem wR{l:List Ac}(h:R2 l):(Iu l (Ew l)).length≤80006*250:=by
 have h1:=Vg l (Ew l);have h2:=h.len
 have h3:Ew l≤250:=by unfold Ew;omega
 exact Nat.le_trans h1 (Nat.mul_le_mul_left _ h3)
end
section
open Go.RowKit
end
section
open Go.RowKit
end
section
open Go.RowKit
theorem wS{l:List Ac}(seq:Nat)(h:R2 l):(L8 l seq).size≤100000000:=by
 have h1:=wR h;have h2:=gC h.len;have h3:=gB h.len;rw[wP seq h.len,Ef,wQ];omega
end
end
section
open Go.RowKit Go.Maps Go.MapKept Go.ChangeMaps
theorem Ap.thereD{d:Dk}{name:ByteArray}{g:A3→Dk}(h:Ap d)(hg:d.named [name]=0→∀f,Ak d.files name=some f→Ap (g f)):Ap (d.thereD name g):=by
 unfold Dk.thereD;split
 ·exact h
 ·rename_i hn;split
  ·exact h
  ·rename_i f hf;exact(hg (by simpa using hn) f hf).burnt
theorem Ap.syncD{d:Dk}(h:Ap d)(name:ByteArray):Ap (d.sync name):=by
 refine h.thereD fun _ f hf=>?_
 unfold Dk.syncG;have hfile:=h.file hf;have hfi:=h.fits;split
 ·refine h.tick.put name _ ?_ (Nat.le_refl _) (Or.inl (by show(Ak d.files name).isSome=true;rw[hf];rfl));rw[gJ hf];show(B4 d.files:Int)+(f.s.size:Nat)-f.s.size≤d.cap;omega
 ·exact h.tick
theorem Ap.deleteD{d:Dk}(h:Ap d)(name:ByteArray):Ap (d.delete name):=by
 refine h.thereD fun _ f hf=>?_
 unfold Dk.deleteG;split
 ·exact h.tick.gone name (by show(Ak d.files name).isSome=true;rw[hf];rfl)
 ·exact h.tick
theorem Ap.appendD{d:Dk}(h:Ap d)(name s:ByteArray):Ap (d.append name s):=by
 unfold Dk.append;split
 ·exact h
 ·rename_i hfull
  refine h.thereD fun hn f hf=>?_
  have ho:=iE hn
  have hfit:d.size+s.size≤d.cap:=by
   unfold Dk.full at hfull;rw[hf,ho] at hfull
   simpa using hfull
  have hfile:=h.file hf;have hz:=h.size
  have hfg:Bi d.tick name=f:=by
   show(Ak d.files name).getD A2=f;rw[hf];rfl
  refine h.tick.put name _ ?_ ?_ (Or.inl (by show(Ak d.files name).isSome=true;rw[hf];rfl))
  ·rw[hfg];show(B4 d.files:Int)+((f.s++s).size:Nat)-f.s.size≤d.cap;simp only[a0x];omega
  ·show f.synced≤(f.s++s).size;simp only[a0x];omega
theorem Ap.renameD{d:Dk}(h:Ap d)(frm dst:ByteArray):Ap (d.rename frm dst):=by
 unfold Dk.rename;split
 ·exact h
 ·exact h.thereD fun _ f hf=>gP h hf
theorem Ap.createD{d:Dk}(h:Ap d)(name:ByteArray):Ap (d.create name):=by
 unfold Dk.create;split
 ·exact h
 ·split
  ·exact h
  ·split
   ·exact h
   ·exact(gQ h (by omega)).burnt
def Gk:List (Dk→Dk × Int)→Dk→Dk × Int
 |[],d=>(d,0)
 |g::r,d=>if(g d).2=0 then Gk r (g d).1 else g d
def Bl(l:List ByteArray):List UInt8:=l.flatMap Da
theorem Yh(t:ByteArray)(r:List ByteArray):Bl (t::r)=Da t++Bl r:=rfl
theorem gI(a b:List ByteArray):Bl (a++b)=Bl a++Bl b:=by unfold Bl;rw[List.flatMap_append]
def Bd:List ByteArray→Nat
 |[]=>0
 |t::r=>6+t.size+Bd r
theorem Vk:∀(a b:List ByteArray),Bd (a++b)=Bd a+Bd b
 |[],b=>by simp[Bd]
 |t::r,b=>by show 6+t.size+Bd (r++b)=6+t.size+Bd r+Bd b;rw[Vk r b];omega
theorem Ky:∀(l:List ByteArray),(Bl l).length=Bd l
 |[]=>rfl
 |t::r=>by
  rw[Yh,a0v,Ky r,Qe];rfl
def Yi(l:List ByteArray):Bool:=l.all (fun t=>decide (t.size≤65535))
def Il(l:List ByteArray):ByteArray × Int:=if Yi l then(bl (Bl l),0) else(⟨#[]⟩,71)
def Iw:ByteArray:=⟨#[43]⟩
def Ov(name other s:ByteArray):List (Dk→Dk × Int):=
 [fun d=>(d.delete other,if d.thereE other=3 then 0 else d.thereE other),
  fun d=>(d.create other,d.createE other),
  fun d=>(d.append other s,d.appendE other s),
  fun d=>(d.sync other,d.thereE other),
  fun d=>(d.rename other name,d.renameE other name)]
def Dk.wWrite(d:Dk)(name s:ByteArray):Dk × Int:=Gk (Ov name (name++Iw) s) d
def Ox(name s:ByteArray):List (Dk→Dk × Int):=[fun d=>(d.append name s,d.appendE name s),fun d=>(d.sync name,d.thereE name)]
def Dk.wAppend(d:Dk)(name s:ByteArray):Dk × Int:=Gk (Ox name s) d
theorem wT(name other s:ByteArray):∀g∈Ov name other s,∀d,Ap d→Ap (g d).1:=by
 intro g hg d hd;simp only[Ov,List.mem_cons,List.not_mem_nil,or_false] at hg
 rcases hg with rfl|rfl|rfl|rfl|rfl
 ·exact hd.deleteD _
 ·exact hd.createD _
 ·exact hd.appendD _ _
 ·exact hd.syncD _
 ·exact hd.renameD _ _
theorem wU(name s:ByteArray):∀g∈Ox name s,∀d,Ap d→Ap (g d).1:=by
 intro g hg d hd;simp only[Ox,List.mem_cons,List.not_mem_nil,or_false] at hg
 rcases hg with rfl|rfl
 ·exact hd.appendD _ _
 ·exact hd.syncD _
def Dk.wOpen(d:Dk)(name:ByteArray):Dk × Int × List ByteArray:=
 if name.size=0∨59<name.size then(d,1,[])
 else if(d.read name).2≠0∧(d.read name).2≠3 then(d,(d.read name).2,[])
 else
  let s:=(d.read name).1
  let r:=if(d.read name).2=3∨Ff (D6 s)<s.size then d.wWrite name (s.extract 0 (Ff (D6 s))) else(d.sync name,d.thereE name)
  (r.1,r.2,if r.2=0 then(D6 s).map (·.2) else[])
structure Lg where
 name:ByteArray
 many:Nat
 off:Bool
def Jd(lg:Lg)(d:Dk)(texts:List ByteArray)(many:Nat)(g:ByteArray→Dk→Dk × Int):Lg × Dk × Int:=
 if lg.off then(lg,d,6)
 else if(Il texts).2≠0 then(lg,d,(Il texts).2)
 else
  let r:=g (Il texts).1 d
  (if r.2=0 then{lg with many:=many} else if r.2=2 then lg else{lg with off:=true},r.1,r.2)
def Gq(lg:Lg)(d:Dk)(texts:List ByteArray):Lg × Dk × Int:=Jd lg d texts (lg.many+texts.length) (fun s d=>d.wAppend lg.name s)
end
end Go.Proofs.YtkagolpnaicdoaaGreatDoor
