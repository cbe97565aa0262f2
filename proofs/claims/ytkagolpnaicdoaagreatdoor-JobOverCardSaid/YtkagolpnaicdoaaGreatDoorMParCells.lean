/-
 Cells: the cells of an input. The reference of layer 7: Word, digits. The reference of layer 7: digits. The reference of layer 7: words. The reference of layer 7: line. The reference of layer 7: Cells. shown: that a line is a cell. ParseCells: the cells of any input are the document's. job.Make: what it computes; the walk of what it tries.
-/
import Derived.Test.YtkagolpnaicdoaaGreatDoorMParPure
import Derived.IntWalk
import Derived.Test.YtkagolpnaicdoaaGreatDoorMStrsOwn
import Derived.Laws.DeepStrings4
import Derived.Test.YtkagolpnaicdoaaGreatDoorMTabG
import Derived.Test.YtkagolpnaicdoaaGreatDoorMCrc
import Derived.Lib.LaidTab
import Derived.Test.YtkagolpnaicdoaaGreatDoorMDrvA
import Derived.Test.YtkagolpnaicdoaaGreatDoorMCutG
import Derived.Test.YtkagolpnaicdoaaGreatDoorMMrgK
import Derived.Test.YtkagolpnaicdoaaGreatDoorMTabL
set_option maxRecDepth 100000
set_option maxHeartbeats 8000000
open Go.Lib renaming hid→a0z
open List renaming not_mem_nil→a0x,getD_eq_getElem?_getD→a0v,length_cons→a0u,length_map→a1z,mem_of_getElem?→a1w
open Nat renaming zero_le→a0w,le_refl→a1x
namespace Go.Proofs.YtkagolpnaicdoaaGreatDoor
section
open Go.RowKit Go.Lib
def Jp(t:ByteArray):Bool:=t.size==0||t.data.toList.head?==some 35
def G2(i:Nat)(acc:List Ac):List ByteArray→List Ac × Nat × Nat
 |[]=>(acc,0,0)
 |t::r=>if Jp t=true then G2 (i+1) acc r else match Ge t with
  |none=>([],i+1,70)
  |some c=>G2 (i+1) (acc++[c]) r
def D5(s:ByteArray):List Ac × Nat × Nat:=if s.size>4000 then([],0,71) else G2 0 [] (Hg 10 s)
theorem rD(s:ByteArray):(Hh s).size≤s.size:=by
 unfold Hh;show(Lib.trimPrefix s.data.toList [61]).toArray.size≤_;rw[size_eq];simp only[List.size_toArray];unfold Lib.trimPrefix
 split<;>simp
theorem rE{s:ByteArray}{u:Nat}(h:Jr s=some u):u<18446744073709551616:=by
 unfold Jr at h;split at h
 ·rename_i u' hu;have:=parseUintB_le hu;split at h
  ·obtain rfl:=Option.some.inj h;omega
  ·cases h
 ·cases h
theorem dF{s:ByteArray}(hs:s.size≤100000000){c:Ac}(h:Ge s=some c):Dm c:=by
 unfold Ge at h;split at h
 ·rename_i a b n d he;have ha:=Ob (c:=32) (s:=s) (x:=a) (by rw[he];simp);have hb:=Ob (c:=32) (s:=s) (x:=b) (by rw[he];simp);have hd:=Ob (c:=32) (s:=s) (x:=d) (by rw[he];simp);have hr:=rD d;unfold Js at h;split at h
  ·obtain⟨u,hu,rfl⟩:=Option.map_eq_some_iff.1 h;refine⟨rE hu,by show 0<_;decide,?_,?_,?_⟩
   ·show a.size≤_;omega
   ·show b.size≤_;omega
   ·show ByteArray.size (if Ir d=true then⟨#[]⟩ else Hh d)≤_;split
    ·exact a0w _
    ·omega
  ·cases h
 ·cases h
theorem Xi{i:Nat}{acc:List Ac}{t:ByteArray}{r:List ByteArray}(h:Jp t=true):G2 i acc (t::r)=G2 (i+1) acc r:=by
 conv=>lhs;unfold G2
 rw[if_pos h]
theorem dG{i:Nat}{acc:List Ac}{t:ByteArray}{r:List ByteArray}(h:Jp t=false)(hl:Ge t=none):G2 i acc (t::r)=([],i+1,70):=by
 conv=>lhs;unfold G2
 rw[if_neg (by simp[h]),hl]
theorem dH{i:Nat}{acc:List Ac}{t:ByteArray}{r:List ByteArray}{c:Ac}(h:Jp t=false)(hl:Ge t=some c):G2 i acc (t::r)=G2 (i+1) (acc++[c]) r:=by
 conv=>lhs;unfold G2
 rw[if_neg (by simp[h]),hl]
theorem rF{t:ByteArray}(h:t.size=0):Jp t=true:=by unfold Jp;rw[h];rfl
theorem rG{t:ByteArray}(h:0<t.size):t.data.toList.head?=some t[0]:=by
 rw[List.head?_eq_getElem?];exact Lib.data_getElem? t 0 h
theorem rH{t:ByteArray}(h:0<t.size):Jp t=(t[0]==35):=by
 unfold Jp;rw[rG h,(beq_eq_false_iff_ne.2 (by omega):(t.size==0)=false),Bool.false_or];rfl
theorem rI{t:ByteArray}(h:0<t.size):Jp t=((t[0].toNat:Int)==35):=by
 rw[rH h,Bool.eq_iff_iff,beq_iff_eq,beq_iff_eq];constructor
 ·intro e;rw[e];rfl
 ·intro e;exact UInt8.toNat_inj.1 (by have:(t[0].toNat:Int)=35:=e;show t[0].toNat=35;omega)
def rJ(w w':World)(e:Ending)(r:List Ac × Nat × Nat):Prop:=∃v,e=.returned (.tuple #[v,.int .i64 r.2.1,.int .i64 r.2.2])∧A4 w' w.heap.size v r.1
theorem rK(s:ByteArray)(w:World)(hs:s.size≤100000000)(hp:Jt w):
  Calls Tryz.prog 47 #[.string s] w fun e w'=>rJ w w' e (D5 s)∧Fp [] w w':=by
 have HP:=a0z hp;have hS:=a0z (fun w=>dT 10 s w hs);clear hp
 by_cases h4:s.size>4000
 ·have HR:Hid (D5 s=([],0,71)):=if_pos h4;go_enter Tryz.func47,Tryz.ntmps47;go_wp2_with (fail);rw[HR.out];refine bodyPost_ret (v:=.tuple #[.slice none 0 0,.int .i64 0,.int .i64 71]) (by simp[results,Tryz.results47,go_sem, *]) rfl ⟨⟨_,rfl,A4.nil _ _⟩,?_⟩;exact Fp.refl _ _
 ·have HR:Hid (D5 s=G2 0 [] (Hg 10 s)):=if_neg h4
  have h4':¬((s.size:Nat):Int)>4000:=by omega
  have HSM:=a0z (fun x=>Ob (c:=10) (s:=s) (x:=x))
  obtain⟨P,hP⟩:∃P,Hg 10 s=P:=⟨_,rfl⟩
  have hPL:P.length≤100000001:=by rw[←hP];have:=Xj 10 s;omega
  rw[hP] at hS HR HSM;go_enter Tryz.func47,Tryz.ntmps47;go_wp2_with (fail);(with_reducible refine(hS.out _ HP.out.mx).mono ?_);rintro e w1 ⟨B,rfl,hB,hrow,hf⟩;have HF1:=a0z hf;have HRW:=a0z hrow
  have HP1:Hid (Jt w1):=⟨HP.out.mx.fp hf a0x,HP.out.er.fp hf a0x a0x⟩
  clear hf hrow hB hP;go_wp2_with (fail)
  go_loopg [2,15] P.length (fun g va vi wr=>∃k:Nat,g+k=P.length∧vi=.int .i64 k∧Fp [] w1 wr∧∃acc:List Ac,A4 wr w1.heap.size va acc∧acc.length≤k∧G2 0 [] P=G2 k acc (P.drop k))
  case atStart=>exact⟨0,rfl,rfl,Fp.refl _ _,[],A4.nil _ _,a0w _,rfl⟩
  case round=>
   obtain⟨k,hg,rfl,hf,acc,ho,hlen,hgo⟩:=hrel;have HF:=a0z hf;have HO:=a0z ho;have HGO:=a0z hgo;have HRK:=a0z (HRW.out.fp hf a0x);clear hf ho hgo
   by_cases hk:k<P.length
   ·obtain⟨t,ht⟩:∃t,P[k]=t:=⟨_,rfl⟩
    have q:=HRK.out.at k hk;rw[ht] at q
    have HD:Hid (P.drop k=t::P.drop (k+1)):=by unfold Hid;rw[←ht];exact List.drop_eq_getElem_cons hk
    have hts:t.size≤100000000:=by have:=HSM.out t (by rw[←ht];exact List.getElem_mem hk);omega
    clear ht
    by_cases h0:t.size=0
    ·have hem:=cK h0;have HSK:Hid (Jp t=true):=rF h0;go_wp2_with (fail)
     go_roundg (gk-1)
     case measure=>omega
     case rel=>exact⟨k+1,by omega,by simp,HF.out,acc,HO.out,by omega,by rw[HGO.out,HD.out,Xi HSK.out]⟩
    ·have hem:=N6 (s:=t) (by omega)
     have ht0:0<t.size:=by omega
     obtain⟨sk,hsk⟩:∃sk,((t[0].toNat:Int)==35)=sk:=⟨_,rfl⟩
     have HSK:Hid (Jp t=sk):=(rI ht0).trans hsk;cases sk
     ·go_wp2_with (fail);(with_reducible refine(sR t _ hts (Jt.mk (HP1.out.mx.fp HF.out a0x) (HP1.out.er.fp HF.out a0x a0x))).mono ?_);rintro e w2 ⟨rfl,hf⟩;have HF2:=a0z (HF.out.trans hf (by simp));have HO2:=a0z (HO.out.fp hf (by simp));clear hf
      cases hl:Ge t with
      |none=>
       have HL:=a0z hl;clear hl;rw[show Dz ((Option.none:Option Ac).getD Bo)=.agg #[.string ⟨#[]⟩,.string ⟨#[]⟩,.int .u64 0,.int .u64 0,.bool false,.string ⟨#[]⟩] from rfl,show(Option.none:Option Ac).isSome=false from rfl];go_wp2_with (fail);rw[HR.out,HGO.out,HD.out,dG HSK.out HL.out];refine bodyPost_ret (v:=.tuple #[.slice none 0 0,.int .i64 ((k:Nat)+1:Nat),.int .i64 70]) (by simp[results,Tryz.results47,go_sem, *]) rfl ⟨⟨_,rfl,A4.nil _ _⟩,?_⟩;exact HF1.out.trans (HF2.out.alloc' _) (by simp)
      |some c=>
       have HL:=a0z hl;clear hl;have HCO:=a0z (dF hts HL.out);obtain⟨cr,cc,ct,cq,cd,cv⟩:=c;rw[show Dz ((Option.some (⟨cr,cc,ct,cq,cd,cv⟩:Ac)).getD Bo)=.agg #[.string cr,.string cc,.int .u64 ct,.int .u64 cq,.bool cd,.string cv] from rfl,show(Option.some (⟨cr,cc,ct,cq,cd,cv⟩:Ac)).isSome=true from rfl];go_wp2_with (at_builtin;(refine X8 rfl _ _ rfl w1.heap.size _ acc rfl ((HO2.out.fp (Fp.alloc _ _) (by simp)).fp (Fp.alloc _ _) (by simp)) _ _ _ [⟨cr,cc,ct,cq,cd,cv⟩] rfl (Ci.one (Aj (by simp) _) HCO.out) (fun h=>by cases h) (by simp;omega) (by have:=HF2.out.size;simp;omega) ?_);intro v3 w3 ho3 hb3)
       go_roundg (gk-1)
       case measure=>omega
       case rel=>exact⟨k+1,by omega,by simp,((HF2.out.alloc' _).alloc' _).belowTrans hb3,acc++[⟨cr,cc,ct,cq,cd,cv⟩],ho3,by simp;omega,by rw[HGO.out,HD.out,dH HSK.out HL.out]⟩
     ·go_wp2_with (fail)
      go_roundg (gk-1)
      case measure=>omega
      case rel=>exact⟨k+1,by omega,by simp,HF.out,acc,HO.out,by omega,by rw[HGO.out,HD.out,Xi HSK.out]⟩
   ·have HD:Hid (P.drop k=[]):=List.drop_eq_nil_of_le (by omega);go_wp2_with (fail);rw[HR.out,HGO.out,HD.out];refine bodyPost_ret (v:=.tuple #[_,.int .i64 0,.int .i64 0]) (by simp[results,Tryz.results47,go_sem, *]) rfl ⟨⟨_,rfl,HO.out.mono HF1.out.size⟩,?_⟩;exact HF1.out.trans HF.out (by simp)
end
section
open Go.RowKit Go.Lib
end
section
open Go.RowKit Go.Lib
end
section
open Go.RowKit Go.Lib
end
section
open Go.RowKit Go.Lib
end
section
open Go.RowKit Go.Lib
end
section
open Go.RowKit Go.Lib
end
section
open Go.RowKit Go.Lib
theorem Uf:∀(l:List ByteArray) (i:Nat) (acc:List Ac),(∀t∈l,t.size≤100000000)→(∀c∈acc,Dm c)→(∀c∈(G2 i acc l).1,Dm c)∧(G2 i acc l).1.length≤acc.length+l.length∧(G2 i acc l).2.1≤i+l.length∧(G2 i acc l).2.2≤70
 |[],i,acc,_,h=>⟨h,a1x _,a0w _,a0w _⟩
 |t::r,i,acc,hl,h=>by
  have hr:∀t∈r,t.size≤100000000:=fun x hx=>hl x (by simp[hx])
  cases hs:Jp t
  ·cases hp:Ge t with
   |none=>
    rw[dG hs hp];exact⟨by simp,a0w _,by show i+1≤i+(r.length+1);omega,a1x _⟩
   |some c=>
    rw[dH hs hp];have hc:=dF (hl t (by simp)) hp
    obtain⟨h1,h2,h3,h4⟩:=Uf r (i+1) (acc++[c]) hr (by
     intro x hx
     rcases List.mem_append.1 hx with hx|hx
     ·exact h x hx
     ·rw[List.mem_singleton.1 hx];exact hc)
    exact⟨h1,by rw[List.length_append] at h2;simp only[a0u,List.length_nil] at h2 ⊢;omega,by rw[a0u];omega,h4⟩
  ·rw[Xi hs];obtain⟨h1,h2,h3,h4⟩:=Uf r (i+1) acc hr h;exact⟨h1,by rw[a0u];omega,by rw[a0u];omega,h4⟩
theorem rL(s:ByteArray)(hs:s.size≤100000000):(∀c∈(D5 s).1,Dm c)∧(D5 s).1.length≤100000001∧(D5 s).2.1≤100000001∧(D5 s).2.2≤71:=by
 unfold D5;split
 ·exact⟨by simp,a0w _,a0w _,a1x _⟩
 ·have hl:=Xj 10 s;obtain⟨h1,h2,h3,h4⟩:=Uf (Hg 10 s) 0 [] (fun t ht=>by have:=Ob ht;omega) (by simp);refine⟨h1,?_,by omega,by omega⟩;have:([]:List Ac).length=0:=rfl;omega
theorem rM(s:ByteArray)(w:World)(hs:s.size≤100000000)(ht:B0 w):
  Calls Tryz.prog 44 #[.string s] w fun e w'=>e=.returned (.int .u32 (D1 0 s))∧Fp [] w w':=by
 have H:=a0z (fun w ht=>Qs s w hs ht);have HT:=a0z ht;clear ht;go_enter Tryz.func44,Tryz.ntmps44;go_wp2_with (fail);(with_reducible refine(H.out _ HT.out).mono ?_);rintro e w1 ⟨rfl,hf⟩;have HF:=a0z hf;clear hf;go_wp2_with (fail);go_ret;exact⟨rfl,HF.out⟩
theorem rN{w:World}(h:TabIs Tryz.prog w "rickyard/crc.four" .u32 (Hz.map fun(n:Nat)=>(n:Int))):B0 w:=by
 intro i hi;have:=h.cell (g:=0) (by kernel_rfl) i (by rw[a1z];exact hi);rw[this]
 have key:∀r,r<16→(Hz.map fun(n:Nat)=>(n:Int)).getD r 0=((Hz.getD r 0:Nat):Int):=by decide
 rw[key i hi]
theorem rO{W:World}{r:List (String × DataW Unit)}(h:laidMet Tryz.prog (("rickyard/crc.four",tabData .u32 (Hz.map fun(n:Nat)=>(n:Int)))::r) W.memory):B0 W:=
 rN (show TabIs Tryz.prog W.memory "rickyard/crc.four" .u32 (Hz.map fun(n:Nat)=>(n:Int)) from tabIs_of_head (show Tryz.prog.globalNamed "rickyard/crc.four" =some 0 by kernel_rfl) (show(Tryz.prog.globals[0]?).map (·.type)=some 237 by kernel_rfl) Tryz.underlying237 Tryz.underlying26 (by kernel_rfl) (by kernel_rfl) h)
end
section
open Go.RowKit Go.Lib
def N9:List Nat→Nat
 |[]=>0
 |e::r=>if e=0 then N9 r else e
theorem dI:∀(l:List Nat) (i:Nat) (hi:i<l.length),(∀j (_ :j<i),l[j]'(by omega)=0)→l[i]≠0→N9 l=l[i]
 |[],i,hi,_,_=>absurd hi (Nat.not_lt_zero _)
 |x::l,0,_,_,hx=>by rw[N9,if_neg (by simpa using hx)];rfl
 |x::l,i+1,hi,h,hx=>by
  rw[N9,if_pos (show x=0 from h 0 (Nat.zero_lt_succ _))];exact dI l i (by simpa using hi) (fun j hj=>h (j+1) (Nat.succ_lt_succ hj)) (by simpa using hx)
def Jq(ps:List (Nat × List Ac)):List Nat:=ps.map fun x=>(G6 x.2 0).2
def I6(ps:List (Nat × List Ac)):List ByteArray:=ps.map fun x=>(G6 x.2 0).1
inductive Gm(s:ByteArray)(borders:List ByteArray)(m wid mo:Int):Nat→List ByteArray→Prop
 |parse:(D5 s).2.2≠0→Gm s borders m wid mo (D5 s).2.2 []
 |none:(D5 s).2.2=0→(D5 s).1=[]→Gm s borders m wid mo 1 []
 |sort:(D5 s).2.2=0→(D5 s).1≠[]→(m<1∨wid<2)→Gm s borders m wid mo 1 []
 |cut:(D5 s).2.2=0→(D5 s).1≠[]→1≤m→2≤wid→(G1 borders=false∨mo<1)→Gm s borders m wid mo 1 []
 |build (r:List Ad) (out:List (List Ac)) (most:Nat):(D5 s).2.2=0→(D5 s).1≠[]→1≤m→2≤wid→G1 borders=true→1≤most→mo=(most:Int)→B7 (Dp (D5 s).1) r→E9 (r.map (·.c)) borders out→N9 (Jq (K2 most out))≠0→Gm s borders m wid mo (N9 (Jq (K2 most out))) []
 |ok (r:List Ad) (out:List (List Ac)) (most:Nat):(D5 s).2.2=0→(D5 s).1≠[]→1≤m→2≤wid→G1 borders=true→1≤most→mo=(most:Int)→B7 (Dp (D5 s).1) r→E9 (r.map (·.c)) borders out→(∀e∈Jq (K2 most out),e=0)→Gm s borders m wid mo 0 (I6 (K2 most out))
theorem rP{x y:Ad}(h:Dn x y<0):Ep x.c y.c<0:=by
 unfold Dn Ep J8 at h;simp only at h;rw[Qy,O6 0] at h;unfold Ep;rw[Qy]
 by_cases h1:Ee x.c.row y.c.row=0
 ·by_cases h2:Ee x.c.col y.c.col=0
  ·by_cases h3:Dq y.c.ts x.c.ts=0
   ·simp[h1,h2,h3] at h
   ·simp[h1,h2,h3] at h ⊢;exact h
  ·simp[h1,h2] at h ⊢;exact h
 ·simp[h1] at h ⊢;exact h
theorem Ds.risC{r:List Ad}(h:Ds r):risC (r.map (·.c))=true:=by
 refine Sl fun j hj=>?_
 rcases Nat.eq_zero_or_pos j with rfl|h0
 ·rfl
 rw[a1z] at hj;rw[Y8 (k:=j) (m:=j-1) (by rw[a1z];exact hj) (by omega) (r[j-1]'(by omega)).c (r[j]'hj).c (by rw[List.getElem_map]) (by rw[List.getElem_map])];have:=rP (List.pairwise_iff_getElem.1 h (j-1) j (by omega) hj (by omega));exact decide_eq_false (by omega)
theorem rQ(s:ByteArray):(D5 s).1.length≤4001:=by
 unfold D5;split
 ·exact a0w _
 ·rename_i h;have hl:=Xj 10 s;obtain⟨_,h2,_,_⟩:=Uf (Hg 10 s) 0 [] (fun t ht=>by have:=Ob ht;omega) (by simp);have:([]:List Ac).length=0:=rfl;omega
theorem A4.at4{w:World}{base:Nat}{v:Value}{l:List Ac}(h:A4 w base v l)(hok:∀c∈l,Dm c):∃a cap,v=.slice a l.length cap∧l.length≤cap∧(a=Option.none∧cap=0∨∃b o,a=some ⟨b,o,Option.none⟩)∧Bn w a l.length l:=by
 obtain⟨a,cap,e,h0,h1,h2⟩:=h.at5 hok;refine⟨a,cap,e,h0,?_,h2⟩
 rcases h.2 with⟨h3,_⟩|⟨g,c2,cur,h3,_⟩
 ·rw[e] at h3
  injection h3 with h4 h5 h6
  exact Or.inl ⟨h4,h6⟩
 ·rw[e] at h3;cases h3;exact Or.inr ⟨g,0,rfl⟩
theorem rR{l:List Ac}{x:Ad}(h:x∈Dp l):x.c∈l:=by
 obtain⟨i,hi,e⟩:=List.mem_iff_getElem.1 h;have hl:(Dp l).length=l.length:=Oj l _;rw[←e,show(Dp l)[i]=⟨l.getD i Bo,i⟩ from U0 l l.length i hi];show l.getD i Bo∈l;rw[a0v,List.getElem?_eq_getElem (by omega)];exact List.getElem_mem _
theorem dJ(l:List Ac)(most:Nat):(K7 l most).flatten=l:=by
 unfold K7;rw[cA,Tu l 0 0 (a1x _) (Or.inr rfl),List.drop_zero]
theorem rS{most:Nat}{out:List (List Ac)}{k:Nat}{x:Nat × List Ac}(hx:x∈Hm most out k){c:Ac}(hc:c∈x.2):c∈out.flatten:=by
 unfold Hm at hx;obtain⟨i,-,hi⟩:=List.mem_flatMap.1 hx;obtain⟨r,hr,rfl⟩:=List.mem_map.1 hi
 have h1:c∈out.getD i []:=by
  rw[←dJ (out.getD i []) most];exact List.mem_flatten.2 ⟨r,hr,hc⟩
 rw[a0v] at h1
 cases h2:out[i]? with
 |none=>rw[h2] at h1;simp at h1
 |some y=>
  rw[h2] at h1;exact List.mem_flatten.2 ⟨y,a1w h2,h1⟩
theorem rT{most:Nat}{out:List (List Ac)}{k:Nat}{x:Nat × List Ac}(hx:x∈Hm most out k):x.2.length≤out.flatten.length:=by
 unfold Hm at hx;obtain⟨i,-,hi⟩:=List.mem_flatMap.1 hx;obtain⟨r,hr,rfl⟩:=List.mem_map.1 hi
 have h1:r.length≤(out.getD i []).length:=by
  have:=Tv hr;rw[dJ] at this;exact this
 rw[a0v] at h1
 cases h2:out[i]? with
 |none=>rw[h2] at h1;simp at h1;simp[h1]
 |some y=>
  rw[h2] at h1;exact Nat.le_trans h1 (Tv (a1w h2))
theorem Ez.low{W W':World}{base:Nat}{v:Value}{ps:List (Nat × List Ac)}(h:Ez W base v ps)(hl:∀k,base≤k→k<W.heap.size→W'.heap[k]?=W.heap[k]?):Ez W' base v ps:=by
 obtain⟨hs,h1,h2⟩:=h;exact⟨hs,h1.kept fun k hk=>hl k (h1.lt k hk).1 (h1.lt k hk).2,Ks (fun _ _ h=>⟨h.1,h.2.kept fun k hk=>hl k (h.2.lt k hk).1 (h.2.lt k hk).2⟩) h2⟩
theorem Ez.get{W:World}{base i:Nat}{v:Value}{ps:List (Nat × List Ac)}(h:Ez W base v ps)(hi:i<ps.length):∃g cap a n c,v=.slice (some ⟨g,0,Option.none⟩) ps.length cap∧W.cell? ⟨g,i*2,Option.none⟩=some (.int .i64 (ps[i].1:Nat))∧W.cell? ⟨g,i*2+1,Option.none⟩=some (.slice a n c)∧A4 W base (.slice a n c) ps[i].2:=by
 obtain⟨hs,h1,h2⟩:=h;have hl:=h2.length_eq;obtain⟨g,cap,cur,rfl,-,-,-,-,-,-⟩:=h1.open (by omega);obtain⟨hq,-⟩:=h1.elem (i:=i) (by omega);obtain⟨e1,e2⟩:=h2.nth i (by omega) hi;have c0:=hq 0 (.int .i64 (hs[i]'(by omega)).1) rfl;have c1:=hq 1 (Z6 (hs[i]'(by omega))) rfl;rw[e1] at c0;exact⟨g,cap,_,_,_,by rw[hl],c0,c1,e2⟩
end
end Go.Proofs.YtkagolpnaicdoaaGreatDoor
