/-
 line: a line of input as a cell. Cells: the cells of an input. The reference of layer 7: Word, digits. The reference of layer 7: digits. The reference of layer 7: words. The reference of layer 7: line. The reference of layer 7: Cells. shown: that a line is a cell. ParseCells: the cells of any input are the document's. job.Make: what it computes; the walk of what it tries.
-/
import Derived.Test.YtkagolpnaicdoaaGreatDoorPJobB
import Derived.LoopN
import Derived.Laws.EntriesVeiled
import Derived.IntWalk
import Derived.Test.YtkagolpnaicdoaaGreatDoorPBlkC
import Derived.Laws.DeepStrings4
import Derived.Test.YtkagolpnaicdoaaGreatDoorPTabG
import Derived.Test.YtkagolpnaicdoaaGreatDoorPCrc
import Derived.Lib.LaidTab
import Derived.Test.YtkagolpnaicdoaaGreatDoorPAppG
import Derived.Test.YtkagolpnaicdoaaGreatDoorPMrgF
import Derived.Test.YtkagolpnaicdoaaGreatDoorPTabL
set_option maxRecDepth 100000
set_option maxHeartbeats 8000000
open List renaming not_mem_nil→a0z,getD_eq_getElem?_getD→a0u,length_cons→a1z,length_map→a1x,mem_of_getElem?→a1w
open Go.Lib renaming hid→a0x
open Nat renaming le_refl→a0w,zero_le→a0v
namespace Go.Proofs.YtkagolpnaicdoaaGreatDoor
section
open Go.RowKit Go.Lib
def J7(a b c d:ByteArray):Option Ac:=
 if Nw a=true∧Nw b=true∧(Iy d||Rw d)=true then
  (J2 c).map fun u=>⟨a,b,u,0,Iy d,if Iy d=true then⟨#[]⟩ else Hm d⟩
 else none
def Gl(s:ByteArray):Option Ac:=match Hl 32 s with
 |[a,b,c,d]=>J7 a b c d
 |_=>none
theorem uG{s:ByteArray}(h:(Hl 32 s).length≠4):Gl s=none:=by
 unfold Gl;split
 ·rename_i e;rw[e] at h;exact absurd rfl h
 ·rfl
theorem uH{l:List ByteArray}(h:l.length=4):∃a b c d,l=[a,b,c,d]:=by
 match l,h with
 |[a,b,c,d],_=>exact⟨a,b,c,d,rfl⟩
def Qi(w:World)(B:Nat)(l:List ByteArray):Prop:=w.heap[B]?=some (.cells (l.map Value.string).toArray 9 (0,0))
theorem Qi.fp{w w':World}{B:Nat}{l:List ByteArray}{S:List Nat}(h:Qi w B l)(hf:Fp S w w')(hb:B∉S):Qi w' B l:=(hf.block B (Ab h) hb).trans h
theorem Qi.at{w:World}{B:Nat}{l:List ByteArray}(h:Qi w B l)(i:Nat)(hi:i<l.length):w.cell? ⟨B,i,none⟩=some (.string l[i]):=by
 rw[Aa h];simp[hi]
theorem fR(c:UInt8)(s:ByteArray)(w:World)(hs:s.size≤100000000)(hm:K2 w):
  Calls Tryz.prog 84 #[.string s,.string ⟨#[c]⟩] w fun e w'=>
   ∃B,e=.returned (.slice (some ⟨B,0,none⟩) (Hl c s).length (Hl c s).length)∧B=w.heap.size∧Qi w' B (Hl c s)∧Fp [] w w':=by
 obtain⟨m,hm⟩:=hm;rw[pH];refine(Tryz.strings_Split s ⟨#[c]⟩ m w (by omega) hm (a0w 1)).mono ?_;rintro e w' ⟨rfl,rfl⟩;exact⟨_,rfl,rfl,Ai rfl _,Fp.alloc _ _⟩
theorem uI(f0 f1 f2 f3:Value)(w:World):(Instr.index 196 (.agg #[f0,f1,f2,f3]) (.int .i64 0)).run Tryz.prog w=.ok f0 w:=by
 simp[Instr.index,run_underlying Tryz.underlying196,asIntOf,go_sem]
theorem uJ(f0 f1 f2 f3:Value)(w:World):(Instr.index 196 (.agg #[f0,f1,f2,f3]) (.int .i64 1)).run Tryz.prog w=.ok f1 w:=by
 simp[Instr.index,run_underlying Tryz.underlying196,asIntOf,go_sem]
theorem uK(f0 f1 f2 f3:Value)(w:World):(Instr.index 196 (.agg #[f0,f1,f2,f3]) (.int .i64 2)).run Tryz.prog w=.ok f2 w:=by
 simp[Instr.index,run_underlying Tryz.underlying196,asIntOf,go_sem]
theorem uL(f0 f1 f2 f3:Value)(w:World):(Instr.index 196 (.agg #[f0,f1,f2,f3]) (.int .i64 3)).run Tryz.prog w=.ok f3 w:=by
 simp[Instr.index,run_underlying Tryz.underlying196,asIntOf,go_sem]
structure Iq(w:World):Prop where
 mx:K2 w
 er:Oo w
theorem uM(s:ByteArray)(w:World)(hs:s.size≤100000000)(hp:Iq w):
  Calls Tryz.prog 70 #[.string s] w fun e w'=>e=.returned (.tuple #[D4 ((Gl s).getD Bv),.bool (Gl s).isSome])∧Fp [] w w':=by
 have HP:=a0x hp;have hS:=a0x (fun w=>fR 32 s w hs)
 have hmf:∀(fn:Fn) (first cap:Array Value) (w:World),(Instr.makeFunc fn first cap).run Tryz.prog w=.ok (.func fn first cap) w:=fun _ _ _ _=>rfl
 clear hp
 by_cases h4:(Hl 32 s).length=4
 ·obtain⟨a,b,c,d,he⟩:=uH h4;go_enter Tryz.func70,Tryz.ntmps70;go_wp2_with (fail);(with_reducible refine(hS.out _ (HP.out.mx.fp (Fp.alloc _ _) a0z)).mono ?_);rintro e w1 ⟨B,rfl,hB,hrow,hf⟩;rw[he] at hrow ⊢;have HC1:Hid (C4 w1 w.heap.size Bv):=C4.fp (S:=[]) (Ai rfl _) hf a0z;have HF1:=a0x ((Fp.alloc w _).trans hf (by simp));have HR1:=a0x hrow
  have hBn:B∉[w.heap.size]:=by rw[hB];simp
  have hlen:[a,b,c,d].length=4:=rfl
  have HSC:Hid (c.size≤100000000):=by unfold Hid;have:=Om (c:=32) (s:=s) (x:=c) (by rw[he];simp);omega
  clear hf hrow hB h4;go_wp2_with (fail)
  obtain⟨w2,hw2⟩:∃w2,w1.alloc (.cells #[.func (.func 122) #[] #[.pointer (some ⟨w.heap.size,0,none⟩)],.func (.func 124) #[] #[.pointer (some ⟨w.heap.size,0,none⟩)],.func (.func 125) #[] #[.pointer (some ⟨w.heap.size,0,none⟩)],.func (.func 127) #[] #[.pointer (some ⟨w.heap.size,0,none⟩)]] 196)=w2:=⟨_,rfl⟩
  rw[hw2]
  have hf2:Fp [] w1 w2:=by rw[←hw2];exact Fp.alloc _ _
  have HC2:=a0x (HC1.out.fp hf2 a0z);have HR2:=a0x (HR1.out.fp hf2 a0z);have HF2:=a0x (HF1.out.trans hf2 (by simp));have p0:w2.cell? ⟨B,0,none⟩=some (.string a):=HR2.out.at 0 (by simp);clear hf2 hw2;have ix0:=uI;have ix1:=uJ;have ix2:=uK;have ix3:=uL;refine wp_loop_rounds 5 ?_;rw[rounds_succ];go_wp2_with (fail);(with_reducible refine(pN a _ _ _ HC2.out).mono ?_);rintro e w3 ⟨rfl,hc,hf⟩;have HC3:=a0x hc;have HR3:=a0x (HR2.out.fp hf hBn);have HF3:=a0x (HF2.out.trans hf (by simp));have p1:w3.cell? ⟨B,1,none⟩=some (.string b):=HR3.out.at 1 (by simp);clear p0 hc hf
  obtain⟨n1,hn1⟩:∃n1,Nw a=n1:=⟨_,rfl⟩
  rw[hn1];cases n1
  ·have HL:Hid (Gl s=none):=by unfold Hid Gl;rw[he];show J7 a b c d=none;unfold J7;rw[hn1,if_neg (by simp)]
   obtain⟨q0,q1,q2,q3,q4,q5,f0,f1,f2,f3,f4,f5⟩:=HC3.out.facts0;go_wp2_with (fail);rw[HL.out];refine bodyPost_ret (v:=.tuple #[D4 Bv,.bool false]) (by simp[results,Tryz.results70,D4,Bv,go_sem, *]) rfl ⟨rfl,?_⟩
   repeat(first|(with_reducible refine Fp.drew' ?_)|(with_reducible refine Fp.setCell' ?_ (Or.inr (a0w _)) _)|(with_reducible refine Fp.alloc' ?_ _)|(with_reducible exact HF3.out))
  go_wp2_with (fail);rw[rounds_succ];go_wp2_with (fail);(with_reducible refine(pO b _ _ _ HC3.out).mono ?_);rintro e w4 ⟨rfl,hc,hf⟩;have HC4:=a0x hc;have HR4:=a0x (HR3.out.fp hf hBn);have HF4:=a0x (HF3.out.trans hf (by simp));have p2:w4.cell? ⟨B,2,none⟩=some (.string c):=HR4.out.at 2 (by simp);clear p1 hc hf
  obtain⟨n2,hn2⟩:∃n2,Nw b=n2:=⟨_,rfl⟩
  rw[hn2];cases n2
  ·have HL:Hid (Gl s=none):=by unfold Hid Gl;rw[he];show J7 a b c d=none;unfold J7;rw[hn2,if_neg (by simp)]
   obtain⟨q0,q1,q2,q3,q4,q5,f0,f1,f2,f3,f4,f5⟩:=HC4.out.facts0;go_wp2_with (fail);rw[HL.out];refine bodyPost_ret (v:=.tuple #[D4 Bv,.bool false]) (by simp[results,Tryz.results70,D4,Bv,go_sem, *]) rfl ⟨rfl,?_⟩
   repeat(first|(with_reducible refine Fp.drew' ?_)|(with_reducible refine Fp.setCell' ?_ (Or.inr (a0w _)) _)|(with_reducible refine Fp.alloc' ?_ _)|(with_reducible exact HF4.out))
  go_wp2_with (fail);rw[rounds_succ];go_wp2_with (fail);(with_reducible refine(pR c _ _ _ HC4.out HSC.out (HP.out.er.fp HF4.out a0z a0z)).mono ?_);rintro e w5 ⟨rfl,⟨u,hu,hc⟩,hf⟩;have HC5:=a0x hc;have HR5:=a0x (HR4.out.fp hf hBn);have HF5:=a0x (HF4.out.trans hf (by simp));have p3:w5.cell? ⟨B,3,none⟩=some (.string d):=HR5.out.at 3 (by simp);clear p2 hc hf
  cases hn3:J2 c with
  |none=>
   have HL:Hid (Gl s=none):=by unfold Hid Gl;rw[he];show J7 a b c d=none;unfold J7;rw[hn3];split<;>rfl
   clear hu;obtain⟨q0,q1,q2,q3,q4,q5,f0,f1,f2,f3,f4,f5⟩:=HC5.out.facts0;go_wp2_with (fail);rw[HL.out];refine bodyPost_ret (v:=.tuple #[D4 Bv,.bool false]) (by simp[results,Tryz.results70,D4,Bv,go_sem, *]) rfl ⟨rfl,?_⟩
   repeat(first|(with_reducible refine Fp.drew' ?_)|(with_reducible refine Fp.setCell' ?_ (Or.inr (a0w _)) _)|(with_reducible refine Fp.alloc' ?_ _)|(with_reducible exact HF5.out))
  |some u'=>
   obtain rfl:u'=u:=by
    rcases hu with hu|hu
    ·rw[hn3] at hu;cases hu
    ·rw[hn3] at hu;exact Option.some.inj hu
   clear hu;go_wp2_with (fail);rw[rounds_succ];go_wp2_with (fail);(with_reducible refine(pT d _ _ _ HC5.out).mono ?_);rintro e w6 ⟨rfl,hc,hf⟩;have HC6:=a0x hc;have HF6:=a0x (HF5.out.trans hf (by simp));clear p3 hc hf
   obtain⟨n4,hn4⟩:∃n4,(Iy d||Rw d)=n4:=⟨_,rfl⟩
   rw[hn4];cases n4
   ·have HL:Hid (Gl s=none):=by unfold Hid Gl;rw[he];show J7 a b c d=none;unfold J7;rw[hn4,if_neg (by simp)]
    obtain⟨q0,q1,q2,q3,q4,q5,f0,f1,f2,f3,f4,f5⟩:=HC6.out.facts0;go_wp2_with (fail);rw[HL.out];refine bodyPost_ret (v:=.tuple #[D4 Bv,.bool false]) (by simp[results,Tryz.results70,D4,Bv,go_sem, *]) rfl ⟨rfl,?_⟩
    repeat(first|(with_reducible refine Fp.drew' ?_)|(with_reducible refine Fp.setCell' ?_ (Or.inr (a0w _)) _)|(with_reducible refine Fp.alloc' ?_ _)|(with_reducible exact HF6.out))
   go_wp2_with (fail);rw[rounds_succ]
   have HL:Hid (Gl s=some ⟨a,b,u',0,Iy d,if Iy d=true then⟨#[]⟩ else Hm d⟩):=by unfold Hid Gl;rw[he];show J7 a b c d=_;unfold J7;rw[hn1,hn2,hn3,hn4,if_pos (by simp)];rfl
   obtain⟨vv,hvv⟩:∃vv,(if Iy d=true then Bv.val else Hm d)=vv:=⟨_,rfl⟩
   have hvv2:(if Iy d=true then(⟨#[]⟩:ByteArray) else Hm d)=vv:=hvv;rw[hvv] at HC6;rw[hvv2] at HL;obtain⟨q0,q1,q2,q3,q4,q5,f0,f1,f2,f3,f4,f5⟩:=HC6.out.facts0;go_wp2_with (fail);rw[HL.out];refine bodyPost_ret (v:=.tuple #[D4 ⟨a,b,u',0,Iy d,vv⟩,.bool true]) (by simp[results,Tryz.results70,D4,Bv,go_sem, *]) rfl ⟨rfl,?_⟩
   repeat(first|(with_reducible refine Fp.drew' ?_)|(with_reducible refine Fp.setCell' ?_ (Or.inr (a0w _)) _)|(with_reducible refine Fp.alloc' ?_ _)|(with_reducible exact HF6.out))
 ·have hl:=uG h4;rw[hl]
  obtain⟨n,hn⟩:∃n,(Hl 32 s).length=n:=⟨_,rfl⟩
  rw[hn] at hS h4
  have h4':¬((n:Nat):Int)=4:=by omega
  go_enter Tryz.func70,Tryz.ntmps70;go_wp2_with (fail);(with_reducible refine(hS.out _ (HP.out.mx.fp (Fp.alloc _ _) a0z)).mono ?_);rintro e w1 ⟨B,rfl,hB,hrow,hf⟩;have HC1:Hid (C4 w1 w.heap.size Bv):=C4.fp (S:=[]) (Ai rfl _) hf a0z;have HF1:=a0x ((Fp.alloc w _).trans hf (by simp));clear hf hrow hB hn;obtain⟨q0,q1,q2,q3,q4,q5,f0,f1,f2,f3,f4,f5⟩:=HC1.out.facts;go_wp2_with (fail);refine bodyPost_ret (v:=.tuple #[D4 Bv,.bool false]) (by simp[results,Tryz.results70,D4,Bv,go_sem, *]) rfl ⟨rfl,?_⟩
  repeat(first|(with_reducible refine Fp.drew' ?_)|(with_reducible refine Fp.setCell' ?_ (Or.inr (a0w _)) _)|(with_reducible refine Fp.alloc' ?_ _)|(with_reducible exact HF1.out))
end
section
open Go.RowKit Go.Lib
def J8(t:ByteArray):Bool:=t.size==0||t.data.toList.head?==some 35
def G9(i:Nat)(acc:List Ac):List ByteArray→List Ac × Nat × Nat
 |[]=>(acc,0,0)
 |t::r=>if J8 t=true then G9 (i+1) acc r else match Gl t with
  |none=>([],i+1,70)
  |some c=>G9 (i+1) (acc++[c]) r
def Ed(s:ByteArray):List Ac × Nat × Nat:=if s.size>4000 then([],0,71) else G9 0 [] (Hl 10 s)
theorem uN(s:ByteArray):(Hm s).size≤s.size:=by
 unfold Hm;show(Lib.trimPrefix s.data.toList [61]).toArray.size≤_;rw[size_eq];simp only[List.size_toArray];unfold Lib.trimPrefix
 split<;>simp
theorem uO{s:ByteArray}{u:Nat}(h:J2 s=some u):u<18446744073709551616:=by
 unfold J2 at h;split at h
 ·rename_i u' hu;have:=parseUintB_le hu;split at h
  ·obtain rfl:=Option.some.inj h;omega
  ·cases h
 ·cases h
theorem fS{s:ByteArray}(hs:s.size≤100000000){c:Ac}(h:Gl s=some c):Dn c:=by
 unfold Gl at h;split at h
 ·rename_i a b n d he;have ha:=Om (c:=32) (s:=s) (x:=a) (by rw[he];simp);have hb:=Om (c:=32) (s:=s) (x:=b) (by rw[he];simp);have hd:=Om (c:=32) (s:=s) (x:=d) (by rw[he];simp);have hr:=uN d;unfold J7 at h;split at h
  ·obtain⟨u,hu,rfl⟩:=Option.map_eq_some_iff.1 h;refine⟨uO hu,by show 0<_;decide,?_,?_,?_⟩
   ·show a.size≤_;omega
   ·show b.size≤_;omega
   ·show ByteArray.size (if Iy d=true then⟨#[]⟩ else Hm d)≤_;split
    ·exact a0v _
    ·omega
  ·cases h
 ·cases h
theorem Yj{i:Nat}{acc:List Ac}{t:ByteArray}{r:List ByteArray}(h:J8 t=true):G9 i acc (t::r)=G9 (i+1) acc r:=by
 conv=>lhs;unfold G9
 rw[if_pos h]
theorem fU{i:Nat}{acc:List Ac}{t:ByteArray}{r:List ByteArray}(h:J8 t=false)(hl:Gl t=none):G9 i acc (t::r)=([],i+1,70):=by
 conv=>lhs;unfold G9
 rw[if_neg (by simp[h]),hl]
theorem fV{i:Nat}{acc:List Ac}{t:ByteArray}{r:List ByteArray}{c:Ac}(h:J8 t=false)(hl:Gl t=some c):G9 i acc (t::r)=G9 (i+1) (acc++[c]) r:=by
 conv=>lhs;unfold G9
 rw[if_neg (by simp[h]),hl]
theorem uP{t:ByteArray}(h:t.size=0):J8 t=true:=by unfold J8;rw[h];rfl
theorem uQ{t:ByteArray}(h:0<t.size):t.data.toList.head?=some t[0]:=by
 rw[List.head?_eq_getElem?];exact Lib.data_getElem? t 0 h
theorem uR{t:ByteArray}(h:0<t.size):J8 t=(t[0]==35):=by
 unfold J8;rw[uQ h,(beq_eq_false_iff_ne.2 (by omega):(t.size==0)=false),Bool.false_or];rfl
theorem uS{t:ByteArray}(h:0<t.size):J8 t=((t[0].toNat:Int)==35):=by
 rw[uR h,Bool.eq_iff_iff,beq_iff_eq,beq_iff_eq];constructor
 ·intro e;rw[e];rfl
 ·intro e;exact UInt8.toNat_inj.1 (by have:(t[0].toNat:Int)=35:=e;show t[0].toNat=35;omega)
def uT(w w':World)(e:Ending)(r:List Ac × Nat × Nat):Prop:=∃v,e=.returned (.tuple #[v,.int .i64 r.2.1,.int .i64 r.2.2])∧A2 w' w.heap.size v r.1
theorem uU(s:ByteArray)(w:World)(hs:s.size≤100000000)(hp:Iq w):
  Calls Tryz.prog 47 #[.string s] w fun e w'=>uT w w' e (Ed s)∧Fp [] w w':=by
 have HP:=a0x hp;have hS:=a0x (fun w=>fR 10 s w hs);clear hp
 by_cases h4:s.size>4000
 ·have HR:Hid (Ed s=([],0,71)):=if_pos h4;go_enter Tryz.func47,Tryz.ntmps47;go_wp2_with (fail);rw[HR.out];refine bodyPost_ret (v:=.tuple #[.slice none 0 0,.int .i64 0,.int .i64 71]) (by simp[results,Tryz.results47,go_sem, *]) rfl ⟨⟨_,rfl,A2.nil _ _⟩,?_⟩;exact Fp.refl _ _
 ·have HR:Hid (Ed s=G9 0 [] (Hl 10 s)):=if_neg h4
  have h4':¬((s.size:Nat):Int)>4000:=by omega
  have HSM:=a0x (fun x=>Om (c:=10) (s:=s) (x:=x))
  obtain⟨P,hP⟩:∃P,Hl 10 s=P:=⟨_,rfl⟩
  have hPL:P.length≤100000001:=by rw[←hP];have:=Xj 10 s;omega
  rw[hP] at hS HR HSM;go_enter Tryz.func47,Tryz.ntmps47;go_wp2_with (fail);(with_reducible refine(hS.out _ HP.out.mx).mono ?_);rintro e w1 ⟨B,rfl,hB,hrow,hf⟩;have HF1:=a0x hf;have HRW:=a0x hrow
  have HP1:Hid (Iq w1):=⟨HP.out.mx.fp hf a0z,HP.out.er.fp hf a0z a0z⟩
  clear hf hrow hB hP;go_wp2_with (fail)
  go_loopg [2,15] P.length (fun g va vi wr=>∃k:Nat,g+k=P.length∧vi=.int .i64 k∧Fp [] w1 wr∧∃acc:List Ac,A2 wr w1.heap.size va acc∧acc.length≤k∧G9 0 [] P=G9 k acc (P.drop k))
  case atStart=>exact⟨0,rfl,rfl,Fp.refl _ _,[],A2.nil _ _,a0v _,rfl⟩
  case round=>
   obtain⟨k,hg,rfl,hf,acc,ho,hlen,hgo⟩:=hrel;have HF:=a0x hf;have HO:=a0x ho;have HGO:=a0x hgo;have HRK:=a0x (HRW.out.fp hf a0z);clear hf ho hgo
   by_cases hk:k<P.length
   ·obtain⟨t,ht⟩:∃t,P[k]=t:=⟨_,rfl⟩
    have q:=HRK.out.at k hk;rw[ht] at q
    have HD:Hid (P.drop k=t::P.drop (k+1)):=by unfold Hid;rw[←ht];exact List.drop_eq_getElem_cons hk
    have hts:t.size≤100000000:=by have:=HSM.out t (by rw[←ht];exact List.getElem_mem hk);omega
    clear ht
    by_cases h0:t.size=0
    ·have hem:=eR h0;have HSK:Hid (J8 t=true):=uP h0;go_wp2_with (fail)
     go_roundg (gk-1)
     case measure=>omega
     case rel=>exact⟨k+1,by omega,by simp,HF.out,acc,HO.out,by omega,by rw[HGO.out,HD.out,Yj HSK.out]⟩
    ·have hem:=O2 (s:=t) (by omega)
     have ht0:0<t.size:=by omega
     obtain⟨sk,hsk⟩:∃sk,((t[0].toNat:Int)==35)=sk:=⟨_,rfl⟩
     have HSK:Hid (J8 t=sk):=(uS ht0).trans hsk;cases sk
     ·go_wp2_with (fail);(with_reducible refine(uM t _ hts (Iq.mk (HP1.out.mx.fp HF.out a0z) (HP1.out.er.fp HF.out a0z a0z))).mono ?_);rintro e w2 ⟨rfl,hf⟩;have HF2:=a0x (HF.out.trans hf (by simp));have HO2:=a0x (HO.out.fp hf (by simp));clear hf
      cases hl:Gl t with
      |none=>
       have HL:=a0x hl;clear hl;rw[show D4 ((Option.none:Option Ac).getD Bv)=.agg #[.string ⟨#[]⟩,.string ⟨#[]⟩,.int .u64 0,.int .u64 0,.bool false,.string ⟨#[]⟩] from rfl,show(Option.none:Option Ac).isSome=false from rfl];go_wp2_with (fail);rw[HR.out,HGO.out,HD.out,fU HSK.out HL.out];refine bodyPost_ret (v:=.tuple #[.slice none 0 0,.int .i64 ((k:Nat)+1:Nat),.int .i64 70]) (by simp[results,Tryz.results47,go_sem, *]) rfl ⟨⟨_,rfl,A2.nil _ _⟩,?_⟩;exact HF1.out.trans (HF2.out.alloc' _) (by simp)
      |some c=>
       have HL:=a0x hl;clear hl;have HCO:=a0x (fS hts HL.out);obtain⟨cr,cc,ct,cq,cd,cv⟩:=c;rw[show D4 ((Option.some (⟨cr,cc,ct,cq,cd,cv⟩:Ac)).getD Bv)=.agg #[.string cr,.string cc,.int .u64 ct,.int .u64 cq,.bool cd,.string cv] from rfl,show(Option.some (⟨cr,cc,ct,cq,cd,cv⟩:Ac)).isSome=true from rfl];go_wp2_with (at_builtin;(refine Y9 rfl _ _ rfl w1.heap.size _ acc rfl ((HO2.out.fp (Fp.alloc _ _) (by simp)).fp (Fp.alloc _ _) (by simp)) _ _ _ [⟨cr,cc,ct,cq,cd,cv⟩] rfl (C4.one (Ai (by simp) _) HCO.out) (fun h=>by cases h) (by simp;omega) (by have:=HF2.out.size;simp;omega) ?_);intro v3 w3 ho3 hb3)
       go_roundg (gk-1)
       case measure=>omega
       case rel=>exact⟨k+1,by omega,by simp,((HF2.out.alloc' _).alloc' _).belowTrans hb3,acc++[⟨cr,cc,ct,cq,cd,cv⟩],ho3,by simp;omega,by rw[HGO.out,HD.out,fV HSK.out HL.out]⟩
     ·go_wp2_with (fail)
      go_roundg (gk-1)
      case measure=>omega
      case rel=>exact⟨k+1,by omega,by simp,HF.out,acc,HO.out,by omega,by rw[HGO.out,HD.out,Yj HSK.out]⟩
   ·have HD:Hid (P.drop k=[]):=List.drop_eq_nil_of_le (by omega);go_wp2_with (fail);rw[HR.out,HGO.out,HD.out];refine bodyPost_ret (v:=.tuple #[_,.int .i64 0,.int .i64 0]) (by simp[results,Tryz.results47,go_sem, *]) rfl ⟨⟨_,rfl,HO.out.mono HF1.out.size⟩,?_⟩;exact HF1.out.trans HF.out (by simp)
end
section
open Go.RowKit Go.Lib
end
section
open Go.RowKit Go.Lib
end
section
open Go.RowKit Go.Lib
end
section
open Go.RowKit Go.Lib
theorem B9.at4{w:World}{base:Nat}{v:Value}{a b c d:ByteArray}(h:B9 w base v [a,b,c,d]):∃g cap,v=.slice (some ⟨g,0,none⟩) 4 cap∧base≤g∧g<w.heap.size∧
  ∀w',Fp [] w w'→w'.cell? ⟨g,0,none⟩=some (.string a)∧w'.cell? ⟨g,1,none⟩=some (.string b)∧w'.cell? ⟨g,2,none⟩=some (.string c)∧w'.cell? ⟨g,3,none⟩=some (.string d):=by
 rcases h.at with⟨_,h|⟨g,cap,hv,hg,hl,hc⟩⟩
 ·cases h
 ·refine⟨g,cap,hv,hg,hl,fun w' hf=>?_⟩
  have k:∀i (hi:i<[a,b,c,d].length),w'.cell? ⟨g,i,none⟩=some (.string [a,b,c,d][i]):=fun i hi=>(hf.cell (p:=⟨g,i,none⟩) hl a0z).trans (hc i hi)
  exact⟨k 0 (by simp),k 1 (by simp),k 2 (by simp),k 3 (by simp)⟩
end
section
open Go.RowKit Go.Lib
end
section
open Go.RowKit Go.Lib
theorem A2.none{w:World}{base:Nat}{v:Value}(h:A2 w base v []):∃a cap,v=.slice a 0 cap:=by
 obtain⟨a,cap,e,_⟩:=h.at (by simp);exact⟨a,cap,e⟩
theorem Iq.fp{w w':World}(h:Iq w)(hf:Fp [] w w'):Iq w':=⟨h.mx.fp hf a0z,h.er.fp hf a0z a0z⟩
end
section
open Go.RowKit Go.Lib
theorem Vf:∀(l:List ByteArray) (i:Nat) (acc:List Ac),(∀t∈l,t.size≤100000000)→(∀c∈acc,Dn c)→(∀c∈(G9 i acc l).1,Dn c)∧(G9 i acc l).1.length≤acc.length+l.length∧(G9 i acc l).2.1≤i+l.length∧(G9 i acc l).2.2≤70
 |[],i,acc,_,h=>⟨h,a0w _,a0v _,a0v _⟩
 |t::r,i,acc,hl,h=>by
  have hr:∀t∈r,t.size≤100000000:=fun x hx=>hl x (by simp[hx])
  cases hs:J8 t
  ·cases hp:Gl t with
   |none=>
    rw[fU hs hp];exact⟨by simp,a0v _,by show i+1≤i+(r.length+1);omega,a0w _⟩
   |some c=>
    rw[fV hs hp];have hc:=fS (hl t (by simp)) hp
    obtain⟨h1,h2,h3,h4⟩:=Vf r (i+1) (acc++[c]) hr (by
     intro x hx
     rcases List.mem_append.1 hx with hx|hx
     ·exact h x hx
     ·rw[List.mem_singleton.1 hx];exact hc)
    exact⟨h1,by rw[List.length_append] at h2;simp only[a1z,List.length_nil] at h2 ⊢;omega,by rw[a1z];omega,h4⟩
  ·rw[Yj hs];obtain⟨h1,h2,h3,h4⟩:=Vf r (i+1) acc hr h;exact⟨h1,by rw[a1z];omega,by rw[a1z];omega,h4⟩
theorem uV(s:ByteArray)(hs:s.size≤100000000):(∀c∈(Ed s).1,Dn c)∧(Ed s).1.length≤100000001∧(Ed s).2.1≤100000001∧(Ed s).2.2≤71:=by
 unfold Ed;split
 ·exact⟨by simp,a0v _,a0v _,a0w _⟩
 ·have hl:=Xj 10 s;obtain⟨h1,h2,h3,h4⟩:=Vf (Hl 10 s) 0 [] (fun t ht=>by have:=Om ht;omega) (by simp);refine⟨h1,?_,by omega,by omega⟩;have:([]:List Ac).length=0:=rfl;omega
theorem uW(s:ByteArray)(w:World)(hs:s.size≤100000000)(ht:Ce w):
  Calls Tryz.prog 44 #[.string s] w fun e w'=>e=.returned (.int .u32 (D5 0 s))∧Fp [] w w':=by
 have H:=a0x (fun w ht=>Ro s w hs ht);have HT:=a0x ht;clear ht;go_enter Tryz.func44,Tryz.ntmps44;go_wp2_with (fail);(with_reducible refine(H.out _ HT.out).mono ?_);rintro e w1 ⟨rfl,hf⟩;have HF:=a0x hf;clear hf;go_wp2_with (fail);go_ret;exact⟨rfl,HF.out⟩
theorem uX{w:World}(h:TabIs Tryz.prog w "rickyard/crc.four" .u32 (Ih.map fun(n:Nat)=>(n:Int))):Ce w:=by
 intro i hi;have:=h.cell (g:=0) (by kernel_rfl) i (by rw[a1x];exact hi);rw[this]
 have key:∀r,r<16→(Ih.map fun(n:Nat)=>(n:Int)).getD r 0=((Ih.getD r 0:Nat):Int):=by decide
 rw[key i hi]
theorem Yk{W:World}{r:List (String × DataW Unit)}(h:laidMet Tryz.prog (("rickyard/crc.four",tabData .u32 (Ih.map fun(n:Nat)=>(n:Int)))::r) W.memory):Ce W:=
 uX (show TabIs Tryz.prog W.memory "rickyard/crc.four" .u32 (Ih.map fun(n:Nat)=>(n:Int)) from tabIs_of_head (show Tryz.prog.globalNamed "rickyard/crc.four" =some 0 by kernel_rfl) (show(Tryz.prog.globals[0]?).map (·.type)=some 237 by kernel_rfl) Tryz.underlying237 Tryz.underlying26 (by kernel_rfl) (by kernel_rfl) h)
end
section
open Go.RowKit Go.Lib
def O4:List Nat→Nat
 |[]=>0
 |e::r=>if e=0 then O4 r else e
theorem fW:∀(l:List Nat) (i:Nat) (hi:i<l.length),(∀j (_ :j<i),l[j]'(by omega)=0)→l[i]≠0→O4 l=l[i]
 |[],i,hi,_,_=>absurd hi (Nat.not_lt_zero _)
 |x::l,0,_,_,hx=>by rw[O4,if_neg (by simpa using hx)];rfl
 |x::l,i+1,hi,h,hx=>by
  rw[O4,if_pos (show x=0 from h 0 (Nat.zero_lt_succ _))];exact fW l i (by simpa using hi) (fun j hj=>h (j+1) (Nat.succ_lt_succ hj)) (by simpa using hx)
def J9(ps:List (Nat × List Ac)):List Nat:=ps.map fun x=>(Hh x.2 0).2
def Ji(ps:List (Nat × List Ac)):List ByteArray:=ps.map fun x=>(Hh x.2 0).1
inductive Gv(s:ByteArray)(borders:List ByteArray)(m wid mo:Int):Nat→List ByteArray→Prop
 |parse:(Ed s).2.2≠0→Gv s borders m wid mo (Ed s).2.2 []
 |none:(Ed s).2.2=0→(Ed s).1=[]→Gv s borders m wid mo 1 []
 |sort:(Ed s).2.2=0→(Ed s).1≠[]→(m<1∨wid<2)→Gv s borders m wid mo 1 []
 |cut:(Ed s).2.2=0→(Ed s).1≠[]→1≤m→2≤wid→(G8 borders=false∨mo<1)→Gv s borders m wid mo 1 []
 |build (r:List Ad) (out:List (List Ac)) (most:Nat):(Ed s).2.2=0→(Ed s).1≠[]→1≤m→2≤wid→G8 borders=true→1≤most→mo=(most:Int)→B7 (Ds (Ed s).1) r→Fo (r.map (·.c)) borders out→O4 (J9 (Lq most out))≠0→Gv s borders m wid mo (O4 (J9 (Lq most out))) []
 |ok (r:List Ad) (out:List (List Ac)) (most:Nat):(Ed s).2.2=0→(Ed s).1≠[]→1≤m→2≤wid→G8 borders=true→1≤most→mo=(most:Int)→B7 (Ds (Ed s).1) r→Fo (r.map (·.c)) borders out→(∀e∈J9 (Lq most out),e=0)→Gv s borders m wid mo 0 (Ji (Lq most out))
theorem uY{x y:Ad}(h:Dq x y<0):Ez x.c y.c<0:=by
 unfold Dq Ez K3 at h;simp only at h;rw[R9,P4 0] at h;unfold Ez;rw[R9]
 by_cases h1:Gu x.c.row y.c.row=0
 ·by_cases h2:Gu x.c.col y.c.col=0
  ·by_cases h3:Du y.c.ts x.c.ts=0
   ·simp[h1,h2,h3] at h
   ·simp[h1,h2,h3] at h ⊢;exact h
  ·simp[h1,h2] at h ⊢;exact h
 ·simp[h1] at h ⊢;exact h
theorem Dx.risC{r:List Ad}(h:Dx r):risC (r.map (·.c))=true:=by
 refine Ue fun j hj=>?_
 rcases Nat.eq_zero_or_pos j with rfl|h0
 ·rfl
 rw[a1x] at hj;rw[aP (k:=j) (m:=j-1) (by rw[a1x];exact hj) (by omega) (r[j-1]'(by omega)).c (r[j]'hj).c (by rw[List.getElem_map]) (by rw[List.getElem_map])];have:=uY (List.pairwise_iff_getElem.1 h (j-1) j (by omega) hj (by omega));exact decide_eq_false (by omega)
theorem uZ(s:ByteArray):(Ed s).1.length≤4001:=by
 unfold Ed;split
 ·exact a0v _
 ·rename_i h;have hl:=Xj 10 s;obtain⟨_,h2,_,_⟩:=Vf (Hl 10 s) 0 [] (fun t ht=>by have:=Om ht;omega) (by simp);have:([]:List Ac).length=0:=rfl;omega
theorem A2.at4{w:World}{base:Nat}{v:Value}{l:List Ac}(h:A2 w base v l)(hok:∀c∈l,Dn c):∃a cap,v=.slice a l.length cap∧l.length≤cap∧(a=Option.none∧cap=0∨∃b o,a=some ⟨b,o,Option.none⟩)∧Bt w a l.length l:=by
 obtain⟨a,cap,e,h0,h1,h2⟩:=h.at5 hok;refine⟨a,cap,e,h0,?_,h2⟩
 rcases h.2 with⟨h3,_⟩|⟨g,c2,cur,h3,_⟩
 ·rw[e] at h3
  injection h3 with h4 h5 h6
  exact Or.inl ⟨h4,h6⟩
 ·rw[e] at h3;cases h3;exact Or.inr ⟨g,0,rfl⟩
theorem vA{l:List Ac}{x:Ad}(h:x∈Ds l):x.c∈l:=by
 obtain⟨i,hi,e⟩:=List.mem_iff_getElem.1 h;have hl:(Ds l).length=l.length:=O9 l _;rw[←e,show(Ds l)[i]=⟨l.getD i Bv,i⟩ from Vs l l.length i hi];show l.getD i Bv∈l;rw[a0u,List.getElem?_eq_getElem (by omega)];exact List.getElem_mem _
theorem fX(l:List Ac)(most:Nat):(Lp l most).flatten=l:=by
 unfold Lp;rw[bZ,Us l 0 0 (a0w _) (Or.inr rfl),List.drop_zero]
theorem vB{most:Nat}{out:List (List Ac)}{k:Nat}{x:Nat × List Ac}(hx:x∈Hw most out k){c:Ac}(hc:c∈x.2):c∈out.flatten:=by
 unfold Hw at hx;obtain⟨i,-,hi⟩:=List.mem_flatMap.1 hx;obtain⟨r,hr,rfl⟩:=List.mem_map.1 hi
 have h1:c∈out.getD i []:=by
  rw[←fX (out.getD i []) most];exact List.mem_flatten.2 ⟨r,hr,hc⟩
 rw[a0u] at h1
 cases h2:out[i]? with
 |none=>rw[h2] at h1;simp at h1
 |some y=>
  rw[h2] at h1;exact List.mem_flatten.2 ⟨y,a1w h2,h1⟩
theorem vC{most:Nat}{out:List (List Ac)}{k:Nat}{x:Nat × List Ac}(hx:x∈Hw most out k):x.2.length≤out.flatten.length:=by
 unfold Hw at hx;obtain⟨i,-,hi⟩:=List.mem_flatMap.1 hx;obtain⟨r,hr,rfl⟩:=List.mem_map.1 hi
 have h1:r.length≤(out.getD i []).length:=by
  have:=Ut hr;rw[fX] at this;exact this
 rw[a0u] at h1
 cases h2:out[i]? with
 |none=>rw[h2] at h1;simp at h1;simp[h1]
 |some y=>
  rw[h2] at h1;exact Nat.le_trans h1 (Ut (a1w h2))
theorem E7.low{W W':World}{base:Nat}{v:Value}{ps:List (Nat × List Ac)}(h:E7 W base v ps)(hl:∀k,base≤k→k<W.heap.size→W'.heap[k]?=W.heap[k]?):E7 W' base v ps:=by
 obtain⟨hs,h1,h2⟩:=h;exact⟨hs,h1.kept fun k hk=>hl k (h1.lt k hk).1 (h1.lt k hk).2,K7 (fun _ _ h=>⟨h.1,h.2.kept fun k hk=>hl k (h.2.lt k hk).1 (h.2.lt k hk).2⟩) h2⟩
theorem E7.get{W:World}{base i:Nat}{v:Value}{ps:List (Nat × List Ac)}(h:E7 W base v ps)(hi:i<ps.length):∃g cap a n c,v=.slice (some ⟨g,0,Option.none⟩) ps.length cap∧W.cell? ⟨g,i*2,Option.none⟩=some (.int .i64 (ps[i].1:Nat))∧W.cell? ⟨g,i*2+1,Option.none⟩=some (.slice a n c)∧A2 W base (.slice a n c) ps[i].2:=by
 obtain⟨hs,h1,h2⟩:=h;have hl:=h2.length_eq;obtain⟨g,cap,cur,rfl,-,-,-,-,-,-⟩:=h1.open (by omega);obtain⟨hq,-⟩:=h1.elem (i:=i) (by omega);obtain⟨e1,e2⟩:=h2.nth i (by omega) hi;have c0:=hq 0 (.int .i64 (hs[i]'(by omega)).1) rfl;have c1:=hq 1 (cE (hs[i]'(by omega))) rfl;rw[e1] at c0;exact⟨g,cap,_,_,_,by rw[hl],c0,c1,e2⟩
end
end Go.Proofs.YtkagolpnaicdoaaGreatDoor
