/-
 Lines of input: words, pieces between a byte. odd, Word, name. The steps of line: one for each word. line: a line of input as a cell.
-/
import Derived.Test.YtkagolpnaicdoaaGreatDoorMCellPure
import Derived.Shelf.GgClosure.StringsIndexFunc
import Derived.Laws.RangeAny
import Derived.Lib.Split
import Derived.Test.YtkagolpnaicdoaaGreatDoorMRegion
import Derived.Test.YtkagolpnaicdoaaGreatDoorMMaps
import Derived.Test.YtkagolpnaicdoaaGreatDoorMShelf
import Derived.Test.YtkagolpnaicdoaaGreatDoorMTabA
import Derived.LoopN
import Derived.Laws.EntriesVeiled
set_option maxRecDepth 100000
set_option maxHeartbeats 8000000
open Go.Lib renaming hid→a0z
open List renaming not_mem_nil→a0x,drop_eq_nil_of_le→a0v
open Nat renaming le_refl→a0w
open ByteArray renaming size_extract→a0u
namespace Go.Proofs.YtkagolpnaicdoaaGreatDoor
section
open Go.Lib
def Hf(r:Nat):Bool:=decide (r≤32∨126<r)
def P0(b:UInt8):Bool:=!Hf b.toNat
def Oa(s:ByteArray):Bool:=decide (s.size≠0)&&s.data.toList.all P0
theorem dK{s:ByteArray}{i:Nat}(h:i<s.size):s.data.toList[i]?=some s[i]:=Lib.data_getElem? s i h
theorem dL(s:ByteArray):∀(f pos:Nat),s.size≤pos+f→(idxFuncFrom Hf true s f pos= -1↔∀j (h:j<s.size),pos≤j→P0 s[j]=true)
 |0,pos,hf=>by
  constructor
  ·intro _ j h hj;omega
  ·intro _;rfl
 |f+1,pos,hf=>by
  by_cases hp:pos<s.size
  ·unfold idxFuncFrom;rw[if_pos hp]
   by_cases hb:(s[pos]'hp).toNat<128
   ·rw[decode_ascii s pos hp hb]
    by_cases ho:Hf (s[pos]'hp).toNat=true
    ·rw[if_pos ho];constructor
     ·intro h;omega
     ·intro h;have:=h pos hp (a0w _);unfold P0 at this;rw[ho] at this;cases this
    ·rw[if_neg ho];have ih:=dL s f (pos+1) (by omega);rw[ih];constructor
     ·intro h j hj hpj
      by_cases e:j=pos
      ·subst e;unfold P0;simpa using ho
      ·exact h j hj (by omega)
     ·intro h j hj hpj;exact h j hj (by omega)
   ·have hh:=decode_high s pos hp (by omega)
    have ho:Hf (Utf8.decode s pos).1=true:=by unfold Hf;exact decide_eq_true (by omega)
    rw[if_pos ho];constructor
    ·intro h;omega
    ·intro h;have:=h pos hp (a0w _)
     have h2:Hf (s[pos]'hp).toNat=true:=by unfold Hf;exact decide_eq_true (by omega)
     unfold P0 at this;rw[h2] at this;cases this
  ·rw[idxFuncFrom_end _ _ _ _ _ hp];constructor
   ·intro _ j h hj;omega
   ·intro _;rfl
theorem rU(s:ByteArray):decide (idxFunc Hf true s<0)=s.data.toList.all P0:=by
 have h:=dL s s.size 0 (by omega);have hr:=idxFuncFrom_range Hf true s s.size 0;unfold idxFunc;rw[Bool.eq_iff_iff,decide_eq_true_eq,List.all_eq_true];constructor
 ·intro h0 b hb
  have h1:idxFuncFrom Hf true s s.size 0= -1:=by omega
  obtain⟨j,hj,rfl⟩:=List.getElem_of_mem hb
  have hj2:j<s.size:=by rw[size_eq];exact hj
  have:=h.1 h1 j hj2 (Nat.zero_le _);have e:=dK hj2;rw[List.getElem?_eq_getElem hj] at e;rw[Option.some.inj e];exact this
 ·intro ha;have:idxFuncFrom Hf true s s.size 0= -1:=h.2 (fun j hj _=>ha _ (List.mem_of_getElem? (dK hj)));omega
def Hv(c:UInt8):List UInt8→List (List UInt8)
 |[]=>[[]]
 |b::l=>if b=c then[]::Hv c l else match Hv c l with
  |[]=>[[b]]
  |h::t=>(b::h)::t
theorem rV(c:UInt8)(l:List UInt8):∃h t,Hv c l=h::t:=by
 induction l with
 |nil=>exact⟨[],[],rfl⟩
 |cons b l ih=>
  obtain⟨h,t,e⟩:=ih;unfold Hv
  by_cases hb:b=c
  ·rw[if_pos hb];exact⟨_,_,rfl⟩
  ·rw[if_neg hb,e];exact⟨_,_,rfl⟩
theorem rW(c:UInt8)(l:List UInt8)(h:∀b∈l,b≠c):Hv c l=[l]:=by
 induction l with
 |nil=>rfl
 |cons b l ih=>
  unfold Hv;rw[if_neg (h b (by simp)),ih (fun x hx=>h x (by simp[hx]))]
theorem rX(c:UInt8)(a l:List UInt8)(h:∀b∈a,b≠c):Hv c (a++c::l)=a::Hv c l:=by
 induction a with
 |nil=>show Hv c (c::l)=_;conv=>lhs;unfold Hv
       rw[if_pos rfl]
 |cons b a ih=>
  show Hv c (b::(a++c::l))=_
  conv=>lhs;unfold Hv
  rw[if_neg (h b (by simp)),ih (fun x hx=>h x (by simp[hx]))]
theorem Ug(c:UInt8):∀l:List UInt8,(index l [c]= -1∧(∀b∈l,b≠c))∨∃a r,l=a++c::r∧index l [c]=(a.length:Nat)∧∀b∈a,b≠c
 |[]=>Or.inl ⟨by simp[index],by simp⟩
 |b::l=>by
  by_cases h:b=c
  ·subst h;exact Or.inr ⟨[],l,rfl,by simp[index,List.isPrefixOf],by simp⟩
  ·have hp:([c]:List UInt8).isPrefixOf (b::l)=false:=by simp[List.isPrefixOf,Ne.symm h]
   have hix:index (b::l) [c]=if index l [c]==-1 then -1 else index l [c]+1:=by rw[index,hp];simp
   rcases Ug c l with⟨h1,h2⟩|⟨a,r,h1,h2,h3⟩
   ·left;refine⟨by rw[hix,h1];rfl,?_⟩;intro x hx
    rcases List.mem_cons.1 hx with hx|hx
    ·rw[hx];exact h
    ·exact h2 x hx
   ·right;refine⟨b::a,r,by rw[h1];rfl,?_,?_⟩
    ·rw[hix,h2]
     have:(((a.length:Nat):Int)==-1)=false:=by rw[beq_eq_false_iff_ne];omega
     rw[this];simp
    ·intro x hx
     rcases List.mem_cons.1 hx with hx|hx
     ·rw[hx];exact h
     ·exact h3 x hx
theorem dM(c:UInt8):∀(k:Nat) (s:ByteArray),countB s ⟨#[c]⟩=k→(splitB ⟨#[c]⟩ 0 k s).map (fun x=>x.data.toList)=Hv c s.data.toList
 |0,s,hk=>by
  rcases Ug c s.data.toList with⟨h1,h2⟩|⟨a,r,h1,h2,h3⟩
  ·rw[rW c _ h2];rfl
  ·have:=count_hit (s:=s.data.toList) (sub:=[c]) (by simp) h2;have hk':count s.data.toList [c]=0:=hk;omega
 |k+1,s,hk=>by
  have hk':count s.data.toList [c]=k+1:=hk
  rcases Ug c s.data.toList with⟨h1,h2⟩|⟨a,r,h1,h2,h3⟩
  ·rw[count_miss h1] at hk';omega
  ·have hc:=count_hit (s:=s.data.toList) (sub:=[c]) (by simp) h2;have hib:indexB s ⟨#[c]⟩=(a.length:Nat):=h2
   have hd:s.data.toList.drop (a.length+[c].length)=r:=by
    rw[h1,List.drop_append,a0v (by simp)];simp
   have hsz:(⟨#[c]⟩:ByteArray).size=1:=rfl;rw[hd] at hc
   have he:(s.extract (a.length+1) s.size).data.toList=r:=by
    rw[extract_to_end];exact hd
   have ih:=dM c k (s.extract (a.length+1) s.size) (by show count _ _ =k;rw[he];show count r [c]=k;omega);unfold splitB;rw[hib,if_neg (by simp)];simp only[List.map_cons,Nat.add_zero,Int.toNat_natCast,hsz];rw[ih,he,h1,rX c a r h3,extract_data,h1];simp
theorem dN(c:UInt8):∀(k:Nat) (s:ByteArray),countB s ⟨#[c]⟩=k→(splitB ⟨#[c]⟩ 0 k s).length=k+1
 |0,s,hk=>rfl
 |k+1,s,hk=>by
  have hk':count s.data.toList [c]=k+1:=hk
  rcases Ug c s.data.toList with⟨h1,h2⟩|⟨a,r,h1,h2,h3⟩
  ·rw[count_miss h1] at hk';omega
  ·have hc:=count_hit (s:=s.data.toList) (sub:=[c]) (by simp) h2;have hib:indexB s ⟨#[c]⟩=(a.length:Nat):=h2;have hsz:(⟨#[c]⟩:ByteArray).size=1:=rfl
   have hd:s.data.toList.drop (a.length+[c].length)=r:=by
    rw[h1,List.drop_append,a0v (by simp)];simp
   rw[hd] at hc
   have he:(s.extract (a.length+1) s.size).data.toList=r:=by
    rw[extract_to_end];exact hd
   have ih:=dN c k (s.extract (a.length+1) s.size) (by show count _ _ =k;rw[he];show count r [c]=k;omega);rw[splitB_hit _ _ _ _ a.length hib,List.length_cons,hsz,ih]
theorem dO(sep:ByteArray):∀(k:Nat) (s:ByteArray),∀x∈splitB sep 0 k s,x.size≤s.size
 |0,s=>by intro x hx;rw[splitB_zero] at hx;simp at hx;rw[hx];exact a0w _
 |k+1,s=>by
  by_cases h:indexB s sep= -1
  ·rw[splitB_miss _ _ _ _ h];intro x hx;simp at hx;rw[hx];exact a0w _
  ·unfold splitB;rw[if_neg (by simpa using h)];intro x hx
   rcases List.mem_cons.1 hx with hx|hx
   ·rw[hx,a0u];omega
   ·have:=dO sep k _ x hx;rw[a0u] at this;omega
def Hg(c:UInt8)(s:ByteArray):List ByteArray:=splitB ⟨#[c]⟩ 0 (countB s ⟨#[c]⟩) s
theorem rY(c:UInt8)(s:ByteArray):(Hg c s).length=countB s ⟨#[c]⟩+1:=dN c _ s rfl
theorem Ob{c:UInt8}{s:ByteArray}{x:ByteArray}(h:x∈Hg c s):x.size≤s.size:=dO _ _ _ x h
theorem rZ(c:UInt8)(l:List UInt8):(Hv c l).length≤l.length+1:=by
 induction l with
 |nil=>exact a0w _
 |cons b l ih=>
  unfold Hv;obtain⟨h,t,e⟩:=rV c l;rw[e] at ih ⊢
  split<;>simp at ih ⊢ <;>omega
theorem sA(c:UInt8)(s:ByteArray):(Hg c s).map (fun x=>x.data.toList)=Hv c s.data.toList:=dM c _ s rfl
theorem Xj(c:UInt8)(s:ByteArray):(Hg c s).length≤s.size+1:=by
 have h:=rZ c s.data.toList;rw[←sA,List.length_map,←size_eq] at h;exact h
end
section
open Go.RowKit Go.Lib
theorem sB(w:World):PredAt Tryz.prog 202 #[] encR Hf w:=fun W r _=>by
 unfold FnGives
 by_cases h1:r≤32<;>by_cases h2:126<r
 all_goals
  have z1:(r:Int)≤32↔r≤32:=by omega
  have z2:(r:Int)>126↔126<r:=by omega
  go_enter Tryz.func202,Tryz.ntmps202;go_wp2
  all_goals first|(exfalso;omega)|(go_ret;exact⟨by unfold Hf;simp[h1,h2],0,rfl⟩)
theorem sC(s:ByteArray)(w:World):
  Calls Tryz.prog 201 #[.string s,.func (.func 202) #[] #[]] w fun e w'=>e=.returned (.int .i64 (idxFunc Hf true s))∧Fp [] w w':=
 (Tryz.strings_IndexFunc 202 #[] (enters_of Tryz.func202 (by kernel_rfl) rfl) Hf s w (sB w)).mono fun _ _ ⟨h,hb⟩=>⟨h,Below.toFp hb⟩
def Nb(s:ByteArray):Bool:=Oa s&&decide (s.size≤40)
theorem sD(s:ByteArray):Oa s=(decide (s.size≠0)&&decide (idxFunc Hf true s<0)):=by
 unfold Oa;rw[rU]
theorem dP(s:ByteArray)(w:World):
  Calls Tryz.prog 129 #[.string s] w fun e w'=>e=.returned (.bool (Oa s))∧Fp [] w w':=by
 have hI:=a0z (sC s);rw[sD]
 by_cases h0:s.size=0
 ·have hem:=cK h0;go_enter Tryz.func129,Tryz.ntmps129;go_wp2_with (fail);go_ret;exact⟨by rw[decide_eq_false (by omega)];rfl,Fp.refl _ _⟩
 ·have hem:=N6 (s:=s) (by omega);rw[decide_eq_true h0,Bool.true_and]
  obtain⟨I,hi⟩:∃I,idxFunc Hf true s=I:=⟨_,rfl⟩
  rw[hi] at hI ⊢;go_enter Tryz.func129,Tryz.ntmps129;go_wp2_with (fail);(with_reducible refine(hI.out _).mono ?_);rintro e w1 ⟨rfl,hf⟩;have HF:=a0z hf;clear hf;go_wp2_with (fail);go_ret;exact⟨rfl,HF.out⟩
theorem dQ(s:ByteArray)(w:World):
  Calls Tryz.prog 123 #[.string s] w fun e w'=>e=.returned (.bool (Nb s))∧Fp [] w w':=by
 have hI:=a0z (dP s);unfold Nb
 obtain⟨b,hb⟩:∃b,Oa s=b:=⟨_,rfl⟩
 rw[hb] at hI ⊢;cases b
 ·go_enter Tryz.func123,Tryz.ntmps123;go_wp2_with (fail);(with_reducible refine(hI.out _).mono ?_);rintro e w1 ⟨rfl,hf⟩;have HF:=a0z hf;clear hf;go_wp2_with (fail);go_ret;exact⟨rfl,HF.out⟩
 ·go_enter Tryz.func123,Tryz.ntmps123;go_wp2_with (fail);(with_reducible refine(hI.out _).mono ?_);rintro e w1 ⟨rfl,hf⟩;have HF:=a0z hf;clear hf;go_wp2_with (fail);go_ret;refine⟨?_,HF.out⟩;refine K8 ?_;rw[Bool.true_and];exact decide_eq_decide.2 (by omega)
end
section
open Go.RowKit Go.Lib
theorem sE(s:ByteArray)(c:Ac)(b:Nat)(w:World)(hc:Ci w b c):
  Calls Tryz.prog 122 #[.string s,.pointer (some ⟨b,0,none⟩)] w fun e w'=>e=.returned (.bool (Nb s))∧Ci w' b {c with row:=s}∧Fp [b] w w':=by
 have hN:=a0z (dQ s);have HC:=a0z hc;have q0:w.cell? ⟨b,0,none⟩=some (.string c.row):=hc.cell 0;have f0:=hc.free 0;clear hc;go_enter Tryz.func122,Tryz.ntmps122;go_wp2_with (fail);(with_reducible refine(hN.out _).mono ?_);rintro e w1 ⟨rfl,hf⟩;have HF:=a0z hf;clear hf;go_wp2_with (fail);go_ret;exact⟨rfl,(HC.out.set (c':={c with row:=s}) 0 (.string s) rfl).fp HF.out a0x,(Fp.setCell _ _ _).trans HF.out (by simp)⟩
theorem sF(s:ByteArray)(c:Ac)(b:Nat)(w:World)(hc:Ci w b c):
  Calls Tryz.prog 124 #[.string s,.pointer (some ⟨b,0,none⟩)] w fun e w'=>e=.returned (.bool (Nb s))∧Ci w' b {c with col:=s}∧Fp [b] w w':=by
 have hN:=a0z (dQ s);have HC:=a0z hc;have q0:w.cell? ⟨b,1,none⟩=some (.string c.col):=hc.cell 1;have f0:=hc.free 1;clear hc;go_enter Tryz.func124,Tryz.ntmps124;go_wp2_with (fail);(with_reducible refine(hN.out _).mono ?_);rintro e w1 ⟨rfl,hf⟩;have HF:=a0z hf;clear hf;go_wp2_with (fail);go_ret;exact⟨rfl,(HC.out.set (c':={c with col:=s}) 1 (.string s) rfl).fp HF.out a0x,(Fp.setCell _ _ _).trans HF.out (by simp)⟩
def dR(s:ByteArray)(u:Nat)(ev:Value):Prop:=(ev=.nilIface∧parseUintB 64 s.data.toList=.ok u)∨((∃t p,ev=.iface t p)∧∀n,parseUintB 64 s.data.toList≠.ok n)
structure Oc(w:World):Prop where
 sy:∃tp p,w.cell? ⟨3,0,none⟩=some (.iface tp p)
 rg:∃tp p,w.cell? ⟨4,0,none⟩=some (.iface tp p)
theorem dS{w w':World}{S:List Nat}{g:Nat}{v:Value}(h:w.cell? ⟨g,0,none⟩=some v)(hf:Fp S w w')(hs:g∉S):w'.cell? ⟨g,0,none⟩=some v:=
 (hf.cell (p:=⟨g,0,none⟩) (World.block_lt_of_cell? _ _ h) hs).trans h
theorem Oc.fp{w w':World}{S:List Nat}(h:Oc w)(hf:Fp S w w')(h1:3∉S)(h2:4∉S):Oc w':=by
 obtain⟨⟨t1,p1,q1⟩,⟨t2,p2,q2⟩⟩:=h;exact⟨⟨t1,p1,dS q1 hf h1⟩,⟨t2,p2,dS q2 hf h2⟩⟩
theorem Fp.bytesWorld(w:World)(t:TypeId)(s:ByteArray):Fp [] w (Lib.bytesWorld w t s):=Below.toFp (Lib.bytesWorld_below _ _ _)
theorem sG(s:ByteArray)(w:World)(hs:s.size≤100000000)(he:Oc w):
  Calls Tryz.prog 126 #[.string s,.int .i64 10,.int .i64 64] w fun e w'=>∃u ev,e=.returned (.tuple #[.int .u64 (u:Nat),ev])∧dR s u ev∧u<18446744073709551616∧Fp [] w w':=by
 obtain⟨⟨t1,p1,q1⟩,⟨t2,p2,q2⟩⟩:=he
 cases h:parseUintB 64 s.data.toList with
 |ok u=>
  refine(Tryz.strconv_ParseUint_10_at64_ok s (by omega) u h w).mono ?_;rintro e w' ⟨rfl,hw⟩;refine⟨u,_,rfl,Or.inl ⟨rfl,h⟩,?_,?_⟩
  ·have:=parseUintB_le h;omega
  ·rcases hw with rfl|rfl
   ·exact Fp.refl _ _
   ·exact Fp.bytesWorld _ _ _
 |range=>
  refine(Tryz.strconv_ParseUint_10_at64_range s (by omega) h _ w q2 (Or.inr ⟨_,_,rfl⟩)).mono ?_;rintro e w' ⟨N,rfl,_,_,hb⟩;exact⟨18446744073709551615,_,rfl,Or.inr ⟨⟨_,_,rfl⟩,fun n hn=>by rw[h] at hn;cases hn⟩,by decide,Below.toFp hb⟩
 |_=>
  refine(Any.strconv_ParseUint_10_at64_syntax Tryz.laysPu14 s (by omega) h _ w q1 (Or.inr ⟨_,_,rfl⟩)).mono ?_;rintro e w' ⟨N,rfl,_,_,hb⟩;exact⟨0,_,rfl,Or.inr ⟨⟨_,_,rfl⟩,fun n hn=>by rw[h] at hn;cases hn⟩,by decide,Below.toFp hb⟩
def Jr(s:ByteArray):Option Nat:=match parseUintB 64 s.data.toList with
 |.ok u=>if s.size≤18 then some u else none
 |_=>none
theorem sH{s:ByteArray}{u:Nat}{ev:Value}(h:dR s u ev):(Jr s=some u∧ev=.nilIface∧s.size≤18)∨(Jr s=none∧(ev=.nilIface∧¬s.size≤18))∨(Jr s=none∧∃t p,ev=.iface t p):=by
 rcases h with⟨rfl,h⟩|⟨⟨t,p,rfl⟩,h⟩
 ·unfold Jr;rw[h]
  by_cases hs:s.size≤18
  ·exact Or.inl ⟨if_pos hs,rfl,hs⟩
  ·exact Or.inr (Or.inl ⟨if_neg hs,rfl,hs⟩)
 ·right;right;refine⟨?_,t,p,rfl⟩;unfold Jr;split
  ·rename_i u h2;exact absurd h2 (h u)
  ·rfl
theorem sI(s:ByteArray)(c:Ac)(b:Nat)(w:World)(hc:Ci w b c)(hs:s.size≤100000000)(he:Oc w):
  Calls Tryz.prog 125 #[.string s,.pointer (some ⟨b,0,none⟩)] w fun e w'=>e=.returned (.bool (Jr s).isSome)∧(∃u,(Jr s=none∨Jr s=some u)∧Ci w' b {c with ts:=u})∧Fp [b] w w':=by
 have hN:=a0z (fun w=>sG s w hs);have HC:=a0z hc;have HE:=a0z he;clear hc he;go_enter Tryz.func125,Tryz.ntmps125;go_wp2_with (fail);(with_reducible refine(hN.out _ HE.out).mono ?_);rintro e w1 ⟨u,ev,rfl,ho,hu,hf⟩;have HC1:=a0z (HC.out.fp hf (by simp));have HF:=a0z hf;have q0:w1.cell? ⟨b,2,none⟩=some (.int .u64 c.ts):=HC1.out.cell 2;have f0:=HC1.out.free 2;clear hf
 rcases sH ho with⟨h1,rfl,h2⟩|⟨h1,rfl,h2⟩|⟨h1,t,p,rfl⟩
 all_goals
  clear ho;have H1:=a0z h1;clear h1;go_wp2_with (fail);go_ret;rw[H1.out];refine⟨?_,⟨u,?_,HC1.out.set 2 _ rfl⟩,(HF.out.mono (S':=[b]) (by simp)).trans (Fp.setCell _ _ _) (by simp)⟩
  ·first|exact K8 rfl|exact K8 (decide_eq_true (by omega))|exact K8 (decide_eq_false (by omega))
  ·first|exact Or.inl rfl|exact Or.inr rfl
theorem sJ(s:ByteArray)(w:World):
  Calls Tryz.prog 128 #[.string s,.string ⟨#[61]⟩] w fun e w'=>e=.returned (.tuple #[.string ⟨(Lib.trimPrefix s.data.toList [61]).toArray⟩,.bool (Lib.hasPrefix s.data.toList [61])])∧w=w':=
 (Tryz.strings_CutPrefix s ⟨#[61]⟩ w).mono fun _ _ ⟨h1,h2⟩=>⟨h1,h2.symm⟩
def Hh(s:ByteArray):ByteArray:=⟨(Lib.trimPrefix s.data.toList [61]).toArray⟩
def Ir(s:ByteArray):Bool:=s.toList==[45]
def Q9(s:ByteArray):Bool:=Lib.hasPrefix s.data.toList [61]&&(Oa s&&decide ((Hh s).size≤100))
theorem sK(s:ByteArray)(c:Ac)(b:Nat)(w:World)(hc:Ci w b c):
  Calls Tryz.prog 127 #[.string s,.pointer (some ⟨b,0,none⟩)] w fun e w'=>e=.returned (.bool (Ir s||Q9 s))∧Ci w' b {c with del:=Ir s,val:=if Ir s=true then c.val else Hh s}∧Fp [b] w w':=by
 have hN:=a0z (dP s);have hCut:=a0z (sJ s);have HC:=a0z hc;have q4:w.cell? ⟨b,4,none⟩=some (.bool c.del):=hc.cell 4;have f4:=hc.free 4;clear hc
 obtain⟨g,hg⟩:∃g,Ir s=g:=⟨_,rfl⟩
 have hg2:(s.toList==[45])=g:=hg;rw[hg];have HC1:=a0z (HC.out.set (c':={c with del:=g}) 4 (.bool g) rfl);have HF1:=a0z (Fp.setCell w ⟨b,4,none⟩ (.bool g));have q41:(w.setCell ⟨b,4,none⟩ (.bool g)).cell? ⟨b,4,none⟩=some (.bool g):=HC1.out.cell 4;cases g
 ·go_enter Tryz.func127,Tryz.ntmps127;go_wp2_with (fail);(with_reducible refine(hCut.out _).mono ?_);rintro e w1 ⟨rfl,rfl⟩;have q5:(w.setCell ⟨b,4,none⟩ (.bool false)).cell? ⟨b,5,none⟩=some (.string c.val):=HC1.out.cell 5;have f5:=HC1.out.free 5;have HC2:=a0z (HC1.out.set (c':={c with del:=false,val:=Hh s}) 5 (.string (Hh s)) rfl);have HF2:=a0z (HF1.out.trans (Fp.setCell _ ⟨b,5,none⟩ (.string (Hh s))) (by simp));have q52:((w.setCell ⟨b,4,none⟩ (.bool false)).setCell ⟨b,5,none⟩ (.string (Hh s))).cell? ⟨b,5,none⟩=some (.string (Hh s)):=HC2.out.cell 5;rw[show(⟨(Lib.trimPrefix s.data.toList [61]).toArray⟩:ByteArray)=Hh s from rfl]
  obtain⟨h,hh⟩:∃h,Lib.hasPrefix s.data.toList [61]=h:=⟨_,rfl⟩
  obtain⟨wb,hw⟩:∃wb,Oa s=wb:=⟨_,rfl⟩
  have HV:Hid (Q9 s=(h&&(wb&&decide ((Hh s).size≤100)))):=by unfold Hid Q9;rw[hh,hw]
  rw[hh];rw[hw] at hN;clear hCut hg hg2;cases h
  ·go_wp2_with (fail);go_ret;rw[HV.out];exact⟨rfl,HC2.out,HF2.out.mono (by simp)⟩
  ·cases wb
   all_goals
    go_wp2_with (fail);(with_reducible refine(hN.out _).mono ?_);rintro e w1 ⟨rfl,hf⟩;have HC3:=a0z (HC2.out.fp hf (by simp));have HF3:=a0z (HF2.out.trans hf (by simp));have q53:w1.cell? ⟨b,5,none⟩=some (.string (Hh s)):=HC3.out.cell 5;clear hf;go_wp2_with (fail);go_ret;rw[HV.out];refine⟨?_,HC3.out,HF3.out.mono (by simp)⟩
   ·exact K8 rfl
   ·exact K8 (decide_eq_decide.2 (by omega))
 ·go_enter Tryz.func127,Tryz.ntmps127;go_wp2_with (fail);go_ret;exact⟨rfl,HC1.out,HF1.out⟩
end
section
open Go.RowKit Go.Lib
def Js(a b c d:ByteArray):Option Ac:=
 if Nb a=true∧Nb b=true∧(Ir d||Q9 d)=true then
  (Jr c).map fun u=>⟨a,b,u,0,Ir d,if Ir d=true then⟨#[]⟩ else Hh d⟩
 else none
def Ge(s:ByteArray):Option Ac:=match Hg 32 s with
 |[a,b,c,d]=>Js a b c d
 |_=>none
theorem sL{s:ByteArray}(h:(Hg 32 s).length≠4):Ge s=none:=by
 unfold Ge;split
 ·rename_i e;rw[e] at h;exact absurd rfl h
 ·rfl
theorem sM{l:List ByteArray}(h:l.length=4):∃a b c d,l=[a,b,c,d]:=by
 match l,h with
 |[a,b,c,d],_=>exact⟨a,b,c,d,rfl⟩
def P1(w:World)(B:Nat)(l:List ByteArray):Prop:=w.heap[B]?=some (.cells (l.map Value.string).toArray 9 (0,0))
theorem P1.fp{w w':World}{B:Nat}{l:List ByteArray}{S:List Nat}(h:P1 w B l)(hf:Fp S w w')(hb:B∉S):P1 w' B l:=(hf.block B (Ab h) hb).trans h
theorem P1.at{w:World}{B:Nat}{l:List ByteArray}(h:P1 w B l)(i:Nat)(hi:i<l.length):w.cell? ⟨B,i,none⟩=some (.string l[i]):=by
 rw[Aa h];simp[hi]
theorem dT(c:UInt8)(s:ByteArray)(w:World)(hs:s.size≤100000000)(hm:Kp w):
  Calls Tryz.prog 84 #[.string s,.string ⟨#[c]⟩] w fun e w'=>
   ∃B,e=.returned (.slice (some ⟨B,0,none⟩) (Hg c s).length (Hg c s).length)∧B=w.heap.size∧P1 w' B (Hg c s)∧Fp [] w w':=by
 obtain⟨m,hm⟩:=hm;rw[rY];refine(Tryz.strings_Split s ⟨#[c]⟩ m w (by omega) hm (a0w 1)).mono ?_;rintro e w' ⟨rfl,rfl⟩;exact⟨_,rfl,rfl,Aj rfl _,Fp.alloc _ _⟩
theorem sN(f0 f1 f2 f3:Value)(w:World):(Instr.index 196 (.agg #[f0,f1,f2,f3]) (.int .i64 0)).run Tryz.prog w=.ok f0 w:=by
 simp[Instr.index,run_underlying Tryz.underlying196,asIntOf,go_sem]
theorem sO(f0 f1 f2 f3:Value)(w:World):(Instr.index 196 (.agg #[f0,f1,f2,f3]) (.int .i64 1)).run Tryz.prog w=.ok f1 w:=by
 simp[Instr.index,run_underlying Tryz.underlying196,asIntOf,go_sem]
theorem sP(f0 f1 f2 f3:Value)(w:World):(Instr.index 196 (.agg #[f0,f1,f2,f3]) (.int .i64 2)).run Tryz.prog w=.ok f2 w:=by
 simp[Instr.index,run_underlying Tryz.underlying196,asIntOf,go_sem]
theorem sQ(f0 f1 f2 f3:Value)(w:World):(Instr.index 196 (.agg #[f0,f1,f2,f3]) (.int .i64 3)).run Tryz.prog w=.ok f3 w:=by
 simp[Instr.index,run_underlying Tryz.underlying196,asIntOf,go_sem]
structure Jt(w:World):Prop where
 mx:Kp w
 er:Oc w
theorem sR(s:ByteArray)(w:World)(hs:s.size≤100000000)(hp:Jt w):
  Calls Tryz.prog 70 #[.string s] w fun e w'=>e=.returned (.tuple #[Dz ((Ge s).getD Bo),.bool (Ge s).isSome])∧Fp [] w w':=by
 have HP:=a0z hp;have hS:=a0z (fun w=>dT 32 s w hs)
 have hmf:∀(fn:Fn) (first cap:Array Value) (w:World),(Instr.makeFunc fn first cap).run Tryz.prog w=.ok (.func fn first cap) w:=fun _ _ _ _=>rfl
 clear hp
 by_cases h4:(Hg 32 s).length=4
 ·obtain⟨a,b,c,d,he⟩:=sM h4;go_enter Tryz.func70,Tryz.ntmps70;go_wp2_with (fail);(with_reducible refine(hS.out _ (HP.out.mx.fp (Fp.alloc _ _) a0x)).mono ?_);rintro e w1 ⟨B,rfl,hB,hrow,hf⟩;rw[he] at hrow ⊢;have HC1:Hid (Ci w1 w.heap.size Bo):=Ci.fp (S:=[]) (Aj rfl _) hf a0x;have HF1:=a0z ((Fp.alloc w _).trans hf (by simp));have HR1:=a0z hrow
  have hBn:B∉[w.heap.size]:=by rw[hB];simp
  have hlen:[a,b,c,d].length=4:=rfl
  have HSC:Hid (c.size≤100000000):=by unfold Hid;have:=Ob (c:=32) (s:=s) (x:=c) (by rw[he];simp);omega
  clear hf hrow hB h4;go_wp2_with (fail)
  obtain⟨w2,hw2⟩:∃w2,w1.alloc (.cells #[.func (.func 122) #[] #[.pointer (some ⟨w.heap.size,0,none⟩)],.func (.func 124) #[] #[.pointer (some ⟨w.heap.size,0,none⟩)],.func (.func 125) #[] #[.pointer (some ⟨w.heap.size,0,none⟩)],.func (.func 127) #[] #[.pointer (some ⟨w.heap.size,0,none⟩)]] 196)=w2:=⟨_,rfl⟩
  rw[hw2]
  have hf2:Fp [] w1 w2:=by rw[←hw2];exact Fp.alloc _ _
  have HC2:=a0z (HC1.out.fp hf2 a0x);have HR2:=a0z (HR1.out.fp hf2 a0x);have HF2:=a0z (HF1.out.trans hf2 (by simp));have p0:w2.cell? ⟨B,0,none⟩=some (.string a):=HR2.out.at 0 (by simp);clear hf2 hw2;have ix0:=sN;have ix1:=sO;have ix2:=sP;have ix3:=sQ;refine wp_loop_rounds 5 ?_;rw[rounds_succ];go_wp2_with (fail);(with_reducible refine(sE a _ _ _ HC2.out).mono ?_);rintro e w3 ⟨rfl,hc,hf⟩;have HC3:=a0z hc;have HR3:=a0z (HR2.out.fp hf hBn);have HF3:=a0z (HF2.out.trans hf (by simp));have p1:w3.cell? ⟨B,1,none⟩=some (.string b):=HR3.out.at 1 (by simp);clear p0 hc hf
  obtain⟨n1,hn1⟩:∃n1,Nb a=n1:=⟨_,rfl⟩
  rw[hn1];cases n1
  ·have HL:Hid (Ge s=none):=by unfold Hid Ge;rw[he];show Js a b c d=none;unfold Js;rw[hn1,if_neg (by simp)]
   obtain⟨q0,q1,q2,q3,q4,q5,f0,f1,f2,f3,f4,f5⟩:=HC3.out.facts0;go_wp2_with (fail);rw[HL.out];refine bodyPost_ret (v:=.tuple #[Dz Bo,.bool false]) (by simp[results,Tryz.results70,Dz,Bo,go_sem, *]) rfl ⟨rfl,?_⟩
   repeat(first|(with_reducible refine Fp.drew' ?_)|(with_reducible refine Fp.setCell' ?_ (Or.inr (a0w _)) _)|(with_reducible refine Fp.alloc' ?_ _)|(with_reducible exact HF3.out))
  go_wp2_with (fail);rw[rounds_succ];go_wp2_with (fail);(with_reducible refine(sF b _ _ _ HC3.out).mono ?_);rintro e w4 ⟨rfl,hc,hf⟩;have HC4:=a0z hc;have HR4:=a0z (HR3.out.fp hf hBn);have HF4:=a0z (HF3.out.trans hf (by simp));have p2:w4.cell? ⟨B,2,none⟩=some (.string c):=HR4.out.at 2 (by simp);clear p1 hc hf
  obtain⟨n2,hn2⟩:∃n2,Nb b=n2:=⟨_,rfl⟩
  rw[hn2];cases n2
  ·have HL:Hid (Ge s=none):=by unfold Hid Ge;rw[he];show Js a b c d=none;unfold Js;rw[hn2,if_neg (by simp)]
   obtain⟨q0,q1,q2,q3,q4,q5,f0,f1,f2,f3,f4,f5⟩:=HC4.out.facts0;go_wp2_with (fail);rw[HL.out];refine bodyPost_ret (v:=.tuple #[Dz Bo,.bool false]) (by simp[results,Tryz.results70,Dz,Bo,go_sem, *]) rfl ⟨rfl,?_⟩
   repeat(first|(with_reducible refine Fp.drew' ?_)|(with_reducible refine Fp.setCell' ?_ (Or.inr (a0w _)) _)|(with_reducible refine Fp.alloc' ?_ _)|(with_reducible exact HF4.out))
  go_wp2_with (fail);rw[rounds_succ];go_wp2_with (fail);(with_reducible refine(sI c _ _ _ HC4.out HSC.out (HP.out.er.fp HF4.out a0x a0x)).mono ?_);rintro e w5 ⟨rfl,⟨u,hu,hc⟩,hf⟩;have HC5:=a0z hc;have HR5:=a0z (HR4.out.fp hf hBn);have HF5:=a0z (HF4.out.trans hf (by simp));have p3:w5.cell? ⟨B,3,none⟩=some (.string d):=HR5.out.at 3 (by simp);clear p2 hc hf
  cases hn3:Jr c with
  |none=>
   have HL:Hid (Ge s=none):=by unfold Hid Ge;rw[he];show Js a b c d=none;unfold Js;rw[hn3];split<;>rfl
   clear hu;obtain⟨q0,q1,q2,q3,q4,q5,f0,f1,f2,f3,f4,f5⟩:=HC5.out.facts0;go_wp2_with (fail);rw[HL.out];refine bodyPost_ret (v:=.tuple #[Dz Bo,.bool false]) (by simp[results,Tryz.results70,Dz,Bo,go_sem, *]) rfl ⟨rfl,?_⟩
   repeat(first|(with_reducible refine Fp.drew' ?_)|(with_reducible refine Fp.setCell' ?_ (Or.inr (a0w _)) _)|(with_reducible refine Fp.alloc' ?_ _)|(with_reducible exact HF5.out))
  |some u'=>
   obtain rfl:u'=u:=by
    rcases hu with hu|hu
    ·rw[hn3] at hu;cases hu
    ·rw[hn3] at hu;exact Option.some.inj hu
   clear hu;go_wp2_with (fail);rw[rounds_succ];go_wp2_with (fail);(with_reducible refine(sK d _ _ _ HC5.out).mono ?_);rintro e w6 ⟨rfl,hc,hf⟩;have HC6:=a0z hc;have HF6:=a0z (HF5.out.trans hf (by simp));clear p3 hc hf
   obtain⟨n4,hn4⟩:∃n4,(Ir d||Q9 d)=n4:=⟨_,rfl⟩
   rw[hn4];cases n4
   ·have HL:Hid (Ge s=none):=by unfold Hid Ge;rw[he];show Js a b c d=none;unfold Js;rw[hn4,if_neg (by simp)]
    obtain⟨q0,q1,q2,q3,q4,q5,f0,f1,f2,f3,f4,f5⟩:=HC6.out.facts0;go_wp2_with (fail);rw[HL.out];refine bodyPost_ret (v:=.tuple #[Dz Bo,.bool false]) (by simp[results,Tryz.results70,Dz,Bo,go_sem, *]) rfl ⟨rfl,?_⟩
    repeat(first|(with_reducible refine Fp.drew' ?_)|(with_reducible refine Fp.setCell' ?_ (Or.inr (a0w _)) _)|(with_reducible refine Fp.alloc' ?_ _)|(with_reducible exact HF6.out))
   go_wp2_with (fail);rw[rounds_succ]
   have HL:Hid (Ge s=some ⟨a,b,u',0,Ir d,if Ir d=true then⟨#[]⟩ else Hh d⟩):=by unfold Hid Ge;rw[he];show Js a b c d=_;unfold Js;rw[hn1,hn2,hn3,hn4,if_pos (by simp)];rfl
   obtain⟨vv,hvv⟩:∃vv,(if Ir d=true then Bo.val else Hh d)=vv:=⟨_,rfl⟩
   have hvv2:(if Ir d=true then(⟨#[]⟩:ByteArray) else Hh d)=vv:=hvv;rw[hvv] at HC6;rw[hvv2] at HL;obtain⟨q0,q1,q2,q3,q4,q5,f0,f1,f2,f3,f4,f5⟩:=HC6.out.facts0;go_wp2_with (fail);rw[HL.out];refine bodyPost_ret (v:=.tuple #[Dz ⟨a,b,u',0,Ir d,vv⟩,.bool true]) (by simp[results,Tryz.results70,Dz,Bo,go_sem, *]) rfl ⟨rfl,?_⟩
   repeat(first|(with_reducible refine Fp.drew' ?_)|(with_reducible refine Fp.setCell' ?_ (Or.inr (a0w _)) _)|(with_reducible refine Fp.alloc' ?_ _)|(with_reducible exact HF6.out))
 ·have hl:=sL h4;rw[hl]
  obtain⟨n,hn⟩:∃n,(Hg 32 s).length=n:=⟨_,rfl⟩
  rw[hn] at hS h4
  have h4':¬((n:Nat):Int)=4:=by omega
  go_enter Tryz.func70,Tryz.ntmps70;go_wp2_with (fail);(with_reducible refine(hS.out _ (HP.out.mx.fp (Fp.alloc _ _) a0x)).mono ?_);rintro e w1 ⟨B,rfl,hB,hrow,hf⟩;have HC1:Hid (Ci w1 w.heap.size Bo):=Ci.fp (S:=[]) (Aj rfl _) hf a0x;have HF1:=a0z ((Fp.alloc w _).trans hf (by simp));clear hf hrow hB hn;obtain⟨q0,q1,q2,q3,q4,q5,f0,f1,f2,f3,f4,f5⟩:=HC1.out.facts;go_wp2_with (fail);refine bodyPost_ret (v:=.tuple #[Dz Bo,.bool false]) (by simp[results,Tryz.results70,Dz,Bo,go_sem, *]) rfl ⟨rfl,?_⟩
  repeat(first|(with_reducible refine Fp.drew' ?_)|(with_reducible refine Fp.setCell' ?_ (Or.inr (a0w _)) _)|(with_reducible refine Fp.alloc' ?_ _)|(with_reducible exact HF1.out))
end
end Go.Proofs.YtkagolpnaicdoaaGreatDoor
