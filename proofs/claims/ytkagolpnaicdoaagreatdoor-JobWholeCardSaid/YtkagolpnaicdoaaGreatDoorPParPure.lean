/-
 Lines of input: words, pieces between a byte.
-/
import Derived.Test.YtkagolpnaicdoaaGreatDoorPCellPure
import Derived.Shelf.GgClosure.StringsIndexFunc
import Derived.Lib.Split
set_option maxRecDepth 100000
set_option maxHeartbeats 8000000
open Nat renaming le_refl->a0z
open List renaming drop_eq_nil_of_le->a0x
open ByteArray renaming size_extract->a0w
namespace Go.Proofs.YtkagolpnaicdoaaGreatDoor
open Go.Lib
def Ir(r:Nat):Bool:=decide (r<=32∨126<r)
def Ua(b:UInt8):Bool:=!Ir b.toNat
def J6(s:ByteArray):Bool:=decide (s.size≠0)&&s.data.toList.all Ua
theorem nQ{s:ByteArray}{i:Nat}(h:i<s.size):s.data.toList[i]?=some s[i]:=Lib.data_getElem? s i h
theorem nR(s:ByteArray):∀(f a:Nat),s.size≤a+f→(idxFuncFrom Ir true s f a= -1↔∀j (h:j<s.size),a≤j→Ua s[j]=true)
 |0,a,hf=>by
  constructor
  ·intro _ j h g;omega
  ·intro _;rfl
 |f+1,a,hf=>by
  by_cases b:a<s.size
  ·unfold idxFuncFrom;rw[if_pos b]
   by_cases l:(s[a]'b).toNat<128
   ·rw[decode_ascii s a b l]
    by_cases d:Ir (s[a]'b).toNat=true
    ·rw[if_pos d];constructor
     ·intro h;omega
     ·intro h;have:=h a b (a0z _);unfold Ua at this;rw[d] at this;cases this
    ·rw[if_neg d];have k:=nR s f (a+1) (by omega);rw[k];constructor
     ·intro h j g i
      by_cases e:j=a
      ·subst e;unfold Ua;simpa using d
      ·exact h j g (by omega)
     ·intro h j g i;exact h j g (by omega)
   ·have n:=decode_high s a b (by omega)
    have d:Ir (Utf8.decode s a).1=true:=by unfold Ir;exact decide_eq_true (by omega)
    rw[if_pos d];constructor
    ·intro h;omega
    ·intro h;have:=h a b (a0z _)
     have m:Ir (s[a]'b).toNat=true:=by unfold Ir;exact decide_eq_true (by omega)
     unfold Ua at this;rw[m] at this;cases this
  ·rw[idxFuncFrom_end _ _ _ _ _ b];constructor
   ·intro _ j h g;omega
   ·intro _;rfl
theorem Acw(s:ByteArray):decide (idxFunc Ir true s<0)=s.data.toList.all Ua:=by
 have h:=nR s s.size 0 (by omega);have k:=idxFuncFrom_range Ir true s s.size 0;unfold idxFunc;rw[Bool.eq_iff_iff,decide_eq_true_eq,List.all_eq_true];constructor
 ·intro l b f
  have i:idxFuncFrom Ir true s s.size 0= -1:=by omega
  obtain⟨j,d,rfl⟩:=List.getElem_of_mem f
  have a:j<s.size:=by rw[size_eq];exact d
  have:=h.1 i j a (Nat.zero_le _);have e:=nQ a;rw[List.getElem?_eq_getElem d] at e;rw[Option.some.inj e];exact this
 ·intro g;have:idxFuncFrom Ir true s s.size 0= -1:=h.2 (fun j d _=>g _ (List.mem_of_getElem? (nQ d)));omega
def Hh(c:UInt8):List UInt8→List (List UInt8)
 |[]=>[[]]
 |b::l=>if b=c then[]::Hh c l else match Hh c l with
  |[]=>[[b]]
  |h::t=>(b::h)::t
theorem nS(c:UInt8)(l:List UInt8):∃h t,Hh c l=h::t:=by
 induction l with
 |nil=>exact⟨[],[],rfl⟩
 |cons b l ih=>
  obtain⟨h,t,e⟩:=ih;unfold Hh
  by_cases a:b=c
  ·rw[if_pos a];exact⟨_,_,rfl⟩
  ·rw[if_neg a,e];exact⟨_,_,rfl⟩
theorem Acx(c:UInt8)(l:List UInt8)(h:∀b∈l,b≠c):Hh c l=[l]:=by
 induction l with
 |nil=>rfl
 |cons b l ih=>
  unfold Hh;rw[if_neg (h b (by simp)),ih (fun x a=>h x (by simp[a]))]
theorem nT(c:UInt8)(a l:List UInt8)(h:∀b∈a,b≠c):Hh c (a++c::l)=a::Hh c l:=by
 induction a with
 |nil=>show Hh c (c::l)=_;conv=>lhs;unfold Hh
       rw[if_pos rfl]
 |cons b a ih=>
  show Hh c (b::(a++c::l))=_
  conv=>lhs;unfold Hh
  rw[if_neg (h b (by simp)),ih (fun x d=>h x (by simp[d]))]
theorem Ys(c:UInt8):∀l:List UInt8,(index l [c]= -1∧(∀b∈l,b≠c))∨∃a r,l=a++c::r∧index l [c]=(a.length:Nat)∧∀b∈a,b≠c
 |[]=>Or.inl ⟨by simp[index],by simp⟩
 |b::l=>by
  by_cases h:b=c
  ·subst h;exact Or.inr ⟨[],l,rfl,by simp[index,List.isPrefixOf],by simp⟩
  ·have j:([c]:List UInt8).isPrefixOf (b::l)=false:=by simp[List.isPrefixOf,Ne.symm h]
   have f:index (b::l) [c]=if index l [c]==-1 then -1 else index l [c]+1:=by rw[index,j];simp
   rcases Ys c l with⟨i,g⟩|⟨a,r,i,g,k⟩
   ·left;refine⟨by rw[f,i];rfl,?_⟩;intro x d
    rcases List.mem_cons.1 d with d|d
    ·rw[d];exact h
    ·exact g x d
   ·right;refine⟨b::a,r,by rw[i];rfl,?_,?_⟩
    ·rw[f,g]
     have:(((a.length:Nat):Int)==-1)=false:=by rw[beq_eq_false_iff_ne];omega
     rw[this];simp
    ·intro x d
     rcases List.mem_cons.1 d with d|d
     ·rw[d];exact h
     ·exact k x d
theorem nU(c:UInt8):∀(k:Nat) (s:ByteArray),countB s ⟨#[c]⟩=k→(splitB ⟨#[c]⟩ 0 k s).map (fun x=>x.data.toList)=Hh c s.data.toList
 |0,s,hk=>by
  rcases Ys c s.data.toList with⟨d,b⟩|⟨a,r,d,b,l⟩
  ·rw[Acx c _ b];rfl
  ·have:=count_hit (s:=s.data.toList) (sub:=[c]) (by simp) b;have f:count s.data.toList [c]=0:=hk;omega
 |k+1,s,hk=>by
  have f:count s.data.toList [c]=k+1:=hk
  rcases Ys c s.data.toList with⟨d,b⟩|⟨a,r,d,b,l⟩
  ·rw[count_miss d] at f;omega
  ·have n:=count_hit (s:=s.data.toList) (sub:=[c]) (by simp) b;have h:indexB s ⟨#[c]⟩=(a.length:Nat):=b
   have j:s.data.toList.drop (a.length+[c].length)=r:=by
    rw[d,List.drop_append,a0x (by simp)];simp
   have g:(⟨#[c]⟩:ByteArray).size=1:=rfl;rw[j] at n
   have i:(s.extract (a.length+1) s.size).data.toList=r:=by
    rw[extract_to_end];exact j
   have m:=nU c k (s.extract (a.length+1) s.size) (by show count _ _ =k;rw[i];show count r [c]=k;omega);unfold splitB;rw[h,if_neg (by simp)];simp only[List.map_cons,Nat.add_zero,Int.toNat_natCast,g];rw[m,i,d,nT c a r l,extract_data,d];simp
theorem nV(c:UInt8):∀(k:Nat) (s:ByteArray),countB s ⟨#[c]⟩=k→(splitB ⟨#[c]⟩ 0 k s).length=k+1
 |0,s,hk=>rfl
 |k+1,s,hk=>by
  have d:count s.data.toList [c]=k+1:=hk
  rcases Ys c s.data.toList with⟨h,g⟩|⟨a,r,h,g,n⟩
  ·rw[count_miss h] at d;omega
  ·have m:=count_hit (s:=s.data.toList) (sub:=[c]) (by simp) g;have f:indexB s ⟨#[c]⟩=(a.length:Nat):=g;have b:(⟨#[c]⟩:ByteArray).size=1:=rfl
   have i:s.data.toList.drop (a.length+[c].length)=r:=by
    rw[h,List.drop_append,a0x (by simp)];simp
   rw[i] at m
   have l:(s.extract (a.length+1) s.size).data.toList=r:=by
    rw[extract_to_end];exact i
   have j:=nV c k (s.extract (a.length+1) s.size) (by show count _ _ =k;rw[l];show count r [c]=k;omega);rw[splitB_hit _ _ _ _ a.length f,List.length_cons,b,j]
theorem nW(b:ByteArray):∀(k:Nat) (s:ByteArray),∀x∈splitB b 0 k s,x.size≤s.size
 |0,s=>by intro x a;rw[splitB_zero] at a;simp at a;rw[a];exact a0z _
 |k+1,s=>by
  by_cases h:indexB s b= -1
  ·rw[splitB_miss _ _ _ _ h];intro x a;simp at a;rw[a];exact a0z _
  ·unfold splitB;rw[if_neg (by simpa using h)];intro x a
   rcases List.mem_cons.1 a with a|a
   ·rw[a,a0w];omega
   ·have:=nW b k _ x a;rw[a0w] at this;omega
def Ih(c:UInt8)(s:ByteArray):List ByteArray:=splitB ⟨#[c]⟩ 0 (countB s ⟨#[c]⟩) s
theorem Acy(c:UInt8)(s:ByteArray):(Ih c s).length=countB s ⟨#[c]⟩+1:=nV c _ s rfl
theorem Ro{c:UInt8}{s:ByteArray}{x:ByteArray}(h:x∈Ih c s):x.size<=s.size:=nW _ _ _ x h
theorem Acz(c:UInt8)(l:List UInt8):(Hh c l).length≤l.length+1:=by
 induction l with
 |nil=>exact a0z _
 |cons b l ih=>
  unfold Hh;obtain⟨h,t,e⟩:=nS c l;rw[e] at ih ⊢
  split<;>simp at ih ⊢ <;>omega
theorem dA(c:UInt8)(s:ByteArray):(Ih c s).map (fun x=>x.data.toList)=Hh c s.data.toList:=nU c _ s rfl
theorem dB(c:UInt8)(s:ByteArray):(Ih c s).length<=s.size+1:=by
 have h:=Acz c s.data.toList;rw[<-dA,List.length_map,<-size_eq] at h;exact h
theorem Rq(a b:ByteArray):(a++b).data.toList=a.data.toList++b.data.toList:=by simp
theorem Qm{a b:ByteArray}(h:a.data.toList=b.data.toList):a=b:=by
 obtain⟨⟨a⟩⟩:=a;obtain⟨⟨b⟩⟩:=b
 simpa using h
theorem nX:∀(l m:List ByteArray),l.map (fun t=>t.data.toList)=m.map (fun t=>t.data.toList)→l=m
 |[],[],_=>rfl
 |[],_ ::_,h=>by cases h
 |_ ::_,[],h=>by cases h
 |a::l,b::m,h=>by
  simp only[List.map_cons,List.cons.injEq] at h;rw[Qm h.1,nX l m h.2]
end Go.Proofs.YtkagolpnaicdoaaGreatDoor
