/-
 Slices of strings that a call owns; append of one string. A slice of the call's own whose elements are of one cell each, of any type; append of one.
-/
import Derived.Test.YtkagolpnaicdoaaGreatDoorMMaps
import Derived.Test.YtkagolpnaicdoaaGreatDoorMRegion
import Derived.Test.YtkagolpnaicdoaaGreatDoorRows
import Derived.Maps.AppendAt
import Derived.Laws.AppendOwnNone
set_option maxRecDepth 100000
set_option maxHeartbeats 8000000
open List renaming eq_nil_of_length_eq_zero→a0z,getElem?_eq_getElem→a0x
open Array renaming getElem?_toList→a0w
namespace Go.Proofs.YtkagolpnaicdoaaGreatDoor
section
open Go.RowKit
def Cf(w:World)(base:Nat)(v:Value)(l:List ByteArray):Prop:=w.ownsRow base 9 1 v l.length (l.map Value.string)
theorem Cf.nil(w:World)(base:Nat):Cf w base (.slice none 0 0) []:=World.ownsRow_nil w base _ _
theorem Cf.mono{w:World}{base base':Nat}{v:Value}{l:List ByteArray}(h:Cf w base v l)(hb:base'≤base):Cf w base' v l:=by
 obtain⟨h1,h2⟩:=h;refine⟨h1,?_⟩
 rcases h2 with h2|⟨g,cap,cur,hv,hg,r⟩
 ·exact Or.inl h2
 ·exact Or.inr ⟨g,cap,cur,hv,Nat.le_trans hb hg,r⟩
theorem Cf.lt{w:World}{base:Nat}{v:Value}{l:List ByteArray}(h:Cf w base v l):∀k,v.ownBlock=some k→base≤k∧k<w.heap.size:=World.ownsRow.lt h
theorem Cf.kept{w w':World}{base:Nat}{v:Value}{l:List ByteArray}(h:Cf w base v l)(hf:∀k,v.ownBlock=some k→w'.heap[k]?=w.heap[k]?):Cf w' base v l:=by
 obtain⟨h1,h2⟩:=h;refine⟨h1,?_⟩
 rcases h2 with h2|⟨g,cap,cur,hv,hg,hh,r⟩
 ·exact Or.inl h2
 ·exact Or.inr ⟨g,cap,cur,hv,hg,(hf g (by rw[hv];rfl)).trans hh,r⟩
theorem Cf.fp{w w':World}{base:Nat}{v:Value}{l:List ByteArray}{S:List Nat}(h:Cf w base v l)(hf:Fp S w w')(hS:∀i∈S,i<base):Cf w' base v l:=
 h.kept fun k hk=>hf.block k (h.lt k hk).2 (fun hm=>by have:=hS k hm;have:=(h.lt k hk).1;omega)
theorem Cf.at{w:World}{base:Nat}{v:Value}{l:List ByteArray}(h:Cf w base v l):(∃a cap,v=.slice a l.length cap)∧(l=[]∨∃g cap,v=.slice (some ⟨g,0,none⟩) l.length cap∧base≤g∧g<w.heap.size∧∀i (hi:i<l.length),w.cell? ⟨g,i,none⟩=some (.string l[i])):=by
 obtain⟨h1,h2⟩:=h
 rcases h2 with⟨rfl,h0⟩|⟨g,cap,cur,rfl,hg,hh,hn,hm,hs,ht⟩
 ·have:l=[]:=a0z h0;subst this;exact⟨⟨_,_,rfl⟩,Or.inl rfl⟩
 ·refine⟨⟨_,_,rfl⟩,Or.inr ⟨g,cap,rfl,hg,Ab hh,fun i hi=>?_⟩⟩
  have h3:(cur.toList.take (l.length*1))[i]?=(l.map Value.string)[i]?:=by rw[ht]
  rw[List.getElem?_take,if_pos (by omega),List.getElem?_map,a0x hi,a0w] at h3;rw[Aa hh,h3];rfl
theorem Tryz.info9:(Tryz.prog.info? 9).map (fun i=>(i.zero,i.size,i.bytes))=some (some (.string ⟨#[]⟩),1,16):=by kernel_rfl
theorem uL{w:World}{ops:Array Oper}{rest:List Oper}{o:Oper}{a:Act}{Q:Exit→Act→World→Prop}(hgd:o.guard=none)(s x:Operand)
  (ho:o.op=.call {callee:=.builtin .append,args:=#[s,x],argTypes:=#[22,22]})(base:Nat)(v:Value)(l:List ByteArray)(hs:a.eval s=v)(hown:Cf w base v l)
  (g:Nat)(t:ByteArray)(hx:a.eval x=.slice (some ⟨g,0,none⟩) 1 1)(hg:w.cell? ⟨g,0,none⟩=some (.string t))(hlen:l.length+1≤1000000000)(hbase:base≤w.heap.size)
  (h:∀v' w',Cf w' base v' (l++[t])→Below base w w'→wpList Tryz.prog ops Q rest (a.put o.dst v') w'):wpList Tryz.prog ops Q (o::rest) a w:=by
 obtain⟨i0,hi,hz0,hz1,hz2⟩:=info_parts Tryz.info9;refine wpList_append_own w hgd s x 22 ho base 9 i0 _ 1 16 Tryz.underlying22 hi hz0 hz1 hz2 rfl (by decide) v l.length (l.map Value.string) hs hown ⟨g,0,none⟩ 1 1 [.string t] hx rfl ?_ (by intro u hu;simp at hu;subst hu;rfl) (by unfold maxLen;omega) (by omega) hbase ?_
 ·intro j u hu
  have hj:j=0:=by
   have:=(List.getElem?_eq_some_iff.1 hu).1
   simpa using this
  subst hj;simp at hu;subst hu
  have e1:(⟨g,0,none⟩:Addr).add 0=⟨g,0,none⟩:=by unfold Addr.add;split<;>simp_all
  rw[e1];exact hg
 ·intro v' w' h1 h2 _;refine h v' w' ?_ ((Below.refl base w).grown h2 hbase (fun k hk=>(hown.lt k hk).1));unfold Cf;rw[List.length_append,List.map_append];exact h1
end
section
open Go.RowKit
def Bg(e:TypeId)(w:World)(base:Nat)(v:Value)(l:List Value):Prop:=w.ownsRow base e 1 v l.length l
theorem Bg.nil(e:TypeId)(w:World)(base:Nat):Bg e w base (.slice none 0 0) []:=World.ownsRow_nil w base _ _
theorem Bg.mono{e:TypeId}{w:World}{base base':Nat}{v:Value}{l:List Value}(h:Bg e w base v l)(hb:base'≤base):Bg e w base' v l:=by
 obtain⟨h1,h2⟩:=h;refine⟨h1,?_⟩
 rcases h2 with h2|⟨g,cap,cur,hv,hg,r⟩
 ·exact Or.inl h2
 ·exact Or.inr ⟨g,cap,cur,hv,Nat.le_trans hb hg,r⟩
theorem Bg.lt{e:TypeId}{w:World}{base:Nat}{v:Value}{l:List Value}(h:Bg e w base v l):∀k,v.ownBlock=some k→base≤k∧k<w.heap.size:=World.ownsRow.lt h
theorem Bg.kept{e:TypeId}{w w':World}{base:Nat}{v:Value}{l:List Value}(h:Bg e w base v l)(hf:∀k,v.ownBlock=some k→w'.heap[k]?=w.heap[k]?):Bg e w' base v l:=by
 obtain⟨h1,h2⟩:=h;refine⟨h1,?_⟩
 rcases h2 with h2|⟨g,cap,cur,hv,hg,hh,r⟩
 ·exact Or.inl h2
 ·exact Or.inr ⟨g,cap,cur,hv,hg,(hf g (by rw[hv];rfl)).trans hh,r⟩
theorem Bg.fp{e:TypeId}{w w':World}{base:Nat}{v:Value}{l:List Value}{S:List Nat}(h:Bg e w base v l)(hf:Fp S w w')(hS:∀i∈S,i<base):Bg e w' base v l:=
 h.kept fun k hk=>hf.block k (h.lt k hk).2 (fun hm=>by have:=hS k hm;have:=(h.lt k hk).1;omega)
theorem Bg.at{e:TypeId}{w:World}{base:Nat}{v:Value}{l:List Value}(h:Bg e w base v l):(∃a cap,v=.slice a l.length cap)∧(l=[]∨∃g cap,v=.slice (some ⟨g,0,none⟩) l.length cap∧base≤g∧g<w.heap.size∧∀i (hi:i<l.length),w.cell? ⟨g,i,none⟩=some l[i]):=by
 obtain⟨h1,h2⟩:=h
 rcases h2 with⟨rfl,h0⟩|⟨g,cap,cur,rfl,hg,hh,hn,hm,hs,ht⟩
 ·have:l=[]:=a0z h0;subst this;exact⟨⟨_,_,rfl⟩,Or.inl rfl⟩
 ·refine⟨⟨_,_,rfl⟩,Or.inr ⟨g,cap,rfl,hg,Ab hh,fun i hi=>?_⟩⟩
  have h3:(cur.toList.take (l.length*1))[i]?=l[i]?:=by rw[ht]
  rw[List.getElem?_take,if_pos (by omega),a0x hi,a0w] at h3;rw[Aa hh,h3]
end
end Go.Proofs.YtkagolpnaicdoaaGreatDoor
