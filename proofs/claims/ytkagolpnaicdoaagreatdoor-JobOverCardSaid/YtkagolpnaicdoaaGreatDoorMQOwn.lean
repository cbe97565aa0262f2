/-
 Slices whose elements are of k cells each, of any type: as they lie; of the call's own; append; an element stored. job as data: the bytes of a job, jobs by their numbers, the journal's tale (plain). job: Encode, Decode.
-/
import Derived.Test.YtkagolpnaicdoaaGreatDoorMMaps
import Derived.Test.YtkagolpnaicdoaaGreatDoorMRegion
import Derived.Test.YtkagolpnaicdoaaGreatDoorRows
import Derived.Maps.AppendAt
import Derived.Laws.AppendOwnNone
import Derived.Test.YtkagolpnaicdoaaGreatDoorMTabL
import Derived.Test.YtkagolpnaicdoaaGreatDoorMRegionG
set_option maxRecDepth 100000
set_option maxHeartbeats 8000000
open List renaming getElem?_toArray→a0z,getElem?_cons_succ→a0x,getElem?_cons_zero→a0w,getElem?_take→a1v,flatMap_cons→a2z,length_take→a2w,length_set→a2u
open Nat renaming mul_le_mul_right→a0v,succ_mul→a0u,zero_add→a2x,not_lt_zero→a2v
open Array renaming getElem?_setIfInBounds→a1z,getElem?_toList→a3x
open Go.Lib renaming hid→a1x
open UInt8 renaming ofNat→a1w,toNat_ofNat'→a1u
open Go.IntKind renaming wrap_u8→a3z
namespace Go.Proofs.YtkagolpnaicdoaaGreatDoor
section
open Go.RowKit
structure G3(α:Type) where
 e:TypeId
 k:Nat
 enc:α→List Value
 len:∀x,(enc x).length=k
 pos:0<k
 one:∀x,∀v∈enc x,v.oneCell'=true
variable {α : Type} {R : G3 α}
theorem Oe(l:List α):(l.flatMap R.enc).length=l.length*R.k:=by
 induction l with
 |nil=>simp
 |cons x r ih=>rw[a2z,List.length_append,ih,R.len,List.length_cons,a0u,Nat.add_comm]
theorem Re:∀(l:List α) (i j:Nat),j<R.k→(hi:i<l.length)→(l.flatMap R.enc)[i*R.k+j]?=(R.enc l[i])[j]?
 |[],_,_,_,hi=>absurd hi (a2v _)
 |x::r,0,j,hj,_=>by
  rw[a2z,Nat.zero_mul,a2x,List.getElem?_append_left (by rw[R.len];exact hj)];rfl
 |x::r,i+1,j,hj,hi=>by
  rw[a2z,List.getElem?_append_right (by rw[R.len,a0u];omega),R.len,show(i+1)*R.k+j-R.k=i*R.k+j by rw[a0u];omega];exact Re r i j hj _
theorem dU(l:List α):∀u∈l.flatMap R.enc,u.oneCell'=true:=by
 intro u hu;obtain⟨x,_,hx⟩:=List.mem_flatMap.1 hu;exact R.one x u hx
theorem Xk{k x n:Nat}(h:x<n*k)(hk:0<k):x/k<n∧x%k<k∧x=x/k*k+x%k:=
 ⟨Nat.div_lt_of_lt_mul (by rw[Nat.mul_comm];exact h),Nat.mod_lt _ hk,(Nat.div_add_mod' x k).symm⟩
def Nc(R:G3 α)(w:World)(b o:Nat)(x:α):Prop:=∀j u,(R.enc x)[j]?=some u→w.cell? ⟨b,o+j,none⟩=some u
theorem Nc.fp{w w':World}{b o:Nat}{x:α}{S:List Nat}(h:Nc R w b o x)(hf:Fp S w w')(hb:b<w.heap.size)(hS:b∉S):Nc R w' b o x:=fun j u hu=>(hf.cell (p:=⟨b,o+j,none⟩) hb hS).trans (h j u hu)
structure Bz(R:G3 α)(w:World)(a:Option Addr)(n:Nat)(l:List α):Prop where
 len:n=l.length
 cells:l=[]∨∃b o,a=some ⟨b,o,none⟩∧b<w.heap.size∧∀i (h:i<l.length),Nc R w b (o+i*R.k) l[i]
theorem Bz.fp{w w':World}{a:Option Addr}{n:Nat}{l:List α}(h:Bz R w a n l)(hf:Fp [] w w'):Bz R w' a n l:=by
 refine⟨h.len,?_⟩
 rcases h.cells with h0|⟨b,o,e,hb,hc⟩
 ·exact Or.inl h0
 ·exact Or.inr ⟨b,o,e,Nat.lt_of_lt_of_le hb hf.size,fun i hi=>(hc i hi).fp hf hb (by simp)⟩
theorem Bz.get{w:World}{a:Option Addr}{n i:Nat}{l:List α}(h:Bz R w a n l)(hi:i<l.length):∃b o,a=some ⟨b,o,none⟩∧b<w.heap.size∧∀w',Fp [] w w'→Nc R w' b (o+i*R.k) l[i]:=by
 rcases h.cells with h0|⟨b,o,e,hb,hc⟩
 ·rw[h0] at hi;exact absurd hi (a2v _)
 ·exact⟨b,o,e,hb,fun w' hf=>(hc i hi).fp hf hb (by simp)⟩
theorem Bz.nil(w:World)(a:Option Addr):Bz R w a 0 []:=⟨rfl,Or.inl rfl⟩
theorem Bz.take{w:World}{a:Option Addr}{n:Nat}{l:List α}(h:Bz R w a n l)(m:Nat)(hm:m≤n):Bz R w a m (l.take m):=by
 have hl:=h.len;refine⟨by rw[a2w];omega,?_⟩
 rcases h.cells with h0|⟨b,o,e,hb,hc⟩
 ·left;rw[h0];simp
 ·exact Or.inr ⟨b,o,e,hb,fun i hi=>by rw[List.getElem_take];exact hc i (by rw[a2w] at hi;omega)⟩
theorem Bz.drop{w:World}{b o n:Nat}{l:List α}(h:Bz R w (some ⟨b,o,none⟩) n l)(m r:Nat)(hm:m+r=n):Bz R w (some ⟨b,o+m*R.k,none⟩) r (l.drop m):=by
 have hl:=h.len;refine⟨by rw[List.length_drop];omega,?_⟩
 rcases h.cells with h0|⟨b',o',e,hb,hc⟩
 ·left;rw[h0];simp
 ·obtain⟨rfl,rfl⟩:b=b'∧o=o':=by cases e;exact⟨rfl,rfl⟩
  refine Or.inr ⟨b,o+m*R.k,rfl,hb,fun i hi=>?_⟩;rw[List.length_drop] at hi;have:=hc (m+i) (by omega);rw[Nat.add_mul,←Nat.add_assoc] at this;rw[List.getElem_drop];exact this
theorem Bz.one{w:World}{g:Nat}{x:α}{e:TypeId}(h:w.heap[g]?=some (.cells (R.enc x).toArray e (0,0))):Bz R w (some ⟨g,0,none⟩) 1 [x]:=by
 refine⟨rfl,Or.inr ⟨g,0,rfl,Ab h,fun i hi=>?_⟩⟩
 have:i=0:=by simpa using hi
 subst this;intro j u hu;simp only[Nat.zero_mul,a2x];rw[Aa h,a0z];exact hu
def Ag(R:G3 α)(w:World)(base:Nat)(v:Value)(l:List α):Prop:=w.ownsRow base R.e R.k v l.length (l.flatMap R.enc)
theorem Ag.nil(w:World)(base:Nat):Ag R w base (.slice none 0 0) []:=World.ownsRow_nil w base _ _
theorem Ag.mono{w:World}{base base':Nat}{v:Value}{l:List α}(h:Ag R w base v l)(hb:base'≤base):Ag R w base' v l:=by
 obtain⟨h1,h2⟩:=h;refine⟨h1,?_⟩
 rcases h2 with h2|⟨g,cap,cur,hv,hg,r⟩
 ·exact Or.inl h2
 ·exact Or.inr ⟨g,cap,cur,hv,Nat.le_trans hb hg,r⟩
theorem Ag.lt{w:World}{base:Nat}{v:Value}{l:List α}(h:Ag R w base v l):∀k,v.ownBlock=some k→base≤k∧k<w.heap.size:=World.ownsRow.lt h
theorem Ag.kept{w w':World}{base:Nat}{v:Value}{l:List α}(h:Ag R w base v l)(hf:∀k,v.ownBlock=some k→w'.heap[k]?=w.heap[k]?):Ag R w' base v l:=by
 obtain⟨h1,h2⟩:=h;refine⟨h1,?_⟩
 rcases h2 with h2|⟨g,cap,cur,hv,hg,hh,r⟩
 ·exact Or.inl h2
 ·exact Or.inr ⟨g,cap,cur,hv,hg,(hf g (by rw[hv];rfl)).trans hh,r⟩
theorem Ag.fp{w w':World}{base:Nat}{v:Value}{l:List α}{S:List Nat}(h:Ag R w base v l)(hf:Fp S w w')(hS:∀i∈S,i<base):Ag R w' base v l:=
 h.kept fun k hk=>hf.block k (h.lt k hk).2 (fun hm=>by have:=hS k hm;have:=(h.lt k hk).1;omega)
theorem Ag.made(w:World)(base:Nat)(hb:base≤w.heap.size):Ag R (w.alloc (.cells #[] R.e)) base (.slice (some ⟨w.heap.size,0,none⟩) 0 0) []:=
 World.ownsRow_made w #[] 0 hb (by decide) (by simp)
theorem Ag.open{w:World}{base:Nat}{v:Value}{l:List α}(h:Ag R w base v l)(h0:0<l.length):
  ∃g cap cur,v=.slice (some ⟨g,0,none⟩) l.length cap∧base≤g∧w.heap[g]?=some (.cells cur R.e (0,0))∧l.length≤cap∧cap≤maxLen∧cur.size=cap*R.k∧cur.toList.take (l.length*R.k)=l.flatMap R.enc:=by
 rcases h.2 with⟨rfl,hn⟩|h2
 ·omega
 ·exact h2
theorem Ag.len{w:World}{base:Nat}{v:Value}{l:List α}(h:Ag R w base v l):∃a cap,v=.slice a l.length cap∧(a=none→cap=0)∧l.length≤cap:=by
 rcases h.2 with⟨rfl,h0⟩|⟨g,cap,cur,rfl,_,_,hn,_⟩
 ·exact⟨none,0,by rw[h0],fun _=>rfl,by omega⟩
 ·exact⟨_,_,rfl,(fun h=>by cases h),hn⟩
theorem Uh{cur:Array Value}{l:List α}(h:cur.toList.take (l.length*R.k)=l.flatMap R.enc)(i:Nat)(hi:i<l.length)(j:Nat)(hj:j<R.k):cur[i*R.k+j]?=(R.enc l[i])[j]?:=by
 have:i*R.k+j<l.length*R.k:=Nat.lt_of_lt_of_le (by rw[a0u];omega) (a0v _ (show i+1≤l.length from hi));rw[←Re l i j hj hi,←h,a1v,if_pos this,a3x]
theorem dV{cur:Array Value}{l:List α}(h:∀i (hi:i<l.length),∀j,j<R.k→cur[i*R.k+j]?=(R.enc l[i])[j]?):cur.toList.take (l.length*R.k)=l.flatMap R.enc:=by
 apply List.ext_getElem?;intro x
 by_cases hx:x<l.length*R.k
 ·obtain⟨h1,h2,h3⟩:=Xk hx R.pos;rw[a1v,if_pos hx,a3x];rw[h3,Re l (x/R.k) (x%R.k) h2 h1];exact h (x/R.k) h1 (x%R.k) h2
 ·rw[a1v,if_neg hx,List.getElem?_eq_none (by rw[Oe];omega)]
theorem Ag.at{w:World}{base:Nat}{v:Value}{l:List α}(h:Ag R w base v l):∃a cap,v=.slice a l.length cap∧(a=none→cap=0)∧l.length≤cap∧Bz R w a l.length l:=by
 by_cases h0:0<l.length
 ·obtain⟨g,cap,cur,rfl,hg,hh,hn,hm,hs,ht⟩:=h.open h0;refine⟨_,_,rfl,(fun h=>by cases h),hn,rfl,Or.inr ⟨g,0,rfl,Ab hh,fun i hi j u hu=>?_⟩⟩
  have hj:j<R.k:=by rw[←R.len l[i]];exact(List.getElem?_eq_some_iff.1 hu).1
  rw[a2x,Aa hh,Uh ht i hi j hj];exact hu
 ·obtain⟨a,cap,e,h1,h2⟩:=h.len;exact⟨a,cap,e,h1,h2,rfl,Or.inl (List.eq_nil_of_length_eq_zero (by omega))⟩
theorem Xl(T:TypeId){z:Value}{bytes:Nat}(hu:Tryz.prog.underlying T=some (.slice R.e))(hinfo:(Tryz.prog.info? R.e).map (fun i=>(i.zero,i.size,i.bytes))=some (some z,R.k,bytes))(hzs:z.cells.size=R.k)(hby:bytes≤100000)
  {w:World}{ops:Array Oper}{rest:List Oper}{o:Oper}{a:Act}{Q:Exit→Act→World→Prop}(hgd:o.guard=none)(s x:Operand)
  (ho:o.op=.call {callee:=.builtin .append,args:=#[s,x],argTypes:=#[T,T]})(base:Nat)(v:Value)(l:List α)(hs:a.eval s=v)(hown:Ag R w base v l)
  (ad:Option Addr)(m c:Nat)(ls:List α)(hx:a.eval x=.slice ad m c)(hl:Bz R w ad m ls)(hnone:ad=none→c=0)(hlen:l.length+ls.length≤1000000000)(hbase:base≤w.heap.size)
  (h:∀v' w',Ag R w' base v' (l++ls)→Below base w w'→w.grownBy w' v.ownBlock→wpList Tryz.prog ops Q rest (a.put o.dst v') w'):wpList Tryz.prog ops Q (o::rest) a w:=by
 obtain⟨i0,hi,hz0,hz1,hz2⟩:=info_parts hinfo;have hm:=hl.len
 cases ad with
 |none=>
  have:ls=[]:=by
   rcases hl.cells with h0|⟨b,o,h0,_⟩
   ·exact h0
   ·cases h0
  subst this;obtain rfl:=hnone rfl;have hm0:m=0:=hm;subst hm0;refine wpList_append_own_none hgd s x T ho base R.e i0 R.k hu hi v l.length (l.flatMap R.enc) hs hown hx ?_;exact h v w (by rw[List.append_nil];exact hown) (Below.refl _ _) ⟨rfl,rfl,rfl,Nat.le_refl _,fun _ _ _=>rfl⟩
 |some ad=>
  refine wpList_append_own w hgd s x T ho base R.e i0 _ R.k bytes hu hi hz0 hz1 hz2 hzs R.pos v l.length (l.flatMap R.enc) hs hown ad m c (ls.flatMap R.enc) hx (by rw[Oe,hm]) ?_ (dU ls) (by unfold maxLen;omega) (Nat.le_trans (Nat.mul_le_mul (show l.length+m≤1000000000 by omega) hby) (by decide)) hbase ?_
  ·intro j u hju
   rcases hl.cells with h0|⟨b,o,h0,_,hc⟩
   ·subst h0;simp at hju
   ·obtain rfl:=Option.some.inj h0
    have e1:(⟨b,o,none⟩:Addr).add j=⟨b,o+j,none⟩:=by unfold Addr.add;split<;>simp_all
    rw[e1]
    have hjl:j<ls.length*R.k:=by rw[←Oe (R:=R)];exact(List.getElem?_eq_some_iff.1 hju).1
    obtain⟨h1,h2,h3⟩:=Xk hjl R.pos;rw[h3,Re ls _ _ h2 h1] at hju;have:=hc (j/R.k) h1 (j%R.k) u hju;rw[Nat.add_assoc,←h3] at this;exact this
  ·intro v' w' h1 h2 _;refine h v' w' ?_ ((Below.refl base w).grown h2 hbase (fun k hk=>(hown.lt k hk).1)) h2;unfold Ag;rw[List.length_append,List.flatMap_append,←hm];exact h1
theorem Xm{g:Nat}{e:TypeId}:∀(vs:List Value) (o:Nat) (w:World) (cur:Array Value),w.heap[g]?=some (.cells cur e (0,0))→∃cur':Array Value,(w.setCells g o vs).heap[g]?=some (.cells cur' e (0,0))∧cur'.size=cur.size∧
  (∀j,j<o→cur'[j]?=cur[j]?)∧(∀j,j<vs.length→o+j<cur.size→cur'[o+j]?=vs[j]?)∧(∀j,o+vs.length≤j→cur'[j]?=cur[j]?)∧Fp [g] w (w.setCells g o vs)
 |[],o,w,cur,h=>⟨cur,h,rfl,fun _ _=>rfl,fun j hj=>absurd hj (a2v _),fun _ _=>rfl,Fp.refl _ _⟩
 |v::vs,o,w,cur,h=>by
  have h1:(w.setCell ⟨g,o,none⟩ v).heap[g]?=some (.cells (cur.setIfInBounds o v) e (0,0)):=Bt h v;obtain⟨cur',g1,g2,g3,g4,g5,g6⟩:=Xm vs (o+1) (w.setCell ⟨g,o,none⟩ v) _ h1;refine⟨cur',g1,by rw[g2,Array.size_setIfInBounds],fun j hj=>?_,fun j hj hjs=>?_,fun j hj=>?_,(Fp.setCell w ⟨g,o,none⟩ v).trans g6 (by intro i hi;exact Or.inl hi)⟩
  ·rw[g3 j (by omega),a1z,if_neg (by omega)]
  ·cases j with
   |zero=>
    rw[Nat.add_zero,g3 o (by omega),a1z,if_pos rfl,if_pos (by omega)];rfl
   |succ j=>
    rw[show o+(j+1)=o+1+j from by omega,g4 j (by simpa using hj) (by rw[Array.size_setIfInBounds];omega)];rfl
  ·rw[g5 j (by simp at hj;omega),a1z,if_neg (by simp at hj;omega)]
theorem Ag.setQ{w:World}{base g i n cap:Nat}{l:List α}(x:α)(h:Ag R w base (.slice (some ⟨g,0,none⟩) n cap) l)(hi:i<l.length):
  Ag R (w.setCells g (i*R.k) (R.enc x)) base (.slice (some ⟨g,0,none⟩) n cap) (l.set i x)∧Fp [g] w (w.setCells g (i*R.k) (R.enc x)):=by
 obtain⟨g2,cap2,cur,e,hg,hh,hn,hm,hs,ht⟩:=h.open (by omega);cases e;obtain⟨cur',g1,g2,g3,g4,g5,g6⟩:=Xm (R.enc x) (i*R.k) w cur hh;have hle:(i+1)*R.k≤cap*R.k:=a0v _ (by omega);rw[a0u] at hle;refine⟨⟨by rw[Oe],Or.inr ⟨g,cap,cur',by rw[a2u],hg,g1,by rw[a2u];exact hn,hm,by rw[g2];exact hs,?_⟩⟩,g6⟩
 refine dV fun y hy j hj=>?_
 rw[a2u] at hy
 by_cases e:y=i
 ·subst e;rw[List.getElem_set_self,g4 j (by rw[R.len];exact hj) (by rw[hs];omega)]
 ·rw[List.getElem_set_ne (Ne.symm e),←Uh ht y hy j hj]
  rcases Nat.lt_or_ge y i with h|h
  ·have:(y+1)*R.k≤i*R.k:=a0v _ (by omega);rw[a0u] at this;exact g3 _ (by omega)
  ·have:(i+1)*R.k≤y*R.k:=a0v _ (by omega);rw[a0u] at this;exact g5 _ (by rw[R.len];omega)
theorem Ag.elem{w:World}{base g n cap i:Nat}{l:List α}(h:Ag R w base (.slice (some ⟨g,0,none⟩) n cap) l)(hi:i<l.length):Nc R w g (i*R.k) l[i]∧(∀o,w.frozen? ⟨g,o,none⟩=false)∧base≤g∧g<w.heap.size∧n=l.length∧n≤cap:=by
 obtain⟨g2,cap2,cur,e,hg,hh,hn,hm,hs,ht⟩:=h.open (by omega);cases e;refine⟨fun j u hu=>?_,fun o=>Aw hh o,hg,Ab hh,rfl,hn⟩
 have hj:j<R.k:=by rw[←R.len l[i]];exact(List.getElem?_eq_some_iff.1 hu).1
 rw[Aa hh,Uh ht i hi j hj];exact hu
theorem Ag.cut{w:World}{base g n cap m p:Nat}{l:List α}(vs:List Value)(h:Ag R w base (.slice (some ⟨g,0,none⟩) n cap) l)(hk:m≤l.length)(hl:0<l.length)(hm:p=m*R.k):
  Ag R (w.setCells g p vs) base (.slice (some ⟨g,0,none⟩) m cap) (l.take m)∧Fp [g] w (w.setCells g p vs):=by
 subst hm;obtain⟨g2,cap2,cur,e,hg,hh,hn,hm,hs,ht⟩:=h.open hl;cases e;obtain⟨cur',g1,g2,g3,g4,g5,g6⟩:=Xm vs (m*R.k) w cur hh
 have hlk:(l.take m).length=m:=by rw[a2w];omega
 refine⟨⟨by rw[Oe],Or.inr ⟨g,cap,cur',by rw[hlk],hg,g1,by rw[hlk];omega,hm,by rw[g2];exact hs,?_⟩⟩,g6⟩
 refine dV fun y hy j hj=>?_
 rw[hlk] at hy;rw[List.getElem_take,←Uh ht y (by omega) j hj];have:(y+1)*R.k≤m*R.k:=a0v _ (by omega);rw[a0u] at this;exact g3 _ (by omega)
theorem Ag.less{w:World}{base g n cap m:Nat}{l:List α}(h:Ag R w base (.slice (some ⟨g,0,none⟩) n cap) l)(hk:m≤l.length)(hl:0<l.length):Ag R w base (.slice (some ⟨g,0,none⟩) m cap) (l.take m):=(h.cut [] hk hl rfl).1
end
section
open Go.RowKit
structure Ar where
 id:Nat
 phase:Int
 e:Int
 input:ByteArray
structure Hi(j:Ar):Prop where
 id:j.id<18446744073709551616
 p0: -9223372036854775808≤j.phase
 p1:j.phase≤9223372036854775807
 e0: -9223372036854775808≤j.e
 e1:j.e≤9223372036854775807
 input:j.input.size≤1000000000
def Kq:Ar:=⟨0,0,0,⟨#[]⟩⟩
def Eh(j:Ar):List Value:=[.int .u64 j.id,.int .i64 j.phase,.int .i64 j.e,.string j.input]
def Gf(j:Ar):Value:=.agg (Eh j).toArray
def Eb:G3 Ar:=⟨42,4,Eh,fun _=>rfl,by decide,by intro x v hv;simp only[Eh,List.mem_cons,List.not_mem_nil,or_false] at hv;rcases hv with rfl|rfl|rfl|rfl<;>rfl⟩
def Ie(id p e:Nat):List UInt8:=Gl id++[a1w p,a1w e,a1w (e/256)]
def Ig(j:Ar):Bool:=decide (j.phase<1)||decide (5<j.phase)||decide (j.e<0)||decide (65535<j.e)
def Au(j:Ar):ByteArray:=bl (Ie j.id j.phase.toNat j.e.toNat)++j.input
def Dx(j:Ar):ByteArray × Int:=if Ig j then(⟨#[]⟩,1) else if 60000<j.input.size then(⟨#[]⟩,71) else(Au j,0)
def Ui(s:ByteArray):Bool:=decide (s.size<11)||decide ((A1 s 8).toNat<1)||decide (5<(A1 s 8).toNat)||decide (60011<s.size)
def Xn(s:ByteArray):Ar:=⟨Eo s 8,((A1 s 8).toNat:Int),(((A1 s 9).toNat+(A1 s 10).toNat*256:Nat):Int),s.extract 11 s.size⟩
def Gg(s:ByteArray):Ar × Int:=if Ui s then(Kq,50) else(Xn s,0)
theorem Xo(id p e:Nat):(Ie id p e).length=11:=by simp[Ie,Mc]
theorem Uj(j:Ar):(Au j).size=11+j.input.size:=by
 unfold Au;rw[ByteArray.size_append,Ef,Xo]
def Fa:List Ar→Nat→Option Nat
 |[],_=>none
 |x::r,id=>if x.id=id then some 0 else(Fa r id).map (· +1)
def Fv:List Ar→Ar→List Ar
 |[],j=>[j]
 |x::r,j=>if x.id=j.id then j::r else x::Fv r j
def Hj(l:List Ar)(id:Nat):Option Ar:=l.find? (fun x=>x.id==id)
theorem Uk:∀{l:List Ar} {id i:Nat},Fa l id=some i→i<l.length
 |x::r,id,i,h=>by
  unfold Fa at h;split at h
  ·cases h;simp
  ·obtain⟨k,hk,rfl⟩:=Option.map_eq_some_iff.1 h;have:=Uk hk;simp;omega
theorem dW:∀{l:List Ar} {id k:Nat} (hk:k<l.length),(∀i (h:i<k),¬(l[i]'(Nat.lt_trans h hk)).id=id)→(l[k]).id=id→Fa l id=some k
 |x::r,id,0,_,_,h=>by unfold Fa;rw[if_pos (show x.id=id from h)]
 |x::r,id,k+1,hk,hb,h=>by
  unfold Fa;rw[if_neg (show ¬x.id=id from hb 0 (Nat.succ_pos _)),dW (k:=k) (by simpa using hk) (fun i hi=>hb (i+1) (Nat.succ_lt_succ hi)) h];rfl
theorem dX:∀{l:List Ar} {id:Nat},(∀i (h:i<l.length),¬(l[i]).id=id)→Fa l id=none
 |[],_,_=>rfl
 |x::r,id,hb=>by
  unfold Fa;rw[if_neg (show ¬x.id=id from hb 0 (by simp)),dX (fun i hi=>hb (i+1) (by simpa using hi))];rfl
theorem Xp:∀{l:List Ar} {j:Ar} {i:Nat},Fa l j.id=some i→Fv l j=l.set i j
 |x::r,j,i,h=>by
  unfold Fa at h;unfold Fv;split at h
  ·cases h;rw[if_pos (by assumption)];rfl
  ·obtain⟨k,hk,rfl⟩:=Option.map_eq_some_iff.1 h;rw[if_neg (by assumption),Xp hk];rfl
theorem Xq:∀{l:List Ar} {j:Ar},Fa l j.id=none→Fv l j=l++[j]
 |[],j,_=>rfl
 |x::r,j,h=>by
  unfold Fa at h;unfold Fv;split at h
  ·cases h
  ·rw[if_neg (by assumption),Xq (by simpa using h)];rfl
theorem sS{l:List Ar}{id i:Nat}(h:Fa l id=some i):Hj l id=some (l[i]'(Uk h)):=by
 induction l generalizing i with
 |nil=>cases h
 |cons x r ih=>
  have h0:=h;unfold Fa at h;unfold Hj;rw[List.find?_cons];split at h
  ·cases h;rename_i hx;rw[show(x.id==id)=true by simpa using hx];rfl
  ·rename_i hx;obtain⟨k,hk,rfl⟩:=Option.map_eq_some_iff.1 h;rw[show(x.id==id)=false by simpa using hx];exact ih hk
theorem sT{l:List Ar}{id:Nat}(h:Fa l id=none):Hj l id=none:=by
 induction l with
 |nil=>rfl
 |cons x r ih=>
  unfold Fa at h;unfold Hj;rw[List.find?_cons];split at h
  ·cases h
  ·rename_i hx;rw[show(x.id==id)=false by simpa using hx];exact ih (by simpa using h)
theorem sU(l:List Ar)(j:Ar):(Fv l j).length≤l.length+1∧l.length≤(Fv l j).length:=by
 cases h:Fa l j.id with
 |none=>rw[Xq h];simp
 |some i=>rw[Xp h];simp
def P2(l:List Ar)(id:Nat)(input:ByteArray):Ar ⊕ Int:=
 match Hj l id with
 |some j=>if j.input=input then .inr 0 else .inr 191
 |none=>.inl ⟨id,1,0,input⟩
def Nh(l:List Ar)(id:Nat)(phase e:Int):Ar ⊕ Int:=
 match Hj l id with
 |none=>.inr 3
 |some j=>if 4≤j.phase∨phase<1∨5<phase then .inr 5 else .inl ⟨j.id,phase,e,j.input⟩
def A0(texts:List ByteArray):List Ar:=texts.foldl (fun l t=>Fv l (Gg t).1) []
theorem dY(a:List ByteArray)(t:ByteArray):A0 (a++[t])=Fv (A0 a) (Gg t).1:=by unfold A0;rw[List.foldl_append];rfl
theorem Ul(a:List ByteArray):(A0 a).length≤a.length:=by
 have key:∀(a:List ByteArray) (l:List Ar),(a.foldl (fun l t=>Fv l (Gg t).1) l).length≤l.length+a.length:=by
  intro a
  induction a with
  |nil=>intro l;exact Nat.le_refl _
  |cons t r ih=>
   intro l;have h1:=ih (Fv l (Gg t).1);have h2:=(sU l (Gg t).1).1;simp only[List.foldl_cons,List.length_cons];omega
 have h:=key a [];rw[List.length_nil,a2x] at h;exact h
end
section
open Go.RowKit Go.Lib
def Of(id k:Nat):Array Value:=#[if 0<k then Ba (Cb id 0) else .int .u8 0,if 1<k then Ba (Cb id 1) else .int .u8 0,if 2<k then Ba (Cb id 2) else .int .u8 0,if 3<k then Ba (Cb id 3) else .int .u8 0,if 4<k then Ba (Cb id 4) else .int .u8 0,if 5<k then Ba (Cb id 5) else .int .u8 0,if 6<k then Ba (Cb id 6) else .int .u8 0,if 7<k then Ba (Cb id 7) else .int .u8 0,.int .u8 0,.int .u8 0,.int .u8 0]
def Og(id:Nat)(c8 c9 c10:Bool)(p y z:Int):Array Value:=#[Ba (Cb id 0),Ba (Cb id 1),Ba (Cb id 2),Ba (Cb id 3),Ba (Cb id 4),Ba (Cb id 5),Ba (Cb id 6),Ba (Cb id 7),.int .u8 (if c8 then p else 0),.int .u8 (if c9 then y else 0),.int .u8 (if c10 then z else 0)]
theorem sV(id k:Nat)(hk:k<8):(Of id k).setIfInBounds k (Ba (Cb id k))=Of id (k+1):=by
 have h:k=0∨k=1∨k=2∨k=3∨k=4∨k=5∨k=6∨k=7:=by omega
 rcases h with rfl|rfl|rfl|rfl|rfl|rfl|rfl|rfl<;>rfl
theorem sW(id k:Nat)(hk:k<8):(Of id k)[k]?=some (.int .u8 0):=by
 have h:k=0∨k=1∨k=2∨k=3∨k=4∨k=5∨k=6∨k=7:=by omega
 rcases h with rfl|rfl|rfl|rfl|rfl|rfl|rfl|rfl<;>rfl
theorem sX(id:Nat)(p y z:Int):Of id 8=Og id false false false p y z:=rfl
structure Ni(g q:Nat)(w0:World)(box:Array Value)(id:Nat)(p y z:Int)(c8 c9 c10:Bool)(w:World):Prop where
 blk:w.heap[g]?=some (.cells (Og id c8 c9 c10 p y z) 5 (0,0))
 box:w.heap[q]?=some (.cells box 42 (0,0))
 fp:Fp [] w0 w
theorem Ni.set{g q:Nat}{w0 w:World}{bx:Array Value}{id o:Nat}{p y z:Int}{c8 c9 c10 d8 d9 d10:Bool}{v:Value}(h:Ni g q w0 bx id p y z c8 c9 c10 w)(hg:w0.heap.size≤g)
  (hs:(Og id c8 c9 c10 p y z).setIfInBounds o v=Og id d8 d9 d10 p y z):Ni g q w0 bx id p y z d8 d9 d10 (w.setCell ⟨g,o,none⟩ v):=by
 refine⟨(Bt h.blk _).trans (by rw[hs]),?_,h.fp.trans (Fp.setCell w ⟨g,o,none⟩ v) (by intro i hi;right;simp at hi;omega)⟩
 have hne:q≠g:=by
  rintro rfl;have h1:=h.blk;rw[h.box] at h1;cases h1
 exact(Lu hne _).trans h.box
theorem sY(w:World)(j:Ar)(hj:Hi j):
  Calls Tryz.prog 17 #[Gf j] w fun e w'=>e=.returned (.tuple #[.string (Dx j).1,.int .i64 (Dx j).2])∧Fp [] w w':=by
 obtain⟨id,p,x,inp⟩:=j;obtain⟨hid,hp0,hp1,hx0,hx1,hin⟩:=hj;simp only at hid hp0 hp1 hx0 hx1 hin;have HF1:Hid (Fp [] w (w.alloc (.cells #[.int .u64 id,.int .i64 p,.int .i64 x,.string inp] 42))):=a1x (Fp.alloc _ _);unfold Gf Eh;simp only
 by_cases c1:p<1
 ·have HE:Hid (Dx ⟨id,p,x,inp⟩=(⟨#[]⟩,1)):=by unfold Hid Dx Ig;rw[if_pos (by simp[c1])]
  go_enter Tryz.func17,Tryz.ntmps17;go_wp2_with (fail);go_ret2;rw[HE.out];exact⟨rfl,HF1.out⟩
 by_cases c2:5<p
 ·have HE:Hid (Dx ⟨id,p,x,inp⟩=(⟨#[]⟩,1)):=by unfold Hid Dx Ig;rw[if_pos (by simp[c2])]
  go_enter Tryz.func17,Tryz.ntmps17;go_wp2_with (fail);go_ret2;rw[HE.out];exact⟨rfl,HF1.out⟩
 by_cases c3:x<0
 ·have HE:Hid (Dx ⟨id,p,x,inp⟩=(⟨#[]⟩,1)):=by unfold Hid Dx Ig;rw[if_pos (by simp[c3])]
  go_enter Tryz.func17,Tryz.ntmps17;go_wp2_with (fail);go_ret2;rw[HE.out];exact⟨rfl,HF1.out⟩
 by_cases c4:65535<x
 ·have HE:Hid (Dx ⟨id,p,x,inp⟩=(⟨#[]⟩,1)):=by unfold Hid Dx Ig;rw[if_pos (by simp[c4])]
  go_enter Tryz.func17,Tryz.ntmps17;go_wp2_with (fail);go_ret2;rw[HE.out];exact⟨rfl,HF1.out⟩
 have hbj:Ig ⟨id,p,x,inp⟩=false:=by unfold Ig;simp only[Bool.or_eq_false_iff,decide_eq_false_iff_not];exact⟨⟨⟨c1,c2⟩,c3⟩,c4⟩
 by_cases c5:60000<inp.size
 ·have HE:Hid (Dx ⟨id,p,x,inp⟩=(⟨#[]⟩,71)):=by unfold Hid Dx;rw[hbj,if_neg (by simp),if_pos c5]
  have z5:(60000:Int)<(inp.size:Int):=by omega
  clear hbj;go_enter Tryz.func17,Tryz.ntmps17;go_wp2_with (fail);go_ret2;rw[HE.out];exact⟨rfl,HF1.out⟩
 have HE:Hid (Dx ⟨id,p,x,inp⟩=(Au ⟨id,p,x,inp⟩,0)):=by unfold Hid Dx;rw[hbj,if_neg (by simp),if_neg c5]
 have z5:¬(60000:Int)<(inp.size:Int):=by omega
 obtain⟨pn,rfl⟩:∃n:Nat,p=n:=⟨p.toNat,by omega⟩
 obtain⟨xn,rfl⟩:∃n:Nat,x=n:=⟨x.toNat,by omega⟩
 have hms:∀W:World,(Instr.makeSlice 113 (.int .i64 11) (.int .i64 11)).run Tryz.prog W=.ok (.slice (some ⟨W.heap.size,0,none⟩) 11 11) (W.alloc (.cells (Of id 0) 5)):=fun W=>by
  have h:=run_makeSlice (P:=Tryz.prog) W 113 5 Tryz.t5 (.int .u8 0) Tryz.underlying113 (by kernel_rfl) (by kernel_rfl) .i64 .i64 11 11 (by omega) (Int.le_refl _) (by decide) (by decide) (by decide);exact h.trans (congrArg (fun c=>Result.ok _ (W.alloc (.cells c 5))) (show madeCells (Value.int .u8 0).cells 11=Of id 0 by kernel_rfl))
 have u1:IntKind.u8.wrap (pn:Int)=(pn:Int):=by rw[a3z];omega
 have u2:IntKind.u8.wrap (xn:Int)=((xn%256:Nat):Int):=by rw[a3z];omega
 have u3:IntKind.u8.wrap ((xn:Int)/256)=((xn/256:Nat):Int):=by rw[a3z];omega
 have HEQ:Hid (bl (Ie id pn xn)++inp=Au ⟨id,pn,xn,inp⟩):=by unfold Hid Au;simp only[Int.toNat_natCast]
 have hp1:1≤pn:=by omega
 have hp5:pn≤5:=by omega
 have hxn:xn≤65535:=by omega
 have HB1:Hid (∀o,((w.alloc (.cells #[.int .u64 id,.int .i64 pn,.int .i64 xn,.string inp] 42)).alloc o).heap[w.heap.size]?=some (.cells #[.int .u64 id,.int .i64 pn,.int .i64 xn,.string inp] 42 (0,0))):=a1x (fun o=>C7 (Aj rfl _));have HB2:Hid (∀o o2,((w.alloc o2).alloc o).heap[w.heap.size+1]?=some o):=a1x (fun o o2=>Aj (by simp) _);have HF2:Hid (∀o o2,Fp [] w ((w.alloc o2).alloc o)):=a1x (fun o o2=>(Fp.alloc _ _).alloc' _);have hbv:=Vz id;clear hbj hid hp0 hx0 hx1;go_enter Tryz.func17,Tryz.ntmps17;go_wp2_with (fail)
 go_loopg [31] 8 (fun g vi W=>∃k:Nat,g+k=8∧vi=.int .i64 k∧W.heap[w.heap.size+1]?=some (.cells (Of id k) 5 (0,0))∧W.heap[w.heap.size]?=some (.cells #[.int .u64 id,.int .i64 pn,.int .i64 xn,.string inp] 42 (0,0))∧Fp [] w W)
 case atStart=>exact⟨0,rfl,rfl,HB2.out _ _,HB1.out _,HF2.out _ _⟩
 case round=>
  obtain⟨k,hg,rfl,hblk,hbox,hf⟩:=hrel;have HBLK:=a1x hblk;have HBOX:=a1x hbox;have HF:=a1x hf;have r0:wr.cell? ⟨w.heap.size,0,none⟩=some (.int .u64 id):=Aa hbox 0;have r3:wr.cell? ⟨w.heap.size,3,none⟩=some (.string inp):=Aa hbox 3;clear hblk hbox hf
  by_cases hk:k<8
  ·have q0:wr.cell? ⟨w.heap.size+1,k,none⟩=some (.int .u8 0):=(Aa HBLK.out k).trans (sW id k hk);have f0:wr.frozen? ⟨w.heap.size+1,k,none⟩=false:=Aw HBLK.out k;have HSET:=a1x (sV id k hk);have HBV:=a1x (hbv k);clear hbv;go_wp2_with (fail)
   go_roundg (gk-1)
   case measure=>omega
   case rel=>
    refine⟨k+1,by omega,by go_num,?_,?_,HF.out.trans (Fp.setCell _ ⟨w.heap.size+1,k,none⟩ _) (by intro i hi;right;simp at hi;omega)⟩
    ·rw[←HSET.out,HBV.out];exact(Bt HBLK.out _).trans rfl
    ·exact(Lu (by omega) _).trans HBOX.out
  ·obtain rfl:k=8:=by omega
   have HC0:Hid (Ni (w.heap.size+1) w.heap.size w #[.int .u64 id,.int .i64 pn,.int .i64 xn,.string inp] id pn (xn%256:Nat) (xn/256:Nat) false false false wr):=a1x ⟨by rw[←sX];exact HBLK.out,HBOX.out,HF.out⟩;clear hbv;go_wp2_with (fail);refine Gj (fun bb w'=>Ni (w.heap.size+1) w.heap.size w #[.int .u64 id,.int .i64 pn,.int .i64 xn,.string inp] id pn (xn%256:Nat) (xn/256:Nat) (bb 14) (bb 16) (bb 18) w') (fun _ _=>True) (by kernel_rfl) (by kernel_rfl) ⟨((Fp.drew wr).block _ (Ab HC0.out.blk) (by simp)).trans HC0.out.blk,((Fp.drew wr).block _ (Ab HC0.out.box) (by simp)).trans HC0.out.box,HC0.out.fp.drew'⟩ ?_
   iterate 14
    apply Bm (fun _ _ h=>h) rfl rfl rfl
    ·intro b a w hC hA K hK
     try have h4:=hA.fr 4 rfl
     try have h1:=hA.fr 1 rfl
     try have h47:=hA.eq 3 47 rfl
     try have h48:=hA.eq 4 48 rfl
     try have h50:=hA.eq 6 50 rfl
     try have h51:=hA.eq 7 51 rfl
     try have h53:=hA.eq 9 53 rfl
     try have h54:=hA.eq 10 54 rfl
     try have h55:=hA.eq 11 55 rfl
     try have h44:=hA.eq 0 44 rfl
     have q1:=Aa hC.box 1;have q2:=Aa hC.box 2;simp only[a0z,a0x,a0w] at q1 q2;simp only[Oper.wp,execOp];go_simp;exact hK _ hC trivial
   apply Gn (fun _=>True) rfl rfl
   ·intro b a w hC hA K hK;have h57:=hA.eq 13 57 rfl;have h49:=hA.eq 5 49 rfl;have hb:=hA.self;rw[hb] at hC;have q0:=Aa hC.blk 8;have f0:=Aw hC.blk 8;simp only[Og,a0z,a0x,a0w] at q0;simp only[Oper.wp,execOp];go_simp;exact hK undef _ (Ni.set hC (Nat.le_succ _) rfl) trivial trivial
   apply Bm (fun _ _ h=>h) rfl rfl rfl
   ·intro b a w hC hA K hK;have h45:=hA.eq 1 45 rfl;have q1:=Aa hC.box 1;have q2:=Aa hC.box 2;simp only[a0z,a0x,a0w] at q1 q2;simp only[Oper.wp,execOp];go_simp;exact hK _ hC trivial
   apply Gn (fun _=>True) rfl rfl
   ·intro b a w hC hA K hK;have h58:=hA.eq 15 58 rfl;have h52:=hA.eq 8 52 rfl;have hb:=hA.self;rw[hb] at hC;have q0:=Aa hC.blk 9;have f0:=Aw hC.blk 9;simp only[Og,a0z,a0x,a0w] at q0;simp only[Oper.wp,execOp];go_simp;exact hK undef _ (Ni.set hC (Nat.le_succ _) rfl) trivial trivial
   apply Bm (fun _ _ h=>h) rfl rfl rfl
   ·intro b a w hC hA K hK;have h46:=hA.eq 2 46 rfl;have q1:=Aa hC.box 1;have q2:=Aa hC.box 2;simp only[a0z,a0x,a0w] at q1 q2;simp only[Oper.wp,execOp];go_simp;exact hK _ hC trivial
   apply Gn (fun _=>True) rfl rfl
   ·intro b a w hC hA K hK;have h59:=hA.eq 17 59 rfl;have h56:=hA.eq 12 56 rfl;have hb:=hA.self;rw[hb] at hC;have q0:=Aa hC.blk 10;have f0:=Aw hC.blk 10;simp only[Og,a0z,a0x,a0w] at q0;simp only[Oper.wp,execOp];go_simp;exact hK undef _ (Ni.set hC (Nat.le_succ _) rfl) trivial trivial
   refine⟨?_,?_⟩
   ·refine⟨fun _ _ _ _ _=>trivial,?_⟩;refine B6 _ ?_;refine⟨fun _ _ _ _ _=>trivial,?_⟩;refine B6 _ ?_;refine⟨fun _ _ _ _ _=>trivial,?_⟩
    iterate 14 refine B6 _ ?_
    exact trivial
   ·intro wa bb hC hbb;simp only[List.reverse_cons,List.reverse_nil,List.nil_append,List.cons_append]
    iterate 14 (refine Aq ?_)
    refine Av ?_;intro v14 u14
    iterate 1 (refine Aq ?_)
    refine Av ?_;intro v16 u16
    iterate 1 (refine Aq ?_)
    refine Av ?_;intro v18 u18;refine A8 ?_;simp only[Am,Act.put,List.setIfInBounds_toArray,List.set_cons_succ,List.set_cons_zero];have hC2:=hC;rw[hbb 14 (by decide),hbb 16 (by decide),hbb 18 (by decide)] at hC2;have HC:=a1x hC2;have r4:wa.cell? ⟨w.heap.size,3,none⟩=some (.string inp):=Aa hC2.box 3
    have hcv:(convert 113 9 (.slice (some ⟨w.heap.size+1,0,none⟩) 11 11)).run Tryz.prog wa=.ok (.string (bl (Ie id pn xn))) wa:=by
     refine(Qj (cap:=11) (f:=fun t=>(Ie id pn xn).getD t 0) ⟨Ab hC2.blk,fun j hj=>?_,fun j _=>Aw hC2.blk j⟩).trans ?_
     ·rw[Aa hC2.blk]
      have h11:j=0∨j=1∨j=2∨j=3∨j=4∨j=5∨j=6∨j=7∨j=8∨j=9∨j=10:=by omega
      have b8:Ba (a1w pn)=.int .u8 (pn:Int):=by unfold Ba;rw[a1u,Nat.mod_eq_of_lt (by omega)]
      have b9:Ba (a1w xn)=.int .u8 ((xn%256:Nat):Int):=by unfold Ba;rw[a1u]
      have b10:Ba (a1w (xn/256))=.int .u8 ((xn/256:Nat):Int):=by unfold Ba;rw[a1u,Nat.mod_eq_of_lt (by omega)]
      rcases h11 with rfl|rfl|rfl|rfl|rfl|rfl|rfl|rfl|rfl|rfl|rfl
      ·rfl
      ·rfl
      ·rfl
      ·rfl
      ·rfl
      ·rfl
      ·rfl
      ·rfl
      ·exact congrArg some b8.symm
      ·exact congrArg some b9.symm
      ·exact congrArg some b10.symm
     ·rfl
    have hsz:(bl (Ie id pn xn)).size=11:=by rw[Ef,Xo]
    obtain⟨hs,hhs⟩:∃s,bl (Ie id pn xn)=s:=⟨_,rfl⟩
    rw[hhs] at hcv hsz HEQ
    have zno:¬hs.size+inp.size>9223372036854775807:=by omega
    clear hC hbb hC2 hhs hsz;go_wp2_with (fail);go_ret2;rw[HE.out,←HEQ.out];exact⟨rfl,HC.out.fp⟩
end
end Go.Proofs.YtkagolpnaicdoaaGreatDoor
