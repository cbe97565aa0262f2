/-
 crc.All: the texts that lie one behind the other (an iterator, ranged over). A file's foot: numbers of some bytes; texts with their sums, as table writes them. table.parted: a list of cells in parts of eight (slices.Chunk, an iterator, ranged over).
-/
import Derived.Test.YtkagolpnaicdoaaGreatDoorPTabA
import Derived.Test.YtkagolpnaicdoaaGreatDoorPBlkC
set_option maxRecDepth 100000
set_option maxHeartbeats 8000000
open Go.Lib renaming hid→a0z
open List renaming length_cons→a0x,cons_append→a0w,setIfInBounds_toArray→a0v,nil_append→a0u,length_append→a1z,getElem?_cons_zero→a1x,not_mem_nil→a1w,map_append→a1v,set_cons_succ→a1u,set_cons_zero→a2z,mem_cons→a2x,reverse_cons→a2w,reverse_nil→a2u,getElem?_toArray→a3w
open Go.IntKind renaming wrap_i64→a2v,wrap_u64→a3z
open ByteArray renaming size_extract→a3x
open Array renaming replicate_succ→a3v,replicate_zero→a3u
namespace Go.Proofs.YtkagolpnaicdoaaGreatDoor
section
open Go.RowKit
def Kt:Nat→Nat→ByteArray→List (Nat × ByteArray)
 |0,_,_=>[]
 |n+1,at_,s=>if(Cm (s.extract at_ s.size)).2.2=0 then(at_+(Cm (s.extract at_ s.size)).2.1,(Cm (s.extract at_ s.size)).1)::Kt n (at_+(Cm (s.extract at_ s.size)).2.1) s else[]
def Ee(s:ByteArray):List (Nat × ByteArray):=Kt (s.size+1) 0 s
theorem xH(s:ByteArray):((Cm s).2.2=0∧(Cm s).2.1=E3 s∧6≤E3 s∧E3 s≤s.size∧(Cm s).1=s.extract 6 (E3 s))∨((Cm s).2.2≠0∧(Cm s).2.2<256∧(Cm s).1=⟨#[]⟩):=by
 by_cases h0:s.size=0
 ·right;rw[Td h0];exact⟨by decide,by decide,rfl⟩
 ·by_cases h1:s.size<6
  ·right;rw[Y4 h0 h1];exact⟨by decide,by decide,rfl⟩
  ·by_cases h2:s.size<E3 s
   ·right;rw[Y5 h0 h1 h2];exact⟨by decide,by decide,rfl⟩
   ·by_cases h3:L3 (s.extract 0 2) (s.extract 6 (E3 s))=Pe (Aq s 2) (Aq s 3) (Aq s 4) (Aq s 5)
    ·left;rw[Y6 h0 h1 h2 h3];exact⟨rfl,rfl,by unfold E3;omega,by omega,rfl⟩
    ·right;rw[iQ h0 h1 h2 h3];exact⟨by decide,by decide,rfl⟩
theorem Qy{n at_ k:Nat}{s t:ByteArray}(h:Cm (s.extract at_ s.size)=(t,k,0)):Kt (n+1) at_ s=(at_+k,t)::Kt n (at_+k) s:=by
 show(if _ then _ else _)=_;rw[h];exact if_pos rfl
theorem Qz{n at_ k e:Nat}{s t:ByteArray}(h:Cm (s.extract at_ s.size)=(t,k,e))(he:e≠0):Kt (n+1) at_ s=[]:=by
 show(if _ then _ else _)=_;rw[h];exact if_neg he
theorem Za{s t:ByteArray}{at_ k:Nat}(h:Cm (s.extract at_ s.size)=(t,k,0)):6≤k∧at_+k≤s.size∧t=(s.extract at_ s.size).extract 6 k∧k≤65541+6:=by
 have hh:=xH (s.extract at_ s.size);rw[h] at hh
 rcases hh with⟨_,h1,h2,h3,h4⟩|⟨h1,_⟩
 ·simp only at h1 h4;rw[a3x] at h3
  have hk:E3 (s.extract at_ s.size)≤65541+6:=by
   have:=(Aq (s.extract at_ s.size) 0).toNat_lt;have:=(Aq (s.extract at_ s.size) 1).toNat_lt;unfold E3;omega
  exact⟨by omega,by omega,by rw[h4,←h1],by omega⟩
 ·exact absurd rfl h1
theorem iU:∀(n m at_:Nat) (s:ByteArray),s.size-at_<n→s.size-at_<m→Kt n at_ s=Kt m at_ s
 |0,_,_,_,h,_=>absurd h (Nat.not_lt_zero _)
 |_ +1,0,_,_,_,h=>absurd h (Nat.not_lt_zero _)
 |n+1,m+1,at_,s,h1,h2=>by
  obtain⟨⟨t,k,e⟩,ht⟩:∃x,Cm (s.extract at_ s.size)=x:=⟨_,rfl⟩
  by_cases he:e=0
  ·subst he;have hb:=Za ht;rw[Qy ht,Qy ht,iU n m (at_+k) s (by omega) (by omega)]
  ·rw[Qz ht he,Qz ht he]
def Vx(x:Nat × ByteArray):Array Value:=#[.int .i64 x.1,.string x.2]
theorem xI(base L n bx:Nat)(w:World)(s:ByteArray)(hn:1≤n)(hbx:w.heap[bx]?=some (.cells #[.string s] 9 (0,0)))(hs:s.size≤100000000)(ht:Ce w)(hbxl:bx<base)(hbL:bx≠L)
  (htb:0<base)(htL:0≠L)(S0:List Nat)(hS0:∀k∈S0,k<base∧k≠bx∧k≠0)(J Jx:List (Nat × ByteArray)→World→Prop)
  (hJ:∀s A B,J s A→Fp [] A B→J s B)
  (hy:∀pre x W,(∃post,Ee s=pre++x::post)→J pre W→YieldAt Fence.wide (n-1) Tryz.prog L (Vx x) W fun e W'=>(e=.returned (.bool true)∧J (pre++[x]) W'∧Av 209 base (L::S0) W W')∨(e=.returned (.bool false)∧Jx (pre++[x]) W'))
  (h0:J [] w):
  CallsIn Fence.wide n Tryz.prog 204 #[.func (.yield L) #[] #[],.pointer (some ⟨bx,0,none⟩)] w fun e w'=>(∃v,e=.returned v)∧((∃xs,xs=Ee s∧J xs w')∨∃pre,Jx pre w'):=by
 rw[callsIn_wide];have HY:=a0z hy;have HJ:=a0z hJ;have HS0:=a0z hS0;have HBX:=a0z hbx;have HT:=a0z ht;have HG:=a0z (fun(at_:Nat) (w:World) (ht:Ce w)=>xF (s.extract at_ s.size) w (by rw[a3x];omega) ht);clear hy hJ hS0 hbx ht;go_enter Tryz.func204,Tryz.ntmps204;go_wp2_with (fail)
 go_loopg [3] s.size (fun g va wr=>∃(at_:Nat) (pre:List (Nat × ByteArray)),g+at_=s.size∧va=.int .i64 at_∧J pre wr∧Av 209 base (L::S0) w wr∧Ee s=pre++Kt (g+1) at_ s)
 case atStart=>exact⟨0,[],by omega,rfl,h0,Av.of (Fp.refl [] _) (by simp) |>.mono (by simp),rfl⟩
 case round=>
  obtain⟨at_,pre,hg,rfl,hj,hf,heq⟩:=hrel;have HFW:=a0z hf;have HJK:=a0z hj;have HEQ:=a0z heq;clear hf hj heq;have hbx1:wr.heap[bx]?=some (.cells #[.string s] 9 (0,0)):=(HFW.out.low _ hbxl (Ab HBX.out) (by intro h;rcases List.mem_cons.1 h with h|h;exact hbL h;exact(HS0.out _ h).2.1 rfl)).trans HBX.out;have q0:wr.cell? ⟨bx,0,none⟩=some (.string s):=Aa hbx1 0
  have HT1:Hid (Ce wr):=fun i hi=>by
   have h1:=HT.out i hi;have hlt:=World.block_lt_of_cell? _ _ h1;have hbk:=HFW.out.low 0 htb hlt (by intro h;rcases List.mem_cons.1 h with h|h;exact htL h;exact(HS0.out _ h).2.2 rfl);rw[←h1];unfold World.cell?;rw[hbk]
  clear hbx1
  obtain⟨⟨t,k,e⟩,ht⟩:∃x,Cm (s.extract at_ s.size)=x:=⟨_,rfl⟩
  have HGK:=a0z (HG.out at_);rw[ht] at HGK;have HGT:=a0z ht;clear ht
  have z1:(at_:Int)≤(s.size:Int):=by omega
  go_wp2_with (fail);(with_reducible refine(HGK.out _ HT1.out).mono ?_);rintro e1 w1 ⟨rfl,hf1⟩;have HJ1:=a0z (HJ.out _ _ _ HJK.out hf1);have HFW1:=a0z (HFW.out.trans (Av.of (hf1.mono (by simp):Fp [] wr w1) (by simp)) (by simp));clear hf1
  by_cases he:e=0
  ·subst he;obtain⟨hb1,hb2,-,hb4⟩:=Za HGT.out;have HE:=a0z HEQ.out;rw[Qy HGT.out] at HE
   have n1:IntKind.i64.wrap ((at_:Int)+(k:Int))=((at_+k:Nat):Int):=by rw[a2v];omega
   obtain⟨a2,ha2⟩:∃a2,at_+k=a2:=⟨_,rfl⟩
   rw[ha2] at n1 HE;obtain⟨fn,tm,asg,bd,hyl,hrd⟩:=HY.out pre (a2,t) w1 ⟨_,HE.out⟩ HJ1.out;have HRD:=a0z hrd;clear hrd;unfold Vx at hyl
   go_upto_region 4 with(fail)
   refine(wpIn_wide (n:=n)).1 ?_
   gi_wp2_with (fail)
   (with_reducible refine HRD.out.mono ?_);rintro e W1 (⟨rfl,hj1,hf1⟩|⟨rfl,hjx⟩)
   ·have HJ2:=a0z hj1;have HFW2:=a0z (HFW1.out.trans hf1 (by intro i hi;exact hi));clear hj1 hf1
    gi_wp2_with (fail)
    go_wp2_with (fail)
    go_roundg (s.size-a2)
    case measure=>omega
    case rel=>
     refine⟨a2,pre++[(a2,t)],by omega,rfl,HJ2.out,HFW2.out,?_⟩;rw[HE.out,List.append_assoc,iU gk (s.size-a2+1) a2 s (by omega) (by omega)];rfl
   ·have HJX:=a0z hjx;clear hjx
    gi_wp2_with (fail)
    go_wp2_with (fail);refine bodyPost_ret (results_none rfl _ _ _) rfl ?_;exact⟨⟨_,rfl⟩,Or.inr ⟨_,HJX.out⟩⟩
  ·have z2:((e:Int)!=0)=true:=by rw[bne_iff_ne];omega
   go_wp2_with (fail);refine bodyPost_ret (results_none rfl _ _ _) rfl ?_;refine⟨⟨_,rfl⟩,Or.inl ⟨pre,?_,HJ1.out⟩⟩;have:=HEQ.out;rw[Qz HGT.out he,List.append_nil] at this;exact this.symm
theorem xJ(w:World)(s:ByteArray):Calls Tryz.prog 131 #[.string s] w fun e w'=>e=.returned (.func (.func 204) #[] #[.pointer (some ⟨w.heap.size,0,none⟩)])∧w'.heap[w.heap.size]?=some (.cells #[.string s] 9 (0,0))∧Fp [] w w':=by
 go_enter Tryz.func131,Tryz.ntmps131;go_wp2_with (fail);go_ret;exact⟨rfl,Ai rfl _,Fp.alloc _ _⟩
theorem xK{F:Fence}{n:Nat}{w:World}{ops:Array Oper}{rest:List Oper}{o:Oper}{a:Act}{Q:Exit→Act→World→Prop}(hgd:o.guard=none)(s x:Operand)
  (ho:o.op=.call {callee:=.builtin .append,args:=#[s,x],argTypes:=#[22,22]})(base:Nat)(v:Value)(l:List ByteArray)(hs:a.eval s=v)(hown:B9 w base v l)
  (g:Nat)(t:ByteArray)(hx:a.eval x=.slice (some ⟨g,0,none⟩) 1 1)(hg:w.cell? ⟨g,0,none⟩=some (.string t))(hlen:l.length+1≤1000000000)(hbase:base≤w.heap.size)
  (h:∀v' w',B9 w' base v' (l++[t])→w.grownBy w' v.ownBlock→Below base w w'→wpListIn F n Tryz.prog ops Q rest (a.put o.dst v') w'):wpListIn F n Tryz.prog ops Q (o::rest) a w:=by
 obtain⟨i0,hi,hz0,hz1,hz2⟩:=info_parts Tryz.info9;refine wpListIn_append_own w hgd s x 22 ho base 9 i0 _ 1 16 Tryz.underlying22 hi hz0 hz1 hz2 rfl (by decide) v l.length (l.map Value.string) hs hown ⟨g,0,none⟩ 1 1 [.string t] hx rfl ?_ (by intro u hu;simp at hu;subst hu;rfl) (by unfold maxLen;omega) (by omega) hbase ?_
 ·intro j u hu
  have hj:j=0:=by
   have:=(List.getElem?_eq_some_iff.1 hu).1
   simpa using this
  subst hj;simp at hu;subst hu
  have e1:(⟨g,0,none⟩:Addr).add 0=⟨g,0,none⟩:=by unfold Addr.add;split<;>simp_all
  rw[e1];exact hg
 ·intro v' w' h1 h2 _;refine h v' w' ?_ h2 ((Below.refl base w).grown h2 hbase (fun k hk=>(hown.lt k hk).1));unfold B9;rw[a1z,a1v];exact h1
theorem Vy{T e:TypeId}{w w':World}{base n size:Nat}{v:Value}{l:List Value}(hT:T≠e)(h:w.ownsRow base e size v n l)(hg:w.grownBy w' v.ownBlock)(hb:base≤w.heap.size):Av T base [] w w':=by
 refine⟨hg.size,fun k h1 _ _=>((Below.refl base w).grown hg hb (fun k hk=>(World.ownsRow.lt h k hk).1)).block k h1,fun k c fz _ h2=>hg.block k (Ab h2) fun e1=>?_⟩
 rcases h.2 with⟨rfl,_⟩|⟨g,cap,cur,rfl,_,hh,_⟩
 ·cases e1
 ·obtain rfl:k=g:=by simpa [Value.ownBlock] using e1
  rw[hh] at h2;cases h2;exact hT rfl
theorem B9.slice{w:World}{base:Nat}{v:Value}{l:List ByteArray}(h:B9 w base v l):∃a n cap,v=.slice a n cap:=by
 rcases h.2 with⟨rfl,_⟩|⟨g,cap,cur,rfl,_⟩
 ·exact⟨_,_,_,rfl⟩
 ·exact⟨_,_,_,rfl⟩
theorem iV:∀(n at_:Nat) (s:ByteArray),(Kt n at_ s).length≤n
 |0,_,_=>Nat.le_refl _
 |n+1,at_,s=>by
  obtain⟨⟨t,k,e⟩,ht⟩:∃x,Cm (s.extract at_ s.size)=x:=⟨_,rfl⟩
  by_cases he:e=0
  ·subst he;rw[Qy ht,a0x];have:=iV n (at_+k) s;omega
  ·rw[Qz ht he];exact Nat.zero_le _
def Fv(l:List (Nat × ByteArray)):Nat:=(l.getLast?.map (·.1)).getD 0
theorem xM(l:List (Nat × ByteArray))(x:Nat × ByteArray):Fv (l++[x])=x.1:=by unfold Fv;simp
structure Vz(w w1:World)(pre:List (Nat × ByteArray))(W:World):Prop where
 ex:∃v,W.heap[w.heap.size]?=some (.cells #[v] 22 (0,0))∧B9 W (w1.heap.size+2) v (pre.map (·.2))
 en:W.heap[w.heap.size+1]?=some (.cells #[.int .i64 (Fv pre)] 3 (0,0))
 fp:Fp [] w W
theorem Vz.on{w w1 A B:World}{pre:List (Nat × ByteArray)}{S:List Nat}(h:Vz w w1 pre A)(hf:Fp S A B)(hS:∀k∈S,w.heap.size+2≤k∧k<w1.heap.size+2):Vz w w1 pre B:=by
 obtain⟨v,hv,ho⟩:=h.ex;refine⟨⟨v,(hf.block _ (Ab hv) fun hm=>by have:=hS _ hm;omega).trans hv,ho.fp hf fun k hk=>(hS k hk).2⟩,(hf.block _ (Ab h.en) fun hm=>by have:=hS _ hm;omega).trans h.en,h.fp.trans hf fun k hk=>Or.inr (by have:=hS k hk;omega)⟩
def iW(w:World)(s:ByteArray)(x:Nat × ByteArray):Act:={tmps:=#[.string s,undef,.pointer (some ⟨w.heap.size,0,none⟩),.pointer (some ⟨w.heap.size+1,0,none⟩),.int .i64 x.1,.string x.2,.string s,.func (.func 204) #[] #[.pointer (some ⟨w.heap.size+1+1,0,none⟩)],.int .i64 x.1,.string x.2,undef,undef,undef,undef,undef,undef,undef],defers:=[]}
structure It(W:World)(b:Nat)(v:Value)(en:Nat)(w':World):Prop where
 h0:w'.heap[b]?=some (.cells #[v] 22 (0,0))
 h1:w'.heap[b+1]?=some (.cells #[.int .i64 en] 3 (0,0))
 fp:Fp [b,b+1] W w'
theorem It.q0{W w':World}{b en:Nat}{v:Value}(h:It W b v en w'):w'.cell? ⟨b,0,none⟩=some v:=Aa h.h0 0
theorem It.q1{W w':World}{b en:Nat}{v:Value}(h:It W b v en w'):w'.cell? ⟨b+1,0,none⟩=some (.int .i64 en):=Aa h.h1 0
theorem It.z0{W w':World}{b en:Nat}{v:Value}(h:It W b v en w'):w'.frozen? ⟨b,0,none⟩=false:=Ar h.h0 0
theorem It.z1{W w':World}{b en:Nat}{v:Value}(h:It W b v en w'):w'.frozen? ⟨b+1,0,none⟩=false:=Ar h.h1 0
theorem It.st0{W w':World}{b en:Nat}{v:Value}(h:It W b v en w'):It W b v en (w'.setCell ⟨b,0,none⟩ v):=
 ⟨(Bm h.h0 v).trans rfl,((Fp.setCell w' ⟨b,0,none⟩ v).block _ (Ab h.h1) (by simp)).trans h.h1,h.fp.setCell' (Or.inl (by simp)) _⟩
theorem It.st1{W w':World}{b en:Nat}{v:Value}(h:It W b v en w'):It W b v en (w'.setCell ⟨b+1,0,none⟩ (.int .i64 en)):=
 ⟨((Fp.setCell w' ⟨b+1,0,none⟩ _).block _ (Ab h.h0) (by simp)).trans h.h0,(Bm h.h1 _).trans rfl,h.fp.setCell' (Or.inl (by simp)) _⟩
attribute [local go_sem] Oper.semAt_some
theorem xN(w:World)(s:ByteArray)(hs:s.size≤100000000)(ht:Ce w):
  Calls Tryz.prog 75 #[.string s] w fun e w'=>∃v,e=.returned (.tuple #[v,.int .i64 (Fv (Ee s))])∧B9 w' w.heap.size v ((Ee s).map (·.2))∧Fp [] w w':=by
 have HT:=a0z ht;clear ht;have HFN:=a0z (fun w=>xJ w s);rw[←callsIn_wide (n:=5)];refine callsIn_of_wp_marks Tryz.func75 rfl trivial ?_ rfl;simp only[Tryz.ntmps75,List.size_toArray,a0x,List.length_nil,Nat.reduceAdd,Nat.reduceSub,a3v,a3u,List.push_toArray,List.append_toArray,a0u,a0w]
 gi_wp2_with (fail)
 refine⟨trivial,?_⟩;(with_reducible refine((callsIn_wide (n:=4)).2 (HFN.out _)).mono ?_);rintro e w1 ⟨rfl,hbx,hf1⟩;have hl0:w1.heap[w.heap.size]?=some (.cells #[.slice none 0 0] 22 (0,0)):=(hf1.block _ (by simp;omega) (by simp)).trans (Cb (Ai rfl _));have hl1:w1.heap[w.heap.size+1]?=some (.cells #[.int .i64 0] 3 (0,0)):=(hf1.block _ (by simp) (by simp)).trans (Ai (by simp) _);have hsz0:w.heap.size+2<w1.heap.size:=Ab (by simpa using hbx)
 have HBX:Hid (w1.heap[w.heap.size+1+1]?=some (.cells #[.string s] 9 (0,0))):=by show w1.heap[w.heap.size+1+1]?=_;simpa using hbx
 have HF1:Hid (Fp [] w w1):=((Fp.alloc _ _).alloc' _).trans hf1 (by simp);have HT1:=a0z (HT.out.fp HF1.out (by simp));have HL0:=a0z hl0;have HL1:=a0z hl1;have htb:0<w1.heap.size:=World.block_lt_of_cell? _ _ (HT1.out 0 (by decide));have htb0:0<w.heap.size:=World.block_lt_of_cell? _ _ (HT.out 0 (by decide));clear hbx hf1 hl0 hl1
 gi_wp2_with (fail)
 refine S5 (α:=Nat × ByteArray) (encs:=Vx) rfl (enters_of Tryz.func204 (by kernel_rfl) rfl) (fun _=>rfl) 209 [w.heap.size,w.heap.size+1] [] (by simp;omega) (by simp) (w.heap.size+2) (by omega) 0
  (fun pre x=>∃post,Ee s=pre++x::post) (Vz w w1) (fun _ _=>False) (fun xs _=>xs=Ee s)
  (fun _=>True) (fun s A B k h hf hk=>h.on hf (by simp;omega)) (fun s A B h hf _=>h.on hf (by simp;omega)) (fun _ _ _ h _=>h) (fun _ _ _ h _=>h) ?_ ?_ (fun x a' _=>a'=iW w s x) (fun _ _ _ _ h _=>h) ?_ ?_ ?_ (fun _ _ h=>h.elim)
 ·intro J Jx W1 hf1 hsz1 hJ hY hJ0;exact xI (w1.heap.size+2) (w1.heap.size+1) (5-1) (w.heap.size+1+1) W1 s (by decide) ((hf1.block _ (by omega) (by simp)).trans HBX.out) hs (HT1.out.fp hf1 (by simp)) (by omega) (by omega) (by omega) (by omega) [w.heap.size,w.heap.size+1] (by intro k hk;simp only[a2x,a1w,or_false] at hk;omega) J Jx (fun s A B h hf=>hJ s A B h (hf.mono (by simp)) trivial) hY hJ0
 ·exact⟨⟨.slice none 0 0,HL0.out,B9.nil _ _⟩,HL1.out,HF1.out⟩
 ·intro l x W K hW hK;simp only[Vx]
  gi_wp2_with (fail)
  exact hK _ _ (Fp.refl _ _) rfl
 ·rintro l pre ⟨xa,t⟩ a' W ⟨post,hpost⟩ hI hW rfl
  have hpl:pre.length≤100000001:=by
   have h1:=iV (s.size+1) 0 s
   have h2:(Ee s).length=pre.length+(post.length+1):=by rw[hpost,a1z,a0x]
   unfold Ee at h2;omega
  obtain⟨v,hv,ho⟩:=hI.ex
  have q0:∀X:Obj,(W.alloc X).cell? ⟨w.heap.size,0,none⟩=some v:=fun X=>Aa (Cb hv) 0
  have q00:W.cell? ⟨w.heap.size,0,none⟩=some v:=Aa hv 0;have HI:=a0z hI;have HV:=a0z hv;have HO:=a0z ho;have HEN:=a0z hI.en;clear hI hv ho hpost;unfold iW
  gi_wp2_with (gi_at_builtin;(refine xK rfl _ _ rfl (w1.heap.size+2) _ (pre.map (·.2)) rfl (HO.out.fp (Fp.alloc _ _) (by simp)) _ t rfl (by rw[Aa (Ai rfl _)];rfl) (by simp;omega) (by simp;omega) ?_);intro v3 w3 ho3 hg3 hb3;obtain⟨a3,n3,cap3,rfl⟩:=ho3.slice;have HO3:=a0z ho3;have HB3:=a0z hb3;have HK3:=a0z (Vy (show 209≠9 by decide) (HO.out.fp (Fp.alloc _ _) (by simp)) hg3 (by simp;omega));have HV3:=a0z ((hb3.block _ (by omega)).trans (Cb HV.out));have HEN3:=a0z ((hb3.block _ (by omega)).trans (Cb HEN.out));have f1:w3.frozen? ⟨w.heap.size,0,none⟩=false:=Ar HV3.out 0;have f2:w3.frozen? ⟨w.heap.size+1,0,none⟩=false:=Ar HEN3.out 0;have c1:w3.cell? ⟨w.heap.size,0,none⟩=some v:=Aa HV3.out 0;have c2:w3.cell? ⟨w.heap.size+1,0,none⟩=some (.int .i64 (Fv pre)):=Aa HEN3.out 0;clear ho3 hg3 hb3)
  have hk0:=((Av.of (Fp.alloc W (.cells #[.string t] 9)) (by simp):Av 209 (w1.heap.size+2) [] W _).trans HK3.out (by simp)).mono (S':=[w.heap.size,w.heap.size+1]) (by simp);have hf5:Fp [w.heap.size,w.heap.size+1] w3 ((w3.setCell ⟨w.heap.size,0,none⟩ (.slice a3 n3 cap3)).setCell ⟨w.heap.size+1,0,none⟩ (.int .i64 xa)):=((Fp.setCell w3 ⟨w.heap.size,0,none⟩ (.slice a3 n3 cap3)).mono (by simp)).setCell' (Or.inl (by simp)) _;have h4:(w3.setCell ⟨w.heap.size,0,none⟩ (.slice a3 n3 cap3)).heap[w.heap.size]?=some (.cells #[.slice a3 n3 cap3] 22 (0,0)):=(Bm HV3.out _).trans rfl;have h5:(w3.setCell ⟨w.heap.size,0,none⟩ (.slice a3 n3 cap3)).heap[w.heap.size+1]?=some (.cells #[.int .i64 (Fv pre)] 3 (0,0)):=((Fp.setCell w3 ⟨w.heap.size,0,none⟩ (.slice a3 n3 cap3)).block _ (Ab HEN3.out) (by simp)).trans HEN3.out;refine⟨hk0.trans (Av.of hf5 (by intro k hk;simp only[a2x,a1w,or_false] at hk;omega)) (by simp),⟨.slice a3 n3 cap3,?_,?_⟩,?_,?_⟩
  ·exact((Fp.setCell (w3.setCell ⟨w.heap.size,0,none⟩ (.slice a3 n3 cap3)) ⟨w.heap.size+1,0,none⟩ (.int .i64 xa)).block _ (Ab h4) (by simp)).trans h4
  ·rw[a1v];exact HO3.out.fp hf5 (by intro k hk;simp only[a2x,a1w,or_false] at hk;omega)
  ·rw[xM];exact(Bm h5 _).trans rfl
  ·exact(((HI.out.fp.alloc' _).belowTrans (HB3.out.mono (by omega))).setCell' (Or.inr (Nat.le_refl _)) _).setCell' (Or.inr (by show w.heap.size≤w.heap.size+1;omega)) _
 ·rintro xs W rfl hI hK;obtain⟨v,hv,ho⟩:=hI.ex;obtain⟨va,vn,vc,rfl⟩:=ho.slice;have HI:=a0z hI;have HK:=a0z hK;have HV:=a0z hv;have HO:=a0z ho;clear hI hK hv ho
  gi_wp2_with (fail)
  refine wpIn_wide.2 ?_;refine F9 (fun _ w'=>It W w.heap.size (.slice va vn vc) (Fv (Ee s)) w') (fun _ _=>True) (by kernel_rfl) (by kernel_rfl) ⟨HV.out,HI.out.en,(Fp.drew W).mono (by simp)⟩ ?_
  iterate 2
   apply Bi (fun _ _ h=>h) rfl rfl rfl
   ·intro b a w hC hA K hK
    try have h2:=hA.fr 2 rfl
    try have h3:=hA.fr 3 rfl
    have q0:=hC.q0;have q1:=hC.q1;simp only[Oper.wp,execOp];go_simp;exact hK _ hC trivial
  apply Gw (fun _=>True) rfl rfl
  ·intro b a w hC hA K hK;have h2:=hA.fr 2 rfl;have h15:=hA.eq 0 15 rfl;have q0:=hC.q0;have z0:=hC.z0;simp only[Oper.wp,execOp];go_simp;exact hK undef _ hC.st0 trivial trivial
  apply Gw (fun _=>True) rfl rfl
  ·intro b a w hC hA K hK;have h3:=hA.fr 3 rfl;have h16:=hA.eq 1 16 rfl;have q1:=hC.q1;have z1:=hC.z1;simp only[Oper.wp,execOp];go_simp;exact hK undef _ hC.st1 trivial trivial
  refine⟨?_,?_⟩
  ·refine⟨fun _ _ _ _ _=>trivial,?_⟩;refine⟨fun _ _ _ _ _=>trivial,?_⟩;refine Cc _ ?_;refine Cc _ ?_;exact trivial
  ·intro wa bb hC hbb;simp only[a2w,a2u,a0u,a0w]
   iterate 2 (refine Au ?_)
   refine Az ?_;intro v2 u2;refine Az ?_;intro v3 u3;refine A6 ?_;simp only[Am,Act.put,a0v,a1u,a2z];have HA:=a0z hC;have q0:=hC.q0;have q1:=hC.q1;clear hC hbb u2 u3;have hk2:wa.heap[w1.heap.size]?=some (.deferred (some [])):=(HA.out.fp.block _ (Ab HK.out) (by simp;omega)).trans HK.out;have hp:=Fp.putObj wa w1.heap.size (.deferred none)
   gi_wp2_with (fail)
   refine⟨by simp,.inl ⟨_,_,rfl,run_takeDeferred hk2,?_⟩⟩;have c0:(wa.putObj w1.heap.size (.deferred none)).cell? ⟨w.heap.size,0,none⟩=some (.slice va vn vc):=Aa ((hp.block _ (Ab HA.out.h0) (by simp;omega)).trans HA.out.h0) 0;have c1:(wa.putObj w1.heap.size (.deferred none)).cell? ⟨w.heap.size+1,0,none⟩=some (.int .i64 (Fv (Ee s))):=Aa ((hp.block _ (Ab HA.out.h1) (by simp;omega)).trans HA.out.h1) 0;have hfa:=HA.out.fp;exact⟨.tuple #[.slice va vn vc,.int .i64 (Fv (Ee s))],by simp[results,Tryz.results75,go_sem,c0,c1],.slice va vn vc,rfl,((HO.out.fp hfa (by simp;omega)).mono (by omega)).kept (fun k hk=>hp.block k (((HO.out.fp hfa (by simp;omega)).lt k hk).2) (by have:=((HO.out.fp hfa (by simp;omega)).lt k hk).1;simp;omega)),((HI.out.fp.trans hfa (by intro i hi;right;simp at hi;omega)).trans hp (by intro i hi;right;simp at hi;omega))⟩
end
section
open Go.RowKit
def Nh(n k:Nat):List UInt8:=(List.range k).map (B3 n)
def Ef(n k:Nat):ByteArray:=bl (Nh n k)
theorem iY(n k:Nat):(Nh n k).length=k:=by simp[Nh]
theorem Ni(n k:Nat):(Ef n k).size=k:=by unfold Ef;rw[D1,iY]
theorem xO(n k:Nat):Nh n (k+1)=Nh n k++[B3 n k]:=by unfold Nh;rw[List.range_succ,a1v];rfl
theorem Ph(w:World)(n m:Nat)(hn:n<18446744073709551616)(hm:m≤8):
  Calls Tryz.prog 90 #[.int .u64 n,.int .i64 m] w fun e w'=>e=.returned (.string (Ef n m))∧Fp [] w w':=by
 have HN:=a0z hn;clear hn;go_enter Tryz.func90,Tryz.ntmps90;go_wp2
 go_loopg [5,8] m (fun g v' i wr=>∃k:Nat,g+k=m∧i=.int .i64 k∧Bn wr w.heap.size v' (Nh n k)∧Below w.heap.size w wr)
 case atStart=>exact⟨0,by omega,rfl,Bn.nil _ _,Below.refl _ _⟩
 case round=>
  obtain⟨k,hg,rfl,ho,hbel⟩:=hrel;have HO:=a0z ho;have HB:=a0z hbel;clear ho hbel
  by_cases hk:k<m
  ·have hk8:k<8:=by omega
   have hcl:(wr.alloc (.cells #[.int .u8 ((n:Int)/2^(8*k)%256)] 5)).cell? ⟨wr.heap.size,0,none⟩=some (A4 (B3 n k)):=by
    rw[Xc];exact Aa (Ai rfl _) 0
   have HCL:=a0z hcl;have hbw:w.heap.size≤wr.heap.size:=HB.out.size
   have hlk:(Nh n k).length+1≤1000000000:=by rw[iY];omega
   have HLK:=a0z hlk
   have zk:(k:Int)<(m:Int):=by omega
   clear hcl hlk;go_wp2_with (at_builtin;refine Uh rfl _ _ rfl w.heap.size _ _ rfl (HO.out.alloc _) wr.heap.size 0 1 1 [B3 n k] rfl rfl (W9 HCL.out) HLK.out (by simp;omega) ?_;intro v2 w2 hown2 hbel2);have HO2:=a0z hown2;have HB2:=a0z hbel2;clear hown2 hbel2;go_wp2
   go_roundg (gk-1)
   case measure=>omega
   case rel=>exact⟨k+1,by omega,by go_num,by rw[xO];exact HO2.out,(HB.out.alloc hbw _).trans HB2.out⟩
  ·obtain rfl:k=m:=by omega
   have hcv:=Xb HO.out;rw[show(⟨(Nh n k).toArray⟩:ByteArray)=Ef n k from rfl] at hcv
   have zk:¬(k:Int)<(k:Int):=by omega
   go_wp2_with (fail);go_ret;exact⟨rfl,Fp.refl _ _ |>.belowTrans HB.out⟩
def Iu(s:ByteArray):ByteArray:=(K8 s).1
theorem V0(s:ByteArray)(w:World)(hs:s.size≤100000000)(ht:Ce w):
  Calls Tryz.prog 92 #[.string s] w fun e w'=>e=.returned (.string (Iu s))∧Fp [] w w':=by
 have HP:=a0z (iP s w hs ht);have HR:Hid (Iu s=(K8 s).1):=rfl
 obtain⟨⟨t,n⟩,hp⟩:∃x,K8 s=x:=⟨_,rfl⟩
 rw[hp] at HP HR;clear hp ht;go_enter Tryz.func92,Tryz.ntmps92;go_wp2_with (fail);(with_reducible refine HP.out.mono ?_);rintro e w1 ⟨rfl,hf⟩;have HF:=a0z hf;clear hf;go_wp2_with (fail);go_ret;exact⟨by rw[HR.out];rfl,HF.out⟩
structure Hg where
 blocks:Nat
 index:Nat
 filter:Nat
 seq:Nat
def Hg.text(f:Hg):ByteArray:=Ef f.blocks 4++Ef f.index 4++Ef f.filter 4++Ef f.seq 8
def Zb(f:Hg):Value:=.agg #[.int .i64 f.blocks,.int .i64 f.index,.int .i64 f.filter,.int .u64 f.seq]
theorem xP(f:Hg)(w:World)(h1:f.blocks≤1000000000)(h2:f.index≤1000000000)(h3:f.filter≤1000000000)(h4:f.seq<18446744073709551616):
  Calls Tryz.prog 97 #[Zb f] w fun e w'=>e=.returned (.string f.text)∧Fp [] w w':=by
 obtain⟨b,i,t,q⟩:=f;simp only at h1 h2 h3 h4;have HX:Hid (Hg.text ⟨b,i,t,q⟩=Ef b 4++Ef i 4++Ef t 4++Ef q 8):=rfl;have s1:=Ni b 4;have s2:=Ni i 4;have s3:=Ni t 4;have s4:=Ni q 8;have M1:=a0z (show ∀w,Calls Tryz.prog 90 #[.int .u64 b,.int .i64 4] w (fun e w'=>e=.returned (.string (Ef b 4))∧Fp [] w w') from fun w=>Ph w b 4 (by omega) (by decide));have M2:=a0z (show ∀w,Calls Tryz.prog 90 #[.int .u64 i,.int .i64 4] w (fun e w'=>e=.returned (.string (Ef i 4))∧Fp [] w w') from fun w=>Ph w i 4 (by omega) (by decide));have M3:=a0z (show ∀w,Calls Tryz.prog 90 #[.int .u64 t,.int .i64 4] w (fun e w'=>e=.returned (.string (Ef t 4))∧Fp [] w w') from fun w=>Ph w t 4 (by omega) (by decide));have M4:=a0z (show ∀w,Calls Tryz.prog 90 #[.int .u64 q,.int .i64 8] w (fun e w'=>e=.returned (.string (Ef q 8))∧Fp [] w w') from fun w=>Ph w q 8 h4 (by decide))
 obtain⟨x1,hx1⟩:∃x,Ef b 4=x:=⟨_,rfl⟩
 obtain⟨x2,hx2⟩:∃x,Ef i 4=x:=⟨_,rfl⟩
 obtain⟨x3,hx3⟩:∃x,Ef t 4=x:=⟨_,rfl⟩
 obtain⟨x4,hx4⟩:∃x,Ef q 8=x:=⟨_,rfl⟩
 rw[hx1] at s1 HX M1;rw[hx2] at s2 HX M2;rw[hx3] at s3 HX M3;rw[hx4] at s4 HX M4;clear hx1 hx2 hx3 hx4
 have w1:IntKind.u64.wrap (b:Int)=b:=by rw[a3z];omega
 have w2:IntKind.u64.wrap (i:Int)=i:=by rw[a3z];omega
 have w3:IntKind.u64.wrap (t:Int)=t:=by rw[a3z];omega
 have HC0:Hid ((w.alloc (.cells #[.int .i64 b,.int .i64 i,.int .i64 t,.int .u64 q] 144)).heap[w.heap.size]?=some (.cells #[.int .i64 b,.int .i64 i,.int .i64 t,.int .u64 q] 144 (0,0))):=Ai rfl _;unfold Zb;go_enter Tryz.func97,Tryz.ntmps97;go_wp2_with (fail);refine Df (by kernel_rfl) (by kernel_rfl) ?_
 iterate 19
  apply A9 rfl rfl rfl
  ·intro a w hC hA K hK
   try have h1:=hA.fr 1 rfl
   try have h3:=hA.eq 0 3 rfl
   try have h4:=hA.eq 1 4 rfl
   try have h5:=hA.eq 2 5 rfl
   try have h7:=hA.eq 4 7 rfl
   try have h8:=hA.eq 5 8 rfl
   try have h9:=hA.eq 6 9 rfl
   try have h6:=hA.eq 3 6 rfl
   try have h10:=hA.eq 7 10 rfl
   try have h12:=hA.eq 9 12 rfl
   try have h13:=hA.eq 10 13 rfl
   try have h14:=hA.eq 11 14 rfl
   try have h11:=hA.eq 8 11 rfl
   try have h15:=hA.eq 12 15 rfl
   try have h17:=hA.eq 14 17 rfl
   try have h18:=hA.eq 15 18 rfl
   try have h16:=hA.eq 13 16 rfl
   try have h19:=hA.eq 16 19 rfl
   try have h20:=hA.eq 17 20 rfl
   have hb:=(hC.block _ (by simp) (by simp)).trans HC0.out;have q0:=Aa hb 0;have q1:=Aa hb 1;have q2:=Aa hb 2;have q3:=Aa hb 3;simp only[a3w,List.getElem?_cons_succ,a1x] at q0 q1 q2 q3;simp only[Oper.wp,execOp];go_simp
   first
   |exact hK _ hC (Fp.refl _ _)
   |first
     |((with_reducible refine(M1.out _).mono ?_);rintro e w2 ⟨rfl,hf⟩;exact hK _ (hC.trans hf (by simp)) hf)
     |((with_reducible refine(M2.out _).mono ?_);rintro e w2 ⟨rfl,hf⟩;exact hK _ (hC.trans hf (by simp)) hf)
     |((with_reducible refine(M3.out _).mono ?_);rintro e w2 ⟨rfl,hf⟩;exact hK _ (hC.trans hf (by simp)) hf)
     |((with_reducible refine(M4.out _).mono ?_);rintro e w2 ⟨rfl,hf⟩;exact hK _ (hC.trans hf (by simp)) hf)
 refine⟨?_,?_⟩
 ·repeat(first|exact trivial|refine C3 _ ?_ |refine⟨fun w1 w2 v _ hf ⟨g,h1,h2⟩=>⟨g,h1,(hf.block g (Ab h2) (by simp)).trans h2⟩,?_⟩)
 ·intro w' hC;simp only[a2w,a2u,a0u,a0w]
  iterate 19 (refine Au ?_)
  refine A6 ?_;simp only[Am,Act.put,a0v,a1u,a2z];have HF:=a0z ((Fp.alloc w _).trans hC (by simp));clear hC;go_wp2_with (fail);go_ret;exact⟨by rw[HX.out];rfl,HF.out⟩
end
section
open Go.RowKit
def Eo(len:Nat):List (Nat × Nat):=(List.range ((len+7)/8)).map fun k=>(8*k,min 8 (len-8*k))
theorem Ti(len:Nat):(Eo len).length=(len+7)/8:=by simp[Eo]
theorem xQ{len k:Nat}(h:8*k<len):Eo len=(Eo len).take k++(8*k,min 8 (len-8*k))::(Eo len).drop (k+1):=by
 have hk:k<(Eo len).length:=by rw[Ti];omega
 have e:(Eo len)[k]=(8*k,min 8 (len-8*k)):=by simp[Eo]
 conv=>lhs;rw[←List.take_append_drop k (Eo len),List.drop_eq_getElem_cons hk,e]
def K9(b o:Nat)(x:Nat × Nat):Value:=.slice (some ⟨b,o+x.1*6,none⟩) x.2 x.2
def V1(b o:Nat)(x:Nat × Nat):Array Value:=#[K9 b o x]
theorem xR(base L n bs bn:Nat)(w:World)(b o len cap:Nat)(hn:1≤n)(hbs:w.heap[bs]?=some (.cells #[.slice (some ⟨b,o,none⟩) len cap] 78 (0,0)))(hbn:w.heap[bn]?=some (.cells #[.int .i64 8] 3 (0,0)))
  (hlc:len≤cap)(hcm:len≤1000000000)(hbsl:bs<base)(hbnl:bn<base)(hsL:bs≠L)(hnL:bn≠L)
  (S0:List Nat)(hS0:∀k∈S0,k<base∧k≠bs∧k≠bn)(J Jx:List (Nat × Nat)→World→Prop)
  (hJ:∀s A B,J s A→Fp [] A B→J s B)
  (hy:∀pre x W,(∃post,Eo len=pre++x::post)→J pre W→YieldAt Fence.wide (n-1) Tryz.prog L (V1 b o x) W fun e W'=>(e=.returned (.bool true)∧J (pre++[x]) W'∧Av 209 base (L::S0) W W')∨(e=.returned (.bool false)∧Jx (pre++[x]) W'))
  (h0:J [] w):
  CallsIn Fence.wide n Tryz.prog 211 #[.func (.yield L) #[] #[],.pointer (some ⟨bs,0,none⟩),.pointer (some ⟨bn,0,none⟩)] w fun e w'=>(∃v,e=.returned v)∧((∃xs,xs=Eo len∧J xs w')∨∃pre,Jx pre w'):=by
 rw[callsIn_wide];have HY:=a0z hy;have HJ:=a0z hJ;have HS0:=a0z hS0;have HBS:=a0z hbs;have HBN:=a0z hbn;clear hy hJ hS0 hbs hbn;go_enter Tryz.func211,Tryz.ntmps211;go_wp2_with (fail)
 go_loopg [4] ((len+7)/8) (fun g vi wr=>∃(k i:Nat),g+k=(len+7)/8∧i=8*k∧vi=.int .i64 i∧J ((Eo len).take k) wr∧Av 209 base (L::S0) w wr)
 case atStart=>exact⟨0,0,by omega,rfl,rfl,by simpa using h0,Av.of (Fp.refl [] _) (by simp) |>.mono (by simp)⟩
 case round=>
  obtain⟨k,i,hg,hik,rfl,hj,hf⟩:=hrel;have HFW:=a0z hf;have HJK:=a0z hj;clear hf hj;have hbs1:wr.heap[bs]?=some (.cells #[.slice (some ⟨b,o,none⟩) len cap] 78 (0,0)):=(HFW.out.low _ hbsl (Ab HBS.out) (by intro h;rcases List.mem_cons.1 h with h|h;exact hsL h;exact(HS0.out _ h).2.1 rfl)).trans HBS.out;have hbn1:wr.heap[bn]?=some (.cells #[.int .i64 8] 3 (0,0)):=(HFW.out.low _ hbnl (Ab HBN.out) (by intro h;rcases List.mem_cons.1 h with h|h;exact hnL h;exact(HS0.out _ h).2.2 rfl)).trans HBN.out;have q0:wr.cell? ⟨bs,0,none⟩=some (.slice (some ⟨b,o,none⟩) len cap):=Aa hbs1 0;have HBS1:=a0z hbs1;have HBN1:=a0z hbn1;clear hbs1 hbn1
  by_cases hlt:i<len
  ·have z0:(i:Int)<(len:Int):=by omega
   have z1:(i:Int)≤(len:Int):=by omega
   have z2:(len:Int)≤(cap:Int):=by omega
   have hci:¬cap=i:=by omega
   obtain⟨m,hm⟩:∃m,min 8 (len-i)=m:=⟨_,rfl⟩
   have hmin:min (8:Int) ((len-i:Nat):Int)=(m:Int):=by omega
   have hm0:0<m:=by omega
   have HSP:=a0z (xQ (len:=len) (k:=k) (by omega));rw[←hik,hm] at HSP
   obtain⟨d,hd⟩:∃d,len-i=d:=⟨_,rfl⟩
   rw[hd] at hmin
   obtain⟨e2,he2⟩:∃e2,i+m=e2:=⟨_,rfl⟩
   have n1:IntKind.i64.wrap ((i:Int)+(m:Int))=(e2:Int):=by rw[a2v];omega
   have z3:(e2:Int)≤(cap:Int):=by omega
   have z4:(i:Int)≤(e2:Int):=by omega
   have hde:e2-i=m:=by omega
   have hei:¬e2=i:=by omega
   have n2:IntKind.i64.wrap ((i:Int)+8)=((i+8:Nat):Int):=by rw[a2v];omega
   obtain⟨j,hj2⟩:∃j,i+8=j:=⟨_,rfl⟩
   rw[hj2] at n2;have HIK:=a0z hik;have HE2:=a0z he2;have HJJ:=a0z hj2;clear hik hm he2 hj2;go_wp2_with (fail);refine Df (by kernel_rfl) (by kernel_rfl) ?_
   iterate 7
    apply A9 rfl rfl rfl
    ·intro a w hC hA K hK
     try have h2:=hA.fr 2 rfl
     try have h1:=hA.fr 1 rfl
     try have h4:=hA.fr 4 rfl
     try have h14:=hA.eq 1 14 rfl
     try have h15:=hA.eq 2 15 rfl
     try have h16:=hA.eq 3 16 rfl
     try have h13:=hA.eq 0 13 rfl
     try have h17:=hA.eq 4 17 rfl
     try have h18:=hA.eq 5 18 rfl
     have r0:=Aa ((hC.block _ (Ab HBS1.out) (by simp)).trans HBS1.out) 0;have r1:=Aa ((hC.block _ (Ab HBN1.out) (by simp)).trans HBN1.out) 0;simp only[a3w,a1x] at r0 r1;simp only[Oper.wp,execOp];go_simp;exact hK _ hC (Fp.refl _ _)
   refine⟨?_,?_⟩
   ·repeat(first|exact trivial|refine C3 _ ?_ |refine⟨fun w1 w2 v _ hf ⟨g,h1,h2⟩=>⟨g,h1,(hf.block g (Ab h2) (by simp)).trans h2⟩,?_⟩)
   ·intro w' hC;simp only[a2w,a2u,a0u,a0w]
    iterate 7 (refine Au ?_)
    refine A6 ?_;simp only[Am,Act.put,a0v,a1u,a2z];have HF1:=a0z (HFW.out.trans (Av.of (hC.mono (by simp):Fp [] wr w') (by simp)) (by simp));have HJ1:=a0z (HJ.out _ _ _ HJK.out hC);have hbs2:=(hC.block _ (Ab HBS1.out) (by simp)).trans HBS1.out;have q1:w'.cell? ⟨bs,0,none⟩=some (.slice (some ⟨b,o,none⟩) len cap):=Aa hbs2 0;have HBN2:=a0z ((hC.block _ (Ab HBN1.out) (by simp)).trans HBN1.out);clear hC hbs2;obtain⟨fn,tm,asg,bd,hyl,hrd⟩:=HY.out ((Eo len).take k) (i,m) w' ⟨_,HSP.out⟩ HJ1.out;have HRD:=a0z hrd;clear hrd;unfold V1 K9 at hyl;simp only at hyl
    go_upto_region 4 with(fail)
    refine(wpIn_wide (n:=n)).1 ?_
    gi_wp2_with (fail)
    (with_reducible refine HRD.out.mono ?_);rintro e W1 (⟨rfl,hj1,hf1⟩|⟨rfl,hjx⟩)
    ·have HJ2:=a0z hj1;have HFW2:=a0z (HF1.out.trans hf1 (by intro i hi;exact hi));have r2:W1.cell? ⟨bn,0,none⟩=some (.int .i64 8):=Aa ((HFW2.out.low _ hbnl (Ab HBN.out) (by intro h;rcases List.mem_cons.1 h with h|h;exact hnL h;exact(HS0.out _ h).2.2 rfl)).trans HBN.out) 0;clear hj1 hf1
     gi_wp2_with (fail)
     go_wp2_with (fail)
     go_roundg (gk-1)
     case measure=>have:=HIK.out;omega
     case rel=>
      refine⟨k+1,j,by have:=HIK.out;omega,by have:=HIK.out;have:=HJJ.out;omega,rfl,?_,HFW2.out⟩;have h1:=HJ2.out;have h2:=HSP.out
      have h3:(Eo len).take (k+1)=(Eo len).take k++[(i,m)]:=by
       have hk:k<(Eo len).length:=by rw[Ti];have:=HIK.out;omega
       have e:(Eo len)[k]?=((Eo len).take k++(i,m)::(Eo len).drop (k+1))[k]?:=congrArg (fun l=>l[k]?) h2;rw[List.getElem?_append_right (by rw[List.length_take];exact Nat.min_le_left _ _)] at e;rw[List.length_take,Nat.min_eq_left (by omega),Nat.sub_self,a1x,List.getElem?_eq_getElem hk] at e;rw[List.take_succ_eq_append_getElem hk,Option.some.inj e]
      rw[h3];exact h1
    ·have HJX:=a0z hjx;clear hjx
     gi_wp2_with (fail)
     go_wp2_with (fail);refine bodyPost_ret (results_none rfl _ _ _) rfl ?_;exact⟨⟨_,rfl⟩,Or.inr ⟨_,HJX.out⟩⟩
  ·have z0:¬(i:Int)<(len:Int):=by omega
   have HIK:=a0z hik;have HG:=a0z hg;clear hik hg;go_wp2_with (fail);go_end0;refine⟨⟨_,rfl⟩,Or.inl ?_⟩;have h1:=HJK.out
   rwa [List.take_of_length_le (by rw[Ti];have:=HIK.out;omega)] at h1
theorem xT(w:World)(v:Value)(a:Option Addr)(len cap:Nat)(hv:v=.slice a len cap):Calls Tryz.prog 135 #[v,.int .i64 8] w fun e w'=>e=.returned (.func (.func 211) #[] #[.pointer (some ⟨w.heap.size,0,none⟩),.pointer (some ⟨w.heap.size+1,0,none⟩)])∧
  w'.heap[w.heap.size]?=some (.cells #[v] 78 (0,0))∧w'.heap[w.heap.size+1]?=some (.cells #[.int .i64 8] 3 (0,0))∧Fp [] w w':=by
 subst hv;have q:((w.alloc (.cells #[.slice a len cap] 78)).alloc (.cells #[.int .i64 8] 3)).cell? ⟨w.heap.size+1,0,none⟩=some (.int .i64 8):=Aa (Ai (by simp) _) 0;go_enter Tryz.func135,Tryz.ntmps135;go_wp2_with (fail);go_ret;exact⟨rfl,Cb (Ai rfl _),Ai (by simp) _,(Fp.alloc _ _).alloc' _⟩
def Fz(w:World)(base:Nat)(v:Value)(l:List Value):Prop:=w.ownsRow base 78 1 v l.length l
theorem Fz.nil(w:World)(base:Nat):Fz w base (.slice none 0 0) []:=World.ownsRow_nil w base _ _
theorem Fz.mono{w:World}{base base':Nat}{v:Value}{l:List Value}(h:Fz w base v l)(hb:base'≤base):Fz w base' v l:=by
 obtain⟨h1,h2⟩:=h;refine⟨h1,?_⟩
 rcases h2 with h2|⟨g,cap,cur,hv,hg,r⟩
 ·exact Or.inl h2
 ·exact Or.inr ⟨g,cap,cur,hv,Nat.le_trans hb hg,r⟩
theorem Fz.lt{w:World}{base:Nat}{v:Value}{l:List Value}(h:Fz w base v l):∀k,v.ownBlock=some k→base≤k∧k<w.heap.size:=World.ownsRow.lt h
theorem Fz.kept{w w':World}{base:Nat}{v:Value}{l:List Value}(h:Fz w base v l)(hf:∀k,v.ownBlock=some k→w'.heap[k]?=w.heap[k]?):Fz w' base v l:=by
 obtain⟨h1,h2⟩:=h;refine⟨h1,?_⟩
 rcases h2 with h2|⟨g,cap,cur,hv,hg,hh,r⟩
 ·exact Or.inl h2
 ·exact Or.inr ⟨g,cap,cur,hv,hg,(hf g (by rw[hv];rfl)).trans hh,r⟩
theorem Fz.fp{w w':World}{base:Nat}{v:Value}{l:List Value}{S:List Nat}(h:Fz w base v l)(hf:Fp S w w')(hS:∀i∈S,i<base):Fz w' base v l:=
 h.kept fun k hk=>hf.block k (h.lt k hk).2 (fun hm=>by have:=hS k hm;have:=(h.lt k hk).1;omega)
theorem Fz.slice{w:World}{base:Nat}{v:Value}{l:List Value}(h:Fz w base v l):∃a n cap,v=.slice a n cap:=by
 rcases h.2 with⟨rfl,_⟩|⟨g,cap,cur,rfl,_⟩
 ·exact⟨_,_,_,rfl⟩
 ·exact⟨_,_,_,rfl⟩
theorem Tryz.infoP:(Tryz.prog.info? 78).map (fun i=>(i.zero,i.size,i.bytes))=some (some (.slice none 0 0),1,24):=by kernel_rfl
theorem xU{F:Fence}{n:Nat}{w:World}{ops:Array Oper}{rest:List Oper}{o:Oper}{a:Act}{Q:Exit→Act→World→Prop}(hgd:o.guard=none)(s x:Operand)
  (ho:o.op=.call {callee:=.builtin .append,args:=#[s,x],argTypes:=#[149,149]})(base:Nat)(v:Value)(l:List Value)(hs:a.eval s=v)(hown:Fz w base v l)
  (g:Nat)(t:Value)(ht:t.oneCell'=true)(hx:a.eval x=.slice (some ⟨g,0,none⟩) 1 1)(hg:w.cell? ⟨g,0,none⟩=some t)(hlen:l.length+1≤1000000000)(hbase:base≤w.heap.size)
  (h:∀v' w',Fz w' base v' (l++[t])→w.grownBy w' v.ownBlock→Below base w w'→wpListIn F n Tryz.prog ops Q rest (a.put o.dst v') w'):wpListIn F n Tryz.prog ops Q (o::rest) a w:=by
 obtain⟨i0,hi,hz0,hz1,hz2⟩:=info_parts Tryz.infoP;refine wpListIn_append_own w hgd s x 149 ho base 78 i0 _ 1 24 Tryz.underlying149 hi hz0 hz1 hz2 rfl (by decide) v l.length l hs hown ⟨g,0,none⟩ 1 1 [t] hx rfl ?_ (by intro u hu;simp at hu;subst hu;exact ht) (by unfold maxLen;omega) (by omega) hbase ?_
 ·intro j u hu
  have hj:j=0:=by
   have:=(List.getElem?_eq_some_iff.1 hu).1
   simpa using this
  subst hj;simp at hu;subst hu
  have e1:(⟨g,0,none⟩:Addr).add 0=⟨g,0,none⟩:=by unfold Addr.add;split<;>simp_all
  rw[e1];exact hg
 ·intro v' w' h1 h2 _;refine h v' w' ?_ h2 ((Below.refl base w).grown h2 hbase (fun k hk=>(hown.lt k hk).1));unfold Fz;rw[a1z];exact h1
structure V3(w w1:World)(b o:Nat)(pre:List (Nat × Nat))(W:World):Prop where
 ex:∃v,W.heap[w.heap.size]?=some (.cells #[v] 149 (0,0))∧Fz W (w1.heap.size+2) v (pre.map (K9 b o))
 fp:Fp [] w W
theorem V3.on{w w1 A B:World}{b o:Nat}{pre:List (Nat × Nat)}{S:List Nat}(h:V3 w w1 b o pre A)(hf:Fp S A B)(hS:∀k∈S,w.heap.size+1≤k∧k<w1.heap.size+2):V3 w w1 b o pre B:=by
 obtain⟨v,hv,ho⟩:=h.ex;refine⟨⟨v,(hf.block _ (Ab hv) fun hm=>by have:=hS _ hm;omega).trans hv,ho.fp hf fun k hk=>(hS k hk).2⟩,h.fp.trans hf fun k hk=>Or.inr (by have:=hS k hk;omega)⟩
def iZ(w:World)(b o len cap:Nat)(x:Nat × Nat):Act:={tmps:=#[.slice (some ⟨b,o,none⟩) len cap,.int .i64 8,undef,undef,.pointer (some ⟨w.heap.size,0,none⟩),K9 b o x,.slice (some ⟨b,o,none⟩) len cap,.int .i64 8,.func (.func 211) #[] #[.pointer (some ⟨w.heap.size+1,0,none⟩),.pointer (some ⟨w.heap.size+1+1,0,none⟩)],K9 b o x,undef,undef,undef,undef,undef],defers:=[]}
attribute [local go_sem] Oper.semAt_some
theorem xW(w:World)(b o len cap:Nat)(hlc:len≤cap)(hcm:len≤1000000000):
  Calls Tryz.prog 77 #[.slice (some ⟨b,o,none⟩) len cap,.int .i64 8] w fun e w'=>∃v,e=.returned v∧Fz w' w.heap.size v ((Eo len).map (K9 b o))∧Fp [] w w':=by
 have HFN:=a0z (fun w=>xT w (.slice (some ⟨b,o,none⟩) len cap) _ _ _ rfl);rw[←callsIn_wide (n:=5)];refine callsIn_of_wp_marks Tryz.func77 rfl trivial ?_ rfl;simp only[Tryz.ntmps77,List.size_toArray,a0x,List.length_nil,Nat.reduceAdd,Nat.reduceSub,a3v,a3u,List.push_toArray,List.append_toArray,a0u,a0w]
 gi_wp2_with (fail)
 refine⟨trivial,?_⟩;(with_reducible refine((callsIn_wide (n:=4)).2 (HFN.out _)).mono ?_);rintro e w1 ⟨rfl,hbs,hbn,hf1⟩;have hl0:w1.heap[w.heap.size]?=some (.cells #[.slice none 0 0] 149 (0,0)):=(hf1.block _ (by simp) (by simp)).trans (Ai rfl _);have hsz0:w.heap.size+2<w1.heap.size:=Ab (by simpa using hbn)
 have HBS:Hid (w1.heap[w.heap.size+1]?=some (.cells #[.slice (some ⟨b,o,none⟩) len cap] 78 (0,0))):=by show w1.heap[w.heap.size+1]?=_;simpa using hbs
 have HBN:Hid (w1.heap[w.heap.size+1+1]?=some (.cells #[.int .i64 8] 3 (0,0))):=by show w1.heap[w.heap.size+1+1]?=_;simpa using hbn
 have HF1:Hid (Fp [] w w1):=(Fp.alloc _ _).trans hf1 (by simp);have HL0:=a0z hl0;clear hbs hbn hf1 hl0
 gi_wp2_with (fail)
 refine S5 (α:=Nat × Nat) (encs:=V1 b o) rfl (enters_of Tryz.func211 (by kernel_rfl) rfl) (fun _=>rfl) 209 [w.heap.size] [] (by simp;omega) (by simp) (w.heap.size+1) (by omega) 0
  (fun pre x=>∃post,Eo len=pre++x::post) (V3 w w1 b o) (fun _ _=>False) (fun xs _=>xs=Eo len)
  (fun _=>True) (fun s A B k h hf hk=>h.on hf (by simp;omega)) (fun s A B h hf _=>h.on hf (by simp;omega)) (fun _ _ _ h _=>h) (fun _ _ _ h _=>h) ?_ ?_ (fun x a' _=>a'=iZ w b o len cap x) (fun _ _ _ _ h _=>h) ?_ ?_ ?_ (fun _ _ h=>h.elim)
 ·intro J Jx W1 hf1 hsz1 hJ hY hJ0;exact xR (w1.heap.size+2) (w1.heap.size+1) (5-1) (w.heap.size+1) (w.heap.size+1+1) W1 b o len cap (by decide) ((hf1.block _ (by omega) (by simp)).trans HBS.out) ((hf1.block _ (by omega) (by simp)).trans HBN.out) hlc hcm (by omega) (by omega) (by omega) (by omega) [w.heap.size] (by intro k hk;simp only[a2x,a1w,or_false] at hk;omega) J Jx (fun s A B h hf=>hJ s A B h (hf.mono (by simp)) trivial) hY hJ0
 ·exact⟨⟨.slice none 0 0,HL0.out,Fz.nil _ _⟩,HF1.out⟩
 ·intro l x W K hW hK;simp only[V1]
  gi_wp2_with (fail)
  exact hK _ _ (Fp.refl _ _) rfl
 ·rintro l pre ⟨xi,xm⟩ a' W ⟨post,hpost⟩ hI hW rfl
  have hpl:pre.length+1≤1000000000:=by
   have h1:=Ti len
   have h2:(Eo len).length=pre.length+(post.length+1):=by rw[hpost,a1z,a0x]
   omega
  obtain⟨v,hv,ho⟩:=hI.ex
  have q0:∀X:Obj,(W.alloc X).cell? ⟨w.heap.size,0,none⟩=some v:=fun X=>Aa (Cb hv) 0
  have q00:W.cell? ⟨w.heap.size,0,none⟩=some v:=Aa hv 0;have HI:=a0z hI;have HV:=a0z hv;have HO:=a0z ho;clear hI hv ho hpost;unfold iZ K9;simp only
  gi_wp2_with (gi_at_builtin;(refine xU rfl _ _ rfl (w1.heap.size+2) _ (pre.map (K9 b o)) rfl (HO.out.fp (Fp.alloc _ _) (by simp)) _ (K9 b o (xi,xm)) rfl rfl (by rw[Aa (Ai rfl _)];rfl) (by simp;omega) (by simp;omega) ?_);intro v3 w3 ho3 hg3 hb3;obtain⟨a3,n3,cap3,rfl⟩:=ho3.slice;have HO3:=a0z ho3;have HB3:=a0z hb3;have HK3:=a0z (Vy (show 209≠78 by decide) (HO.out.fp (Fp.alloc _ _) (by simp)) hg3 (by simp;omega));have HV3:=a0z ((hb3.block _ (by omega)).trans (Cb HV.out));have f1:w3.frozen? ⟨w.heap.size,0,none⟩=false:=Ar HV3.out 0;have c1:w3.cell? ⟨w.heap.size,0,none⟩=some v:=Aa HV3.out 0;clear ho3 hg3 hb3)
  have hk0:=((Av.of (Fp.alloc W (.cells #[K9 b o (xi,xm)] 78)) (by simp):Av 209 (w1.heap.size+2) [] W _).trans HK3.out (by simp)).mono (S':=[w.heap.size]) (by simp);have hf5:Fp [w.heap.size] w3 (w3.setCell ⟨w.heap.size,0,none⟩ (.slice a3 n3 cap3)):=Fp.setCell w3 ⟨w.heap.size,0,none⟩ (.slice a3 n3 cap3);have h4:(w3.setCell ⟨w.heap.size,0,none⟩ (.slice a3 n3 cap3)).heap[w.heap.size]?=some (.cells #[.slice a3 n3 cap3] 149 (0,0)):=(Bm HV3.out _).trans rfl;refine⟨hk0.trans (Av.of hf5 (by simp;omega)) (by simp),⟨.slice a3 n3 cap3,h4,?_⟩,?_⟩
  ·rw[a1v];exact HO3.out.fp hf5 (by simp;omega)
  ·exact(((HI.out.fp.alloc' _).belowTrans (HB3.out.mono (by omega))).setCell' (Or.inr (Nat.le_refl _)) _)
 ·rintro xs W rfl hI hK;obtain⟨v,hv,ho⟩:=hI.ex;obtain⟨va,vn,vc,rfl⟩:=ho.slice;have HI:=a0z hI;have HK:=a0z hK;have q0:W.cell? ⟨w.heap.size,0,none⟩=some (.slice va vn vc):=Aa hv 0;have f0:W.frozen? ⟨w.heap.size,0,none⟩=false:=Ar hv 0;have HV:=a0z hv;have HO:=a0z ho;clear hI hK hv ho
  gi_wp2_with (fail)
  have hf5:Fp [w.heap.size] W (W.setCell ⟨w.heap.size,0,none⟩ (.slice va vn vc)):=Fp.setCell W ⟨w.heap.size,0,none⟩ (.slice va vn vc);have h4:(W.setCell ⟨w.heap.size,0,none⟩ (.slice va vn vc)).heap[w.heap.size]?=some (.cells #[.slice va vn vc] 149 (0,0)):=(Bm HV.out _).trans rfl
  obtain⟨wa,hwa⟩:∃wa,W.setCell ⟨w.heap.size,0,none⟩ (.slice va vn vc)=wa:=⟨_,rfl⟩
  rw[hwa] at hf5 h4 ⊢;have hk2:wa.heap[w1.heap.size]?=some (.deferred (some [])):=(hf5.block _ (Ab HK.out) (by simp;omega)).trans HK.out;have hp:=Fp.putObj wa w1.heap.size (.deferred none);refine⟨by simp,.inl ⟨_,_,rfl,run_takeDeferred hk2,?_⟩⟩;have c0:(wa.putObj w1.heap.size (.deferred none)).cell? ⟨w.heap.size,0,none⟩=some (.slice va vn vc):=Aa ((hp.block _ (Ab h4) (by simp;omega)).trans h4) 0;exact⟨.slice va vn vc,by simp[results,Tryz.results77,go_sem,c0],.slice va vn vc,rfl,((HO.out.fp hf5 (by simp;omega)).mono (by omega)).kept (fun k hk=>hp.block k (((HO.out.fp hf5 (by simp;omega)).lt k hk).2) (by have:=((HO.out.fp hf5 (by simp;omega)).lt k hk).1;simp;omega)),((HI.out.fp.trans hf5 (by intro i hi;right;simp at hi;omega)).trans hp (by intro i hi;right;simp at hi;omega))⟩
end
end Go.Proofs.YtkagolpnaicdoaaGreatDoor
