/-
 'x.f = append(x.f, e)': the class of worlds on the way (for XRegionV), for elements of any type, x.f a place of a block known whole. job.Driver: at, Find, Jobs, Off. Two elements of a slice of the call's own are exchanged, in whatever order: the class of worlds on the way (for XRegionN), for elements of any type. job.Driver: put. job: sure, tried.
-/
import Derived.Test.YtkagolpnaicdoaaGreatDoorPWalE
import Derived.Test.YtkagolpnaicdoaaGreatDoorPJobP
import Derived.Test.YtkagolpnaicdoaaGreatDoorPTabL
import Derived.Test.YtkagolpnaicdoaaGreatDoorPRegionG
import Derived.Test.YtkagolpnaicdoaaGreatDoorPMaps
import Derived.Defers
import Derived.Recover
import Derived.Test.YtkagolpnaicdoaaGreatDoorRows
import Derived.Deep.CutRange
import Derived.WalkKit
import Derived.WalkSmall
set_option maxRecDepth 100000
set_option maxHeartbeats 8000000
open Go.Lib renaming hid→a0z
open Nat renaming le_trans→a0x
open List renaming getElem?_cons_succ→a0w,getElem?_cons_zero→a0v,getElem?_toArray→a0u,getD_eq_getElem?_getD→a1x,setIfInBounds_toArray→a1w,getElem?_eq_getElem→a1v
open Bool renaming false_eq_true→a1z
namespace Go.Proofs.YtkagolpnaicdoaaGreatDoor
section
open Go.RowKit
section
variable {α : Type} {R : Gx α}
theorem aA(T:TypeId){z:Value}{bytes:Nat}(hu:Tryz.prog.underlying T=some (.slice R.e))(hinfo:(Tryz.prog.info? R.e).map (fun i=>(i.zero,i.size,i.bytes))=some (some z,R.k,bytes))(hzs:z.cells.size=R.k)(hby:bytes≤100000)
  {w:World}{o:Oper}{a:Act}{K:Act→World→Prop}{Q:Exit→Act→World→Prop}(s x:Operand)
  (ho:o.op=.call {callee:=.builtin .append,args:=#[s,x],argTypes:=#[T,T]})(base:Nat)(v:Value)(l:List α)(hs:a.eval s=v)(hown:Ae R w base v l)
  (ad:Addr)(m c:Nat)(ls:List α)(hx:a.eval x=.slice (some ad) m c)(hl:Bf R w (some ad) m ls)(hlen:l.length+ls.length≤1000000000)(hbase:base≤w.heap.size)
  (h:∀v' w',Ae R w' base v' (l++ls)→Below base w w'→w.grownBy w' v.ownBlock→K (a.put o.dst v') w'):o.wp Tryz.prog a w K Q:=by
 obtain⟨i0,hi,hz0,hz1,hz2⟩:=info_parts hinfo;have hm:=hl.len;refine wp_append_own (P:=Tryz.prog) w s x T ho base R.e i0 _ R.k bytes hu hi hz0 hz1 hz2 hzs R.pos v l.length (l.flatMap R.enc) hs hown ad m c (ls.flatMap R.enc) hx (by rw[Pq,hm]) ?_ (jS ls) (by unfold maxLen;omega) (a0x (Nat.mul_le_mul (show l.length+m≤1000000000 by omega) hby) (by decide)) hbase ?_
 ·intro j u hju
  rcases hl.cells with h0|⟨b,o,h0,_,hc⟩
  ·subst h0;simp at hju
  ·obtain rfl:=Option.some.inj h0
   have e1:(⟨b,o,none⟩:Addr).add j=⟨b,o+j,none⟩:=by unfold Addr.add;split<;>simp_all
   rw[e1]
   have hjl:j<ls.length*R.k:=by rw[←Pq (R:=R)];exact(List.getElem?_eq_some_iff.1 hju).1
   obtain⟨h1,h2,h3⟩:=Zl hjl R.pos;rw[h3,Tq ls _ _ h2 h1] at hju;have:=hc (j/R.k) h1 (j%R.k) u hju;rw[Nat.add_assoc,←h3] at this;exact this
 ·intro v' w' h1 h2 _;refine h v' w' ?_ ((Below.refl base w).grown h2 hbase (fun k hk=>(hown.lt k hk).1)) h2;unfold Ae;rw[List.length_append,List.flatMap_append,←hm];exact h1
structure Ew(R:Gx α)(D:List TypeId)(T:TypeId)(C:Value→Array Value)(base B:Nat)(v:Value)(l:List α)(x:α)(ib ia is:Nat)(W0:World)(b:Nat→Bool)(vs:Nat→Value)(W:World):Prop where
 own0:b ia=false→Ae R W base v l
 own1:b ia=true→Ae R W base (vs ia) (l++[x])
 bld:b ib=true→b ia=false→∃g,vs ib=.slice (some ⟨g,0,none⟩) 1 1∧Bf R W (some ⟨g,0,none⟩) 1 [x]
 cel:W.heap[B]?=some (.cells (C (if b is=true then vs ia else v)) T (0,0))
 tf:Tf base D [B] W0 W
 oa:b is=true→b ia=true
 ob:b ia=true→b ib=true
 sz:base≤W.heap.size
variable {D : List TypeId} {T : TypeId} {C : Value → Array Value} {base B : Nat} {v : Value} {l : List α} {x : α} {ib ia is : Nat} {W0 W W2 : World} {b : Nat → Bool} {vs : Nat → Value}
theorem T0{a c:Bool}(h:a=true→c=true)(hc:c=false):a=false:=by cases a<;>cases c<;>simp_all
theorem Ew.start{vs:Nat→Value}(ho:Ae R W0 base v l)(hc:W0.heap[B]?=some (.cells (C v) T (0,0)))(hb:base≤W0.heap.size):Ew R D T C base B v l x ib ia is W0 (fun _=>false) vs {W0 with drawn:=W0.drawn+1}:=
 ⟨fun _=>ho.fp (Fp.drew W0) (by simp),(fun h=>by cases h),(fun h=>by cases h),hc,(Tf.of (Fp.drew W0)).mono (by simp),(fun h=>by cases h),(fun h=>by cases h),hb⟩
theorem Ew.plain{k:Nat}{y:Value}(h:Ew R D T C base B v l x ib ia is W0 b vs W)(hk:k≠ib∧k≠ia∧k≠is):Ew R D T C base B v l x ib ia is W0 (Ap b k) (Bw vs k y) W:=by
 obtain⟨h2,h3,h4⟩:=hk;refine⟨?_,?_,?_,?_,h.tf,?_,?_,h.sz⟩
 ·rw[Af h3.symm];exact h.own0
 ·rw[Af h3.symm,Bc h3.symm];exact h.own1
 ·rw[Af h3.symm,Af h2.symm,Bc h2.symm];exact h.bld
 ·rw[Af h4.symm,Bc h3.symm];exact h.cel
 ·rw[Af h4.symm,Af h3.symm];exact h.oa
 ·rw[Af h3.symm,Af h2.symm];exact h.ob
theorem Ew.first(h:Ew R D T C base B v l x ib ia is W0 b vs W)(ha:b ia=false):W.heap[B]?=some (.cells (C v) T (0,0)):=by
 have:=h.cel;rw[T0 h.oa ha] at this;exact this
theorem Ew.on(h:Ew R D T C base B v l x ib ia is W0 b vs W)(ha:b ia=false)(hf:Fp [] W W2){k:Nat}{y:Value}(hk:k≠ib∧k≠ia∧k≠is):Ew R D T C base B v l x ib ia is W0 (Ap b k) (Bw vs k y) W2:=by
 obtain⟨h2,h3,h4⟩:=hk;refine⟨fun _=>(h.own0 ha).fp hf (by simp),fun e=>?_,fun e1 e2=>?_,?_,h.tf.trans (Tf.of hf) (by simp),?_,?_,a0x h.sz hf.size⟩
 ·rw[Af h3.symm,ha] at e;cases e
 ·rw[Af h2.symm] at e1;obtain⟨g,e3,e4⟩:=h.bld e1 ha;exact⟨g,by rw[Bc h2.symm];exact e3,e4.fp hf⟩
 ·rw[Af h4.symm,Bc h3.symm];exact(hf.block _ (Ab h.cel) (by simp)).trans h.cel
 ·rw[Af h4.symm,Af h3.symm];exact h.oa
 ·rw[Af h3.symm,Af h2.symm];exact h.ob
theorem Ew.build(h:Ew R D T C base B v l x ib ia is W0 b vs W)(hb:b ib=false)(hd:ib≠ia∧ib≠is∧ia≠is):
  Ew R D T C base B v l x ib ia is W0 (Ap b ib) (Bw vs ib (.slice (some ⟨W.heap.size,0,none⟩) 1 1)) (W.alloc (.cells (R.enc x).toArray R.e)):=by
 have ha:=T0 h.ob hb;have hf:=Fp.alloc W (.cells (R.enc x).toArray R.e);refine⟨fun _=>(h.own0 ha).fp hf (by simp),fun e=>?_,fun _ _=>⟨W.heap.size,Gq _ _ _,Bf.one (Ai rfl _)⟩,?_,h.tf.trans (Tf.of hf) (by simp),?_,fun _=>Ej _ _,a0x h.sz hf.size⟩
 ·rw[Af hd.1.symm,ha] at e;cases e
 ·rw[Af hd.2.1.symm,Bc hd.1.symm];exact Cb h.cel
 ·rw[Af hd.2.1.symm,Af hd.1.symm];exact h.oa
theorem Ew.append{v':Value}(h:Ew R D T C base B v l x ib ia is W0 b vs W)(hb:b ib=true)(ha:b ia=false)(ho:Ae R W2 base v' (l++[x]))(hg:W.grownBy W2 v.ownBlock)(hD:R.e∈D)(hT:T∉D)(hd:ib≠ia∧ib≠is∧ia≠is):
  Ew R D T C base B v l x ib ia is W0 (Ap b ia) (Bw vs ia v') W2:=by
 have hs:=T0 h.oa ha;have ht:Tf base D [] W W2:=Tf.grown (h.own0 ha) hg hD;refine⟨fun e=>?_,fun _=>by rw[Gq];exact ho,fun _ e=>?_,?_,h.tf.trans ht (by simp),fun e=>?_,fun _=>?_,a0x h.sz ht.size⟩
 ·rw[Ej] at e;cases e
 ·rw[Ej] at e;cases e
 ·rw[Af hd.2.2.symm,hs];exact ht.cells (h.first ha) (by simp) hT
 ·rw[Af hd.2.2.symm,hs] at e;cases e
 ·rw[Af hd.1];exact hb
theorem Ew.store{off:Nat}(h:Ew R D T C base B v l x ib ia is W0 b vs W)(ha:b ia=true)(hs:b is=false)(hC:(C v).setIfInBounds off (vs ia)=C (vs ia))(hT:T≠R.e)(hd:ib≠ia∧ib≠is∧ia≠is):
  Ew R D T C base B v l x ib ia is W0 (Ap b is) (Bw vs is undef) (W.setCell ⟨B,off,none⟩ (vs ia)):=by
 have hf:Fp [B] W (W.setCell ⟨B,off,none⟩ (vs ia)):=Fp.setCell W ⟨B,off,none⟩ (vs ia);have hc:=h.cel;rw[hs] at hc;refine⟨fun e=>?_,fun _=>?_,fun _ e=>?_,?_,h.tf.trans (Tf.of hf) (by simp),fun _=>?_,fun e=>?_,a0x h.sz hf.size⟩
 ·rw[Af hd.2.2,ha] at e;cases e
 ·rw[Bc hd.2.2];have ho:=h.own1 ha
  refine ho.kept fun k hk=>hf.block k (ho.lt k hk).2 fun hm=>?_
  obtain rfl:=List.mem_singleton.1 hm
  rcases ho.2 with⟨h1,_⟩|⟨g,cap,cur,h1,_,hh,_⟩
  ·rw[h1] at hk;cases hk
  ·rw[h1] at hk
   obtain rfl:g=k:=by simpa [Value.ownBlock] using hk
   rw[hh] at hc;cases hc;exact hT rfl
 ·rw[Af hd.2.2,ha] at e;cases e
 ·rw[Ej,if_pos rfl,Bc hd.2.2,Bm hc];rw[←hC];rfl
 ·rw[Af hd.2.2];exact ha
 ·rw[Af hd.2.2] at e;rw[Af hd.2.1];exact h.ob e
theorem Ew.slice(h:Ew R D T C base B v l x ib ia is W0 b vs W)(ha:b ia=true):∃a n c,vs ia=.slice a n c:=by
 obtain⟨a,c,e,_⟩:=(h.own1 ha).len;exact⟨_,_,_,e⟩
end
end
section
open Go.RowKit Go.Lib Go.Maps Go.MapKept Go.ChangeMaps
def Oh(l:List Aj)(id:Nat):Int:=match Es l id with
 |some i=>i
 |none=>-1
theorem Wu{l:List Aj}{id i:Nat}(h:Es l id=some i):Oh l id=i:=by unfold Oh;rw[h]
theorem Wv{l:List Aj}{id:Nat}(h:Es l id=none):Oh l id= -1:=by unfold Oh;rw[h]
structure Q8(w:World)(b o:Nat)(j:Aj):Prop where
 c0:w.cell? ⟨b,o,none⟩=some (.int .u64 j.id)
 c1:w.cell? ⟨b,o+1,none⟩=some (.int .i64 j.phase)
 c2:w.cell? ⟨b,o+2,none⟩=some (.int .i64 j.e)
 c3:w.cell? ⟨b,o+3,none⟩=some (.string j.input)
theorem aB{w:World}{b o:Nat}{j:Aj}(h:Nn D2 w b o j):Q8 w b o j:=⟨h 0 _ rfl,h 1 _ rfl,h 2 _ rfl,h 3 _ rfl⟩
theorem Q9{w:World}{base:Nat}{v:Value}{l:List Aj}{i:Nat}(h:Ae D2 w base v l)(hi:i<l.length):∃g cap,v=.slice (some ⟨g,0,none⟩) l.length cap∧g<w.heap.size∧base≤g∧∀w',Fp [] w w'→Q8 w' g (i*4) l[i]:=by
 obtain⟨g,cap,cur,e,hg,hh,_⟩:=h.open (by omega);subst e;refine⟨g,cap,rfl,Ab hh,hg,fun w' hf=>?_⟩;exact aB ((h.fp hf (by simp)).elem hi).1
theorem lJ(w:World)(q id:Nat)(j:Aj)(hq:w.heap[q]?=some (.cells #[.int .u64 id] 23 (0,0))):
  Calls Tryz.prog 119 #[Bq j,.pointer (some ⟨q,0,none⟩)] w fun e w'=>e=.returned (.bool (decide (j.id=id)))∧Fp [] w w':=by
 obtain⟨i,p,x,inp⟩:=j;have hlt:=Ab hq;have q0:w.cell? ⟨q,0,none⟩=some (.int .u64 id):=Aa hq 0;have HF:=a0z (Fp.alloc w (.cells #[.int .u64 i,.int .i64 p,.int .i64 x,.string inp] 42))
 have HB:Hid (((i:Int)==(id:Int))=decide (i=id)):=by
  unfold Hid
  by_cases h:i=id
  ·subst h;simp
  ·rw[decide_eq_false h];exact beq_eq_false_iff_ne.2 (by omega)
 unfold Bq Bo;simp only;clear hq;go_enter Tryz.func119,Tryz.ntmps119;go_wp2_with (fail);go_ret;exact⟨by rw[←HB.out];rfl,HF.out⟩
theorem lK(w:World)(base q id:Nat)(v:Value)(l:List Aj)(ho:Ae D2 w base v l)(hn:l.length≤1000000)(hq:w.heap[q]?=some (.cells #[.int .u64 id] 23 (0,0))):
  Calls Tryz.prog 118 #[v,.func (.func 119) #[] #[.pointer (some ⟨q,0,none⟩)]] w fun e w'=>e=.returned (.int .i64 (Oh l id))∧Fp [] w w':=by
 obtain⟨a,cap,rfl,-,-⟩:=ho.len;have HO:=a0z ho;have HQ:=a0z hq;have HAT:=a0z (fun w j (h:w.heap[q]?=some (.cells #[.int .u64 id] 23 (0,0)))=>lJ w q id j h);clear ho hq;go_enter Tryz.func118,Tryz.ntmps118;go_wp2_with (fail)
 go_loopg [8] l.length (fun g vi W=>∃k:Nat,g+k=l.length∧vi=.int .i64 k∧(∀i (h:i<l.length),i<k→¬(l[i]).id=id)∧Fp [] w W)
 case atStart=>exact⟨0,by omega,rfl,fun i _ h=>absurd h (Nat.not_lt_zero _),Fp.refl _ _⟩
 case round=>
  obtain⟨k,hg,rfl,hno,hf⟩:=hrel;have HNO:=a0z hno;have HF:=a0z hf;clear hno hf
  by_cases hk:k<l.length
  ·have zk:(k:Int)<(l.length:Int):=by omega
   obtain⟨g,cap2,hv,-,-,hcells⟩:=Q9 HO.out hk;cases hv;obtain⟨k0,k1,k2,k3⟩:=hcells wr HF.out
   have hal:∀i (h:i<l.length),i<k+1→¬(l[k]).id=id→¬(l[i]).id=id:=by
    intro i h h1 h2
    by_cases e:i=k
    ·subst e;exact h2
    ·exact HNO.out i h (by omega)
   have hfirst:(l[k]).id=id→Oh l id=(k:Int):=fun h=>Wu (U2 hk (fun i hi=>HNO.out i (by omega) hi) h)
   obtain⟨j,hj⟩:∃j,l[k]=j:=⟨_,rfl⟩
   rw[hj] at k0 k1 k2 k3 hal hfirst;have HAL:=a0z hal;have HFI:=a0z hfirst;have HC:=a0z (HAT.out wr j ((HF.out.block _ (Ab HQ.out) (by simp)).trans HQ.out));obtain⟨ji,jp,jx,jn⟩:=j;unfold Bq Bo at HC;simp only at HC k0 k1 k2 k3;clear hcells hal hfirst hj
   by_cases hid:ji=id
   ·rw[decide_eq_true hid] at HC;have HFK:=a0z (HFI.out hid);clear HFI hid;go_wp2_with (fail);(with_reducible refine HC.out.mono ?_);rintro e w2 ⟨rfl,hf2⟩;have HF2:=a0z (HF.out.trans hf2 (by simp));clear hf2;go_wp2_with (fail);go_ret;rw[HFK.out];exact⟨rfl,HF2.out⟩
   ·rw[decide_eq_false hid] at HC;have HN:=a0z hid;clear HFI hid;go_wp2_with (fail);(with_reducible refine HC.out.mono ?_);rintro e w2 ⟨rfl,hf2⟩;have HF2:=a0z (HF.out.trans hf2 (by simp));clear hf2;go_wp2_with (fail)
    go_roundg (gk-1)
    case measure=>omega
    case rel=>exact⟨k+1,by omega,by go_num,fun i h h1=>HAL.out i h h1 HN.out,HF2.out⟩
  ·have zk:¬(k:Int)<(l.length:Int):=by omega
   have HE:=a0z (Wv (U3 (fun i hi=>HNO.out i hi (by omega)):Es l id=none));go_wp2_with (fail);go_ret;rw[HE.out];exact⟨rfl,HF.out⟩
def Ht(w:World)(V L:Nat)(v:Value):Prop:=w.heap[V]?=some (.cells #[.pointer (some ⟨L,0,none⟩),v] 123 (0,0))
theorem Ht.fp{w w':World}{S:List Nat}{V L:Nat}{v:Value}(h:Ht w V L v)(hf:Fp S w w')(hS:V∉S):Ht w' V L v:=(hf.block V (Ab h) hS).trans h
theorem aC(w:World)(base V L id:Nat)(v:Value)(l:List Aj)(hV:Ht w V L v)(ho:Ae D2 w base v l)(hn:l.length≤1000000):
  Calls Tryz.prog 64 #[.pointer (some ⟨V,0,none⟩),.int .u64 id] w fun e w'=>e=.returned (.int .i64 (Oh l id))∧Fp [] w w':=by
 have hfa:=Fp.alloc w (.cells #[.int .u64 id] 23);have HC:=a0z (lK (w.alloc (.cells #[.int .u64 id] 23)) base w.heap.size id v l (ho.fp hfa (by simp)) hn (Ai rfl _));have HF:=a0z hfa;have hlt:=Ab hV;obtain⟨a,cap,rfl,-,-⟩:=ho.len;have c1:w.cell? ⟨V,1,none⟩=some (.slice a l.length cap):=Aa hV 1;clear hfa hV ho;go_enter Tryz.func64,Tryz.ntmps64;go_wp2_with (fail);(with_reducible refine HC.out.mono ?_);rintro e w2 ⟨rfl,hf2⟩;have HF2:=a0z (HF.out.trans hf2 (by simp));clear hf2;go_wp2_with (fail);go_ret;exact⟨rfl,HF2.out⟩
def Gs(l:List Aj)(id:Nat):Aj:=(F6 l id).getD Fg
def Gt(l:List Aj)(id:Nat):Bool:=(F6 l id).isSome
theorem T8(w:World)(base V L id:Nat)(v:Value)(l:List Aj)(hV:Ht w V L v)(ho:Ae D2 w base v l)(hn:l.length≤1000000):
  Calls Tryz.prog 25 #[.pointer (some ⟨V,0,none⟩),.int .u64 id] w fun e w'=>e=.returned (.tuple #[Bq (Gs l id),.bool (Gt l id)])∧Fp [] w w':=by
 have hfa:=Fp.alloc w (.cells #[.int .u64 0,.int .i64 0,.int .i64 0,.string ⟨#[]⟩] 42);have hbx:(w.alloc (.cells #[.int .u64 0,.int .i64 0,.int .i64 0,.string ⟨#[]⟩] 42)).heap[w.heap.size]?=some (.cells #[.int .u64 0,.int .i64 0,.int .i64 0,.string ⟨#[]⟩] 42 (0,0)):=Ai rfl _;have HC:=a0z (aC (w.alloc (.cells #[.int .u64 0,.int .i64 0,.int .i64 0,.string ⟨#[]⟩] 42)) base V L id v l (hV.fp hfa (by simp)) (ho.fp hfa (by simp)) hn);have HF:=a0z hfa;have HBX:=a0z hbx;have HO:=a0z (ho.fp hfa (by simp));have HV:=a0z (hV.fp hfa (by simp));clear hfa hV ho hbx
 have hset:∀W:World,Fp [] w W→∀o u,Fp [] w (W.setCell ⟨w.heap.size,o,none⟩ u):=fun W h o u=>h.trans (Fp.setCell W ⟨w.heap.size,o,none⟩ u) (by intro i hi;right;simp at hi;omega)
 have HSET:=a0z hset;clear hset
 cases hat:Es l id with
 |none=>
  have HE:Hid (Gs l id=Fg∧Gt l id=false):=by unfold Hid Gs Gt;rw[dW hat];exact⟨rfl,rfl⟩
  rw[Wv hat] at HC;clear hat;go_enter Tryz.func25,Tryz.ntmps25;go_wp2_with (fail);(with_reducible refine HC.out.mono ?_);rintro e w2 ⟨rfl,hf2⟩;have hb2:=(hf2.block _ (Ab HBX.out) (by simp)).trans HBX.out;have r0:w2.cell? ⟨w.heap.size,0,none⟩=some (.int .u64 0):=Aa hb2 0;have r1:w2.cell? ⟨w.heap.size,1,none⟩=some (.int .i64 0):=Aa hb2 1;have r2:w2.cell? ⟨w.heap.size,2,none⟩=some (.int .i64 0):=Aa hb2 2;have r3:w2.cell? ⟨w.heap.size,3,none⟩=some (.string ⟨#[]⟩):=Aa hb2 3;have f0:w2.frozen? ⟨w.heap.size,0,none⟩=false:=Ar hb2 0;have f1:w2.frozen? ⟨w.heap.size,1,none⟩=false:=Ar hb2 1;have f2:w2.frozen? ⟨w.heap.size,2,none⟩=false:=Ar hb2 2;have f3:w2.frozen? ⟨w.heap.size,3,none⟩=false:=Ar hb2 3;have HF2:=a0z (HF.out.trans hf2 (by simp));clear hf2 hb2;go_wp2_with (fail);refine bodyPost_ret (v:=.tuple #[.agg #[.int .u64 0,.int .i64 0,.int .i64 0,.string ⟨#[]⟩],.bool false]) (by simp[results,Tryz.results25,go_sem, *]) rfl ?_;rw[HE.out.1,HE.out.2];exact⟨rfl,HSET.out _ (HSET.out _ (HSET.out _ (HSET.out _ HF2.out _ _) _ _) _ _) _ _⟩
 |some i=>
  have hi:=U1 hat
  have HE:Hid (Gs l id=l[i]∧Gt l id=true):=by unfold Hid Gs Gt;rw[dV hat];exact⟨rfl,rfl⟩
  rw[Wu hat] at HC;obtain⟨g,cap,rfl,hgw,-,hcells⟩:=Q9 HO.out hi
  obtain⟨j,hj⟩:∃j,l[i]=j:=⟨_,rfl⟩
  rw[hj] at HE hcells;obtain⟨ji,jp,jx,jn⟩:=j;have HCE:=a0z hcells
  have zi:(i:Int)<(l.length:Int):=by omega
  clear hat hcells hj;go_enter Tryz.func25,Tryz.ntmps25;go_wp2_with (fail);(with_reducible refine HC.out.mono ?_);rintro e w2 ⟨rfl,hf2⟩;obtain⟨k0,k1,k2,k3⟩:=HCE.out _ hf2;simp only at k0 k1 k2 k3;have q1:w2.cell? ⟨V,1,none⟩=some (.slice (some ⟨g,0,none⟩) l.length cap):=Aa (HV.out.fp hf2 (by simp)) 1;have hlt2:=Ab (HV.out.fp hf2 (by simp));have hb2:=(hf2.block _ (Ab HBX.out) (by simp)).trans HBX.out;have r0:w2.cell? ⟨w.heap.size,0,none⟩=some (.int .u64 0):=Aa hb2 0;have r1:w2.cell? ⟨w.heap.size,1,none⟩=some (.int .i64 0):=Aa hb2 1;have r2:w2.cell? ⟨w.heap.size,2,none⟩=some (.int .i64 0):=Aa hb2 2;have r3:w2.cell? ⟨w.heap.size,3,none⟩=some (.string ⟨#[]⟩):=Aa hb2 3;have f0:w2.frozen? ⟨w.heap.size,0,none⟩=false:=Ar hb2 0;have f1:w2.frozen? ⟨w.heap.size,1,none⟩=false:=Ar hb2 1;have f2:w2.frozen? ⟨w.heap.size,2,none⟩=false:=Ar hb2 2;have f3:w2.frozen? ⟨w.heap.size,3,none⟩=false:=Ar hb2 3;have HF2:=a0z (HF.out.trans hf2 (by simp));clear hf2 hb2;go_wp2_with (fail);refine bodyPost_ret (v:=.tuple #[.agg #[.int .u64 ji,.int .i64 jp,.int .i64 jx,.string jn],.bool true]) (by simp[results,Tryz.results25,go_sem, *]) rfl ?_;rw[HE.out.1,HE.out.2];exact⟨rfl,HSET.out _ (HSET.out _ (HSET.out _ (HSET.out _ HF2.out _ _) _ _) _ _) _ _⟩
theorem Tryz.infoJob:(Tryz.prog.info? 42).map (fun i=>(i.zero,i.size,i.bytes))=some (some (.agg #[.int .u64 0,.int .i64 0,.int .i64 0,.string ⟨#[]⟩]),4,40):=by kernel_rfl
theorem lL{w:World}{ops:Array Oper}{rest:List Oper}{o:Oper}{a:Act}{Q:Exit→Act→World→Prop}(hgd:o.guard=none)(s x:Operand)
  (ho:o.op=.call {callee:=.builtin .append,args:=#[s,x],argTypes:=#[75,75]})(base:Nat)(v:Value)(l:List Aj)(hs:a.eval s=v)(hown:Ae D2 w base v l)
  (ad:Option Addr)(m c:Nat)(ls:List Aj)(hx:a.eval x=.slice ad m c)(hl:Bf D2 w ad m ls)(hnone:ad=none→c=0)(hlen:l.length+ls.length≤1000000000)(hbase:base≤w.heap.size)
  (h:∀v' w',Ae D2 w' base v' (l++ls)→Below base w w'→w.grownBy w' v.ownBlock→wpList Tryz.prog ops Q rest (a.put o.dst v') w'):wpList Tryz.prog ops Q (o::rest) a w:=
 Wh (R:=D2) 75 Tryz.underlying75 Tryz.infoJob rfl (by decide) hgd s x ho base v l hs hown ad m c ls hx hl hnone hlen hbase h
theorem lM(w:World)(a:Option Addr)(n cap:Nat)(l:List Aj)(hl:Bf D2 w a n l)(hnone:a=none→cap=0)(hn:n≤1000000):
  Calls Tryz.prog 66 #[.slice a n cap] w fun e w'=>∃v',e=.returned v'∧Ae D2 w' w.heap.size v' l∧Fp [] w w':=by
 have HAT:=a0z hl;have HLN:=a0z hl.len
 have q22:∀(w:World) (a:Option Addr) (n c n' c':Nat),(binOp .eql 75 (.slice a n c) (.slice none n' c')).run Tryz.prog w=.ok (.bool a.isNone) w:=fun w a n c n' c'=>Lib.run_eql_slice_nil w _ _ a n c n' c' Tryz.underlying75
 cases a with
 |none=>
  obtain rfl:=hnone rfl
  have hl0:l=[]:=by
   rcases hl.cells with h|⟨b,o,h,_⟩
   ·exact h
   ·cases h
  subst hl0;have hn0:n=0:=hl.len;subst hn0;clear hl hnone;go_enter Tryz.func66,Tryz.ntmps66;go_wp2_with (fail);go_ret;exact⟨_,rfl,Ae.nil _ _,Fp.refl _ _⟩
 |some ad=>
  clear hl hnone;go_enter Tryz.func66,Tryz.ntmps66;go_wp2_with (at_builtin;refine lL rfl _ _ rfl w.heap.size _ [] rfl (Ae.made w _ (Nat.le_refl _)) _ _ _ l rfl (HAT.out.fp (Fp.alloc _ _)) (by intro h;cases h) (by have:=HLN.out;simp;omega) (by simp) ?_;intro v2 w2 hown2 hbel2 _;have HO2:=a0z hown2;have HB2:=a0z hbel2;clear hown2 hbel2);go_ret;exact⟨_,rfl,HO2.out,(Fp.alloc w _).belowTrans (HB2.out.mono (by simp))⟩
theorem Re(w:World)(base V L:Nat)(v:Value)(l:List Aj)(hV:Ht w V L v)(ho:Ae D2 w base v l)(hn:l.length≤1000000):
  Calls Tryz.prog 32 #[.pointer (some ⟨V,0,none⟩)] w fun e w'=>∃v',e=.returned v'∧Ae D2 w' w.heap.size v' l∧Fp [] w w':=by
 obtain⟨a,cap,rfl,hnone,-,hat⟩:=ho.at;have HC:=a0z (lM w a l.length cap l hat hnone hn);have hlt:=Ab hV;have c1:w.cell? ⟨V,1,none⟩=some (.slice a l.length cap):=Aa hV 1;clear hV ho hat hnone;go_enter Tryz.func32,Tryz.ntmps32;go_wp2_with (fail);(with_reducible refine HC.out.mono ?_);rintro e w2 ⟨v2,rfl,ho2,hf2⟩;have HO2:=a0z ho2;have HF2:=a0z hf2;clear ho2 hf2;go_wp2_with (fail);go_ret;exact⟨_,rfl,HO2.out,HF2.out⟩
theorem aD(w:World)(b V L:Nat)(v:Value)(lg:Lg)(hV:Ht w V L v)(hl:B5 w L b lg):
  Calls Tryz.prog 33 #[.pointer (some ⟨V,0,none⟩)] w fun e w'=>e=.returned (.bool lg.off)∧w'=w:=by
 have HC:=a0z (Abe w L b lg hl);have hlt:=Ab hV;have c0:w.cell? ⟨V,0,none⟩=some (.pointer (some ⟨L,0,none⟩)):=Aa hV 0;clear hV hl;go_enter Tryz.func33,Tryz.ntmps33;go_wp2_with (fail);(with_reducible refine HC.out.mono ?_);rintro e w2 ⟨rfl,rfl⟩;go_wp2_with (fail);go_ret;exact⟨rfl,rfl⟩
end
section
open Go.RowKit
variable {α : Type} {R : Gx α} {d : α}
def Gj(d:α)(l:List α)(i j:Nat):List α:=(l.set i (l.getD j d)).set j (l.getD i d)
theorem lN(l:List α)(i j:Nat):(Gj d l i j).length=l.length:=by simp[Gj]
theorem aE(l:List α)(i:Nat):Gj d l i i=l:=by
 unfold Gj;rw[List.set_set]
 refine List.ext_getElem? fun k=>?_
 rw[List.getElem?_set]
 by_cases h:i=k
 ·subst h;rw[if_pos rfl];split
  ·rename_i h;rw[a1x,a1v h];rfl
  ·rename_i h;rw[List.getElem?_eq_none (by omega)]
 ·rw[if_neg h]
def Hu(d:α)(l:List α)(i j p q:Nat)(b:Nat→Bool):List α:=
 let l1:=if b p=true then l.set i (l.getD j d) else l
 if b q=true then l1.set j (l.getD i d) else l1
structure Jp(R:Gx α)(d:α)(w0:World)(base g n cap:Nat)(l:List α)(i j p q:Nat)(b:Nat→Bool)(w:World):Prop where
 own:Ae R w base (.slice (some ⟨g,0,none⟩) n cap) (Hu d l i j p q b)
 fp:Fp [g] w0 w
variable {w0 w : World} {base g n cap i j p q : Nat} {l : List α} {b : Nat → Bool}
theorem Jp.first(h:Jp R d w0 base g n cap l i j p q b w)(hp:b p=false)(hq:b q=false):Ae R w base (.slice (some ⟨g,0,none⟩) n cap) l:=by
 have:=h.own;unfold Hu at this;rw[hp,hq] at this;exact this
theorem Py:(Hu d l i j p q b).length=l.length:=by
 unfold Hu;simp only
 split<;>split<;>simp
theorem lO(hb:b p=true)(hb2:b q=true):Hu d l i j p q b=Gj d l i j:=by
 unfold Hu Gj;simp only;rw[if_pos hb,if_pos hb2]
theorem Jp.storeP(h:Jp R d w0 base g n cap l i j p q b w)(hp:b p=false)(hi:i<l.length)(hij:i≠j)(hpq:p≠q):
  Jp R d w0 base g n cap l i j p q (Ap b p) (w.setCells g (i*R.k) (R.enc (l.getD j d))):=by
 obtain⟨h1,h2⟩:=h.own.setQ (l.getD j d) (i:=i) (by rw[Py];exact hi);refine⟨?_,h.fp.trans h2 (by intro k hk;exact Or.inl hk)⟩
 have e:(Hu d l i j p q b).set i (l.getD j d)=Hu d l i j p q (Ap b p):=by
  cases hq:b q with
  |true=>simp only[Hu,Ap,hp,hq,if_neg (Ne.symm hpq),if_true,a1z,if_false];exact List.set_comm _ _ hij.symm
  |false=>simp only[Hu,Ap,hp,hq,if_neg (Ne.symm hpq),if_true,a1z,if_false]
 rw[←e];exact h1
theorem Jp.storeQ(h:Jp R d w0 base g n cap l i j p q b w)(hq:b q=false)(hj:j<l.length)(hpq:p≠q):
  Jp R d w0 base g n cap l i j p q (Ap b q) (w.setCells g (j*R.k) (R.enc (l.getD i d))):=by
 obtain⟨h1,h2⟩:=h.own.setQ (l.getD i d) (i:=j) (by rw[Py];exact hj);refine⟨?_,h.fp.trans h2 (by intro k hk;exact Or.inl hk)⟩
 have e:(Hu d l i j p q b).set j (l.getD i d)=Hu d l i j p q (Ap b q):=by
  simp only[Hu,Ap,hq,if_neg hpq,if_true,a1z,if_false]
 rw[←e];exact h1
theorem Jp.plain{k:Nat}(h:Jp R d w0 base g n cap l i j p q b w)(hk:k≠p∧k≠q):Jp R d w0 base g n cap l i j p q (Ap b k) w:=by
 refine⟨?_,h.fp⟩
 have e:Hu d l i j p q (Ap b k)=Hu d l i j p q b:=by
  unfold Hu Ap;simp only;rw[if_neg hk.1.symm,if_neg hk.2.symm]
 rw[e];exact h.own
theorem Ae.setSame(h:Ae R w base (.slice (some ⟨g,0,none⟩) n cap) l)(hi:i<l.length):Ae R (w.setCells g (i*R.k) (R.enc (l.getD i d))) base (.slice (some ⟨g,0,none⟩) n cap) l∧Fp [g] w (w.setCells g (i*R.k) (R.enc (l.getD i d))):=by
 obtain⟨h1,h2⟩:=h.setQ (l.getD i d) hi;refine⟨?_,h2⟩
 have e:l.set i (l.getD i d)=l:=by
  refine List.ext_getElem? fun k=>?_
  rw[List.getElem?_set]
  by_cases h:i=k
  ·subst h;rw[if_pos rfl,if_pos hi,a1x,a1v hi];rfl
  ·rw[if_neg h]
 rw[e] at h1;exact h1
end
section
open Go.RowKit Go.Lib Go.Maps Go.MapKept Go.ChangeMaps
structure Pz(w0:World)(base g n cap:Nat)(l:List Aj)(i:Nat)(j:Aj)(V L q:Nat)(done:Bool)(w:World):Prop where
 own:Ae D2 w base (.slice (some ⟨g,0,none⟩) n cap) (if done then l.set i j else l)
 drv:Ht w V L (.slice (some ⟨g,0,none⟩) n cap)
 box:w.heap[q]?=some (.cells (Bo j).toArray 42 (0,0))
 fp:Fp [g] w0 w
theorem Pz.set{w0 w:World}{base g n cap i V L q:Nat}{l:List Aj}{j:Aj}(h:Pz w0 base g n cap l i j V L q false w)(hi:i<l.length)(hqg:q≠g)(hVg:V≠g):
  Pz w0 base g n cap l i j V L q true (w.setCells g (i*4) (Bo j)):=by
 have h1:=h.own;have h2:Ae D2 w base (.slice (some ⟨g,0,none⟩) n cap) l:=h1;obtain⟨h3,h4⟩:=h2.setQ j hi;exact⟨h3,h.drv.fp h4 (by simpa using hVg),(h4.block _ (Ab h.box) (by simpa using hqg)).trans h.box,h.fp.trans h4 (by intro k hk;exact Or.inl hk)⟩
def Kv(v:Value):List Nat:=v.ownBlock.toList
theorem Ww{w:World}{base:Nat}{v:Value}{l:List Aj}(h:Ae D2 w base v l):∀k,v.ownBlock=some k→∃c,w.heap[k]?=some (.cells c 42 (0,0)):=by
 intro k hk
 rcases h.2 with⟨rfl,_⟩|⟨g,cap,cur,rfl,_,hh,_⟩
 ·cases hk
 ·obtain rfl:g=k:=by simpa [Value.ownBlock] using hk
  exact⟨_,hh⟩
theorem own_off{w:World}{base k:Nat}{v:Value}{l:List Aj}{c:Array Value}{T:TypeId}{fr:Nat × Nat}(h:Ae D2 w base v l)(hk:w.heap[k]?=some (.cells c T fr))(hT:T≠42):k∉Kv v:=by
 intro hm;unfold Kv at hm
 have hv:v.ownBlock=some k:=by simpa using hm
 obtain⟨c2,h2⟩:=Ww h k hv;rw[hk] at h2
 injection Option.some.inj h2 with _ h3
 exact hT h3
theorem aF(w:World)(base V L:Nat)(v:Value)(l:List Aj)(j:Aj)(hV:Ht w V L v)(ho:Ae D2 w base v l)(hb:base≤w.heap.size)(hn:l.length≤100000):
  Calls Tryz.prog 62 #[.pointer (some ⟨V,0,none⟩),Bq j] w fun e w'=>e=.returned (.tuple #[])∧(∃v',Ht w' V L v'∧Ae D2 w' base v' (Eb l j))∧Tf base [42] [V] w w':=by
 obtain⟨jid,jp,jx,jn⟩:=j;have hfa:=Fp.alloc w (.cells #[.int .u64 jid,.int .i64 jp,.int .i64 jx,.string jn] 42);have hbx:(w.alloc (.cells #[.int .u64 jid,.int .i64 jp,.int .i64 jx,.string jn] 42)).heap[w.heap.size]?=some (.cells #[.int .u64 jid,.int .i64 jp,.int .i64 jx,.string jn] 42 (0,0)):=Ai rfl _;have HC:=a0z (aC (w.alloc (.cells #[.int .u64 jid,.int .i64 jp,.int .i64 jx,.string jn] 42)) base V L jid v l (hV.fp hfa (by simp)) (ho.fp hfa (by simp)) (by omega));have hlt:=Ab hV;have HBX:=a0z hbx;have HF:=a0z hfa;have HO:=a0z (ho.fp hfa (by simp));have HV:=a0z (hV.fp hfa (by simp))
 have hold:∀k,v.ownBlock=some k→k<w.heap.size:=fun k hk=>(ho.lt k hk).2
 have HOLD:=a0z hold;unfold Bq Bo;simp only;clear hV ho hfa hbx hold
 cases hat:Es l jid with
 |some i=>
  have hi:=U1 hat;have HP:Hid (Eb l ⟨jid,jp,jx,jn⟩=l.set i ⟨jid,jp,jx,jn⟩):=Rz hat;rw[Wu hat] at HC;obtain⟨g,cap,rfl,-,hbg,-⟩:=Q9 HO.out hi;have hgw:=HOLD.out g rfl
  have zi:(i:Int)<(l.length:Int):=by omega
  have hVg:V≠g:=by
   intro e;have:=own_off HO.out HV.out (by decide);exact this (by rw[e];simp[Kv,Value.ownBlock])
  clear hat;go_enter Tryz.func62,Tryz.ntmps62;go_wp2_with (fail);(with_reducible refine HC.out.mono ?_);rintro e w2 ⟨rfl,hf2⟩;have HC0:Hid (Pz w2 base g l.length cap l i ⟨jid,jp,jx,jn⟩ V L w.heap.size false w2):=a0z ⟨HO.out.fp hf2 (by simp),HV.out.fp hf2 (by simp),(hf2.block _ (Ab HBX.out) (by simp)).trans HBX.out,Fp.refl _ _⟩;have HF2:=a0z (HF.out.trans hf2 (by simp))
  have hqg:w.heap.size≠g:=by omega
  clear hf2;go_wp2_with (fail);refine F9 (fun bb w'=>Pz w2 base g l.length cap l i ⟨jid,jp,jx,jn⟩ V L w.heap.size (bb 7) w') (fun _ _=>True) (by kernel_rfl) (by kernel_rfl) ⟨HC0.out.own.fp (Fp.drew w2) (by simp),HC0.out.drv.fp (Fp.drew w2) (by simp),((Fp.drew w2).block _ (Ab HC0.out.box) (by simp)).trans HC0.out.box,(Fp.drew w2).mono (by simp)⟩ ?_
  iterate 7
   apply Bi (fun _ _ h=>h) rfl rfl rfl
   ·intro b a w hC hA K hK
    try have h0:=hA.fr 0 rfl
    try have h11:=hA.eq 0 11 rfl
    try have h12:=hA.eq 1 12 rfl
    try have h13:=hA.eq 2 13 rfl
    try have h4:=hA.fr 4 rfl
    try have h3:=hA.fr 3 rfl
    try have h14:=hA.eq 3 14 rfl
    try have h15:=hA.eq 4 15 rfl
    have q1:=Aa hC.drv 1;have b0:=Aa hC.box 0;have b1:=Aa hC.box 1;have b2:=Aa hC.box 2;have b3:=Aa hC.box 3;have hlt3:=Ab hC.drv;simp only[Bo,a0u,a0w,a0v] at q1 b0 b1 b2 b3;simp only[Oper.wp,execOp];go_simp;exact hK _ hC trivial
  apply Gw (fun _=>True) rfl rfl
  ·intro b a w hC hA K hK;have h17:=hA.eq 6 17 rfl;have h16:=hA.eq 5 16 rfl;have h7:=hA.self;rw[h7] at hC;have hst:=Pz.set hC hi hqg hVg;have hown:Ae D2 w base (.slice (some ⟨g,0,none⟩) l.length cap) l:=hC.own;obtain⟨hqc,hz,-,-,-,-⟩:=hown.elem hi;obtain⟨k0,k1,k2,k3⟩:=aB hqc;have z0:=hz (i*4);have z1:=hz (i*4+1);have z2:=hz (i*4+2);have z3:=hz (i*4+3);clear hz hqc;unfold Bo at hst;simp only[show D2.k=4 from rfl] at k0 k1 k2 k3;simp only[Oper.wp,execOp];go_simp;exact hK undef _ hst trivial trivial
  refine⟨?_,?_⟩
  ·refine⟨fun _ _ _ _ _=>trivial,?_⟩
   iterate 7 refine Cc _ ?_
   exact trivial
  ·intro wa bb hC hbb;simp only[List.reverse_cons,List.reverse_nil,List.nil_append,List.cons_append]
   iterate 7 (refine Au ?_)
   refine Az ?_;intro v7 u7;refine A6 ?_;simp only[Am,Act.put,a1w,List.set_cons_succ,List.set_cons_zero];have hC2:=hC;rw[hbb 7 (by decide)] at hC2;have HD:=a0z hC2;clear hC hbb hC2;go_wp2_with (fail);refine bodyPost_ret (v:=.tuple #[]) (results_none rfl _ _ _) rfl ?_;refine⟨rfl,⟨.slice (some ⟨g,0,none⟩) l.length cap,HD.out.drv,?_⟩,?_⟩
   ·rw[HP.out];exact HD.out.own
   ·have hfa:Fp [g] w wa:=(HF2.out.mono (S':=[g]) (by simp)).trans HD.out.fp (by intro k hk;exact Or.inl hk);refine⟨hfa.os,hfa.tape,hfa.output,hfa.size,fun k h1 _ h3=>hfa.block k h1 fun hm=>?_⟩;obtain rfl:=List.mem_singleton.1 hm;obtain⟨c2,h2⟩:=Ww HO.out k rfl;rw[Below.heap_alloc _ _ _ h1] at h2;exact h3 hbg _ _ _ h2 (by simp)
 |none=>
  have HP:Hid (Eb l ⟨jid,jp,jx,jn⟩=l++[⟨jid,jp,jx,jn⟩]):=R0 hat;rw[Wv hat] at HC;obtain⟨va,vc,hv,-,-⟩:=HO.out.len;clear hat;go_enter Tryz.func62,Tryz.ntmps62;go_wp2_with (fail);(with_reducible refine HC.out.mono ?_);rintro e w2 ⟨rfl,hf2⟩;have HO2:=a0z (HO.out.fp hf2 (by simp));have HV2:=a0z (HV.out.fp hf2 (by simp));have HBX2:=a0z ((hf2.block _ (Ab HBX.out) (by simp)).trans HBX.out);have HF2:=a0z (HF.out.trans hf2 (by simp));have hb2:base≤w2.heap.size:=a0x hb HF2.out.size;clear hf2;go_wp2_with (fail);refine Px (fun bb vs w'=>Ew D2 [42] 123 (fun v=>#[.pointer (some ⟨L,0,none⟩),v]) base V v l ⟨jid,jp,jx,jn⟩ 6 7 10 w2 bb vs w'∧(bb 7=false→Fp [] w2 w')) (fun _ _=>True) (by kernel_rfl) (by kernel_rfl) (fun _=>⟨Ew.start HO2.out HV2.out hb2,fun _=>Fp.drew w2⟩) ?_
  iterate 4
   apply Cj (fun _ _ _ h _=>⟨h.1.plain (by decide),h.2⟩) rfl rfl rfl
   ·intro b a w hC hA K hK
    try have h0:=hA.fr 0 rfl
    try have h19:=hA.eq 1 19 rfl
    try have h20:=hA.eq 2 20 rfl
    simp only[Oper.wp,execOp];go_simp;exact hK _ hC trivial
  apply Cj (fun _ _ _ h _=>⟨h.1.plain (by decide),h.2⟩) rfl rfl rfl
  ·intro b a w hC hA K hK;have h21:=hA.eq 3 21 rfl;have q0:=Aa (hC.1.first (hA.post 7 (by kernel_rfl))) 1;simp only[a0u,a0w,a0v] at q0;rw[hv] at q0;simp only[Oper.wp,execOp];go_simp;rw[←hv];exact hK _ hC trivial
  apply Cj (fun _ _ _ h _=>⟨h.1.plain (by decide),h.2⟩) rfl rfl rfl
  ·intro b a w hC hA K hK;have h3:=hA.fr 3 rfl;have hf0:=hC.2 (T0 hC.1.ob (hA.post 6 (by kernel_rfl)));have hbb0:=(hf0.block _ (Ab HBX2.out) (by simp)).trans HBX2.out;have b0:=Aa hbb0 0;have b1:=Aa hbb0 1;have b2:=Aa hbb0 2;have b3:=Aa hbb0 3;simp only[a0u,a0w,a0v] at b0 b1 b2 b3;simp only[Oper.wp,execOp];go_simp;exact hK _ hC trivial
  apply Dt (fun _ _=>True) rfl rfl rfl
  ·intro b a w hC hA K hK;have h23:=hA.eq 5 23 rfl;have hst:=hC.1.build hA.self (by decide)
   have hst2:Ap b 6 7=false→Fp [] w2 (w.alloc (.cells (D2.enc ⟨jid,jp,jx,jn⟩).toArray D2.e)):=fun e=>(hC.2 e).alloc' _
   simp only[Oper.wp,execOp];go_simp;exact hK _ _ ⟨hst,hst2⟩ trivial trivial
  apply Dt (fun _ _=>True) rfl rfl rfl
  ·intro b a w hC hA K hK;have h22:=hA.eq 4 22 rfl;have h24:=hA.dep 6 24 _ (by kernel_rfl) rfl;obtain⟨g,hg1,hg2⟩:=hC.1.bld (hA.pre 6 (by kernel_rfl)) hA.self;refine aA (R:=D2) 75 Tryz.underlying75 Tryz.infoJob rfl (by decide) (.tmp 22) (.tmp 24) rfl base v l (Gf h22) (hC.1.own0 hA.self) _ _ _ [⟨jid,jp,jx,jn⟩] (Gf ((hA.val 6 24 (by kernel_rfl)).trans hg1)) hg2 (by simp;omega) hC.1.sz ?_;intro v' w' h1 h2 h3;exact hK _ _ ⟨hC.1.append (hA.pre 6 (by kernel_rfl)) hA.self h1 h3 (by simp[D2]) (by decide) (by decide),fun e=>by simp[Ap] at e⟩ trivial trivial
  iterate 2
   apply Cj (fun _ _ _ h _=>⟨h.1.plain (by decide),h.2⟩) rfl rfl rfl
   ·intro b a w hC hA K hK
    try have h18:=hA.eq 0 18 rfl
    try have h26:=hA.eq 8 26 rfl
    simp only[Oper.wp,execOp];go_simp;exact hK _ hC trivial
  apply I9 (fun _=>True) rfl rfl rfl
  ·intro b a w hC hA K hK;have h27:=hA.eq 9 27 rfl;have h25:=hA.dep 7 25 _ (by kernel_rfl) rfl;obtain⟨a2,n2,c2,e2⟩:=hC.1.slice (hA.pre 7 (by kernel_rfl));have hvv:=(hA.val 7 25 (by kernel_rfl)).trans e2;have hst:=hC.1.store (off:=1) (hA.pre 7 (by kernel_rfl)) hA.self (by simp) (by decide) (by decide);rw[e2] at hst
   have hst2:Ap b 10 7=false→Fp [] w2 (w.setCell ⟨V,1,none⟩ (.slice a2 n2 c2)):=fun e=>absurd ((hA.pre 7 (by kernel_rfl)).symm.trans e) (by decide)
   have f0:=Ar hC.1.cel 1;have q0:=Aa hC.1.cel 1;simp only[Oper.wp,execOp];go_simp;exact hK undef _ ⟨hst,hst2⟩ trivial trivial
  refine⟨?_,?_⟩
  ·refine⟨fun _ _ _ _ _=>trivial,?_⟩;refine E6 _ ?_;refine E6 _ ?_;refine⟨fun _ _ _ _ _=>trivial,?_⟩;refine⟨fun _ _ _ _ _=>trivial,?_⟩
   iterate 6 refine E6 _ ?_
   exact trivial
  ·intro wa bb hbb;simp only[List.reverse_cons,List.reverse_nil,List.nil_append,List.cons_append]
   iterate 6 (refine Au ?_)
   refine Az ?_;intro v6 u6;refine Az ?_;intro v7 u7
   iterate 2 (refine Au ?_)
   refine Az ?_;intro v10 u10;refine A6 ?_;intro hC;simp only[Am,Act.put,a1w,List.set_cons_succ,List.set_cons_zero];have hcel:=hC.1.cel;rw[hbb 10 (by simp)] at hcel;have HC1:=a0z hcel;have HC2:=a0z (hC.1.own1 (hbb 7 (by simp)));have HC3:Hid (Tf base [42] [V] w wa):=a0z (((Tf.of HF2.out:Tf base [42] [] w w2).mono (by simp)).trans hC.1.tf (by intro i hi;exact Or.inl hi));clear hC hbb hcel;go_wp2_with (fail);go_end0;exact⟨rfl,⟨_,HC1.out,by rw[HP.out];exact HC2.out⟩,HC3.out⟩
end
section
open Go.RowKit Go.Lib
def P0(e:Int):List PanicEntry:=[{v:=.iface 30 (.int .i64 e),recovered:=false}]
theorem aG(w:World):Calls Tryz.prog 48 #[.int .i64 0] w fun e w'=>(∃v,e=.returned v)∧w'=w:=by
 go_enter Tryz.func48,Tryz.ntmps48;go_wp2_with (fail);go_end0;exact⟨⟨_,rfl⟩,rfl⟩
theorem aH(w:World)(x:Int)(hx:¬x=0):Calls Tryz.prog 48 #[.int .i64 x] w fun e w'=>e=.panicked (P0 x)∧w'=w:=by
 have hb:(x !=0)=true:=by simpa using hx
 go_enter Tryz.func48,Tryz.ntmps48;go_wp2_with (fail);exact⟨rfl,rfl,rfl⟩
attribute [local go_sem] wpOpsS recoverD
theorem lP(p:Addr)(w:World):CallsD Tryz.prog 83 #[.pointer (some p)] .returning w fun e u' w'=>(∃v,e=.returned v)∧u'=.returning∧w'=w:=by
 refine callsD_of_wpS Tryz.func83 rfl fun c₀ cs hu=>?_
 apply wpS_seq;apply wpS_region;simp[wpOpsS,go_sem,recoverD,hu,Tryz.ntmps83,Exit.thenS];refine wpS_of_wp ?_;go_wp2_with (fail);cases c₀;simp only at hu;subst hu;exact⟨rfl,_,rfl,_,results_none rfl _ _ _,⟨_,rfl⟩,rfl,rfl⟩
theorem lQ(p:Addr)(x:Int)(w:World)(old:Value)(hc:w.cell? p=some old)(hz:w.frozen? p=false)(older:List PanicEntry):CallsD Tryz.prog 83 #[.pointer (some p)] (.panicking (P0 x++older)) w fun e u' w'=>
  (∃v,e=.returned v)∧u'=.panicking ({v:=.iface 30 (.int .i64 x),recovered:=true}::older)∧w'=w.setCell p (.int .i64 x):=by
 refine callsD_of_wpS Tryz.func83 rfl fun c₀ cs hu=>?_
 unfold P0 at hu
 have hta:∀w,(Instr.typeAssert (.iface 30 (.int .i64 x)) 20 30 true).run Tryz.prog w=.ok (.tuple #[.int .i64 x,.bool true]) w:=fun _=>by kernel_rfl
 apply wpS_seq;apply wpS_region;simp[wpOpsS,go_sem,recoverD,hu,Tryz.ntmps83,Exit.thenS];refine wpS_of_wp ?_;go_wp2_with (fail);exact⟨rfl,_,rfl,_,results_none rfl _ _ _,⟨_,rfl⟩,rfl,rfl⟩
theorem aI(w:World)(F:Nat)(cap:Array Value)(hen:∀args w,(callFunc F args).run Tryz.prog w=.ok (.enter F args) w)(Post:World→Prop)(PostE:Int→World→Prop)
  (hdo:∀W,Fp [] w W→w.heap.size+1≤W.heap.size→W.heap[w.heap.size]?=some (.cells #[.int .i64 0] 30 (0,0))→Calls Tryz.prog F cap W fun e W'=>W'.heap[w.heap.size]?=some (.cells #[.int .i64 0] 30 (0,0))∧(((∃v,e=.returned v)∧Post W')∨∃x,¬x=0∧e=.panicked (P0 x)∧PostE x W'))
  (hP:∀A B,Post A→Fp [w.heap.size] A B→Post B)(hPE:∀x A B,PostE x A→Fp [w.heap.size] A B→PostE x B):
  Calls Tryz.prog 45 #[.func (.func F) #[] cap] w fun e w'=>(e=.returned (.int .i64 0)∧Post w')∨∃x,¬x=0∧e=.returned (.int .i64 x)∧PostE x w':=by
 have hmf:∀(fn:Fn) (first cap:Array Value) (w:World),(Instr.makeFunc fn first cap).run Tryz.prog w=.ok (.func fn first cap) w:=fun _ _ _ _=>rfl
 have HDO:=a0z hdo;clear hdo
 go_enter_defers Tryz.func45,Tryz.ntmps45
 go_wp2_with (fail);(with_reducible refine(HDO.out _ (Fp.alloc _ _) (by simp) (Ai rfl _)).mono ?_);rintro e w1 ⟨hh,(⟨⟨v,rfl⟩,hp⟩|⟨x,hx,rfl,hp⟩)⟩
 ·have q0:w1.cell? ⟨w.heap.size,0,none⟩=some (.int .i64 0):=Aa hh 0;have f0:w1.frozen? ⟨w.heap.size,0,none⟩=false:=Ar hh 0;have HH:=a0z hh;have HP:=a0z hp;clear hh hp;go_wp2_with (fail);refine leaves_cons (f:=83) (args:=#[.pointer (some ⟨w.heap.size,0,none⟩)]) (by simp) (by simp[go_sem]) ?_;refine(lP ⟨w.heap.size,0,none⟩ _).mono ?_;rintro e u' w'' ⟨⟨v2,rfl⟩,rfl,rfl⟩;have q1:(w1.setCell ⟨w.heap.size,0,none⟩ (.int .i64 0)).cell? ⟨w.heap.size,0,none⟩=some (.int .i64 0):=Aa ((Bm HH.out _).trans rfl) 0;exact⟨.int .i64 0,by simp[results,Tryz.results45,go_sem,q1],Or.inl ⟨rfl,hP _ _ HP.out (Fp.setCell _ ⟨w.heap.size,0,none⟩ _)⟩⟩
 ·have HH:=a0z hh;have HP:=a0z hp;clear hh hp;go_wp2_with (fail);refine leaves_cons (f:=83) (args:=#[.pointer (some ⟨w.heap.size,0,none⟩)]) (by simp) (by simp[go_sem]) ?_;refine(lQ ⟨w.heap.size,0,none⟩ x _ (.int .i64 0) (Aa HH.out 0) (Ar HH.out 0) []).mono ?_;rintro e u' w'' ⟨⟨v2,rfl⟩,rfl,rfl⟩;have q1:(w1.setCell ⟨w.heap.size,0,none⟩ (.int .i64 x)).cell? ⟨w.heap.size,0,none⟩=some (.int .i64 x):=Aa ((Bm HH.out _).trans rfl) 0;exact⟨.int .i64 x,by simp[results,Tryz.results45,go_sem,q1],Or.inr ⟨x,hx,rfl,hPE x _ _ HP.out (Fp.setCell _ ⟨w.heap.size,0,none⟩ _)⟩⟩
end
end Go.Proofs.YtkagolpnaicdoaaGreatDoor
