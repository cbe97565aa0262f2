/-
 job.Driver: at, Find, Jobs, Off. Two elements of a slice of the call's own are exchanged, in whatever order: the class of worlds on the way (for XRegionN), for elements of any type. job.Driver: put. job: sure, tried.
-/
import Derived.Test.YtkagolpnaicdoaaGreatDoorMJobK
import Derived.Test.YtkagolpnaicdoaaGreatDoorMWalD
import Derived.Test.YtkagolpnaicdoaaGreatDoorMRegionV
import Derived.Test.YtkagolpnaicdoaaGreatDoorMQOwn
import Derived.Test.YtkagolpnaicdoaaGreatDoorMRegionG
import Derived.Test.YtkagolpnaicdoaaGreatDoorMMaps
import Derived.Defers
import Derived.Recover
import Derived.Test.YtkagolpnaicdoaaGreatDoorRows
import Derived.Deep.CutRange
import Derived.WalkKit
import Derived.WalkSmall
set_option maxRecDepth 100000
set_option maxHeartbeats 8000000
open Go.Lib renaming hid→a0z
open List renaming getElem?_cons_succ→a0x,getElem?_cons_zero→a0w,getElem?_toArray→a0v,getD_eq_getElem?_getD→a1z,setIfInBounds_toArray→a1x,getElem?_eq_getElem→a1w
open Bool renaming false_eq_true→a0u
namespace Go.Proofs.YtkagolpnaicdoaaGreatDoor
section
open Go.RowKit Go.Lib Go.Maps Go.MapKept Go.ChangeMaps
def Nw(l:List Ar)(id:Nat):Int:=match Fa l id with
 |some i=>i
 |none=>-1
theorem V4{l:List Ar}{id i:Nat}(h:Fa l id=some i):Nw l id=i:=by unfold Nw;rw[h]
theorem V5{l:List Ar}{id:Nat}(h:Fa l id=none):Nw l id= -1:=by unfold Nw;rw[h]
structure aA(w:World)(b o:Nat)(j:Ar):Prop where
 c0:w.cell? ⟨b,o,none⟩=some (.int .u64 j.id)
 c1:w.cell? ⟨b,o+1,none⟩=some (.int .i64 j.phase)
 c2:w.cell? ⟨b,o+2,none⟩=some (.int .i64 j.e)
 c3:w.cell? ⟨b,o+3,none⟩=some (.string j.input)
theorem aB{w:World}{b o:Nat}{j:Ar}(h:Nc Eb w b o j):aA w b o j:=⟨h 0 _ rfl,h 1 _ rfl,h 2 _ rfl,h 3 _ rfl⟩
theorem Qx{w:World}{base:Nat}{v:Value}{l:List Ar}{i:Nat}(h:Ag Eb w base v l)(hi:i<l.length):∃g cap,v=.slice (some ⟨g,0,none⟩) l.length cap∧g<w.heap.size∧base≤g∧∀w',Fp [] w w'→aA w' g (i*4) l[i]:=by
 obtain⟨g,cap,cur,e,hg,hh,_⟩:=h.open (by omega);subst e;refine⟨g,cap,rfl,Ab hh,hg,fun w' hf=>?_⟩;exact aB ((h.fp hf (by simp)).elem hi).1
theorem lV(w:World)(q id:Nat)(j:Ar)(hq:w.heap[q]?=some (.cells #[.int .u64 id] 23 (0,0))):
  Calls Tryz.prog 119 #[Gf j,.pointer (some ⟨q,0,none⟩)] w fun e w'=>e=.returned (.bool (decide (j.id=id)))∧Fp [] w w':=by
 obtain⟨i,p,x,inp⟩:=j;have hlt:=Ab hq;have q0:w.cell? ⟨q,0,none⟩=some (.int .u64 id):=Aa hq 0;have HF:=a0z (Fp.alloc w (.cells #[.int .u64 i,.int .i64 p,.int .i64 x,.string inp] 42))
 have HB:Hid (((i:Int)==(id:Int))=decide (i=id)):=by
  unfold Hid
  by_cases h:i=id
  ·subst h;simp
  ·rw[decide_eq_false h];exact beq_eq_false_iff_ne.2 (by omega)
 unfold Gf Eh;simp only;clear hq;go_enter Tryz.func119,Tryz.ntmps119;go_wp2_with (fail);go_ret;exact⟨by rw[←HB.out];rfl,HF.out⟩
theorem lW(w:World)(base q id:Nat)(v:Value)(l:List Ar)(ho:Ag Eb w base v l)(hn:l.length≤1000000)(hq:w.heap[q]?=some (.cells #[.int .u64 id] 23 (0,0))):
  Calls Tryz.prog 118 #[v,.func (.func 119) #[] #[.pointer (some ⟨q,0,none⟩)]] w fun e w'=>e=.returned (.int .i64 (Nw l id))∧Fp [] w w':=by
 obtain⟨a,cap,rfl,-,-⟩:=ho.len;have HO:=a0z ho;have HQ:=a0z hq;have HAT:=a0z (fun w j (h:w.heap[q]?=some (.cells #[.int .u64 id] 23 (0,0)))=>lV w q id j h);clear ho hq;go_enter Tryz.func118,Tryz.ntmps118;go_wp2_with (fail)
 go_loopg [8] l.length (fun g vi W=>∃k:Nat,g+k=l.length∧vi=.int .i64 k∧(∀i (h:i<l.length),i<k→¬(l[i]).id=id)∧Fp [] w W)
 case atStart=>exact⟨0,by omega,rfl,fun i _ h=>absurd h (Nat.not_lt_zero _),Fp.refl _ _⟩
 case round=>
  obtain⟨k,hg,rfl,hno,hf⟩:=hrel;have HNO:=a0z hno;have HF:=a0z hf;clear hno hf
  by_cases hk:k<l.length
  ·have zk:(k:Int)<(l.length:Int):=by omega
   obtain⟨g,cap2,hv,-,-,hcells⟩:=Qx HO.out hk;cases hv;obtain⟨k0,k1,k2,k3⟩:=hcells wr HF.out
   have hal:∀i (h:i<l.length),i<k+1→¬(l[k]).id=id→¬(l[i]).id=id:=by
    intro i h h1 h2
    by_cases e:i=k
    ·subst e;exact h2
    ·exact HNO.out i h (by omega)
   have hfirst:(l[k]).id=id→Nw l id=(k:Int):=fun h=>V4 (dW hk (fun i hi=>HNO.out i (by omega) hi) h)
   obtain⟨j,hj⟩:∃j,l[k]=j:=⟨_,rfl⟩
   rw[hj] at k0 k1 k2 k3 hal hfirst;have HAL:=a0z hal;have HFI:=a0z hfirst;have HC:=a0z (HAT.out wr j ((HF.out.block _ (Ab HQ.out) (by simp)).trans HQ.out));obtain⟨ji,jp,jx,jn⟩:=j;unfold Gf Eh at HC;simp only at HC k0 k1 k2 k3;clear hcells hal hfirst hj
   by_cases hid:ji=id
   ·rw[decide_eq_true hid] at HC;have HFK:=a0z (HFI.out hid);clear HFI hid;go_wp2_with (fail);(with_reducible refine HC.out.mono ?_);rintro e w2 ⟨rfl,hf2⟩;have HF2:=a0z (HF.out.trans hf2 (by simp));clear hf2;go_wp2_with (fail);go_ret;rw[HFK.out];exact⟨rfl,HF2.out⟩
   ·rw[decide_eq_false hid] at HC;have HN:=a0z hid;clear HFI hid;go_wp2_with (fail);(with_reducible refine HC.out.mono ?_);rintro e w2 ⟨rfl,hf2⟩;have HF2:=a0z (HF.out.trans hf2 (by simp));clear hf2;go_wp2_with (fail)
    go_roundg (gk-1)
    case measure=>omega
    case rel=>exact⟨k+1,by omega,by go_num,fun i h h1=>HAL.out i h h1 HN.out,HF2.out⟩
  ·have zk:¬(k:Int)<(l.length:Int):=by omega
   have HE:=a0z (V5 (dX (fun i hi=>HNO.out i hi (by omega)):Fa l id=none));go_wp2_with (fail);go_ret;rw[HE.out];exact⟨rfl,HF.out⟩
def I1(w:World)(V L:Nat)(v:Value):Prop:=w.heap[V]?=some (.cells #[.pointer (some ⟨L,0,none⟩),v] 123 (0,0))
theorem I1.fp{w w':World}{S:List Nat}{V L:Nat}{v:Value}(h:I1 w V L v)(hf:Fp S w w')(hS:V∉S):I1 w' V L v:=(hf.block V (Ab h) hS).trans h
theorem aC(w:World)(base V L id:Nat)(v:Value)(l:List Ar)(hV:I1 w V L v)(ho:Ag Eb w base v l)(hn:l.length≤1000000):
  Calls Tryz.prog 64 #[.pointer (some ⟨V,0,none⟩),.int .u64 id] w fun e w'=>e=.returned (.int .i64 (Nw l id))∧Fp [] w w':=by
 have hfa:=Fp.alloc w (.cells #[.int .u64 id] 23);have HC:=a0z (lW (w.alloc (.cells #[.int .u64 id] 23)) base w.heap.size id v l (ho.fp hfa (by simp)) hn (Aj rfl _));have HF:=a0z hfa;have hlt:=Ab hV;obtain⟨a,cap,rfl,-,-⟩:=ho.len;have c1:w.cell? ⟨V,1,none⟩=some (.slice a l.length cap):=Aa hV 1;clear hfa hV ho;go_enter Tryz.func64,Tryz.ntmps64;go_wp2_with (fail);(with_reducible refine HC.out.mono ?_);rintro e w2 ⟨rfl,hf2⟩;have HF2:=a0z (HF.out.trans hf2 (by simp));clear hf2;go_wp2_with (fail);go_ret;exact⟨rfl,HF2.out⟩
def Lq(l:List Ar)(id:Nat):Ar:=(Hj l id).getD Kq
def Lr(l:List Ar)(id:Nat):Bool:=(Hj l id).isSome
theorem V6(w:World)(base V L id:Nat)(v:Value)(l:List Ar)(hV:I1 w V L v)(ho:Ag Eb w base v l)(hn:l.length≤1000000):
  Calls Tryz.prog 25 #[.pointer (some ⟨V,0,none⟩),.int .u64 id] w fun e w'=>e=.returned (.tuple #[Gf (Lq l id),.bool (Lr l id)])∧Fp [] w w':=by
 have hfa:=Fp.alloc w (.cells #[.int .u64 0,.int .i64 0,.int .i64 0,.string ⟨#[]⟩] 42);have hbx:(w.alloc (.cells #[.int .u64 0,.int .i64 0,.int .i64 0,.string ⟨#[]⟩] 42)).heap[w.heap.size]?=some (.cells #[.int .u64 0,.int .i64 0,.int .i64 0,.string ⟨#[]⟩] 42 (0,0)):=Aj rfl _;have HC:=a0z (aC (w.alloc (.cells #[.int .u64 0,.int .i64 0,.int .i64 0,.string ⟨#[]⟩] 42)) base V L id v l (hV.fp hfa (by simp)) (ho.fp hfa (by simp)) hn);have HF:=a0z hfa;have HBX:=a0z hbx;have HO:=a0z (ho.fp hfa (by simp));have HV:=a0z (hV.fp hfa (by simp));clear hfa hV ho hbx
 have hset:∀W:World,Fp [] w W→∀o u,Fp [] w (W.setCell ⟨w.heap.size,o,none⟩ u):=fun W h o u=>h.trans (Fp.setCell W ⟨w.heap.size,o,none⟩ u) (by intro i hi;right;simp at hi;omega)
 have HSET:=a0z hset;clear hset
 cases hat:Fa l id with
 |none=>
  have HE:Hid (Lq l id=Kq∧Lr l id=false):=by unfold Hid Lq Lr;rw[sT hat];exact⟨rfl,rfl⟩
  rw[V5 hat] at HC;clear hat;go_enter Tryz.func25,Tryz.ntmps25;go_wp2_with (fail);(with_reducible refine HC.out.mono ?_);rintro e w2 ⟨rfl,hf2⟩;have hb2:=(hf2.block _ (Ab HBX.out) (by simp)).trans HBX.out;have r0:w2.cell? ⟨w.heap.size,0,none⟩=some (.int .u64 0):=Aa hb2 0;have r1:w2.cell? ⟨w.heap.size,1,none⟩=some (.int .i64 0):=Aa hb2 1;have r2:w2.cell? ⟨w.heap.size,2,none⟩=some (.int .i64 0):=Aa hb2 2;have r3:w2.cell? ⟨w.heap.size,3,none⟩=some (.string ⟨#[]⟩):=Aa hb2 3;have f0:w2.frozen? ⟨w.heap.size,0,none⟩=false:=Aw hb2 0;have f1:w2.frozen? ⟨w.heap.size,1,none⟩=false:=Aw hb2 1;have f2:w2.frozen? ⟨w.heap.size,2,none⟩=false:=Aw hb2 2;have f3:w2.frozen? ⟨w.heap.size,3,none⟩=false:=Aw hb2 3;have HF2:=a0z (HF.out.trans hf2 (by simp));clear hf2 hb2;go_wp2_with (fail);refine bodyPost_ret (v:=.tuple #[.agg #[.int .u64 0,.int .i64 0,.int .i64 0,.string ⟨#[]⟩],.bool false]) (by simp[results,Tryz.results25,go_sem, *]) rfl ?_;rw[HE.out.1,HE.out.2];exact⟨rfl,HSET.out _ (HSET.out _ (HSET.out _ (HSET.out _ HF2.out _ _) _ _) _ _) _ _⟩
 |some i=>
  have hi:=Uk hat
  have HE:Hid (Lq l id=l[i]∧Lr l id=true):=by unfold Hid Lq Lr;rw[sS hat];exact⟨rfl,rfl⟩
  rw[V4 hat] at HC;obtain⟨g,cap,rfl,hgw,-,hcells⟩:=Qx HO.out hi
  obtain⟨j,hj⟩:∃j,l[i]=j:=⟨_,rfl⟩
  rw[hj] at HE hcells;obtain⟨ji,jp,jx,jn⟩:=j;have HCE:=a0z hcells
  have zi:(i:Int)<(l.length:Int):=by omega
  clear hat hcells hj;go_enter Tryz.func25,Tryz.ntmps25;go_wp2_with (fail);(with_reducible refine HC.out.mono ?_);rintro e w2 ⟨rfl,hf2⟩;obtain⟨k0,k1,k2,k3⟩:=HCE.out _ hf2;simp only at k0 k1 k2 k3;have q1:w2.cell? ⟨V,1,none⟩=some (.slice (some ⟨g,0,none⟩) l.length cap):=Aa (HV.out.fp hf2 (by simp)) 1;have hlt2:=Ab (HV.out.fp hf2 (by simp));have hb2:=(hf2.block _ (Ab HBX.out) (by simp)).trans HBX.out;have r0:w2.cell? ⟨w.heap.size,0,none⟩=some (.int .u64 0):=Aa hb2 0;have r1:w2.cell? ⟨w.heap.size,1,none⟩=some (.int .i64 0):=Aa hb2 1;have r2:w2.cell? ⟨w.heap.size,2,none⟩=some (.int .i64 0):=Aa hb2 2;have r3:w2.cell? ⟨w.heap.size,3,none⟩=some (.string ⟨#[]⟩):=Aa hb2 3;have f0:w2.frozen? ⟨w.heap.size,0,none⟩=false:=Aw hb2 0;have f1:w2.frozen? ⟨w.heap.size,1,none⟩=false:=Aw hb2 1;have f2:w2.frozen? ⟨w.heap.size,2,none⟩=false:=Aw hb2 2;have f3:w2.frozen? ⟨w.heap.size,3,none⟩=false:=Aw hb2 3;have HF2:=a0z (HF.out.trans hf2 (by simp));clear hf2 hb2;go_wp2_with (fail);refine bodyPost_ret (v:=.tuple #[.agg #[.int .u64 ji,.int .i64 jp,.int .i64 jx,.string jn],.bool true]) (by simp[results,Tryz.results25,go_sem, *]) rfl ?_;rw[HE.out.1,HE.out.2];exact⟨rfl,HSET.out _ (HSET.out _ (HSET.out _ (HSET.out _ HF2.out _ _) _ _) _ _) _ _⟩
theorem Tryz.infoJob:(Tryz.prog.info? 42).map (fun i=>(i.zero,i.size,i.bytes))=some (some (.agg #[.int .u64 0,.int .i64 0,.int .i64 0,.string ⟨#[]⟩]),4,40):=by kernel_rfl
theorem lX{w:World}{ops:Array Oper}{rest:List Oper}{o:Oper}{a:Act}{Q:Exit→Act→World→Prop}(hgd:o.guard=none)(s x:Operand)
  (ho:o.op=.call {callee:=.builtin .append,args:=#[s,x],argTypes:=#[75,75]})(base:Nat)(v:Value)(l:List Ar)(hs:a.eval s=v)(hown:Ag Eb w base v l)
  (ad:Option Addr)(m c:Nat)(ls:List Ar)(hx:a.eval x=.slice ad m c)(hl:Bz Eb w ad m ls)(hnone:ad=none→c=0)(hlen:l.length+ls.length≤1000000000)(hbase:base≤w.heap.size)
  (h:∀v' w',Ag Eb w' base v' (l++ls)→Below base w w'→w.grownBy w' v.ownBlock→wpList Tryz.prog ops Q rest (a.put o.dst v') w'):wpList Tryz.prog ops Q (o::rest) a w:=
 Xl (R:=Eb) 75 Tryz.underlying75 Tryz.infoJob rfl (by decide) hgd s x ho base v l hs hown ad m c ls hx hl hnone hlen hbase h
theorem lY(w:World)(a:Option Addr)(n cap:Nat)(l:List Ar)(hl:Bz Eb w a n l)(hnone:a=none→cap=0)(hn:n≤1000000):
  Calls Tryz.prog 66 #[.slice a n cap] w fun e w'=>∃v',e=.returned v'∧Ag Eb w' w.heap.size v' l∧Fp [] w w':=by
 have HAT:=a0z hl;have HLN:=a0z hl.len
 have q22:∀(w:World) (a:Option Addr) (n c n' c':Nat),(binOp .eql 75 (.slice a n c) (.slice none n' c')).run Tryz.prog w=.ok (.bool a.isNone) w:=fun w a n c n' c'=>Lib.run_eql_slice_nil w _ _ a n c n' c' Tryz.underlying75
 cases a with
 |none=>
  obtain rfl:=hnone rfl
  have hl0:l=[]:=by
   rcases hl.cells with h|⟨b,o,h,_⟩
   ·exact h
   ·cases h
  subst hl0;have hn0:n=0:=hl.len;subst hn0;clear hl hnone;go_enter Tryz.func66,Tryz.ntmps66;go_wp2_with (fail);go_ret;exact⟨_,rfl,Ag.nil _ _,Fp.refl _ _⟩
 |some ad=>
  clear hl hnone;go_enter Tryz.func66,Tryz.ntmps66;go_wp2_with (at_builtin;refine lX rfl _ _ rfl w.heap.size _ [] rfl (Ag.made w _ (Nat.le_refl _)) _ _ _ l rfl (HAT.out.fp (Fp.alloc _ _)) (by intro h;cases h) (by have:=HLN.out;simp;omega) (by simp) ?_;intro v2 w2 hown2 hbel2 _;have HO2:=a0z hown2;have HB2:=a0z hbel2;clear hown2 hbel2);go_ret;exact⟨_,rfl,HO2.out,(Fp.alloc w _).belowTrans (HB2.out.mono (by simp))⟩
theorem lZ(w:World)(base V L:Nat)(v:Value)(l:List Ar)(hV:I1 w V L v)(ho:Ag Eb w base v l)(hn:l.length≤1000000):
  Calls Tryz.prog 32 #[.pointer (some ⟨V,0,none⟩)] w fun e w'=>∃v',e=.returned v'∧Ag Eb w' w.heap.size v' l∧Fp [] w w':=by
 obtain⟨a,cap,rfl,hnone,-,hat⟩:=ho.at;have HC:=a0z (lY w a l.length cap l hat hnone hn);have hlt:=Ab hV;have c1:w.cell? ⟨V,1,none⟩=some (.slice a l.length cap):=Aa hV 1;clear hV ho hat hnone;go_enter Tryz.func32,Tryz.ntmps32;go_wp2_with (fail);(with_reducible refine HC.out.mono ?_);rintro e w2 ⟨v2,rfl,ho2,hf2⟩;have HO2:=a0z ho2;have HF2:=a0z hf2;clear ho2 hf2;go_wp2_with (fail);go_ret;exact⟨_,rfl,HO2.out,HF2.out⟩
theorem Aaf(w:World)(b V L:Nat)(v:Value)(lg:Lg)(hV:I1 w V L v)(hl:B3 w L b lg):
  Calls Tryz.prog 33 #[.pointer (some ⟨V,0,none⟩)] w fun e w'=>e=.returned (.bool lg.off)∧w'=w:=by
 have HC:=a0z (zJ w L b lg hl);have hlt:=Ab hV;have c0:w.cell? ⟨V,0,none⟩=some (.pointer (some ⟨L,0,none⟩)):=Aa hV 0;clear hV hl;go_enter Tryz.func33,Tryz.ntmps33;go_wp2_with (fail);(with_reducible refine HC.out.mono ?_);rintro e w2 ⟨rfl,rfl⟩;go_wp2_with (fail);go_ret;exact⟨rfl,rfl⟩
end
section
open Go.RowKit
variable {α : Type} {R : G3 α} {d : α}
def F7(d:α)(l:List α)(i j:Nat):List α:=(l.set i (l.getD j d)).set j (l.getD i d)
theorem mA(l:List α)(i j:Nat):(F7 d l i j).length=l.length:=by simp[F7]
theorem aD(l:List α)(i:Nat):F7 d l i i=l:=by
 unfold F7;rw[List.set_set]
 refine List.ext_getElem? fun k=>?_
 rw[List.getElem?_set]
 by_cases h:i=k
 ·subst h;rw[if_pos rfl];split
  ·rename_i h;rw[a1z,a1w h];rfl
  ·rename_i h;rw[List.getElem?_eq_none (by omega)]
 ·rw[if_neg h]
def Hn(d:α)(l:List α)(i j p q:Nat)(b:Nat→Bool):List α:=
 let l1:=if b p=true then l.set i (l.getD j d) else l
 if b q=true then l1.set j (l.getD i d) else l1
structure Jg(R:G3 α)(d:α)(w0:World)(base g n cap:Nat)(l:List α)(i j p q:Nat)(b:Nat→Bool)(w:World):Prop where
 own:Ag R w base (.slice (some ⟨g,0,none⟩) n cap) (Hn d l i j p q b)
 fp:Fp [g] w0 w
variable {w0 w : World} {base g n cap i j p q : Nat} {l : List α} {b : Nat → Bool}
theorem Jg.first(h:Jg R d w0 base g n cap l i j p q b w)(hp:b p=false)(hq:b q=false):Ag R w base (.slice (some ⟨g,0,none⟩) n cap) l:=by
 have:=h.own;unfold Hn at this;rw[hp,hq] at this;exact this
theorem O8:(Hn d l i j p q b).length=l.length:=by
 unfold Hn;simp only
 split<;>split<;>simp
theorem mB(hb:b p=true)(hb2:b q=true):Hn d l i j p q b=F7 d l i j:=by
 unfold Hn F7;simp only;rw[if_pos hb,if_pos hb2]
theorem Jg.storeP(h:Jg R d w0 base g n cap l i j p q b w)(hp:b p=false)(hi:i<l.length)(hij:i≠j)(hpq:p≠q):
  Jg R d w0 base g n cap l i j p q (Ao b p) (w.setCells g (i*R.k) (R.enc (l.getD j d))):=by
 obtain⟨h1,h2⟩:=h.own.setQ (l.getD j d) (i:=i) (by rw[O8];exact hi);refine⟨?_,h.fp.trans h2 (by intro k hk;exact Or.inl hk)⟩
 have e:(Hn d l i j p q b).set i (l.getD j d)=Hn d l i j p q (Ao b p):=by
  cases hq:b q with
  |true=>simp only[Hn,Ao,hp,hq,if_neg (Ne.symm hpq),if_true,a0u,if_false];exact List.set_comm _ _ hij.symm
  |false=>simp only[Hn,Ao,hp,hq,if_neg (Ne.symm hpq),if_true,a0u,if_false]
 rw[←e];exact h1
theorem Jg.storeQ(h:Jg R d w0 base g n cap l i j p q b w)(hq:b q=false)(hj:j<l.length)(hpq:p≠q):
  Jg R d w0 base g n cap l i j p q (Ao b q) (w.setCells g (j*R.k) (R.enc (l.getD i d))):=by
 obtain⟨h1,h2⟩:=h.own.setQ (l.getD i d) (i:=j) (by rw[O8];exact hj);refine⟨?_,h.fp.trans h2 (by intro k hk;exact Or.inl hk)⟩
 have e:(Hn d l i j p q b).set j (l.getD i d)=Hn d l i j p q (Ao b q):=by
  simp only[Hn,Ao,hq,if_neg hpq,if_true,a0u,if_false]
 rw[←e];exact h1
theorem Jg.plain{k:Nat}(h:Jg R d w0 base g n cap l i j p q b w)(hk:k≠p∧k≠q):Jg R d w0 base g n cap l i j p q (Ao b k) w:=by
 refine⟨?_,h.fp⟩
 have e:Hn d l i j p q (Ao b k)=Hn d l i j p q b:=by
  unfold Hn Ao;simp only;rw[if_neg hk.1.symm,if_neg hk.2.symm]
 rw[e];exact h.own
theorem Ag.setSame(h:Ag R w base (.slice (some ⟨g,0,none⟩) n cap) l)(hi:i<l.length):Ag R (w.setCells g (i*R.k) (R.enc (l.getD i d))) base (.slice (some ⟨g,0,none⟩) n cap) l∧Fp [g] w (w.setCells g (i*R.k) (R.enc (l.getD i d))):=by
 obtain⟨h1,h2⟩:=h.setQ (l.getD i d) hi;refine⟨?_,h2⟩
 have e:l.set i (l.getD i d)=l:=by
  refine List.ext_getElem? fun k=>?_
  rw[List.getElem?_set]
  by_cases h:i=k
  ·subst h;rw[if_pos rfl,if_pos hi,a1z,a1w hi];rfl
  ·rw[if_neg h]
 rw[e] at h1;exact h1
end
section
open Go.RowKit Go.Lib Go.Maps Go.MapKept Go.ChangeMaps
structure O9(w0:World)(base g n cap:Nat)(l:List Ar)(i:Nat)(j:Ar)(V L q:Nat)(done:Bool)(w:World):Prop where
 own:Ag Eb w base (.slice (some ⟨g,0,none⟩) n cap) (if done then l.set i j else l)
 drv:I1 w V L (.slice (some ⟨g,0,none⟩) n cap)
 box:w.heap[q]?=some (.cells (Eh j).toArray 42 (0,0))
 fp:Fp [g] w0 w
theorem O9.set{w0 w:World}{base g n cap i V L q:Nat}{l:List Ar}{j:Ar}(h:O9 w0 base g n cap l i j V L q false w)(hi:i<l.length)(hqg:q≠g)(hVg:V≠g):
  O9 w0 base g n cap l i j V L q true (w.setCells g (i*4) (Eh j)):=by
 have h1:=h.own;have h2:Ag Eb w base (.slice (some ⟨g,0,none⟩) n cap) l:=h1;obtain⟨h3,h4⟩:=h2.setQ j hi;exact⟨h3,h.drv.fp h4 (by simpa using hVg),(h4.block _ (Ab h.box) (by simpa using hqg)).trans h.box,h.fp.trans h4 (by intro k hk;exact Or.inl hk)⟩
def J7(v:Value):List Nat:=v.ownBlock.toList
theorem V8{w:World}{base:Nat}{v:Value}{l:List Ar}(h:Ag Eb w base v l):∀k,v.ownBlock=some k→∃c,w.heap[k]?=some (.cells c 42 (0,0)):=by
 intro k hk
 rcases h.2 with⟨rfl,_⟩|⟨g,cap,cur,rfl,_,hh,_⟩
 ·cases hk
 ·obtain rfl:g=k:=by simpa [Value.ownBlock] using hk
  exact⟨_,hh⟩
theorem own_off{w:World}{base k:Nat}{v:Value}{l:List Ar}{c:Array Value}{T:TypeId}{fr:Nat × Nat}(h:Ag Eb w base v l)(hk:w.heap[k]?=some (.cells c T fr))(hT:T≠42):k∉J7 v:=by
 intro hm;unfold J7 at hm
 have hv:v.ownBlock=some k:=by simpa using hm
 obtain⟨c2,h2⟩:=V8 h k hv;rw[hk] at h2
 injection Option.some.inj h2 with _ h3
 exact hT h3
theorem aE(w:World)(base V L:Nat)(v:Value)(l:List Ar)(j:Ar)(hV:I1 w V L v)(ho:Ag Eb w base v l)(hb:base≤w.heap.size)(hn:l.length≤100000):
  Calls Tryz.prog 62 #[.pointer (some ⟨V,0,none⟩),Gf j] w fun e w'=>e=.returned (.tuple #[])∧(∃v',I1 w' V L v'∧Ag Eb w' base v' (Fv l j))∧Tf base [42] [V] w w':=by
 obtain⟨jid,jp,jx,jn⟩:=j;have hfa:=Fp.alloc w (.cells #[.int .u64 jid,.int .i64 jp,.int .i64 jx,.string jn] 42);have hbx:(w.alloc (.cells #[.int .u64 jid,.int .i64 jp,.int .i64 jx,.string jn] 42)).heap[w.heap.size]?=some (.cells #[.int .u64 jid,.int .i64 jp,.int .i64 jx,.string jn] 42 (0,0)):=Aj rfl _;have HC:=a0z (aC (w.alloc (.cells #[.int .u64 jid,.int .i64 jp,.int .i64 jx,.string jn] 42)) base V L jid v l (hV.fp hfa (by simp)) (ho.fp hfa (by simp)) (by omega));have hlt:=Ab hV;have HBX:=a0z hbx;have HF:=a0z hfa;have HO:=a0z (ho.fp hfa (by simp));have HV:=a0z (hV.fp hfa (by simp))
 have hold:∀k,v.ownBlock=some k→k<w.heap.size:=fun k hk=>(ho.lt k hk).2
 have HOLD:=a0z hold;unfold Gf Eh;simp only;clear hV ho hfa hbx hold
 cases hat:Fa l jid with
 |some i=>
  have hi:=Uk hat;have HP:Hid (Fv l ⟨jid,jp,jx,jn⟩=l.set i ⟨jid,jp,jx,jn⟩):=Xp hat;rw[V4 hat] at HC;obtain⟨g,cap,rfl,-,hbg,-⟩:=Qx HO.out hi;have hgw:=HOLD.out g rfl
  have zi:(i:Int)<(l.length:Int):=by omega
  have hVg:V≠g:=by
   intro e;have:=own_off HO.out HV.out (by decide);exact this (by rw[e];simp[J7,Value.ownBlock])
  clear hat;go_enter Tryz.func62,Tryz.ntmps62;go_wp2_with (fail);(with_reducible refine HC.out.mono ?_);rintro e w2 ⟨rfl,hf2⟩;have HC0:Hid (O9 w2 base g l.length cap l i ⟨jid,jp,jx,jn⟩ V L w.heap.size false w2):=a0z ⟨HO.out.fp hf2 (by simp),HV.out.fp hf2 (by simp),(hf2.block _ (Ab HBX.out) (by simp)).trans HBX.out,Fp.refl _ _⟩;have HF2:=a0z (HF.out.trans hf2 (by simp))
  have hqg:w.heap.size≠g:=by omega
  clear hf2;go_wp2_with (fail);refine Gj (fun bb w'=>O9 w2 base g l.length cap l i ⟨jid,jp,jx,jn⟩ V L w.heap.size (bb 7) w') (fun _ _=>True) (by kernel_rfl) (by kernel_rfl) ⟨HC0.out.own.fp (Fp.drew w2) (by simp),HC0.out.drv.fp (Fp.drew w2) (by simp),((Fp.drew w2).block _ (Ab HC0.out.box) (by simp)).trans HC0.out.box,(Fp.drew w2).mono (by simp)⟩ ?_
  iterate 7
   apply Bm (fun _ _ h=>h) rfl rfl rfl
   ·intro b a w hC hA K hK
    try have h0:=hA.fr 0 rfl
    try have h11:=hA.eq 0 11 rfl
    try have h12:=hA.eq 1 12 rfl
    try have h13:=hA.eq 2 13 rfl
    try have h4:=hA.fr 4 rfl
    try have h3:=hA.fr 3 rfl
    try have h14:=hA.eq 3 14 rfl
    try have h15:=hA.eq 4 15 rfl
    have q1:=Aa hC.drv 1;have b0:=Aa hC.box 0;have b1:=Aa hC.box 1;have b2:=Aa hC.box 2;have b3:=Aa hC.box 3;have hlt3:=Ab hC.drv;simp only[Eh,a0v,a0x,a0w] at q1 b0 b1 b2 b3;simp only[Oper.wp,execOp];go_simp;exact hK _ hC trivial
  apply Gn (fun _=>True) rfl rfl
  ·intro b a w hC hA K hK;have h17:=hA.eq 6 17 rfl;have h16:=hA.eq 5 16 rfl;have h7:=hA.self;rw[h7] at hC;have hst:=O9.set hC hi hqg hVg;have hown:Ag Eb w base (.slice (some ⟨g,0,none⟩) l.length cap) l:=hC.own;obtain⟨hqc,hz,-,-,-,-⟩:=hown.elem hi;obtain⟨k0,k1,k2,k3⟩:=aB hqc;have z0:=hz (i*4);have z1:=hz (i*4+1);have z2:=hz (i*4+2);have z3:=hz (i*4+3);clear hz hqc;unfold Eh at hst;simp only[show Eb.k=4 from rfl] at k0 k1 k2 k3;simp only[Oper.wp,execOp];go_simp;exact hK undef _ hst trivial trivial
  refine⟨?_,?_⟩
  ·refine⟨fun _ _ _ _ _=>trivial,?_⟩
   iterate 7 refine B6 _ ?_
   exact trivial
  ·intro wa bb hC hbb;simp only[List.reverse_cons,List.reverse_nil,List.nil_append,List.cons_append]
   iterate 7 (refine Aq ?_)
   refine Av ?_;intro v7 u7;refine A8 ?_;simp only[Am,Act.put,a1x,List.set_cons_succ,List.set_cons_zero];have hC2:=hC;rw[hbb 7 (by decide)] at hC2;have HD:=a0z hC2;clear hC hbb hC2;go_wp2_with (fail);refine bodyPost_ret (v:=.tuple #[]) (results_none rfl _ _ _) rfl ?_;refine⟨rfl,⟨.slice (some ⟨g,0,none⟩) l.length cap,HD.out.drv,?_⟩,?_⟩
   ·rw[HP.out];exact HD.out.own
   ·have hfa:Fp [g] w wa:=(HF2.out.mono (S':=[g]) (by simp)).trans HD.out.fp (by intro k hk;exact Or.inl hk);refine⟨hfa.os,hfa.tape,hfa.output,hfa.size,fun k h1 _ h3=>hfa.block k h1 fun hm=>?_⟩;obtain rfl:=List.mem_singleton.1 hm;obtain⟨c2,h2⟩:=V8 HO.out k rfl;rw[Below.heap_alloc _ _ _ h1] at h2;exact h3 hbg _ _ _ h2 (by simp)
 |none=>
  have HP:Hid (Fv l ⟨jid,jp,jx,jn⟩=l++[⟨jid,jp,jx,jn⟩]):=Xq hat;rw[V5 hat] at HC;obtain⟨va,vc,hv,-,-⟩:=HO.out.len;clear hat;go_enter Tryz.func62,Tryz.ntmps62;go_wp2_with (fail);(with_reducible refine HC.out.mono ?_);rintro e w2 ⟨rfl,hf2⟩;have HO2:=a0z (HO.out.fp hf2 (by simp));have HV2:=a0z (HV.out.fp hf2 (by simp));have HBX2:=a0z ((hf2.block _ (Ab HBX.out) (by simp)).trans HBX.out);have HF2:=a0z (HF.out.trans hf2 (by simp));have hb2:base≤w2.heap.size:=Nat.le_trans hb HF2.out.size;clear hf2;go_wp2_with (fail);refine P7 (fun bb vs w'=>F3 Eb [42] 123 (fun v=>#[.pointer (some ⟨L,0,none⟩),v]) base V v l ⟨jid,jp,jx,jn⟩ 6 7 10 w2 bb vs w'∧(bb 7=false→Fp [] w2 w')) (fun _ _=>True) (by kernel_rfl) (by kernel_rfl) (fun _=>⟨F3.start HO2.out HV2.out hb2,fun _=>Fp.drew w2⟩) ?_
  iterate 4
   apply Cc (fun _ _ _ h _=>⟨h.1.plain (by decide),h.2⟩) rfl rfl rfl
   ·intro b a w hC hA K hK
    try have h0:=hA.fr 0 rfl
    try have h19:=hA.eq 1 19 rfl
    try have h20:=hA.eq 2 20 rfl
    simp only[Oper.wp,execOp];go_simp;exact hK _ hC trivial
  apply Cc (fun _ _ _ h _=>⟨h.1.plain (by decide),h.2⟩) rfl rfl rfl
  ·intro b a w hC hA K hK;have h21:=hA.eq 3 21 rfl;have q0:=Aa (hC.1.first (hA.post 7 (by kernel_rfl))) 1;simp only[a0v,a0x,a0w] at q0;rw[hv] at q0;simp only[Oper.wp,execOp];go_simp;rw[←hv];exact hK _ hC trivial
  apply Cc (fun _ _ _ h _=>⟨h.1.plain (by decide),h.2⟩) rfl rfl rfl
  ·intro b a w hC hA K hK;have h3:=hA.fr 3 rfl;have hf0:=hC.2 (Uu hC.1.ob (hA.post 6 (by kernel_rfl)));have hbb0:=(hf0.block _ (Ab HBX2.out) (by simp)).trans HBX2.out;have b0:=Aa hbb0 0;have b1:=Aa hbb0 1;have b2:=Aa hbb0 2;have b3:=Aa hbb0 3;simp only[a0v,a0x,a0w] at b0 b1 b2 b3;simp only[Oper.wp,execOp];go_simp;exact hK _ hC trivial
  apply Dv (fun _ _=>True) rfl rfl rfl
  ·intro b a w hC hA K hK;have h23:=hA.eq 5 23 rfl;have hst:=hC.1.build hA.self (by decide)
   have hst2:Ao b 6 7=false→Fp [] w2 (w.alloc (.cells (Eb.enc ⟨jid,jp,jx,jn⟩).toArray Eb.e)):=fun e=>(hC.2 e).alloc' _
   simp only[Oper.wp,execOp];go_simp;exact hK _ _ ⟨hst,hst2⟩ trivial trivial
  apply Dv (fun _ _=>True) rfl rfl rfl
  ·intro b a w hC hA K hK;have h22:=hA.eq 4 22 rfl;have h24:=hA.dep 6 24 _ (by kernel_rfl) rfl;obtain⟨g,hg1,hg2⟩:=hC.1.bld (hA.pre 6 (by kernel_rfl)) hA.self;refine eQ (R:=Eb) 75 Tryz.underlying75 Tryz.infoJob rfl (by decide) (.tmp 22) (.tmp 24) rfl base v l (F5 h22) (hC.1.own0 hA.self) _ _ _ [⟨jid,jp,jx,jn⟩] (F5 ((hA.val 6 24 (by kernel_rfl)).trans hg1)) hg2 (by simp;omega) hC.1.sz ?_;intro v' w' h1 h2 h3;exact hK _ _ ⟨hC.1.append (hA.pre 6 (by kernel_rfl)) hA.self h1 h3 (by simp[Eb]) (by decide) (by decide),fun e=>by simp[Ao] at e⟩ trivial trivial
  iterate 2
   apply Cc (fun _ _ _ h _=>⟨h.1.plain (by decide),h.2⟩) rfl rfl rfl
   ·intro b a w hC hA K hK
    try have h18:=hA.eq 0 18 rfl
    try have h26:=hA.eq 8 26 rfl
    simp only[Oper.wp,execOp];go_simp;exact hK _ hC trivial
  apply I8 (fun _=>True) rfl rfl rfl
  ·intro b a w hC hA K hK;have h27:=hA.eq 9 27 rfl;have h25:=hA.dep 7 25 _ (by kernel_rfl) rfl;obtain⟨a2,n2,c2,e2⟩:=hC.1.slice (hA.pre 7 (by kernel_rfl));have hvv:=(hA.val 7 25 (by kernel_rfl)).trans e2;have hst:=hC.1.store (off:=1) (hA.pre 7 (by kernel_rfl)) hA.self (by simp) (by decide) (by decide);rw[e2] at hst
   have hst2:Ao b 10 7=false→Fp [] w2 (w.setCell ⟨V,1,none⟩ (.slice a2 n2 c2)):=fun e=>absurd ((hA.pre 7 (by kernel_rfl)).symm.trans e) (by decide)
   have f0:=Aw hC.1.cel 1;have q0:=Aa hC.1.cel 1;simp only[Oper.wp,execOp];go_simp;exact hK undef _ ⟨hst,hst2⟩ trivial trivial
  refine⟨?_,?_⟩
  ·refine⟨fun _ _ _ _ _=>trivial,?_⟩;refine E2 _ ?_;refine E2 _ ?_;refine⟨fun _ _ _ _ _=>trivial,?_⟩;refine⟨fun _ _ _ _ _=>trivial,?_⟩
   iterate 6 refine E2 _ ?_
   exact trivial
  ·intro wa bb hbb;simp only[List.reverse_cons,List.reverse_nil,List.nil_append,List.cons_append]
   iterate 6 (refine Aq ?_)
   refine Av ?_;intro v6 u6;refine Av ?_;intro v7 u7
   iterate 2 (refine Aq ?_)
   refine Av ?_;intro v10 u10;refine A8 ?_;intro hC;simp only[Am,Act.put,a1x,List.set_cons_succ,List.set_cons_zero];have hcel:=hC.1.cel;rw[hbb 10 (by simp)] at hcel;have HC1:=a0z hcel;have HC2:=a0z (hC.1.own1 (hbb 7 (by simp)));have HC3:Hid (Tf base [42] [V] w wa):=a0z (((Tf.of HF2.out:Tf base [42] [] w w2).mono (by simp)).trans hC.1.tf (by intro i hi;exact Or.inl hi));clear hC hbb hcel;go_wp2_with (fail);go_end0;exact⟨rfl,⟨_,HC1.out,by rw[HP.out];exact HC2.out⟩,HC3.out⟩
end
section
open Go.RowKit Go.Lib
def Pe(e:Int):List PanicEntry:=[{v:=.iface 30 (.int .i64 e),recovered:=false}]
theorem aF(w:World):Calls Tryz.prog 48 #[.int .i64 0] w fun e w'=>(∃v,e=.returned v)∧w'=w:=by
 go_enter Tryz.func48,Tryz.ntmps48;go_wp2_with (fail);go_end0;exact⟨⟨_,rfl⟩,rfl⟩
theorem aG(w:World)(x:Int)(hx:¬x=0):Calls Tryz.prog 48 #[.int .i64 x] w fun e w'=>e=.panicked (Pe x)∧w'=w:=by
 have hb:(x !=0)=true:=by simpa using hx
 go_enter Tryz.func48,Tryz.ntmps48;go_wp2_with (fail);exact⟨rfl,rfl,rfl⟩
attribute [local go_sem] wpOpsS recoverD
theorem mC(p:Addr)(w:World):CallsD Tryz.prog 83 #[.pointer (some p)] .returning w fun e u' w'=>(∃v,e=.returned v)∧u'=.returning∧w'=w:=by
 refine callsD_of_wpS Tryz.func83 rfl fun c₀ cs hu=>?_
 apply wpS_seq;apply wpS_region;simp[wpOpsS,go_sem,recoverD,hu,Tryz.ntmps83,Exit.thenS];refine wpS_of_wp ?_;go_wp2_with (fail);cases c₀;simp only at hu;subst hu;exact⟨rfl,_,rfl,_,results_none rfl _ _ _,⟨_,rfl⟩,rfl,rfl⟩
theorem mD(p:Addr)(x:Int)(w:World)(old:Value)(hc:w.cell? p=some old)(hz:w.frozen? p=false)(older:List PanicEntry):CallsD Tryz.prog 83 #[.pointer (some p)] (.panicking (Pe x++older)) w fun e u' w'=>
  (∃v,e=.returned v)∧u'=.panicking ({v:=.iface 30 (.int .i64 x),recovered:=true}::older)∧w'=w.setCell p (.int .i64 x):=by
 refine callsD_of_wpS Tryz.func83 rfl fun c₀ cs hu=>?_
 unfold Pe at hu
 have hta:∀w,(Instr.typeAssert (.iface 30 (.int .i64 x)) 20 30 true).run Tryz.prog w=.ok (.tuple #[.int .i64 x,.bool true]) w:=fun _=>by kernel_rfl
 apply wpS_seq;apply wpS_region;simp[wpOpsS,go_sem,recoverD,hu,Tryz.ntmps83,Exit.thenS];refine wpS_of_wp ?_;go_wp2_with (fail);exact⟨rfl,_,rfl,_,results_none rfl _ _ _,⟨_,rfl⟩,rfl,rfl⟩
theorem aH(w:World)(F:Nat)(cap:Array Value)(hen:∀args w,(callFunc F args).run Tryz.prog w=.ok (.enter F args) w)(Post:World→Prop)(PostE:Int→World→Prop)
  (hdo:∀W,Fp [] w W→w.heap.size+1≤W.heap.size→W.heap[w.heap.size]?=some (.cells #[.int .i64 0] 30 (0,0))→Calls Tryz.prog F cap W fun e W'=>W'.heap[w.heap.size]?=some (.cells #[.int .i64 0] 30 (0,0))∧(((∃v,e=.returned v)∧Post W')∨∃x,¬x=0∧e=.panicked (Pe x)∧PostE x W'))
  (hP:∀A B,Post A→Fp [w.heap.size] A B→Post B)(hPE:∀x A B,PostE x A→Fp [w.heap.size] A B→PostE x B):
  Calls Tryz.prog 45 #[.func (.func F) #[] cap] w fun e w'=>(e=.returned (.int .i64 0)∧Post w')∨∃x,¬x=0∧e=.returned (.int .i64 x)∧PostE x w':=by
 have hmf:∀(fn:Fn) (first cap:Array Value) (w:World),(Instr.makeFunc fn first cap).run Tryz.prog w=.ok (.func fn first cap) w:=fun _ _ _ _=>rfl
 have HDO:=a0z hdo;clear hdo
 go_enter_defers Tryz.func45,Tryz.ntmps45
 go_wp2_with (fail);(with_reducible refine(HDO.out _ (Fp.alloc _ _) (by simp) (Aj rfl _)).mono ?_);rintro e w1 ⟨hh,(⟨⟨v,rfl⟩,hp⟩|⟨x,hx,rfl,hp⟩)⟩
 ·have q0:w1.cell? ⟨w.heap.size,0,none⟩=some (.int .i64 0):=Aa hh 0;have f0:w1.frozen? ⟨w.heap.size,0,none⟩=false:=Aw hh 0;have HH:=a0z hh;have HP:=a0z hp;clear hh hp;go_wp2_with (fail);refine leaves_cons (f:=83) (args:=#[.pointer (some ⟨w.heap.size,0,none⟩)]) (by simp) (by simp[go_sem]) ?_;refine(mC ⟨w.heap.size,0,none⟩ _).mono ?_;rintro e u' w'' ⟨⟨v2,rfl⟩,rfl,rfl⟩;have q1:(w1.setCell ⟨w.heap.size,0,none⟩ (.int .i64 0)).cell? ⟨w.heap.size,0,none⟩=some (.int .i64 0):=Aa ((Bt HH.out _).trans rfl) 0;exact⟨.int .i64 0,by simp[results,Tryz.results45,go_sem,q1],Or.inl ⟨rfl,hP _ _ HP.out (Fp.setCell _ ⟨w.heap.size,0,none⟩ _)⟩⟩
 ·have HH:=a0z hh;have HP:=a0z hp;clear hh hp;go_wp2_with (fail);refine leaves_cons (f:=83) (args:=#[.pointer (some ⟨w.heap.size,0,none⟩)]) (by simp) (by simp[go_sem]) ?_;refine(mD ⟨w.heap.size,0,none⟩ x _ (.int .i64 0) (Aa HH.out 0) (Aw HH.out 0) []).mono ?_;rintro e u' w'' ⟨⟨v2,rfl⟩,rfl,rfl⟩;have q1:(w1.setCell ⟨w.heap.size,0,none⟩ (.int .i64 x)).cell? ⟨w.heap.size,0,none⟩=some (.int .i64 x):=Aa ((Bt HH.out _).trans rfl) 0;exact⟨.int .i64 x,by simp[results,Tryz.results45,go_sem,q1],Or.inr ⟨x,hx,rfl,hPE x _ _ HP.out (Fp.setCell _ ⟨w.heap.size,0,none⟩ _)⟩⟩
end
end Go.Proofs.YtkagolpnaicdoaaGreatDoor
