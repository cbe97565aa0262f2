/-
 strings.Builder: what its methods do, at a builder in a block of any type that begins by one. Slices of cells as they lie. The reference of layer 1: text, Cmp, Same. Slices of cells; Rising, the program's and the reference's. The reference of layer 1: name, Key, part. The reference of layer 1: Key, part. The reference of layer 1: Decode. The reference of layer 1: FromKey. FromKey. The reference decodes as the program does. Keys come back; the reference's FromKey is the program's.
-/
import Derived.Test.YtkagolpnaicdoaaGreatDoorPRegion
import Derived.Test.YtkagolpnaicdoaaGreatDoorRows
import Derived.Lib.Builder
import Derived.Lib.OthersKept
import Derived.Lib.UnsafeStr
import Derived.Lib.AppendStr
import Derived.Maps.AppendAt
import Derived.Test.YtkagolpnaicdoaaGreatDoorPCellPure
import Derived.Test.YtkagolpnaicdoaaGreatDoorPCellKey
import Derived.Test.YtkagolpnaicdoaaGreatDoorPCellA
import Derived.Laws.Cover1
import Derived.IntWalk
set_option maxRecDepth 100000
set_option maxHeartbeats 8000000
open Go.Lib renaming hid→a0z
open List renaming cons_append→a0x,eq_nil_of_length_eq_zero→a0w,getD_eq_getElem?_getD→a0v,setIfInBounds_toArray→a0u,getElem?_eq_getElem→a1z
namespace Go.Proofs.YtkagolpnaicdoaaGreatDoor
section
open Go.RowKit
def Da(T:TypeId)(B b:Nat)(l:List UInt8)(w:World):Prop:=Lib.IsBuilder T 5 B b (Lib.byteCells l) w
theorem Da.fresh(T:TypeId)(w:World):Da T w.heap.size w.heap.size [] (w.alloc (.cells #[.pointer none,.slice none 0 0] T)):=Lib.fresh_isBuilder T 5 w
theorem Da.at{T:TypeId}{B b:Nat}{l:List UInt8}{w:World}(h:Da T B b l w):∃p,Lib.BuilderAt T 5 B b p (Lib.byteCells l) w:=by
 rcases h with h|h
 ·exact⟨_,h⟩
 ·exact⟨_,h⟩
theorem BuilderAt.below{T:TypeId}{B b:Nat}{p:Value}{bs:List Value}{w w':World}{S:List Nat}(h:Lib.BuilderAt T 5 B b p bs w)(hf:Fp S w w')(hs:∀i∈S,i<B):Lib.BuilderAt T 5 B b p bs w':=by
 obtain⟨hB,v,hb,hown,hne⟩:=h
 have hn:∀k,B≤k→k∉S:=fun k hk hm=>by have:=hs k hm;omega
 refine⟨hB,v,(hf.block b (Ab hb) (hn b hB)).trans hb,?_,hne⟩;obtain⟨h1,h2⟩:=hown;refine⟨h1,?_⟩
 rcases h2 with h2|⟨g,cap,cur,hv,hg,hh,r⟩
 ·exact Or.inl h2
 ·exact Or.inr ⟨g,cap,cur,hv,hg,(hf.block g (Ab hh) (hn g hg)).trans hh,r⟩
theorem Da.fp{T:TypeId}{B b:Nat}{l:List UInt8}{w w':World}{S:List Nat}(h:Da T B b l w)(hf:Fp S w w')(hs:∀i∈S,i<B):Da T B b l w':=by
 rcases h with h|h
 ·exact Or.inl (BuilderAt.below h hf hs)
 ·exact Or.inr (BuilderAt.below h hf hs)
theorem Da.le{T:TypeId}{B b:Nat}{l:List UInt8}{w:World}(h:Da T B b l w):B≤w.heap.size:=by
 obtain⟨p,h⟩:=h.at;have:=h.lt;have:=h.1;omega
theorem aK{w:World}{B:Nat}{e:TypeId}{v:Value}{n:Nat}{xs:List Value}(h:w.ownsRow B e 1 v n xs):∀g,v.ownBlock=some g→∃c fz,w.heap[g]?=some (.cells c e fz):=by
 intro g hg
 rcases h.2 with⟨rfl,_⟩|⟨g',cap,cur,rfl,_,hh,_⟩
 ·simp[Value.ownBlock] at hg
 ·simp only[Value.ownBlock,Option.some.injEq] at hg;subst hg;exact⟨_,_,hh⟩
theorem sizeBuilder:∃j,Tryz.prog.info? 131=some j∧j.size=2:=by
 have h:(Tryz.prog.info? 131).map (·.size)=some 2:=by kernel_rfl
 exact Option.map_eq_some_iff.1 h
theorem Tryz.infoB:(Tryz.prog.info? 5).map (fun i=>(i.zero,i.size,i.bytes))=some (some (.int .u8 0),1,1):=by kernel_rfl
theorem Tryz.cellsB:Tryz.prog.cellsOf 5=1:=by kernel_rfl
structure Jq(B b:Nat)(w w':World):Prop where
 below:Below B w w'
 others:Lib.OthersKept 5 (some b) w w'
theorem Jq.trans{B b:Nat}{a c d:World}(h:Jq B b a c)(k:Jq B b c d):Jq B b a d:=⟨h.below.trans k.below,h.others.trans k.others⟩
theorem Fp.bfp{a w w':World}{B b:Nat}(h:Fp [] a w)(k:Jq B b w w')(hB:a.heap.size≤B):Fp [] a w':=
 ⟨k.below.os.trans h.os,k.below.tape.trans h.tape,k.below.output.trans h.output,Nat.le_trans h.size k.below.size,fun i hi hn=>(k.below.block i (Nat.lt_of_lt_of_le hi hB)).trans (h.block i hi hn)⟩
theorem mE{T:TypeId}(hT:liesAt Tryz.prog Tryz.prog.depth T (2/Tryz.prog.cellsOf T) 0 131 1=true)(b:Nat)(w:World)(h0:w.cell? ⟨b,0,none⟩=some (.pointer none))(hsh:w.shape? b=some (T,2))(hfz:w.frozen? ⟨b,0,none⟩=false):
  Calls Tryz.prog 130 #[.pointer (some ⟨b,0,none⟩)] w fun e w'=>e=.returned (.tuple #[])∧w'=w.setCell ⟨b,0,none⟩ (.pointer (some ⟨b,0,none⟩)):=by
 obtain⟨j,hj,hjs⟩:=sizeBuilder;go_enter Tryz.func130,Tryz.ntmps130;go_wp2;rw[Lib.run_to_unsafe w ⟨b,0,none⟩ Tryz.underlying129 Tryz.underlying267 hj (by rw[hjs];decide) hsh (Nat.zero_lt_succ 1)];simp only[Result.andThen];rw[Oper.upon_value];go_wp2;rw[run_callFunc_extern Tryz.func203 (by kernel_rfl) (by kernel_rfl) (by kernel_rfl) (e:=Extern.AbiNoEscape.same) (by kernel_rfl)];rw[Lib.run_noEscape];simp only[Result.andThen];rw[Oper.upon_value];go_wp2;rw[Lib.run_from_unsafe w ⟨b,0,none⟩ Tryz.underlying267 Tryz.underlying129 hj hsh hT];simp only[Result.andThen];rw[Oper.upon_value];go_wp2;go_end0;exact⟨rfl,rfl⟩
theorem mF(b:Nat)(w:World)(h0:w.cell? ⟨b,0,none⟩=some (.pointer (some ⟨b,0,none⟩))):
  Calls Tryz.prog 130 #[.pointer (some ⟨b,0,none⟩)] w fun e w'=>e=.returned (.tuple #[])∧w'=w:=by
 obtain⟨j,hj,_⟩:=sizeBuilder;go_enter Tryz.func130,Tryz.ntmps130;go_wp2;rw[Lib.run_neq_ptr_same w _ Tryz.underlying129 hj];go_wp2;go_end0;exact⟨rfl,rfl⟩
theorem aL{T:TypeId}(hT:liesAt Tryz.prog Tryz.prog.depth T (2/Tryz.prog.cellsOf T) 0 131 1=true)(B b:Nat)(l:List UInt8)(w:World)(h:Da T B b l w):
  Calls Tryz.prog 130 #[.pointer (some ⟨b,0,none⟩)] w fun e w'=>e=.returned (.tuple #[])∧Lib.BuilderAt T 5 B b (.pointer (some ⟨b,0,none⟩)) (Lib.byteCells l) w'∧Jq B b w w':=by
 rcases h with h|h
 ·refine(mE hT b w h.cell0 h.shape h.frozen0).mono ?_;rintro e w' ⟨rfl,rfl⟩;exact⟨rfl,h.used _,(Below.refl B w).setCell (p:=⟨b,0,none⟩) h.1 _,(Lib.OthersKept.refl _ _ w).setCell ⟨b,0,none⟩ rfl _⟩
 ·refine(mF b w h.cell0).mono ?_;rintro e w' ⟨rfl,rfl⟩;exact⟨rfl,h,Below.refl B _,Lib.OthersKept.refl _ _ _⟩
theorem Uc{T:TypeId}(hT:liesAt Tryz.prog Tryz.prog.depth T (2/Tryz.prog.cellsOf T) 0 131 1=true)(hTe:T≠5)(B b:Nat)(l:List UInt8)(s:ByteArray)(w:World)(h:Da T B b l w)(hlen:l.length+s.size≤1000000000):
  Calls Tryz.prog 71 #[.pointer (some ⟨b,0,none⟩),.string s] w fun e w'=>e=.returned (.tuple #[.int .i64 s.size,.nilIface])∧Da T B b (l++s.data.toList) w'∧Jq B b w w':=by
 obtain⟨i0,hi,hz0,hz1,hz2⟩:=info_parts Tryz.infoB;have hBw:=h.le;go_enter Tryz.func71,Tryz.ntmps71;go_wp2_with (fail);(with_reducible refine(aL hT B b l _ h).mono ?_);rintro e w1 ⟨rfl,h1,hb1⟩;obtain⟨hB,v,hbk,hown,hne⟩:=h1
 have c0:w1.cell? ⟨b,0,none⟩=some (.pointer (some ⟨b,0,none⟩)):=by rw[Lib.cell_of_heap hbk];rfl
 have c1:w1.cell? ⟨b,1,none⟩=some v:=by rw[Lib.cell_of_heap hbk];rfl
 have hcl:=Lib.byteCells_length l;go_wp2_with (at_builtin;refine Lib.wpList_append_own_string _ rfl _ _ 113 9 rfl B 5 i0 Tryz.underlying113 Tryz.underlying9 hi hz0 hz1 hz2 _ _ _ rfl hown s rfl ?c3 ?c4 ?c5 ?_)
 case c3=>unfold maxLen;omega
 case c4=>omega
 case c5=>have:=hb1.below.size;omega
 intro v' w2 hown' hgrow _;have hlt:b<w1.heap.size:=Ab hbk
 have hb2:w2.heap[b]?=some (.cells #[.pointer (some ⟨b,0,none⟩),v] T (0,0)):=by
  rw[hgrow.block b hlt (fun e=>hne e.symm)];exact hbk
 have d0:w2.cell? ⟨b,0,none⟩=some (.pointer (some ⟨b,0,none⟩)):=by rw[Lib.cell_of_heap hb2];rfl
 have d1:w2.cell? ⟨b,1,none⟩=some v:=by rw[Lib.cell_of_heap hb2];rfl
 have f1:w2.frozen? ⟨b,1,none⟩=false:=Lib.frozen_of_heap hb2 1
 obtain⟨ao,n',cap,rfl⟩:∃ao n' cap,v'=.slice ao n' cap:=by
  rcases hown'.2 with⟨hv,_⟩|⟨g,cap,cur,hv,_⟩
  ·exact⟨_,_,_,hv⟩
  ·exact⟨_,_,_,hv⟩
 go_wp2;go_ret2;refine⟨rfl,?_,?_,(hb1.others.grown hgrow (aK hown)).setCell ⟨b,1,none⟩ rfl _⟩
 ·right;exact Lib.BuilderAt.put (T:=T) (e:=5) hB hb2 (bs':=Lib.byteCells (l++s.data.toList)) (by rw[Lib.byteCells_append,←Lib.strCells_eq,List.length_append,Lib.strCells_length,Lib.byteCells_length];exact hown') hTe
 ·exact(hb1.below.grown hgrow (by have:=hb1.below.size;omega) (fun k hk=>(hown.lt k hk).1)).setCell (p:=⟨b,1,none⟩) hB _
theorem aM{T:TypeId}(hT:liesAt Tryz.prog Tryz.prog.depth T (2/Tryz.prog.cellsOf T) 0 131 1=true)(hTe:T≠5)(B b:Nat)(l:List UInt8)(c:UInt8)(w:World)(h:Da T B b l w)(hlen:l.length+1≤1000000000):
  Calls Tryz.prog 151 #[.pointer (some ⟨b,0,none⟩),.int .u8 c.toNat] w fun e w'=>e=.returned .nilIface∧Da T B b (l++[c]) w'∧Jq B b w w':=by
 obtain⟨i0,hi,hz0,hz1,hz2⟩:=info_parts Tryz.infoB;have hBw:=h.le;go_enter Tryz.func151,Tryz.ntmps151;go_wp2_with (fail);(with_reducible refine(aL hT B b l _ h).mono ?_);rintro e w1 ⟨rfl,h1,hb1⟩;obtain⟨hB,v,hbk,hown,hne⟩:=h1
 have c0:w1.cell? ⟨b,0,none⟩=some (.pointer (some ⟨b,0,none⟩)):=by rw[Lib.cell_of_heap hbk];rfl
 have c1:w1.cell? ⟨b,1,none⟩=some v:=by rw[Lib.cell_of_heap hbk];rfl
 have hcl:=Lib.byteCells_length l;go_wp2_with (at_builtin;refine wpList_append_own _ rfl _ _ 113 rfl B 5 i0 (.int .u8 0) 1 1 Tryz.underlying113 hi hz0 hz1 hz2 rfl (by decide) _ _ _ rfl (hown.alloc _) ⟨w1.heap.size,0,none⟩ 1 1 [.int .u8 c.toNat] rfl rfl ?c1 ?c2 ?c3 ?c4 ?c5 ?_)
 case c1=>
  intro j u hj
  match j,hj with
  |0,hj=>simp at hj;subst hj;simp[Addr.add]
 case c2=>intro u hu;simp at hu;subst hu;rfl
 case c3=>unfold maxLen;omega
 case c4=>omega
 case c5=>have:=hb1.below.size;simp;omega
 intro v' w2 hown' hgrow _;have hlt:b<w1.heap.size:=Ab hbk
 have hb2:w2.heap[b]?=some (.cells #[.pointer (some ⟨b,0,none⟩),v] T (0,0)):=by
  rw[hgrow.block b (by simp;omega) (fun e=>hne e.symm),Lib.alloc_old w1 _ b hlt];exact hbk
 have d0:w2.cell? ⟨b,0,none⟩=some (.pointer (some ⟨b,0,none⟩)):=by rw[Lib.cell_of_heap hb2];rfl
 have d1:w2.cell? ⟨b,1,none⟩=some v:=by rw[Lib.cell_of_heap hb2];rfl
 have f1:w2.frozen? ⟨b,1,none⟩=false:=Lib.frozen_of_heap hb2 1
 obtain⟨ao,n',cap,rfl⟩:∃ao n' cap,v'=.slice ao n' cap:=by
  rcases hown'.2 with⟨hv,_⟩|⟨g,cap,cur,hv,_⟩
  ·exact⟨_,_,_,hv⟩
  ·exact⟨_,_,_,hv⟩
 go_wp2;go_ret;refine⟨rfl,?_,?_,((hb1.others.alloc _).grown hgrow (aK (hown.alloc _))).setCell ⟨b,1,none⟩ rfl _⟩
 ·right;exact Lib.BuilderAt.put (T:=T) (e:=5) hB hb2 (bs':=Lib.byteCells (l++[c])) (by rw[Lib.byteCells_append,List.length_append,Lib.byteCells_length];simpa [Lib.byteCells] using hown') hTe
 ·exact((hb1.below.alloc (by have:=hb1.below.size;omega) _).grown hgrow (by have:=hb1.below.size;simp;omega) (fun k hk=>(hown.lt k hk).1)).setCell (p:=⟨b,1,none⟩) hB _
theorem Ud(p:Option Addr):∀W:World,(Builtin.unsafeString_ #[197,3] 9 #[.pointer p,.int .i64 0]).run Tryz.prog W=.ok (.string ⟨#[]⟩) W:=fun W=>Lib.run_unsafeString_none W _ _ _ p
theorem aN{T:TypeId}(B b:Nat)(l:List UInt8)(w:World)(h:Da T B b l w):
  Calls Tryz.prog 72 #[.pointer (some ⟨b,0,none⟩)] w fun e w'=>e=.returned (.string ⟨l.toArray⟩)∧Below B w w':=by
 obtain⟨p,hB,v,hbk,hown,hne⟩:=h.at;have hBw:=h.le;rw[Lib.byteCells_length] at hown;have hlt:=Ab hbk
 rcases hown.2 with⟨rfl,h0⟩|⟨g,cap,cur,rfl,hbg,hg,hnc,hcm,hcs,htake⟩
 ·have:l=[]:=a0w h0;subst this;have hUS:=Ud
  have c1:w.drew.cell? ⟨b,1,none⟩=some (.slice none 0 0):=by rw[Lib.cell_of_heap (w:=w.drew) hbk];rfl
  have hSD:(Builtin.unsafeSliceData_ #[113] 197 #[.slice none 0 0]).run Tryz.prog w.drew=.ok (.pointer none) w.drew:=rfl;go_enter Tryz.func72,Tryz.ntmps72;go_wp2
  go_region
  all_goals(go_wp2;go_ret;exact⟨rfl,Below.drew (Below.refl B w)⟩)
 ·by_cases hl:l=[]
  ·subst hl;have hUS:=Ud
   by_cases hc0:cap=0
   ·subst hc0
    have c0:w.cell? ⟨b,1,none⟩=some (.slice (some ⟨g,0,none⟩) 0 0):=by rw[Lib.cell_of_heap hbk];rfl
    have c1:w.drew.cell? ⟨b,1,none⟩=some (.slice (some ⟨g,0,none⟩) 0 0):=c0
    have hSD:(Builtin.unsafeSliceData_ #[113] 197 #[.slice (some ⟨g,0,none⟩) 0 0]).run Tryz.prog w.drew=.ok (.pointer (some ⟨w.drew.heap.size,0,none⟩)) (w.drew.alloc (.view ⟨g,0,none⟩ 5)):=
     Lib.run_unsafeSliceData_zero w.drew _ _ 5 Tryz.underlying197 ⟨g,0,none⟩ 0 (5,cur.size) (by have hg':w.drew.heap[g]?=some (.cells cur 5 (0,0)):=hg;simp[World.shape?,hg'])
    have c2:(w.drew.alloc (.view ⟨g,0,none⟩ 5)).cell? ⟨b,1,none⟩=some (.slice (some ⟨g,0,none⟩) 0 0):=by
     rw[Lib.cell_of_heap ((Lib.alloc_old w.drew _ b hlt).trans hbk)];rfl
    have c3:(w.alloc (.view ⟨g,0,none⟩ 5)).drew.cell? ⟨b,1,none⟩=some (.slice (some ⟨g,0,none⟩) 0 0):=c2;go_enter Tryz.func72,Tryz.ntmps72;go_wp2
    go_region
    all_goals(go_wp2;go_ret;exact⟨rfl,(Below.drew (Below.refl B w)).alloc hBw _⟩)
   ·have c1:w.drew.cell? ⟨b,1,none⟩=some (.slice (some ⟨g,0,none⟩) 0 cap):=by rw[Lib.cell_of_heap (w:=w.drew) hbk];rfl
    have hSD:(Builtin.unsafeSliceData_ #[113] 197 #[.slice (some ⟨g,0,none⟩) 0 cap]).run Tryz.prog w.drew=.ok (.pointer (some ⟨g,0,none⟩)) w.drew:=
     Lib.run_unsafeSliceData_row _ _ _ _ _ _ hc0
    clear hc0;go_enter Tryz.func72,Tryz.ntmps72;go_wp2
    go_region
    all_goals(go_wp2;go_ret;exact⟨rfl,Below.drew (Below.refl B w)⟩)
  ·have hl0:l.length≠0:=fun e=>hl (a0w e)
   have c1:w.drew.cell? ⟨b,1,none⟩=some (.slice (some ⟨g,0,none⟩) l.length cap):=by rw[Lib.cell_of_heap (w:=w.drew) hbk];rfl
   have hSD:(Builtin.unsafeSliceData_ #[113] 197 #[.slice (some ⟨g,0,none⟩) l.length cap]).run Tryz.prog w.drew=.ok (.pointer (some ⟨g,0,none⟩)) w.drew:=
    Lib.run_unsafeSliceData_row _ _ _ _ _ _ (by omega)
   have hUS:(Builtin.unsafeString_ #[197,3] 9 #[.pointer (some ⟨g,0,none⟩),.int .i64 l.length]).run Tryz.prog w.drew=.ok (.string ⟨l.toArray⟩) (w.drew.freeze ⟨g,0,none⟩ l.length):=by
    refine Lib.run_unsafeString_row w.drew 197 3 9 5 Tryz.underlying197 Tryz.cellsB g cur.size (by have hg':w.drew.heap[g]?=some (.cells cur 5 (0,0)):=hg;simp[World.shape?,hg']) l hl (by omega) (by unfold maxLen at hcm;omega) ?_;intro j x hx;exact hown.cells (g:=g) rfl j (.int .u8 x.toNat) (by simp[Lib.byteCells,hx])
   go_enter Tryz.func72,Tryz.ntmps72;go_wp2
   go_region
   all_goals(go_wp2;go_ret;exact⟨rfl,Lib.below_freeze (Below.drew (Below.refl B w)) (p:=⟨g,0,none⟩) hbg _⟩)
end
section
open Go.RowKit
structure Jr(w:World)(b o:Nat)(c:Ac):Prop where
 c0:w.cell? ⟨b,o,none⟩=some (.string c.row)
 c1:w.cell? ⟨b,o+1,none⟩=some (.string c.col)
 c2:w.cell? ⟨b,o+2,none⟩=some (.int .u64 c.ts)
 c3:w.cell? ⟨b,o+3,none⟩=some (.int .u64 c.seq)
 c4:w.cell? ⟨b,o+4,none⟩=some (.bool c.del)
 c5:w.cell? ⟨b,o+5,none⟩=some (.string c.val)
theorem Jr.fp{w w':World}{b o:Nat}{c:Ac}{S:List Nat}(h:Jr w b o c)(hf:Fp S w w')(hb:b<w.heap.size)(hS:b∉S):Jr w' b o c:=
 ⟨(hf.cell (by exact hb) hS).trans h.c0,(hf.cell (by exact hb) hS).trans h.c1,(hf.cell (by exact hb) hS).trans h.c2,(hf.cell (by exact hb) hS).trans h.c3,(hf.cell (by exact hb) hS).trans h.c4,(hf.cell (by exact hb) hS).trans h.c5⟩
structure Bt(w:World)(a:Option Addr)(len:Nat)(l:List Ac):Prop where
 len:len=l.length
 cells:l=[]∨∃b o,a=some ⟨b,o,none⟩∧b<w.heap.size∧∀i (h:i<l.length),Jr w b (o+i*6) l[i]
 ok:∀c∈l,Dn c
theorem Bt.fp{w w':World}{a:Option Addr}{len:Nat}{l:List Ac}(h:Bt w a len l)(hf:Fp [] w w'):Bt w' a len l:=by
 refine⟨h.len,?_,h.ok⟩
 rcases h.cells with h0|⟨b,o,rfl,hb,hc⟩
 ·exact Or.inl h0
 ·exact Or.inr ⟨b,o,rfl,Nat.lt_of_lt_of_le hb hf.size,fun i hi=>(hc i hi).fp hf hb (by simp)⟩
theorem P1{w:World}{a:Option Addr}{len k:Nat}{l:List Ac}(h:Bt w a len l)(hk:k<l.length):∃b1 o1,a=some ⟨b1,o1,none⟩∧b1<w.heap.size∧∀w2,Fp [] w w2→Jr w2 b1 (o1+k*6) l[k]:=by
 rcases h.cells with h0|⟨b1,o1,h1,h2,h3⟩
 ·subst h0;exact absurd hk (Nat.not_lt_zero _)
 ·exact⟨b1,o1,h1,h2,fun w2 hf=>(h3 k hk).fp hf h2 (by simp)⟩
end
section
section
open Go.RowKit
end
section
open Go.RowKit
def Kx(l:List Ac)(i:Nat):Bool:=decide (0<i)&&decide (0≤Ez (l.getD (i-1) Bv) (l.getD i Bv))
def risC(l:List Ac):Bool:=!(List.range l.length).any (Kx l)
theorem aO{l:List Ac}{k:Nat}(hk:k<l.length)(h:Kx l k=true):risC l=false:=by
 unfold risC;rw[List.any_eq_true.2 ⟨k,List.mem_range.2 hk,h⟩];rfl
theorem Ue{l:List Ac}(h:∀j,j<l.length→Kx l j=false):risC l=true:=by
 unfold risC;rw[List.any_eq_false.2 (fun x hx=>by rw[h x (List.mem_range.1 hx)];decide)];rfl
theorem aP{l:List Ac}{k m:Nat}(hk:k<l.length)(hm:k=m+1)(x y:Ac)(hx:l[m]'(by omega)=x)(hy:l[k]=y):Kx l k=decide (0≤Ez x y):=by
 subst hm;unfold Kx;rw[decide_eq_true (by omega),Bool.true_and,Nat.add_sub_cancel];rw[a0v,a0v,a1z (by omega),a1z hk];simp only[Option.getD_some,hx,hy]
theorem Uf(w:World)(a:Option Addr)(len cap:Nat)(l:List Ac)(hl:Bt w a len l)(hn:len≤9223372036854775807):
  Calls Tryz.prog 93 #[.slice a len cap] w fun e w'=>e=.returned (.bool (risC l))∧Fp [] w w':=by
 have HL:=a0z hl;have hlen:=hl.len;have HLEN:=a0z hlen;clear hl hlen;go_enter Tryz.func93,Tryz.ntmps93;go_wp2_with (fail)
 go_loopg [6] len (fun g vi wr=>∃k:Nat,g+k=len∧vi=.int .i64 k∧(∀j,j<k→Kx l j=false)∧Fp [] w wr)
 case atStart=>exact⟨0,rfl,rfl,by intro j hj;omega,Fp.refl _ _⟩
 case round=>
  obtain⟨k,hg,rfl,hall,hf⟩:=hrel;have HALL:=a0z hall;have HF:=a0z hf;clear hall hf
  by_cases hk:k<len
  ·by_cases h0:k=0
   ·subst h0
    have hk0:¬((0:Nat):Int)>0:=by decide
    rw[show((0:Nat):Int)=0 from rfl];go_wp2_with (fail);refine Df (by kernel_rfl) (by kernel_rfl) ?_
    iterate 3
     apply A9 rfl rfl rfl
     ·intro a w hC hA K hK
      try have h3:=hA.fr 3 rfl
      try have h9:=hA.eq 0 9 rfl
      try have h10:=hA.eq 1 10 rfl
      simp only[Oper.wp,execOp];go_simp;exact hK _ hC (Fp.refl _ _)
    apply A1 2 11 rfl rfl rfl rfl (by kernel_rfl) rfl rfl;apply A1 2 11 rfl rfl rfl rfl (by kernel_rfl) rfl rfl;apply A1 2 11 rfl rfl rfl rfl (by kernel_rfl) rfl rfl;apply A1 2 11 rfl rfl rfl rfl (by kernel_rfl) rfl rfl;apply A1 2 11 rfl rfl rfl rfl (by kernel_rfl) rfl rfl;apply A1 2 11 rfl rfl rfl rfl (by kernel_rfl) rfl rfl;apply A1 2 11 rfl rfl rfl rfl (by kernel_rfl) rfl rfl;apply A1 2 11 rfl rfl rfl rfl (by kernel_rfl) rfl rfl;apply A1 2 11 rfl rfl rfl rfl (by kernel_rfl) rfl rfl;apply A1 2 11 rfl rfl rfl rfl (by kernel_rfl) rfl rfl;apply A1 2 11 rfl rfl rfl rfl (by kernel_rfl) rfl rfl;apply A9 rfl rfl rfl
    ·intro a w hC hA K hK;have h11:=hA.eq 2 11 rfl;have h22:=hA.eq 13 22 rfl;simp only[Oper.wp,execOp];go_simp;exact hK _ hC (Fp.refl _ _)
    refine⟨?_,?_⟩
    ·repeat(first|exact trivial|refine C3 _ ?_ |refine⟨fun w1 w2 v _ hf ⟨g,h1,h2⟩=>⟨g,h1,(hf.block g (Ab h2) (by simp)).trans h2⟩,?_⟩)
    ·intro w' hC;simp only[List.reverse_cons,List.reverse_nil,List.nil_append,a0x]
     iterate 15 (refine Au ?_)
     refine A6 ?_;simp only[Am,Act.put,a0u,List.set_cons_succ,List.set_cons_zero];have HF2:=a0z (HF.out.trans hC (by simp));clear hC;go_wp2_with (fail)
     go_roundg (gk-1)
     case measure=>omega
     case rel=>
      refine⟨1,by omega,rfl,?_,HF2.out⟩;intro j hj
      obtain rfl:j=0:=by omega
      rfl
   ·obtain⟨m,hm⟩:∃m,k=m+1:=⟨k-1,by omega⟩
    have hkl:k<l.length:=by rw[←HLEN.out];exact hk
    obtain⟨x,hx⟩:∃x,l[m]'(by omega)=x:=⟨_,rfl⟩
    obtain⟨y,hy⟩:∃y,l[k]=y:=⟨_,rfl⟩
    have HBAD:=a0z (aP hkl hm x y hx hy)
    rcases HL.out.cells with he|⟨b,o,rfl,hb,hc⟩
    ·rw[he] at hkl;exact absurd hkl (by simp)
    have hX:=hc m (by omega);have hY:=hc k hkl;rw[hx] at hX;rw[hy] at hY
    have HXY:Hid (∀w',Fp [] w w'→Jr w' b (o+m*6) x∧Jr w' b (o+k*6) y):=fun w' hf=>⟨hX.fp hf hb (by simp),hY.fp hf hb (by simp)⟩
    have c1:=fun w=>aV x y w
    unfold D4 at c1
    obtain⟨v,hv⟩:∃v,Ez x y=v:=⟨_,rfl⟩
    rw[hv] at c1 HBAD;have C1:=a0z c1
    have hw1:IntKind.i64.wrap ((k:Int)-1)=(m:Int):=by rw[IntWalk.i64_in _ (by omega)];omega
    have hk1:0<k:=by omega
    have hm1:(m:Int)<(len:Int):=by omega
    have hk2:(k:Int)<(len:Int):=by omega
    have hmn:m<len:=by omega
    clear hx hy hc hX hY c1 hv hb hm;go_wp2_with (fail);refine Df (by kernel_rfl) (by kernel_rfl) ?_
    iterate 15
     first|apply A9 rfl rfl rfl|apply Jj 2 11 rfl rfl rfl rfl (by kernel_rfl) rfl rfl
     ·intro a w hC hA K hK
      try have h3:=hA.fr 3 rfl
      try have h9:=hA.eq 0 9 rfl
      try have h10:=hA.eq 1 10 rfl
      try have h0:=hA.fr 0 rfl
      try have h13:=hA.eq 4 13 rfl
      try have h12:=hA.eq 3 12 rfl
      try have h14:=hA.eq 5 14 rfl
      try have h15:=hA.eq 6 15 rfl
      try have h17:=hA.eq 8 17 rfl
      try have h18:=hA.eq 9 18 rfl
      try have h19:=hA.eq 10 19 rfl
      try have h16:=hA.eq 7 16 rfl
      try have h20:=hA.eq 11 20 rfl
      try have h21:=hA.eq 12 21 rfl
      try have h11:=hA.eq 2 11 rfl
      try have h22:=hA.eq 13 22 rfl
      obtain⟨⟨x0,x1,x2,x3,x4,x5⟩,⟨y0,y1,y2,y3,y4,y5⟩⟩:=HXY.out _ (HF.out.trans hC (by simp));simp only[Oper.wp,execOp];go_simp
      first
      |exact hK _ hC (Fp.refl _ _)
      |(with_reducible refine(C1.out _).mono ?_)
       rintro e w2 ⟨rfl,hf⟩;exact hK _ (hC.trans hf (by simp)) hf
    refine⟨?_,?_⟩
    ·repeat(first|exact trivial|refine C3 _ ?_ |refine⟨fun w1 w2 v _ hf ⟨g,h1,h2⟩=>⟨g,h1,(hf.block g (Ab h2) (by simp)).trans h2⟩,?_⟩)
    ·intro w' hC;simp only[List.reverse_cons,List.reverse_nil,List.nil_append,a0x]
     iterate 15 (refine Au ?_)
     refine A6 ?_;simp only[Am,Act.put,a0u,List.set_cons_succ,List.set_cons_zero];have HF2:=a0z (HF.out.trans hC (by simp));clear hC
     by_cases hv:0≤v
     ·have H:=a0z (aO hkl (by rw[HBAD.out];exact decide_eq_true hv));go_wp2_with (fail);go_ret;rw[H.out];exact⟨rfl,HF2.out⟩
     ·have H:Hid (Kx l k=false):=by unfold Hid;rw[HBAD.out];exact decide_eq_false hv
      go_wp2_with (fail)
      go_roundg (gk-1)
      case measure=>omega
      case rel=>exact⟨k+1,by omega,by go_num,fun j hj=>by
             by_cases e:j=k
             ·rw[e];exact H.out
             ·exact HALL.out j (by omega),HF2.out⟩
  ·have H:=a0z (Ue (l:=l) (fun j hj=>HALL.out j (by have:=HLEN.out;omega)));go_wp2_with (fail);go_ret;rw[H.out];exact⟨rfl,HF.out⟩
end
end
section
section
open Go.RowKit
theorem mG(a b:List UInt8):C0 (a++b)=C0 a++C0 b:=by
 induction a with
 |nil=>rfl
 |cons x a ih=>
  by_cases h:x=0
  ·subst h;rw[a0x,Md,Md,ih];rfl
  ·rw[a0x,Me h,Me h,ih];rfl
end
section
open Go.RowKit
end
section
open Go.RowKit
def zr:Ac × ByteArray × Int→Prop:=fun _=>True
end
section
open Go.RowKit
theorem mH{a b:ByteArray}(h:a.toList=b.toList):a=b:=by
 rw[ByteArray.toList_eq,ByteArray.toList_eq] at h;rw[←Lib.mk_data a,←Lib.mk_data b,h]
end
end
section
section
open Go.RowKit
end
section
open Go.Lib
end
section
open Go.Lib
theorem mI(n:Nat):(Jt n).length=8:=by unfold Jt;rw[List.length_reverse,Ns]
theorem mJ(l:List UInt8)(a:Nat):(bl l).extract a (bl l).size=bl (l.drop a):=by
 rw[Xd,D1,List.take_of_length_le (by rw[List.length_drop];exact Nat.le_refl _)]
end
end
end Go.Proofs.YtkagolpnaicdoaaGreatDoor
