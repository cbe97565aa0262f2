/- Lemmas. -/
import Derived.WalkKit
import Derived.Lib.Hide
import Derived.BigQuiet
import Derived.Deep.LoopGhost
import Derived.Deep.RegionLaw
import Derived.Maps.RangeWalk
set_option maxRecDepth 100000
set_option maxHeartbeats 8000000
namespace Go.Proofs.YtkagolpnaicdoaaGreatDoor
section
open Go.RowKit Go.Maps Go.MapKept Go.ChangeMaps
theorem Aa{α:Sort _}(a:α):∃x,a=x:=⟨a,rfl⟩
theorem Bz{α:Sort _}(a:α):∃x,x=a:=⟨a,rfl⟩
theorem _root_.Go.RowKit.Hid.o{p:Prop}(h:Hid p):p:=h
structure Fp(S:List Nat)(w w':World):Prop where
 os:w'.os=w.os
 tape:w'.tape=w.tape
 output:w'.output=w.output
 size:w.heap.size<=w'.heap.size
 block:∀k,k<w.heap.size->k∉S->w'.heap[k]?=w.heap[k]?
theorem Fp.refl(S:List Nat)(w:World):Fp S w w:=⟨rfl,rfl,rfl,Nat.le_refl _,fun _ _ _=>rfl⟩
theorem Fp.trans{S S':List Nat}{a b c:World}(h:Fp S a b)(k:Fp S' b c)(l:∀i∈S',i∈S∨a.heap.size≤i:=by simp):Fp S a c:=
 ⟨k.os.trans h.os,k.tape.trans h.tape,k.output.trans h.output,Nat.le_trans h.size k.size,fun i g d=>
  (k.block i (Nat.lt_of_lt_of_le g h.size) (fun m=>by rcases l i m with j|j;exact d j;omega)).trans (h.block i g d)⟩
theorem Fp.mono{S S':List Nat}{a b:World}(h:Fp S a b)(c:∀i∈S,i∈S'):Fp S' a b:=
 ⟨h.os,h.tape,h.output,h.size,fun i j d=>h.block i j (fun g=>d (c i g))⟩
theorem Fp.alloc(w:World)(o:Obj):Fp [] w (w.alloc o):=⟨rfl,rfl,rfl,by simp,fun k a _=>Below.heap_alloc _ _ _ a⟩
theorem Fp.setCell(w:World)(p:Addr)(u:Value):Fp [p.block] w (w.setCell p u):=
 ⟨rfl,rfl,rfl,by simp[World.setCell],fun k _ a=>Below.heap_setCell _ _ _ _ (by simpa using a)⟩
theorem Fp.setBlock(w:World)(b:Nat)(o:Obj):Fp [b] w (setBlock w b o):=
 ⟨rfl,rfl,rfl,by simp[ChangeMaps.setBlock],fun k _ a=>by
  have:b≠k:=fun e=>a (by simp[e])
  simp[ChangeMaps.setBlock,this]⟩
theorem Fp.drew(w:World):Fp [] w w.drew:=⟨rfl,rfl,rfl,Nat.le_refl _,fun _ _ _=>rfl⟩
theorem Fp.alloc'{S:List Nat}{a w:World}(h:Fp S a w)(o:Obj):Fp S a (w.alloc o):=h.trans (Fp.alloc w o)
theorem Fp.drew'{S:List Nat}{a w:World}(h:Fp S a w):Fp S a w.drew:=h.trans (Fp.drew w)
theorem Fp.setCell'{S:List Nat}{a w:World}(h:Fp S a w){p:Addr}(b:p.block∈S∨a.heap.size<=p.block)(u:Value):Fp S a (w.setCell p u):=h.trans (Fp.setCell w p u) (by simpa using b)
theorem _root_.Go.Calls.next{P:Program}{f:FuncId}{args:Array Value}{w c:World}{v:Value}{Q:Ending->World->Prop}(h:Calls P f args w fun e w'=>e=.returned v/\Fp [] w w')(F:Hid (Fp [] c w))(k:∀w',Hid (Fp [] c w')->Q (.returned v) w'):Calls P f args w Q:=h.mono fun e w' ⟨a,b⟩=>by subst a;exact k w' (F.o.trans b (by simp))
theorem _root_.Go.Calls.nexh{P:Program}{f:FuncId}{args:Array Value}{w:World}{v:Value}{Q:Ending->World->Prop}(h:Calls P f args w fun e w'=>e=.returned v/\Fp [] w w')(k:∀w',Hid (Fp [] w w')->Q (.returned v) w'):Calls P f args w Q:=h.mono fun e w' ⟨a,b⟩=>by subst a;exact k w' b
theorem Fp.setBlock'{S:List Nat}{a w:World}(h:Fp S a w){b:Nat}(c:b∈S∨a.heap.size<=b)(o:Obj):Fp S a (ChangeMaps.setBlock w b o):=h.trans (Fp.setBlock w b o) (by simpa using c)
theorem Fp.drewN(w:World)(n:Nat):Fp [] w (w.drewN n):=⟨rfl,rfl,rfl,Nat.le_refl _,fun _ _ _=>rfl⟩
theorem Fp.cell{S:List Nat}{w w':World}(h:Fp S w w'){p:Addr}(a:p.block<w.heap.size)(b:p.block∉S):w'.cell? p=w.cell? p:=World.cell?_of_block (w:=w) (h.block p.block a b)
theorem Fp.below{w w':World}{S:List Nat}(h:Fp S w w'){B:Nat}(d:B<=w.heap.size)(a:∀i∈S,B<=i):Below B w w':=
 ⟨h.os,h.tape,h.output,h.size,fun k c=>h.block k (by omega) (fun b=>by have:=a k b;omega)⟩
theorem Below.toFp{w w':World}(h:Below w.heap.size w w'):Fp [] w w':=⟨h.os,h.tape,h.output,h.size,fun k a _=>h.block k a⟩
theorem Fp.belowTrans{a b c:World}(h:Fp [] a b)(k:Below a.heap.size b c):Fp [] a c:=
 ⟨k.os.trans h.os,k.tape.trans h.tape,k.output.trans h.output,Nat.le_trans h.size k.size,fun i d g=>(k.block i d).trans (h.block i d g)⟩
theorem Cf{w:World}{b o:Nat}{c:Array Value}{T:TypeId}{fr:Nat × Nat}(h:w.heap[b]?=some (.cells c T fr))(v:Value):
  (w.setCell ⟨b,o,none⟩ v).heap[b]?=some (.cells (c.setIfInBounds o v) T fr):=by
 simp[World.setCell,Array.getElem?_modify,h]
theorem O1{w:World}{b a o:Nat}(c:b≠a)(v:Value):(w.setCell ⟨a,o,none⟩ v).heap[b]?=w.heap[b]?:=Below.heap_setCell _ _ _ _ c
theorem Dy{w:World}{b:Nat}{o a:Obj}(h:w.heap[b]?=some o):(w.alloc a).heap[b]?=some o:=by
 rw[Below.heap_alloc _ _ _ (Array.getElem?_eq_some_iff.1 h).1];exact h
theorem Ai{w:World}{n:Nat}(h:n=w.heap.size)(o:Obj):(w.alloc o).heap[n]?=some o:=by
 subst h;exact(MapKept.heap_alloc w o).1
theorem Ae{w:World}{b:Nat}{o:Obj}(h:w.heap[b]?=some o):b<w.heap.size:=(Array.getElem?_eq_some_iff.1 h).1
theorem Ab{w:World}{b:Nat}{c:Array Value}{T:TypeId}{fr:Nat × Nat}(h:w.heap[b]?=some (.cells c T fr))(o:Nat):w.cell? ⟨b,o,none⟩=c[o]?:=by
 simp[World.cell?,h]
theorem Av{w:World}{b:Nat}{c:Array Value}{T:TypeId}(h:w.heap[b]?=some (.cells c T (0,0)))(o:Nat):w.frozen? ⟨b,o,none⟩=false:=by
 simp[World.frozen?,h]
theorem G9{a b:Bool}(h:a=b):Ending.returned (.bool a)=.returned (.bool b):=by rw[h]
theorem lA{k:IntKind}{a b:Int}(h:a=b):Ending.returned (.int k a)=.returned (.int k b):=by rw[h]
theorem yF{a b:ByteArray}(h:a=b):Ending.returned (.string a)=.returned (.string b):=by rw[h]
theorem Ve{s:ByteArray}(h:s.size=0):s.toList.isEmpty=true:=by
 rw[ByteArray.toList_eq];obtain⟨⟨l⟩⟩:=s
 cases l with
 |nil=>rfl
 |cons x r=>cases h
theorem Nw{s:ByteArray}(h:0<s.size):s.toList.isEmpty=false:=by
 rw[ByteArray.toList_eq];obtain⟨⟨l⟩⟩:=s
 cases l with
 |nil=>exact absurd h (by decide)
 |cons x r=>rfl
end
section
open Go.RowKit
def M5(w:World):Prop:=∃m,w.cell? ⟨2,0,none⟩=some (.int .i64 m)
theorem M5.fp{w w':World}{S:List Nat}(h:M5 w)(c:Fp S w w')(b:2∉S:=by simp):M5 w':=by
 obtain⟨m,a⟩:=h;exact⟨m,by rw[c.cell (World.block_lt_of_cell? _ _ a) b];exact a⟩
end
end Go.Proofs.YtkagolpnaicdoaaGreatDoor
