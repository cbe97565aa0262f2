/-
 odd, Word, name. Slices of cells as they lie. Slices of cells that a call owns; append of cells. The steps of line: one for each word. line: a line of input as a cell. Cells: the cells of an input. The same cell? Print: what it prints (plain). The cells of an input are those of its lines, one by one. The reference of layer 7: Word, digits. The reference of layer 7: digits.
-/
import Derived.Test.YtkagolpnaicdoaaGreatDoorPParPure
import Derived.Test.YtkagolpnaicdoaaGreatDoorPRegion
import Derived.Test.YtkagolpnaicdoaaGreatDoorPShelf
import Derived.Test.YtkagolpnaicdoaaGreatDoorRows
import Derived.Maps.AppendAt
import Derived.Laws.AppendOwnNone
import Derived.Laws.EntriesVeiled
set_option maxRecDepth 100000
set_option maxHeartbeats 8000000
open Go.Lib renaming hid->a0z
open List renaming not_mem_nil->a0x
open Nat renaming le_refl->a0w
open ByteArray renaming size_append->a0v
namespace Go.Proofs.YtkagolpnaicdoaaGreatDoor
section
open Go.RowKit Go.Lib
theorem Ac0(w:World):PredAt Tryz.prog 202 #[] encR Ir w:=fun W r _=>by
 unfold FnGives
 by_cases b:r<=32<;>by_cases a:126<r
 all_goals
  have z1:(r:Int)<=32↔r<=32:=by omega
  have z2:(r:Int)>126↔126<r:=by omega
  go_enter Tryz.func202,Tryz.ntmps202;go_wp2
  all_goals first|(exfalso;omega)|(go_ret;exact⟨by unfold Ir;simp[b,a],0,rfl⟩)
theorem Ac1(s:ByteArray)(w:World):
  Calls Tryz.prog 201 #[.string s,.func (.func 202) #[] #[]] w fun e w'=>e=.returned (.int .i64 (idxFunc Ir true s))/\Fp [] w w':=
 (Tryz.strings_IndexFunc 202 #[] (enters_of Tryz.func202 (by kernel_rfl) rfl) Ir s w (Ac0 w)).mono fun _ _ ⟨h,a⟩=>⟨h,Below.toFp a⟩
def Ku(s:ByteArray):Bool:=J6 s&&decide (s.size<=40)
theorem Ac2(s:ByteArray):J6 s=(decide (s.size≠0)&&decide (idxFunc Ir true s<0)):=by
 unfold J6;rw[Acw]
theorem nY(s:ByteArray)(w:World):
  Calls Tryz.prog 129 #[.string s] w fun e w'=>e=.returned (.bool (J6 s))/\Fp [] w w':=by
 have d:=a0z (Ac1 s);rw[Ac2]
 by_cases f:s.size=0
 ·have a:=lY f;go_enter Tryz.func129,Tryz.ntmps129;go_wp2_with (fail);go_ret;exact⟨by rw[decide_eq_false (by omega)];rfl,Fp.refl _ _⟩
 ·have a:=Rl (s:=s) (by omega);rw[decide_eq_true f,Bool.true_and]
  obtain⟨I,g⟩:∃I,idxFunc Ir true s=I:=⟨_,rfl⟩
  rw[g] at d ⊢;go_enter Tryz.func129,Tryz.ntmps129;go_wp2_with (fail);(with_reducible refine(d.out _).mono ?_);rintro e i ⟨rfl,b⟩;have h:=a0z b;clear b;go_wp2_with (fail);go_ret;exact⟨rfl,h.out⟩
theorem nZ(s:ByteArray)(w:World):
  Calls Tryz.prog 123 #[.string s] w fun e w'=>e=.returned (.bool (Ku s))/\Fp [] w w':=by
 have d:=a0z (nY s);unfold Ku
 obtain⟨b,h⟩:∃b,J6 s=b:=⟨_,rfl⟩
 rw[h] at d ⊢;cases b
 ·go_enter Tryz.func123,Tryz.ntmps123;go_wp2_with (fail);(with_reducible refine(d.out _).mono ?_);rintro e g ⟨rfl,a⟩;have f:=a0z a;clear a;go_wp2_with (fail);go_ret;exact⟨rfl,f.out⟩
 ·go_enter Tryz.func123,Tryz.ntmps123;go_wp2_with (fail);(with_reducible refine(d.out _).mono ?_);rintro e g ⟨rfl,a⟩;have f:=a0z a;clear a;go_wp2_with (fail);go_ret;refine⟨?_,f.out⟩;refine Ks ?_;rw[Bool.true_and];exact decide_eq_decide.2 (by omega)
end
section
open Go.RowKit
structure Jl(w:World)(b o:Nat)(c:Aa):Prop where
 c0:w.cell? ⟨b,o,none⟩=some (.string c.row)
 c1:w.cell? ⟨b,o+1,none⟩=some (.string c.col)
 c2:w.cell? ⟨b,o+2,none⟩=some (.int .u64 c.ts)
 c3:w.cell? ⟨b,o+3,none⟩=some (.int .u64 c.seq)
 c4:w.cell? ⟨b,o+4,none⟩=some (.bool c.del)
 c5:w.cell? ⟨b,o+5,none⟩=some (.string c.val)
theorem Jl.fp{w w':World}{b o:Nat}{c:Aa}{S:List Nat}(h:Jl w b o c)(a:Fp S w w')(d:b<w.heap.size)(f:b∉S):Jl w' b o c:=
 ⟨(a.cell (by exact d) f).trans h.c0,(a.cell (by exact d) f).trans h.c1,(a.cell (by exact d) f).trans h.c2,(a.cell (by exact d) f).trans h.c3,(a.cell (by exact d) f).trans h.c4,(a.cell (by exact d) f).trans h.c5⟩
structure Bh(w:World)(a:Option Addr)(len:Nat)(l:List Aa):Prop where
 len:len=l.length
 cells:l=[]∨∃b o,a=some ⟨b,o,none⟩/\b<w.heap.size/\∀i (h:i<l.length),Jl w b (o+i*6) l[i]
 ok:∀c∈l,B3 c
theorem Bh.fp{w w':World}{a:Option Addr}{len:Nat}{l:List Aa}(h:Bh w a len l)(d:Fp [] w w'):Bh w' a len l:=by
 refine⟨h.len,?_,h.ok⟩
 rcases h.cells with k|⟨b,o,rfl,f,j⟩
 ·exact Or.inl k
 ·exact Or.inr ⟨b,o,rfl,Nat.lt_of_lt_of_le f d.size,fun i g=>(j i g).fp d f (by simp)⟩
theorem Lj{w:World}{a:Option Addr}{len k:Nat}{l:List Aa}(h:Bh w a len l)(f:k<l.length):∃b d,a=some ⟨b,d,none⟩/\b<w.heap.size/\∀w2,Fp [] w w2->Jl w2 b (d+k*6) l[k]:=by
 rcases h.cells with n|⟨b,d,m,g,j⟩
 ·subst n;exact absurd f (Nat.not_lt_zero _)
 ·exact⟨b,d,m,g,fun w2 i=>(j k f).fp i g (by simp)⟩
end
section
open Go.RowKit
def Yt(c:Aa):Array Value:=#[.string c.row,.string c.col,.int .u64 c.ts,.int .u64 c.seq,.bool c.del,.string c.val]
def Ed(c:Aa):List Value:=[.string c.row,.string c.col,.int .u64 c.ts,.int .u64 c.seq,.bool c.del,.string c.val]
def Di(w:World)(b:Nat)(c:Aa):Prop:=w.heap[b]?=some (.cells (Yt c) 80 (0,0))
theorem Di.cell{w:World}{b:Nat}{c:Aa}(h:Di w b c)(o:Nat):w.cell? ⟨b,o,none⟩=(Yt c)[o]?:=Ab h o
theorem Di.free{w:World}{b:Nat}{c:Aa}(h:Di w b c)(o:Nat):w.frozen? ⟨b,o,none⟩=false:=Ar h o
theorem Di.fp{w w':World}{b:Nat}{c:Aa}{S:List Nat}(h:Di w b c)(a:Fp S w w')(d:b∉S):Di w' b c:=(a.block b (Ac h) d).trans h
theorem Di.set{w:World}{b:Nat}{c c':Aa}(h:Di w b c)(o:Nat)(v:Value)(e:(Yt c).setIfInBounds o v=Yt c'):Di (w.setCell ⟨b,o,none⟩ v) b c':=by
 unfold Di;rw[Bd h,e]
theorem Di.cells{w:World}{b:Nat}{c:Aa}(h:Di w b c):Jl w b 0 c:=⟨h.cell 0,h.cell 1,h.cell 2,h.cell 3,h.cell 4,h.cell 5⟩
theorem Ac3{w:World}{b o:Nat}{c:Aa}(h:Jl w b o c)(j:Nat)(u:Value)(a:(Ed c)[j]?=some u):w.cell? ⟨b,o+j,none⟩=some u:=by
 match j,a with
 |0,a=>simp[Ed] at a;subst a;exact h.c0
 |1,a=>simp[Ed] at a;subst a;exact h.c1
 |2,a=>simp[Ed] at a;subst a;exact h.c2
 |3,a=>simp[Ed] at a;subst a;exact h.c3
 |4,a=>simp[Ed] at a;subst a;exact h.c4
 |5,a=>simp[Ed] at a;subst a;exact h.c5
 |j+6,a=>simp[Ed] at a
theorem Wa(l:List Aa):(l.flatMap Ed).length=l.length*6:=by
 induction l with
 |nil=>rfl
 |cons c l ih=>rw[List.flatMap_cons,List.length_append,ih,List.length_cons];show 6+_ =_;omega
theorem dC(l:List Aa)(i j:Nat)(b:j<6)(a:i<l.length):(l.flatMap Ed)[i*6+j]?=(Ed l[i])[j]?:=by
 induction l generalizing i with
 |nil=>exact absurd a (Nat.not_lt_zero _)
 |cons c l ih=>
  rw[List.flatMap_cons]
  cases i with
  |zero=>rw[List.getElem?_append_left (by show 0*6+j<6;omega)];simp
  |succ i=>
   rw[List.getElem?_append_right (by show 6<=(i+1)*6+j;omega)]
   have e:(i+1)*6+j-(Ed c).length=i*6+j:=by show(i+1)*6+j-6=_;omega
   rw[e];exact ih i (by simpa using a)
theorem dD{w:World}{b o:Nat}{l:List Aa}(h:∀i (d:i<l.length),Jl w b (o+i*6) l[i])(j:Nat)(u:Value)(a:(l.flatMap Ed)[j]?=some u):w.cell? ⟨b,o+j,none⟩=some u:=by
 have f:j<l.length*6:=by rw[<-Wa];exact(List.getElem?_eq_some_iff.1 a).1
 have d:j/6<l.length:=by omega
 have g:j%6<6:=Nat.mod_lt _ (by decide)
 have e:j=j/6*6+j%6:=by omega
 rw[e,dC l _ _ g d] at a;have:=Ac3 (h _ d) _ _ a;rw[e,<-Nat.add_assoc];exact this
def Ao(w:World)(base:Nat)(v:Value)(l:List Aa):Prop:=w.ownsRow base 80 6 v l.length (l.flatMap Ed)
theorem Ao.nil(w:World)(base:Nat):Ao w base (.slice none 0 0) []:=World.ownsRow_nil w base _ _
theorem Ao.mono{w:World}{base a:Nat}{v:Value}{l:List Aa}(h:Ao w base v l)(j:a<=base):Ao w a v l:=by
 obtain⟨k,b⟩:=h;refine⟨k,?_⟩
 rcases b with b|⟨g,cap,d,f,i,r⟩
 ·exact Or.inl b
 ·exact Or.inr ⟨g,cap,d,f,Nat.le_trans j i,r⟩
theorem Ao.lt{w:World}{base:Nat}{v:Value}{l:List Aa}(h:Ao w base v l):∀k,v.ownBlock=some k->base<=k/\k<w.heap.size:=World.ownsRow.lt h
theorem Ao.kept{w w':World}{base:Nat}{v:Value}{l:List Aa}(h:Ao w base v l)(j:∀k,v.ownBlock=some k->w'.heap[k]?=w.heap[k]?):Ao w' base v l:=by
 obtain⟨m,a⟩:=h;refine⟨m,?_⟩
 rcases a with a|⟨g,cap,b,d,i,f,r⟩
 ·exact Or.inl a
 ·exact Or.inr ⟨g,cap,b,d,i,(j g (by rw[d];rfl)).trans f,r⟩
theorem Ao.fp{w w':World}{base:Nat}{v:Value}{l:List Aa}{S:List Nat}(h:Ao w base v l)(d:Fp S w w')(f:∀i∈S,i<base):Ao w' base v l:=
 h.kept fun k a=>d.block k (h.lt k a).2 (fun b=>by have:=f k b;have:=(h.lt k a).1;omega)
theorem Ao.at{w:World}{base:Nat}{v:Value}{l:List Aa}(h:Ao w base v l)(d:∀c∈l,B3 c):∃a cap,v=.slice a l.length cap∧Bh w a l.length l:=by
 obtain⟨x,o⟩:=h
 rcases o with⟨rfl,p⟩|⟨g,cap,q,rfl,u,f,s,t,r,k⟩
 ·have:l=[]:=List.eq_nil_of_length_eq_zero p;subst this;exact⟨none,0,rfl,rfl,Or.inl rfl,by simp⟩
 ·refine⟨_,_,rfl,rfl,Or.inr ⟨g,0,rfl,Ac f,fun i n=>?_⟩,d⟩
  have b:∀j,j<6->w.cell? ⟨g,0+i*6+j,none⟩=(Ed l[i])[j]?:=by
   intro j m;rw[Ab f,<-dC l i j m n,<-k,List.getElem?_take,if_pos (by omega),Array.getElem?_toList,Nat.zero_add]
  exact⟨b 0 (by decide),b 1 (by decide),b 2 (by decide),b 3 (by decide),b 4 (by decide),b 5 (by decide)⟩
theorem Ao.at2{w:World}{base:Nat}{v:Value}{l:List Aa}(h:Ao w base v l)(d:∀c∈l,B3 c):∃a cap,v=.slice a l.length cap∧(a=none→cap=0)∧Bh w a l.length l:=by
 obtain⟨a,cap,e,i⟩:=h.at d;refine⟨a,cap,e,fun f=>?_,i⟩
 rcases h.2 with⟨b,_⟩|⟨g,k,j,b,_⟩
 ·rw[e] at b
  injection b
 ·rw[e,f] at b
  injection b with h2
  cases h2
theorem Ao.made(w:World)(base:Nat)(a:base<=w.heap.size):Ao (w.alloc (.cells #[] 80)) base (.slice (some ⟨w.heap.size,0,none⟩) 0 0) []:=
 World.ownsRow_made w #[] 0 a (by decide) rfl
theorem Tryz.infoCel:(Tryz.prog.info? 80).map (fun i=>(i.zero,i.size,i.bytes))=some (some (.agg #[.string ⟨#[]⟩,.string ⟨#[]⟩,.int .u64 0,.int .u64 0,.bool false,.string ⟨#[]⟩]),6,72):=by kernel_rfl
theorem Yu{w w':World}{base:Nat}{v:Value}{l:List Aa}(h:Ao w base v l)(b:w.grownBy w' v.ownBlock)(d:base<=w.heap.size):Below base w w':=
 (Below.refl base w).grown b d (fun k a=>(h.lt k a).1)
theorem dE(l:List Aa):∀u∈l.flatMap Ed,u.oneCell'=true:=by
 intro u b;obtain⟨c,_,a⟩:=List.mem_flatMap.1 b;simp only[Ed,List.mem_cons,a0x,or_false] at a
 rcases a with rfl|rfl|rfl|rfl|rfl|rfl<;>rfl
theorem Rr{w:World}{p:Array Oper}{rest:List Oper}{o:Oper}{a:Act}{Q:Exit→Act→World→Prop}(q:o.guard=none)(s x:Operand)
  (I:o.op=.call {callee:=.builtin .append,args:=#[s,x],argTypes:=#[78,78]})(base:Nat)(v:Value)(l:List Aa)(G:a.eval s=v)(d:Ao w base v l)
  (n:Option Addr)(m c:Nat)(k:List Aa)(E:a.eval x=.slice n m c)(C:Bh w n m k)(g:n=none->c=0)(J:l.length+k.length<=1000000000)(f:base<=w.heap.size)
  (h:∀r w',Ao w' base r (l++k)->Below base w w'->wpList Tryz.prog p Q rest (a.put o.dst r) w'):wpList Tryz.prog p Q (o::rest) a w:=by
 obtain⟨D,K,z,y,t⟩:=info_parts Tryz.infoCel;have B:=C.len
 cases n with
 |none=>
  have:k=[]:=by
   rcases C.cells with i|⟨b,o,i,_⟩
   ·exact i
   ·cases i
  subst this;obtain rfl:=g rfl;have A:m=0:=B;subst A;refine wpList_append_own_none q s x 78 I base 80 D 6 Tryz.underlying78 K v l.length (l.flatMap Ed) G d E ?_;exact h v w (by rw[List.append_nil];exact d) (Below.refl _ _)
 |some n=>
  refine wpList_append_own w q s x 78 I base 80 D _ 6 72 Tryz.underlying78 K z y t rfl (by decide) v l.length (l.flatMap Ed) G d n m c (k.flatMap Ed) E (by rw[Wa,B]) ?_ (dE k) (by unfold maxLen;omega) (by omega) f ?_
  ·intro j u F
   rcases C.cells with i|⟨b,o,i,_,L⟩
   ·subst i;simp at F
   ·obtain rfl:=Option.some.inj i
    have O:(⟨b,o,none⟩:Addr).add j=⟨b,o+j,none⟩:=by unfold Addr.add;split<;>simp_all
    rw[O];exact dD L j u F
  ·intro r w' N M _;refine h r w' ?_ (Yu d M f);unfold Ao;rw[List.length_append,List.flatMap_append,<-B];exact N
theorem Di.one{w:World}{b:Nat}{c:Aa}(h:Di w b c)(a:B3 c):Bh w (some ⟨b,0,none⟩) 1 [c]:=
 ⟨rfl,Or.inr ⟨b,0,rfl,Ac h,fun i d=>by
  obtain rfl:i=0:=by simpa using d
  exact h.cells⟩,by simpa using a⟩
theorem Di.facts0{w:World}{b:Nat}{c:Aa}(h:Di w b c):
  w.cell? ⟨b,0,none⟩=some (.string c.row)/\w.cell? ⟨b,1,none⟩=some (.string c.col)/\w.cell? ⟨b,2,none⟩=some (.int .u64 c.ts)/\
  w.cell? ⟨b,3,none⟩=some (.int .u64 c.seq)/\w.cell? ⟨b,4,none⟩=some (.bool c.del)/\w.cell? ⟨b,5,none⟩=some (.string c.val)/\
  w.frozen? ⟨b,0,none⟩=false/\w.frozen? ⟨b,1,none⟩=false/\w.frozen? ⟨b,2,none⟩=false/\w.frozen? ⟨b,3,none⟩=false/\w.frozen? ⟨b,4,none⟩=false/\w.frozen? ⟨b,5,none⟩=false:=
 ⟨h.cell 0,h.cell 1,h.cell 2,h.cell 3,h.cell 4,h.cell 5,h.free 0,h.free 1,h.free 2,h.free 3,h.free 4,h.free 5⟩
theorem Di.facts{w:World}{b:Nat}{c:Aa}(h:Di w b c):
  (∀X:Obj,(w.alloc X).cell? ⟨b,0,none⟩=some (.string c.row))/\(∀X:Obj,(w.alloc X).cell? ⟨b,1,none⟩=some (.string c.col))/\(∀X:Obj,(w.alloc X).cell? ⟨b,2,none⟩=some (.int .u64 c.ts))/\
  (∀X:Obj,(w.alloc X).cell? ⟨b,3,none⟩=some (.int .u64 c.seq))/\(∀X:Obj,(w.alloc X).cell? ⟨b,4,none⟩=some (.bool c.del))/\(∀X:Obj,(w.alloc X).cell? ⟨b,5,none⟩=some (.string c.val))/\
  (∀X:Obj,(w.alloc X).frozen? ⟨b,0,none⟩=false)/\(∀X:Obj,(w.alloc X).frozen? ⟨b,1,none⟩=false)/\(∀X:Obj,(w.alloc X).frozen? ⟨b,2,none⟩=false)/\
  (∀X:Obj,(w.alloc X).frozen? ⟨b,3,none⟩=false)/\(∀X:Obj,(w.alloc X).frozen? ⟨b,4,none⟩=false)/\(∀X:Obj,(w.alloc X).frozen? ⟨b,5,none⟩=false):=by
 have k:∀X:Obj,Di (w.alloc X) b c:=fun X=>h.fp (Fp.alloc w X) a0x
 exact⟨fun X=>(k X).cell 0,fun X=>(k X).cell 1,fun X=>(k X).cell 2,fun X=>(k X).cell 3,fun X=>(k X).cell 4,fun X=>(k X).cell 5,fun X=>(k X).free 0,fun X=>(k X).free 1,fun X=>(k X).free 2,fun X=>(k X).free 3,fun X=>(k X).free 4,fun X=>(k X).free 5⟩
end
section
open Go.RowKit Go.Lib
theorem Ac4(s:ByteArray)(c:Aa)(b:Nat)(w:World)(a:Di w b c):
  Calls Tryz.prog 122 #[.string s,.pointer (some ⟨b,0,none⟩)] w fun e w'=>e=.returned (.bool (Ku s))/\Di w' b {c with row:=s}/\Fp [b] w w':=by
 have g:=a0z (nZ s);have h:=a0z a;have q0:w.cell? ⟨b,0,none⟩=some (.string c.row):=a.cell 0;have j:=a.free 0;clear a;go_enter Tryz.func122,Tryz.ntmps122;go_wp2_with (fail);(with_reducible refine(g.out _).mono ?_);rintro e i ⟨rfl,d⟩;have f:=a0z d;clear d;go_wp2_with (fail);go_ret;exact⟨rfl,(h.out.set (c':={c with row:=s}) 0 (.string s) rfl).fp f.out a0x,(Fp.setCell _ _ _).trans f.out (by simp)⟩
theorem Ac5(s:ByteArray)(c:Aa)(b:Nat)(w:World)(a:Di w b c):
  Calls Tryz.prog 124 #[.string s,.pointer (some ⟨b,0,none⟩)] w fun e w'=>e=.returned (.bool (Ku s))/\Di w' b {c with col:=s}/\Fp [b] w w':=by
 have g:=a0z (nZ s);have h:=a0z a;have q0:w.cell? ⟨b,1,none⟩=some (.string c.col):=a.cell 1;have j:=a.free 1;clear a;go_enter Tryz.func124,Tryz.ntmps124;go_wp2_with (fail);(with_reducible refine(g.out _).mono ?_);rintro e i ⟨rfl,d⟩;have f:=a0z d;clear d;go_wp2_with (fail);go_ret;exact⟨rfl,(h.out.set (c':={c with col:=s}) 1 (.string s) rfl).fp f.out a0x,(Fp.setCell _ _ _).trans f.out (by simp)⟩
def oC(s:ByteArray)(u:Nat)(ev:Value):Prop:=(ev=.nilIface/\parseUintB 64 s.data.toList=.ok u)∨((∃t p,ev=.iface t p)/\∀n,parseUintB 64 s.data.toList≠.ok n)
structure Rt(w:World):Prop where
 sy:∃tp p,w.cell? ⟨3,0,none⟩=some (.iface tp p)
 rg:∃tp p,w.cell? ⟨4,0,none⟩=some (.iface tp p)
theorem oD{w w':World}{S:List Nat}{g:Nat}{v:Value}(h:w.cell? ⟨g,0,none⟩=some v)(b:Fp S w w')(a:g∉S):w'.cell? ⟨g,0,none⟩=some v:=
 (b.cell (p:=⟨g,0,none⟩) (World.block_lt_of_cell? _ _ h) a).trans h
theorem Rt.fp{w w':World}{S:List Nat}(h:Rt w)(a:Fp S w w')(k:3∉S)(j:4∉S):Rt w':=by
 obtain⟨⟨d,i,q1⟩,⟨b,g,f⟩⟩:=h;exact⟨⟨d,i,oD q1 a k⟩,⟨b,g,oD f a j⟩⟩
theorem Fp.bytesWorld(w:World)(t:TypeId)(s:ByteArray):Fp [] w (Lib.bytesWorld w t s):=Below.toFp (Lib.bytesWorld_below _ _ _)
theorem Ac6(s:ByteArray)(w:World)(o:s.size≤100000000)(i:Rt w):
  Calls Tryz.prog 126 #[.string s,.int .i64 10,.int .i64 64] w fun e w'=>∃u d,e=.returned (.tuple #[.int .u64 (u:Nat),d])/\oC s u d/\u<18446744073709551616/\Fp [] w w':=by
 obtain⟨⟨k,m,q1⟩,⟨j,l,f⟩⟩:=i
 cases h:parseUintB 64 s.data.toList with
 |ok u=>
  refine(Tryz.strconv_ParseUint_10_at64_ok s (by omega) u h w).mono ?_;rintro e w' ⟨rfl,g⟩;refine⟨u,_,rfl,Or.inl ⟨rfl,h⟩,?_,?_⟩
  ·have:=parseUintB_le h;omega
  ·rcases g with rfl|rfl
   ·exact Fp.refl _ _
   ·exact Fp.bytesWorld _ _ _
 |range=>
  refine(Tryz.strconv_ParseUint_10_at64_range s (by omega) h _ w f (Or.inr ⟨_,_,rfl⟩)).mono ?_;rintro e w' ⟨N,rfl,_,_,b⟩;exact⟨18446744073709551615,_,rfl,Or.inr ⟨⟨_,_,rfl⟩,fun n a=>by rw[h] at a;cases a⟩,by decide,Below.toFp b⟩
 |_=>
  refine(Any.strconv_ParseUint_10_at64_syntax Tryz.laysPu14 s (by omega) h _ w q1 (Or.inr ⟨_,_,rfl⟩)).mono ?_;rintro e w' ⟨N,rfl,_,_,b⟩;exact⟨0,_,rfl,Or.inr ⟨⟨_,_,rfl⟩,fun n a=>by rw[h] at a;cases a⟩,by decide,Below.toFp b⟩
def J7(s:ByteArray):Option Nat:=match parseUintB 64 s.data.toList with
 |.ok u=>if s.size<=18 then some u else none
 |_=>none
theorem Ac7{s:ByteArray}{u:Nat}{b:Value}(h:oC s u b):(J7 s=some u∧b=.nilIface∧s.size≤18)∨(J7 s=none∧(b=.nilIface∧¬s.size≤18))∨(J7 s=none∧∃t p,b=.iface t p):=by
 rcases h with⟨rfl,h⟩|⟨⟨t,p,rfl⟩,h⟩
 ·unfold J7;rw[h]
  by_cases a:s.size<=18
  ·exact Or.inl ⟨if_pos a,rfl,a⟩
  ·exact Or.inr (Or.inl ⟨if_neg a,rfl,a⟩)
 ·right;right;refine⟨?_,t,p,rfl⟩;unfold J7;split
  ·rename_i u d;exact absurd d (h u)
  ·rfl
theorem Ac8(s:ByteArray)(c:Aa)(b:Nat)(w:World)(i:Di w b c)(k:s.size≤100000000)(h:Rt w):
  Calls Tryz.prog 125 #[.string s,.pointer (some ⟨b,0,none⟩)] w fun e w'=>e=.returned (.bool (J7 s).isSome)/\(∃u,(J7 s=none∨J7 s=some u)/\Di w' b {c with ts:=u})/\Fp [b] w w':=by
 have l:=a0z (fun w=>Ac6 s w k);have q:=a0z i;have o:=a0z h;clear i h;go_enter Tryz.func125,Tryz.ntmps125;go_wp2_with (fail);(with_reducible refine(l.out _ o.out).mono ?_);rintro e j ⟨u,y,rfl,g,v,f⟩;have a:=a0z (q.out.fp f (by simp));have n:=a0z f;have q0:j.cell? ⟨b,2,none⟩=some (.int .u64 c.ts):=a.out.cell 2;have x:=a.out.free 2;clear f
 rcases Ac7 g with⟨d,rfl,m⟩|⟨d,rfl,m⟩|⟨d,t,p,rfl⟩
 all_goals
  clear g;have r:=a0z d;clear d;go_wp2_with (fail);go_ret;rw[r.out];refine⟨?_,⟨u,?_,a.out.set 2 _ rfl⟩,(n.out.mono (S':=[b]) (by simp)).trans (Fp.setCell _ _ _) (by simp)⟩
  ·first|exact Ks rfl|exact Ks (decide_eq_true (by omega))|exact Ks (decide_eq_false (by omega))
  ·first|exact Or.inl rfl|exact Or.inr rfl
theorem Ac9(s:ByteArray)(w:World):
  Calls Tryz.prog 128 #[.string s,.string ⟨#[61]⟩] w fun e w'=>e=.returned (.tuple #[.string ⟨(Lib.trimPrefix s.data.toList [61]).toArray⟩,.bool (Lib.hasPrefix s.data.toList [61])])/\w=w':=
 (Tryz.strings_CutPrefix s ⟨#[61]⟩ w).mono fun _ _ ⟨b,a⟩=>⟨b,a.symm⟩
def Is(s:ByteArray):ByteArray:=⟨(Lib.trimPrefix s.data.toList [61]).toArray⟩
def Ii(s:ByteArray):Bool:=s.toList==[45]
def Qo(s:ByteArray):Bool:=Lib.hasPrefix s.data.toList [61]&&(J6 s&&decide ((Is s).size<=100))
theorem Ada(s:ByteArray)(c:Aa)(b:Nat)(w:World)(l:Di w b c):
  Calls Tryz.prog 127 #[.string s,.pointer (some ⟨b,0,none⟩)] w fun e w'=>e=.returned (.bool (Ii s||Qo s))/\Di w' b {c with del:=Ii s,val:=if Ii s=true then c.val else Is s}/\Fp [b] w w':=by
 have u:=a0z (nY s);have d:=a0z (Ac9 s);have A:=a0z l;have C:w.cell? ⟨b,4,none⟩=some (.bool c.del):=l.cell 4;have E:=l.free 4;clear l
 obtain⟨g,n⟩:∃g,Ii s=g:=⟨_,rfl⟩
 have m:(s.toList==[45])=g:=n;rw[n];have a:=a0z (A.out.set (c':={c with del:=g}) 4 (.bool g) rfl);have j:=a0z (Fp.setCell w ⟨b,4,none⟩ (.bool g));have z:(w.setCell ⟨b,4,none⟩ (.bool g)).cell? ⟨b,4,none⟩=some (.bool g):=a.out.cell 4;cases g
 ·go_enter Tryz.func127,Tryz.ntmps127;go_wp2_with (fail);(with_reducible refine(d.out _).mono ?_);rintro e q ⟨rfl,rfl⟩;have B:(w.setCell ⟨b,4,none⟩ (.bool false)).cell? ⟨b,5,none⟩=some (.string c.val):=a.out.cell 5;have D:=a.out.free 5;have f:=a0z (a.out.set (c':={c with del:=false,val:=Is s}) 5 (.string (Is s)) rfl);have i:=a0z (j.out.trans (Fp.setCell _ ⟨b,5,none⟩ (.string (Is s))) (by simp));have y:((w.setCell ⟨b,4,none⟩ (.bool false)).setCell ⟨b,5,none⟩ (.string (Is s))).cell? ⟨b,5,none⟩=some (.string (Is s)):=f.out.cell 5;rw[show(⟨(Lib.trimPrefix s.data.toList [61]).toArray⟩:ByteArray)=Is s from rfl]
  obtain⟨h,t⟩:∃h,Lib.hasPrefix s.data.toList [61]=h:=⟨_,rfl⟩
  obtain⟨wb,r⟩:∃wb,J6 s=wb:=⟨_,rfl⟩
  have v:Hid (Qo s=(h&&(wb&&decide ((Is s).size<=100)))):=by unfold Hid Qo;rw[t,r]
  rw[t];rw[r] at u;clear d n m;cases h
  ·go_wp2_with (fail);go_ret;rw[v.out];exact⟨rfl,f.out,i.out.mono (by simp)⟩
  ·cases wb
   all_goals
    go_wp2_with (fail);(with_reducible refine(u.out _).mono ?_);rintro e q ⟨rfl,o⟩;have k:=a0z (f.out.fp o (by simp));have p:=a0z (i.out.trans o (by simp));have x:q.cell? ⟨b,5,none⟩=some (.string (Is s)):=k.out.cell 5;clear o;go_wp2_with (fail);go_ret;rw[v.out];refine⟨?_,k.out,p.out.mono (by simp)⟩
   ·exact Ks rfl
   ·exact Ks (decide_eq_decide.2 (by omega))
 ·go_enter Tryz.func127,Tryz.ntmps127;go_wp2_with (fail);go_ret;exact⟨rfl,a.out,j.out⟩
end
section
open Go.RowKit Go.Lib
def I9(a b c d:ByteArray):Option Aa:=
 if Ku a=true/\Ku b=true/\(Ii d||Qo d)=true then
  (J7 c).map fun u=>⟨a,b,u,0,Ii d,if Ii d=true then⟨#[]⟩ else Is d⟩
 else none
def D5(s:ByteArray):Option Aa:=match Ih 32 s with
 |[a,b,c,d]=>I9 a b c d
 |_=>none
theorem Adb{s:ByteArray}(h:(Ih 32 s).length≠4):D5 s=none:=by
 unfold D5;split
 ·rename_i e;rw[e] at h;exact absurd rfl h
 ·rfl
theorem Adc{l:List ByteArray}(h:l.length=4):∃a b c d,l=[a,b,c,d]:=by
 match l,h with
 |[a,b,c,d],_=>exact⟨a,b,c,d,rfl⟩
def Ub(w:World)(B:Nat)(l:List ByteArray):Prop:=w.heap[B]?=some (.cells (l.map Value.string).toArray 9 (0,0))
theorem Ub.fp{w w':World}{B:Nat}{l:List ByteArray}{S:List Nat}(h:Ub w B l)(a:Fp S w w')(b:B∉S):Ub w' B l:=(a.block B (Ac h) b).trans h
theorem Ub.at{w:World}{B:Nat}{l:List ByteArray}(h:Ub w B l)(i:Nat)(a:i<l.length):w.cell? ⟨B,i,none⟩=some (.string l[i]):=by
 rw[Ab h];simp[a]
theorem oE(c:UInt8)(s:ByteArray)(w:World)(b:s.size≤100000000)(a:Ia w):
  Calls Tryz.prog 84 #[.string s,.string ⟨#[c]⟩] w fun e w'=>
   ∃B,e=.returned (.slice (some ⟨B,0,none⟩) (Ih c s).length (Ih c s).length)/\B=w.heap.size/\Ub w' B (Ih c s)/\Fp [] w w':=by
 obtain⟨m,a⟩:=a;rw[Acy];refine(Tryz.strings_Split s ⟨#[c]⟩ m w (by omega) a (a0w 1)).mono ?_;rintro e w' ⟨rfl,rfl⟩;exact⟨_,rfl,rfl,Ai rfl _,Fp.alloc _ _⟩
theorem Add(a f d b:Value)(w:World):(Instr.index 196 (.agg #[a,f,d,b]) (.int .i64 0)).run Tryz.prog w=.ok a w:=by
 simp[Instr.index,run_underlying Tryz.underlying196,asIntOf,go_sem]
theorem Ade(f a d b:Value)(w:World):(Instr.index 196 (.agg #[f,a,d,b]) (.int .i64 1)).run Tryz.prog w=.ok a w:=by
 simp[Instr.index,run_underlying Tryz.underlying196,asIntOf,go_sem]
theorem Adf(f d a b:Value)(w:World):(Instr.index 196 (.agg #[f,d,a,b]) (.int .i64 2)).run Tryz.prog w=.ok a w:=by
 simp[Instr.index,run_underlying Tryz.underlying196,asIntOf,go_sem]
theorem Adg(f d b a:Value)(w:World):(Instr.index 196 (.agg #[f,d,b,a]) (.int .i64 3)).run Tryz.prog w=.ok a w:=by
 simp[Instr.index,run_underlying Tryz.underlying196,asIntOf,go_sem]
structure Jm(w:World):Prop where
 mx:Ia w
 er:Rt w
theorem dF(s:ByteArray)(w:World)(hs:s.size≤100000000)(hp:Jm w):
  Calls Tryz.prog 70 #[.string s] w fun e w'=>e=.returned (.tuple #[Bm ((D5 s).getD Az),.bool (D5 s).isSome])/\Fp [] w w':=by
 have HP:=a0z hp;have hS:=a0z (fun w=>oE 32 s w hs)
 have ak:∀(fn:Fn) (first cap:Array Value) (w:World),(Instr.makeFunc fn first cap).run Tryz.prog w=.ok (.func fn first cap) w:=fun _ _ _ _=>rfl
 clear hp
 by_cases h4:(Ih 32 s).length=4
 ·obtain⟨a,b,c,d,q⟩:=Adc h4;go_enter Tryz.func70,Tryz.ntmps70;go_wp2_with (fail);(with_reducible refine(hS.out _ (HP.out.mx.fp (Fp.alloc _ _) a0x)).mono ?_);rintro e C ⟨B,rfl,hB,g,f⟩;rw[q] at g ⊢;have A:Hid (Di C w.heap.size Az):=Di.fp (S:=[]) (Ai rfl _) f a0x;have y:=a0z ((Fp.alloc w _).trans f (by simp));have ac:=a0z g
  have r:B∉[w.heap.size]:=by rw[hB];simp
  have af:[a,b,c,d].length=4:=rfl
  have aa:Hid (c.size<=100000000):=by unfold Hid;have:=Ro (c:=32) (s:=s) (x:=c) (by rw[q];simp);omega
  clear f g hB h4;go_wp2_with (fail)
  obtain⟨w2,l⟩:∃w2,C.alloc (.cells #[.func (.func 122) #[] #[.pointer (some ⟨w.heap.size,0,none⟩)],.func (.func 124) #[] #[.pointer (some ⟨w.heap.size,0,none⟩)],.func (.func 125) #[] #[.pointer (some ⟨w.heap.size,0,none⟩)],.func (.func 127) #[] #[.pointer (some ⟨w.heap.size,0,none⟩)]] 196)=w2:=⟨_,rfl⟩
  rw[l]
  have k:Fp [] C w2:=by rw[<-l];exact Fp.alloc _ _
  have ae:=a0z (A.out.fp k a0x);have T:=a0z (ac.out.fp k a0x);have ad:=a0z (y.out.trans k (by simp));have p0:w2.cell? ⟨B,0,none⟩=some (.string a):=T.out.at 0 (by simp);clear k l;have aj:=Add;have ai:=Ade;have ah:=Adf;have ag:=Adg;refine wp_loop_rounds 5 ?_;rw[rounds_succ];go_wp2_with (fail);(with_reducible refine(Ac4 a _ _ _ ae.out).mono ?_);rintro e w3 ⟨rfl,h,f⟩;have Z:=a0z h;have R:=a0z (T.out.fp f r);have W:=a0z (ad.out.trans f (by simp));have p1:w3.cell? ⟨B,1,none⟩=some (.string b):=R.out.at 1 (by simp);clear p0 h f
  obtain⟨n1,p⟩:∃n1,Ku a=n1:=⟨_,rfl⟩
  rw[p];cases n1
  ·have i:Hid (D5 s=none):=by unfold Hid D5;rw[q];show I9 a b c d=none;unfold I9;rw[p,if_neg (by simp)]
   obtain⟨q0,q1,G,F,E,D,P,O,N,M,L,K⟩:=Z.out.facts0;go_wp2_with (fail);rw[i.out];refine bodyPost_ret (v:=.tuple #[Bm Az,.bool false]) (by simp[results,Tryz.results70,Bm,Az,go_sem, *]) rfl ⟨rfl,?_⟩
   repeat(first|(with_reducible refine Fp.drew' ?_)|(with_reducible refine Fp.setCell' ?_ (Or.inr (a0w _)) _)|(with_reducible refine Fp.alloc' ?_ _)|(with_reducible exact W.out))
  go_wp2_with (fail);rw[rounds_succ];go_wp2_with (fail);(with_reducible refine(Ac5 b _ _ _ Z.out).mono ?_);rintro e w4 ⟨rfl,h,f⟩;have Y:=a0z h;have Q:=a0z (R.out.fp f r);have t:=a0z (W.out.trans f (by simp));have p2:w4.cell? ⟨B,2,none⟩=some (.string c):=Q.out.at 2 (by simp);clear p1 h f
  obtain⟨n2,o⟩:∃n2,Ku b=n2:=⟨_,rfl⟩
  rw[o];cases n2
  ·have i:Hid (D5 s=none):=by unfold Hid D5;rw[q];show I9 a b c d=none;unfold I9;rw[o,if_neg (by simp)]
   obtain⟨q0,q1,G,F,E,D,P,O,N,M,L,K⟩:=Y.out.facts0;go_wp2_with (fail);rw[i.out];refine bodyPost_ret (v:=.tuple #[Bm Az,.bool false]) (by simp[results,Tryz.results70,Bm,Az,go_sem, *]) rfl ⟨rfl,?_⟩
   repeat(first|(with_reducible refine Fp.drew' ?_)|(with_reducible refine Fp.setCell' ?_ (Or.inr (a0w _)) _)|(with_reducible refine Fp.alloc' ?_ _)|(with_reducible exact t.out))
  go_wp2_with (fail);rw[rounds_succ];go_wp2_with (fail);(with_reducible refine(Ac8 c _ _ _ Y.out aa.out (HP.out.er.fp t.out a0x a0x)).mono ?_);rintro e w5 ⟨rfl,⟨u,j,h⟩,f⟩;have X:=a0z h;have ab:=a0z (Q.out.fp f r);have V:=a0z (t.out.trans f (by simp));have p3:w5.cell? ⟨B,3,none⟩=some (.string d):=ab.out.at 3 (by simp);clear p2 h f
  cases hn3:J7 c with
  |none=>
   have i:Hid (D5 s=none):=by unfold Hid D5;rw[q];show I9 a b c d=none;unfold I9;rw[hn3];split<;>rfl
   clear j;obtain⟨q0,q1,G,F,E,D,P,O,N,M,L,K⟩:=X.out.facts0;go_wp2_with (fail);rw[i.out];refine bodyPost_ret (v:=.tuple #[Bm Az,.bool false]) (by simp[results,Tryz.results70,Bm,Az,go_sem, *]) rfl ⟨rfl,?_⟩
   repeat(first|(with_reducible refine Fp.drew' ?_)|(with_reducible refine Fp.setCell' ?_ (Or.inr (a0w _)) _)|(with_reducible refine Fp.alloc' ?_ _)|(with_reducible exact V.out))
  |some u'=>
   obtain rfl:u'=u:=by
    rcases j with j|j
    ·rw[hn3] at j;cases j
    ·rw[hn3] at j;exact Option.some.inj j
   clear j;go_wp2_with (fail);rw[rounds_succ];go_wp2_with (fail);(with_reducible refine(Ada d _ _ _ X.out).mono ?_);rintro e w6 ⟨rfl,h,f⟩;have z:=a0z h;have U:=a0z (V.out.trans f (by simp));clear p3 h f
   obtain⟨n4,m⟩:∃n4,(Ii d||Qo d)=n4:=⟨_,rfl⟩
   rw[m];cases n4
   ·have i:Hid (D5 s=none):=by unfold Hid D5;rw[q];show I9 a b c d=none;unfold I9;rw[m,if_neg (by simp)]
    obtain⟨q0,q1,G,F,E,D,P,O,N,M,L,K⟩:=z.out.facts0;go_wp2_with (fail);rw[i.out];refine bodyPost_ret (v:=.tuple #[Bm Az,.bool false]) (by simp[results,Tryz.results70,Bm,Az,go_sem, *]) rfl ⟨rfl,?_⟩
    repeat(first|(with_reducible refine Fp.drew' ?_)|(with_reducible refine Fp.setCell' ?_ (Or.inr (a0w _)) _)|(with_reducible refine Fp.alloc' ?_ _)|(with_reducible exact U.out))
   go_wp2_with (fail);rw[rounds_succ]
   have i:Hid (D5 s=some ⟨a,b,u',0,Ii d,if Ii d=true then⟨#[]⟩ else Is d⟩):=by unfold Hid D5;rw[q];show I9 a b c d=_;unfold I9;rw[p,o,hn3,m,if_pos (by simp)];rfl
   obtain⟨vv,J⟩:∃vv,(if Ii d=true then Az.val else Is d)=vv:=⟨_,rfl⟩
   have I:(if Ii d=true then(⟨#[]⟩:ByteArray) else Is d)=vv:=J;rw[J] at z;rw[I] at i;obtain⟨q0,q1,G,F,E,D,P,O,N,M,L,K⟩:=z.out.facts0;go_wp2_with (fail);rw[i.out];refine bodyPost_ret (v:=.tuple #[Bm ⟨a,b,u',0,Ii d,vv⟩,.bool true]) (by simp[results,Tryz.results70,Bm,Az,go_sem, *]) rfl ⟨rfl,?_⟩
   repeat(first|(with_reducible refine Fp.drew' ?_)|(with_reducible refine Fp.setCell' ?_ (Or.inr (a0w _)) _)|(with_reducible refine Fp.alloc' ?_ _)|(with_reducible exact U.out))
 ·have hl:=Adb h4;rw[hl]
  obtain⟨n,hn⟩:∃n,(Ih 32 s).length=n:=⟨_,rfl⟩
  rw[hn] at hS h4
  have al:¬((n:Nat):Int)=4:=by omega
  go_enter Tryz.func70,Tryz.ntmps70;go_wp2_with (fail);(with_reducible refine(hS.out _ (HP.out.mx.fp (Fp.alloc _ _) a0x)).mono ?_);rintro e C ⟨B,rfl,hB,g,f⟩;have A:Hid (Di C w.heap.size Az):=Di.fp (S:=[]) (Ai rfl _) f a0x;have y:=a0z ((Fp.alloc w _).trans f (by simp));clear f g hB hn;obtain⟨q0,q1,G,F,E,D,P,O,N,M,L,K⟩:=A.out.facts;go_wp2_with (fail);refine bodyPost_ret (v:=.tuple #[Bm Az,.bool false]) (by simp[results,Tryz.results70,Bm,Az,go_sem, *]) rfl ⟨rfl,?_⟩
  repeat(first|(with_reducible refine Fp.drew' ?_)|(with_reducible refine Fp.setCell' ?_ (Or.inr (a0w _)) _)|(with_reducible refine Fp.alloc' ?_ _)|(with_reducible exact y.out))
end
section
open Go.RowKit Go.Lib
def Ja(t:ByteArray):Bool:=t.size==0||t.data.toList.head?==some 35
def Hi(i:Nat)(acc:List Aa):List ByteArray→List Aa × Nat × Nat
 |[]=>(acc,0,0)
 |t::r=>if Ja t=true then Hi (i+1) acc r else match D5 t with
  |none=>([],i+1,70)
  |some c=>Hi (i+1) (acc++[c]) r
def Et(s:ByteArray):List Aa × Nat × Nat:=if s.size>4000 then([],0,71) else Hi 0 [] (Ih 10 s)
theorem Adh(s:ByteArray):(Is s).size<=s.size:=by
 unfold Is;show(Lib.trimPrefix s.data.toList [61]).toArray.size<=_;rw[size_eq];simp only[List.size_toArray];unfold Lib.trimPrefix
 split<;>simp
theorem Adi{s:ByteArray}{u:Nat}(h:J7 s=some u):u<18446744073709551616:=by
 unfold J7 at h;split at h
 ·rename_i b a;have:=parseUintB_le a;split at h
  ·obtain rfl:=Option.some.inj h;omega
  ·cases h
 ·cases h
theorem oF{s:ByteArray}(i:s.size≤100000000){c:Aa}(h:D5 s=some c):B3 c:=by
 unfold D5 at h;split at h
 ·rename_i a b n d f;have m:=Ro (c:=32) (s:=s) (x:=a) (by rw[f];simp);have l:=Ro (c:=32) (s:=s) (x:=b) (by rw[f];simp);have k:=Ro (c:=32) (s:=s) (x:=d) (by rw[f];simp);have j:=Adh d;unfold I9 at h;split at h
  ·obtain⟨u,g,rfl⟩:=Option.map_eq_some_iff.1 h;refine⟨Adi g,by show 0<_;decide,?_,?_,?_⟩
   ·show a.size<=_;omega
   ·show b.size<=_;omega
   ·show ByteArray.size (if Ii d=true then⟨#[]⟩ else Is d)<=_;split
    ·exact Nat.zero_le _
    ·omega
  ·cases h
 ·cases h
theorem Yv{i:Nat}{a:List Aa}{t:ByteArray}{r:List ByteArray}(h:Ja t=true):Hi i a (t::r)=Hi (i+1) a r:=by
 conv=>lhs;unfold Hi
 rw[if_pos h]
theorem oG{i:Nat}{a:List Aa}{t:ByteArray}{r:List ByteArray}(h:Ja t=false)(b:D5 t=none):Hi i a (t::r)=([],i+1,70):=by
 conv=>lhs;unfold Hi
 rw[if_neg (by simp[h]),b]
theorem dG{i:Nat}{a:List Aa}{t:ByteArray}{r:List ByteArray}{c:Aa}(h:Ja t=false)(b:D5 t=some c):Hi i a (t::r)=Hi (i+1) (a++[c]) r:=by
 conv=>lhs;unfold Hi
 rw[if_neg (by simp[h]),b]
theorem oH{t:ByteArray}(h:t.size=0):Ja t=true:=by unfold Ja;rw[h];rfl
theorem Adj{t:ByteArray}(h:0<t.size):t.data.toList.head?=some t[0]:=by
 rw[List.head?_eq_getElem?];exact Lib.data_getElem? t 0 h
theorem Adk{t:ByteArray}(h:0<t.size):Ja t=(t[0]==35):=by
 unfold Ja;rw[Adj h,(beq_eq_false_iff_ne.2 (by omega):(t.size==0)=false),Bool.false_or];rfl
theorem dH{t:ByteArray}(h:0<t.size):Ja t=((t[0].toNat:Int)==35):=by
 rw[Adk h,Bool.eq_iff_iff,beq_iff_eq,beq_iff_eq];constructor
 ·intro e;rw[e];rfl
 ·intro e;exact UInt8.toNat_inj.1 (by have:(t[0].toNat:Int)=35:=e;show t[0].toNat=35;omega)
def Adl(w w':World)(e:Ending)(r:List Aa × Nat × Nat):Prop:=∃v,e=.returned (.tuple #[v,.int .i64 r.2.1,.int .i64 r.2.2])/\Ao w' w.heap.size v r.1
theorem Adm(s:ByteArray)(w:World)(hs:s.size≤100000000)(Y:Jm w):
  Calls Tryz.prog 47 #[.string s] w fun e w'=>Adl w w' e (Et s)/\Fp [] w w':=by
 have V:=a0z Y;have hS:=a0z (fun w=>oE 10 s w hs);clear Y
 by_cases h4:s.size>4000
 ·have E:Hid (Et s=([],0,71)):=if_pos h4;go_enter Tryz.func47,Tryz.ntmps47;go_wp2_with (fail);rw[E.out];refine bodyPost_ret (v:=.tuple #[.slice none 0 0,.int .i64 0,.int .i64 71]) (by simp[results,Tryz.results47,go_sem, *]) rfl ⟨⟨_,rfl,Ao.nil _ _⟩,?_⟩;exact Fp.refl _ _
 ·have E:Hid (Et s=Hi 0 [] (Ih 10 s)):=if_neg h4
  have ac:¬((s.size:Nat):Int)>4000:=by omega
  have D:=a0z (fun x=>Ro (c:=10) (s:=s) (x:=x))
  obtain⟨P,S⟩:∃P,Ih 10 s=P:=⟨_,rfl⟩
  have ab:P.length<=100000001:=by rw[<-S];have:=dB 10 s;omega
  rw[S] at hS E D;go_enter Tryz.func47,Tryz.ntmps47;go_wp2_with (fail);(with_reducible refine(hS.out _ V.out.mx).mono ?_);rintro e G ⟨B,rfl,hB,i,b⟩;have l:=a0z b;have T:=a0z i
  have F:Hid (Jm G):=⟨V.out.mx.fp b a0x,V.out.er.fp b a0x a0x⟩
  clear b i hB S;go_wp2_with (fail)
  go_loopg [2,15] P.length (fun g va vi wr=>∃k:Nat,g+k=P.length/\vi=.int .i64 k/\Fp [] G wr/\∃a:List Aa,Ao wr G.heap.size va a/\a.length<=k/\Hi 0 [] P=Hi k a (P.drop k))
  case atStart=>exact⟨0,rfl,rfl,Fp.refl _ _,[],Ao.nil _ _,Nat.zero_le _,rfl⟩
  case round=>
   obtain⟨k,hg,rfl,b,a,Z,aa,p⟩:=hrel;have m:=a0z b;have J:=a0z Z;have f:=a0z p;have U:=a0z (T.out.fp b a0x);clear b Z p
   by_cases O:k<P.length
   ·obtain⟨t,I⟩:∃t,P[k]=t:=⟨_,rfl⟩
    have q:=U.out.at k O;rw[I] at q
    have n:Hid (P.drop k=t::P.drop (k+1)):=by unfold Hid;rw[<-I];exact List.drop_eq_getElem_cons O
    have o:t.size<=100000000:=by have:=D.out t (by rw[<-I];exact List.getElem_mem O);omega
    clear I
    by_cases h0:t.size=0
    ·have Q:=lY h0;have d:Hid (Ja t=true):=oH h0;go_wp2_with (fail)
     go_roundg (gk-1)
     case measure=>omega
     case rel=>exact⟨k+1,by omega,by simp,m.out,a,J.out,by omega,by rw[f.out,n.out,Yv d.out]⟩
    ·have Q:=Rl (s:=t) (by omega)
     have L:0<t.size:=by omega
     obtain⟨sk,M⟩:∃sk,((t[0].toNat:Int)==35)=sk:=⟨_,rfl⟩
     have d:Hid (Ja t=sk):=(dH L).trans M;cases sk
     ·go_wp2_with (fail);(with_reducible refine(dF t _ o (Jm.mk (F.out.mx.fp m.out a0x) (F.out.er.fp m.out a0x a0x))).mono ?_);rintro e w2 ⟨rfl,b⟩;have j:=a0z (m.out.trans b (by simp));have W:=a0z (J.out.fp b (by simp));clear b
      cases hl:D5 t with
      |none=>
       have K:=a0z hl;clear hl;rw[show Bm ((Option.none:Option Aa).getD Az)=.agg #[.string ⟨#[]⟩,.string ⟨#[]⟩,.int .u64 0,.int .u64 0,.bool false,.string ⟨#[]⟩] from rfl,show(Option.none:Option Aa).isSome=false from rfl];go_wp2_with (fail);rw[E.out,f.out,n.out,oG d.out K.out];refine bodyPost_ret (v:=.tuple #[.slice none 0 0,.int .i64 ((k:Nat)+1:Nat),.int .i64 70]) (by simp[results,Tryz.results47,go_sem, *]) rfl ⟨⟨_,rfl,Ao.nil _ _⟩,?_⟩;exact l.out.trans (j.out.alloc' _) (by simp)
      |some c=>
       have K:=a0z hl;clear hl;have X:=a0z (oF o K.out);obtain⟨y,C,u,z,A,r⟩:=c;rw[show Bm ((Option.some (⟨y,C,u,z,A,r⟩:Aa)).getD Az)=.agg #[.string y,.string C,.int .u64 u,.int .u64 z,.bool A,.string r] from rfl,show(Option.some (⟨y,C,u,z,A,r⟩:Aa)).isSome=true from rfl];go_wp2_with (at_builtin;(refine Rr rfl _ _ rfl G.heap.size _ a rfl ((W.out.fp (Fp.alloc _ _) (by simp)).fp (Fp.alloc _ _) (by simp)) _ _ _ [⟨y,C,u,z,A,r⟩] rfl (Di.one (Ai (by simp) _) X.out) (fun h=>by cases h) (by simp;omega) (by have:=j.out.size;simp;omega) ?_);intro v3 w3 N R)
       go_roundg (gk-1)
       case measure=>omega
       case rel=>exact⟨k+1,by omega,by simp,((j.out.alloc' _).alloc' _).belowTrans R,a++[⟨y,C,u,z,A,r⟩],N,by simp;omega,by rw[f.out,n.out,dG d.out K.out]⟩
     ·go_wp2_with (fail)
      go_roundg (gk-1)
      case measure=>omega
      case rel=>exact⟨k+1,by omega,by simp,m.out,a,J.out,by omega,by rw[f.out,n.out,Yv d.out]⟩
   ·have n:Hid (P.drop k=[]):=List.drop_eq_nil_of_le (by omega);go_wp2_with (fail);rw[E.out,f.out,n.out];refine bodyPost_ret (v:=.tuple #[_,.int .i64 0,.int .i64 0]) (by simp[results,Tryz.results47,go_sem, *]) rfl ⟨⟨_,rfl,J.out.mono l.out.size⟩,?_⟩;exact l.out.trans m.out (by simp)
end
section
open Go.Lib
def O5(a b:Aa):Bool:=(a.row.toList==b.row.toList)&&((a.col.toList==b.col.toList)&&(((a.ts:Int)==(b.ts:Int))&&(((a.seq:Int)==(b.seq:Int))&&((a.del==b.del)&&(a.val.toList==b.val.toList)))))
theorem toList_inj{a b:ByteArray}(h:a.toList=b.toList):a=b:=by
 rw[ByteArray.toList_eq,ByteArray.toList_eq] at h;obtain⟨⟨a⟩⟩:=a;obtain⟨⟨b⟩⟩:=b
 simpa using h
theorem Yw(a b:Aa):O5 a b=true↔a=b:=by
 unfold O5;constructor
 ·intro h;simp only[Bool.and_eq_true,beq_iff_eq] at h;obtain⟨l,k,j,i,g,f⟩:=h;obtain⟨r,c,t,s,d,v⟩:=a;obtain⟨p,c',n,o,q,m⟩:=b;simp only at l k j i g f;rw[toList_inj l,toList_inj k,toList_inj f,g,Int.ofNat_inj.1 j,Int.ofNat_inj.1 i]
 ·intro h;subst h;simp
theorem oI(a b:Aa)(h:O5 a b=false):
  (a.row.toList==b.row.toList)=false∨(a.row=b.row/\((a.col.toList==b.col.toList)=false∨(a.col=b.col/\((a.ts==b.ts)=false∨(a.ts=b.ts/\((a.seq==b.seq)=false∨(a.seq=b.seq/\((a.del==b.del)=false∨(a.del=b.del/\(a.val.toList==b.val.toList)=false))))))))):=by
 by_cases j:a.row.toList=b.row.toList
 ·refine Or.inr ⟨toList_inj j,?_⟩
  by_cases i:a.col.toList=b.col.toList
  ·refine Or.inr ⟨toList_inj i,?_⟩
   by_cases g:a.ts=b.ts
   ·refine Or.inr ⟨g,?_⟩
    by_cases f:a.seq=b.seq
    ·refine Or.inr ⟨f,?_⟩
     by_cases d:a.del=b.del
     ·refine Or.inr ⟨d,?_⟩;rw[beq_eq_false_iff_ne];intro k;unfold O5 at h;rw[j,i,g,f,d,k] at h;simp at h
     ·exact Or.inl (beq_eq_false_iff_ne.2 d)
    ·exact Or.inl (beq_eq_false_iff_ne.2 f)
   ·exact Or.inl (beq_eq_false_iff_ne.2 g)
  ·exact Or.inl (beq_eq_false_iff_ne.2 i)
 ·exact Or.inl (beq_eq_false_iff_ne.2 j)
end
section
open Go.RowKit Go.Lib
def N6(c:Aa):ByteArray:=(if c.del=true then⟨#[45]⟩ else⟨#[61]⟩)++c.val
def O6(n:Nat):ByteArray:=⟨(decDigits n).toArray⟩
def E1(c:Aa):ByteArray:=c.row++⟨#[32]⟩++c.col++⟨#[32]⟩++O6 c.ts++⟨#[32]⟩++N6 c
def Hq(c:Aa):Bool:=match D5 (E1 c) with
 |none=>false
 |some x=>O5 x c&&!(c.row.data.toList.head?==some 35)
def Ll(acc:ByteArray):List Aa->ByteArray × Nat
 |[]=>(acc,0)
 |c::r=>if Hq c=true then Ll (acc++(E1 c++⟨#[10]⟩)) r else(⟨#[]⟩,1)
def Wb(l:List Aa):ByteArray × Nat:=Ll ⟨#[]⟩ l
theorem dI{a:ByteArray}{c:Aa}{r:List Aa}(h:Hq c=true):Ll a (c::r)=Ll (a++(E1 c++⟨#[10]⟩)) r:=by
 conv=>lhs;unfold Ll
 rw[if_pos h]
theorem It{a:ByteArray}{c:Aa}{r:List Aa}(h:Hq c=false):Ll a (c::r)=(⟨#[]⟩,1):=by
 conv=>lhs;unfold Ll
 rw[if_neg (by simp[h])]
theorem Adn(c:Aa):(N6 c).size=1+c.val.size:=by
 unfold N6;rw[a0v]
 split<;>rfl
theorem Ado(n:Nat)(h:n<18446744073709551616):(O6 n).size≤20:=by
 show(decDigits n).toArray.size<=20;rw[List.size_toArray,decDigits_length]
 by_cases a:n=0
 ·subst a;decide+kernel
 ·have:=numDigits_eq n (by omega) h
  split at this<;>omega
theorem oJ(c:Aa)(h:c.ts<18446744073709551616):(E1 c).size<=c.row.size+c.col.size+c.val.size+24:=by
 have b:=Ado c.ts h;have a:=Adn c;have e:(⟨#[32]⟩:ByteArray).size=1:=rfl;unfold E1;simp only[a0v];omega
theorem oK(c:Aa):(⟨(join ([c.row,c.col,O6 c.ts,N6 c].map (·.data.toList)) [32]).toArray⟩:ByteArray)=E1 c:=by
 apply Qm;unfold E1;simp only[Rq,List.map_cons,List.map_nil,join,List.intercalate];simp
end
section
open Go.Lib
def Jn:List ByteArray->ByteArray
 |[]=>⟨#[]⟩
 |t::r=>t++⟨#[10]⟩++Jn r
end
section
open Go.RowKit Go.Lib
end
section
open Go.RowKit Go.Lib
def Adp(b:UInt8):Bool:=decide (48<=b.toNat/\b.toNat<=57)
theorem oL(M:Nat):∀(l:List UInt8) (d:Nat),(∃b∈l,Adp b=false)→∀n,parseUintM M d l≠.ok n
 |[],_,h,_=>by obtain⟨b,a,_⟩:=h;simp at a
 |c::r,d,h,n=>by
  unfold parseUintM
  by_cases f:48<=c.toNat/\c.toNat<=57
  ·rw[if_pos f];split
   ·intro e;cases e
   ·split
    ·intro e;cases e
    ·refine oL M r _ ?_ n;obtain⟨b,a,g⟩:=h
     rcases List.mem_cons.1 a with rfl|a
     ·exact absurd f (of_decide_eq_false g)
     ·exact⟨b,a,g⟩
  ·rw[if_neg f];intro e;cases e
end
end Go.Proofs.YtkagolpnaicdoaaGreatDoor
