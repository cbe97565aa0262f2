/-
 strings.Builder: what its methods do, at a builder in a block of any type that begins by one. The reference of layer 1: name, Key, part. The reference of layer 1: Key, part. The reference of layer 1: Decode. The reference of layer 1: FromKey.
-/
import Derived.Test.YtkagolpnaicdoaaGreatDoorPCellShown
set_option maxRecDepth 100000
set_option maxHeartbeats 8000000
open List renaming eq_nil_of_length_eq_zero->a0z
namespace Go.Proofs.YtkagolpnaicdoaaGreatDoor
section
open Go.RowKit
def Dp(T:TypeId)(B b:Nat)(l:List UInt8)(w:World):Prop:=Lib.IsBuilder T 5 B b (Lib.byteCells l) w
theorem Dp.fresh(T:TypeId)(w:World):Dp T w.heap.size w.heap.size [] (w.alloc (.cells #[.pointer none,.slice none 0 0] T)):=Lib.fresh_isBuilder T 5 w
theorem Dp.at{T:TypeId}{B b:Nat}{l:List UInt8}{w:World}(h:Dp T B b l w):∃p,Lib.BuilderAt T 5 B b p (Lib.byteCells l) w:=by
 rcases h with h|h
 ·exact⟨_,h⟩
 ·exact⟨_,h⟩
theorem BuilderAt.below{T:TypeId}{B b:Nat}{p:Value}{bs:List Value}{w w':World}{S:List Nat}(h:Lib.BuilderAt T 5 B b p bs w)(o:Fp S w w')(u:∀i∈S,i<B):Lib.BuilderAt T 5 B b p bs w':=by
 obtain⟨s,v,q,a,d⟩:=h
 have l:∀k,B<=k->k∉S:=fun k z x=>by have:=u k x;omega
 refine⟨s,v,(o.block b (Ac q) (l b s)).trans q,?_,d⟩;obtain⟨y,f⟩:=a;refine⟨y,?_⟩
 rcases f with f|⟨g,cap,j,t,n,m,r⟩
 ·exact Or.inl f
 ·exact Or.inr ⟨g,cap,j,t,n,(o.block g (Ac m) (l g n)).trans m,r⟩
theorem Dp.fp{T:TypeId}{B b:Nat}{l:List UInt8}{w w':World}{S:List Nat}(h:Dp T B b l w)(d:Fp S w w')(a:∀i∈S,i<B):Dp T B b l w':=by
 rcases h with h|h
 ·exact Or.inl (BuilderAt.below h d a)
 ·exact Or.inr (BuilderAt.below h d a)
theorem Dp.le{T:TypeId}{B b:Nat}{l:List UInt8}{w:World}(h:Dp T B b l w):B<=w.heap.size:=by
 obtain⟨p,h⟩:=h.at;have:=h.lt;have:=h.1;omega
theorem gA{w:World}{B:Nat}{e:TypeId}{v:Value}{n:Nat}{xs:List Value}(h:w.ownsRow B e 1 v n xs):∀g,v.ownBlock=some g->∃c d,w.heap[g]?=some (.cells c e d):=by
 intro g a
 rcases h.2 with⟨rfl,_⟩|⟨i,cap,f,rfl,_,b,_⟩
 ·simp[Value.ownBlock] at a
 ·simp only[Value.ownBlock,Option.some.injEq] at a;subst a;exact⟨_,_,b⟩
theorem sizeBuilder:∃j,Tryz.prog.info? 131=some j/\j.size=2:=by
 have h:(Tryz.prog.info? 131).map (·.size)=some 2:=by kernel_rfl
 exact Option.map_eq_some_iff.1 h
theorem Tryz.infoB:(Tryz.prog.info? 5).map (fun i=>(i.zero,i.size,i.bytes))=some (some (.int .u8 0),1,1):=by kernel_rfl
theorem Tryz.cellsB:Tryz.prog.cellsOf 5=1:=by kernel_rfl
structure K5(B b:Nat)(w w':World):Prop where
 below:Below B w w'
 others:Lib.OthersKept 5 (some b) w w'
theorem K5.trans{B b:Nat}{a c d:World}(h:K5 B b a c)(k:K5 B b c d):K5 B b a d:=⟨h.below.trans k.below,h.others.trans k.others⟩
theorem Fp.bfp{a w w':World}{B b:Nat}(h:Fp [] a w)(k:K5 B b w w')(g:a.heap.size<=B):Fp [] a w':=
 ⟨k.below.os.trans h.os,k.below.tape.trans h.tape,k.below.output.trans h.output,Nat.le_trans h.size k.below.size,fun i d f=>(k.below.block i (Nat.lt_of_lt_of_le d g)).trans (h.block i d f)⟩
theorem tX{T:TypeId}(h:liesAt Tryz.prog Tryz.prog.depth T (2/Tryz.prog.cellsOf T) 0 131 1=true)(b:Nat)(w:World)(i:w.cell? ⟨b,0,none⟩=some (.pointer none))(a:w.shape? b=some (T,2))(g:w.frozen? ⟨b,0,none⟩=false):
  Calls Tryz.prog 130 #[.pointer (some ⟨b,0,none⟩)] w fun e w'=>e=.returned (.tuple #[])/\w'=w.setCell ⟨b,0,none⟩ (.pointer (some ⟨b,0,none⟩)):=by
 obtain⟨j,f,d⟩:=sizeBuilder;go_enter Tryz.func130,Tryz.ntmps130;go_wp2;rw[Lib.run_to_unsafe w ⟨b,0,none⟩ Tryz.underlying129 Tryz.underlying267 f (by rw[d];decide) a (Nat.zero_lt_succ 1)];simp only[Result.andThen];rw[Oper.upon_value];go_wp2;rw[run_callFunc_extern Tryz.func203 (by kernel_rfl) (by kernel_rfl) (by kernel_rfl) (e:=Extern.AbiNoEscape.same) (by kernel_rfl)];rw[Lib.run_noEscape];simp only[Result.andThen];rw[Oper.upon_value];go_wp2;rw[Lib.run_from_unsafe w ⟨b,0,none⟩ Tryz.underlying267 Tryz.underlying129 f a h];simp only[Result.andThen];rw[Oper.upon_value];go_wp2;go_end0;exact⟨rfl,rfl⟩
theorem tY(b:Nat)(w:World)(d:w.cell? ⟨b,0,none⟩=some (.pointer (some ⟨b,0,none⟩))):
  Calls Tryz.prog 130 #[.pointer (some ⟨b,0,none⟩)] w fun e w'=>e=.returned (.tuple #[])/\w'=w:=by
 obtain⟨j,a,_⟩:=sizeBuilder;go_enter Tryz.func130,Tryz.ntmps130;go_wp2;rw[Lib.run_neq_ptr_same w _ Tryz.underlying129 a];go_wp2;go_end0;exact⟨rfl,rfl⟩
theorem gB{T:TypeId}(a:liesAt Tryz.prog Tryz.prog.depth T (2/Tryz.prog.cellsOf T) 0 131 1=true)(B b:Nat)(l:List UInt8)(w:World)(h:Dp T B b l w):
  Calls Tryz.prog 130 #[.pointer (some ⟨b,0,none⟩)] w fun e w'=>e=.returned (.tuple #[])/\Lib.BuilderAt T 5 B b (.pointer (some ⟨b,0,none⟩)) (Lib.byteCells l) w'/\K5 B b w w':=by
 rcases h with h|h
 ·refine(tX a b w h.cell0 h.shape h.frozen0).mono ?_;rintro e w' ⟨rfl,rfl⟩;exact⟨rfl,h.used _,(Below.refl B w).setCell (p:=⟨b,0,none⟩) h.1 _,(Lib.OthersKept.refl _ _ w).setCell ⟨b,0,none⟩ rfl _⟩
 ·refine(tY b w h.cell0).mono ?_;rintro e w' ⟨rfl,rfl⟩;exact⟨rfl,h,Below.refl B _,Lib.OthersKept.refl _ _ _⟩
theorem Su{T:TypeId}(K:liesAt Tryz.prog Tryz.prog.depth T (2/Tryz.prog.cellsOf T) 0 131 1=true)(y:T≠5)(B b:Nat)(l:List UInt8)(s:ByteArray)(w:World)(h:Dp T B b l w)(A:l.length+s.size≤1000000000):
  Calls Tryz.prog 71 #[.pointer (some ⟨b,0,none⟩),.string s] w fun e w'=>e=.returned (.tuple #[.int .i64 s.size,.nilIface])/\Dp T B b (l++s.data.toList) w'/\K5 B b w w':=by
 obtain⟨F,I,r,q,o⟩:=info_parts Tryz.infoB;have L:=h.le;go_enter Tryz.func71,Tryz.ntmps71;go_wp2_with (fail);(with_reducible refine(gB K B b l _ h).mono ?_);rintro e n ⟨rfl,M,m⟩;obtain⟨C,v,i,f,u⟩:=M
 have S:n.cell? ⟨b,0,none⟩=some (.pointer (some ⟨b,0,none⟩)):=by rw[Lib.cell_of_heap i];rfl
 have R:n.cell? ⟨b,1,none⟩=some v:=by rw[Lib.cell_of_heap i];rfl
 have J:=Lib.byteCells_length l;go_wp2_with (at_builtin;refine Lib.wpList_append_own_string _ rfl _ _ 113 9 rfl B 5 F Tryz.underlying113 Tryz.underlying9 I r q o _ _ _ rfl f s rfl ?c3 ?c4 ?c5 ?_)
 case c3=>unfold maxLen;omega
 case c4=>omega
 case c5=>have:=m.below.size;omega
 intro E w2 d a _;have x:b<n.heap.size:=Ac i
 have j:w2.heap[b]?=some (.cells #[.pointer (some ⟨b,0,none⟩),v] T (0,0)):=by
  rw[a.block b x (fun e=>u e.symm)];exact i
 have Q:w2.cell? ⟨b,0,none⟩=some (.pointer (some ⟨b,0,none⟩)):=by rw[Lib.cell_of_heap j];rfl
 have P:w2.cell? ⟨b,1,none⟩=some v:=by rw[Lib.cell_of_heap j];rfl
 have O:w2.frozen? ⟨b,1,none⟩=false:=Lib.frozen_of_heap j 1
 obtain⟨D,z,cap,rfl⟩:∃D z cap,E=.slice D z cap:=by
  rcases d.2 with⟨t,_⟩|⟨g,cap,N,t,_⟩
  ·exact⟨_,_,_,t⟩
  ·exact⟨_,_,_,t⟩
 go_wp2;go_ret2;refine⟨rfl,?_,?_,(m.others.grown a (gA f)).setCell ⟨b,1,none⟩ rfl _⟩
 ·right;exact Lib.BuilderAt.put (T:=T) (e:=5) C j (bs':=Lib.byteCells (l++s.data.toList)) (by rw[Lib.byteCells_append,<-Lib.strCells_eq,List.length_append,Lib.strCells_length,Lib.byteCells_length];exact d) y
 ·exact(m.below.grown a (by have:=m.below.size;omega) (fun k G=>(f.lt k G).1)).setCell (p:=⟨b,1,none⟩) C _
theorem gC{T:TypeId}(O:liesAt Tryz.prog Tryz.prog.depth T (2/Tryz.prog.cellsOf T) 0 131 1=true)(A:T≠5)(B b:Nat)(l:List UInt8)(c:UInt8)(w:World)(h:Dp T B b l w)(E:l.length+1≤1000000000):
  Calls Tryz.prog 151 #[.pointer (some ⟨b,0,none⟩),.int .u8 c.toNat] w fun e w'=>e=.returned .nilIface/\Dp T B b (l++[c]) w'/\K5 B b w w':=by
 obtain⟨K,M,t,s,r⟩:=info_parts Tryz.infoB;have P:=h.le;go_enter Tryz.func151,Tryz.ntmps151;go_wp2_with (fail);(with_reducible refine(gB O B b l _ h).mono ?_);rintro e o ⟨rfl,Q,i⟩;obtain⟨F,v,m,f,y⟩:=Q
 have W:o.cell? ⟨b,0,none⟩=some (.pointer (some ⟨b,0,none⟩)):=by rw[Lib.cell_of_heap m];rfl
 have G:o.cell? ⟨b,1,none⟩=some v:=by rw[Lib.cell_of_heap m];rfl
 have N:=Lib.byteCells_length l;go_wp2_with (at_builtin;refine wpList_append_own _ rfl _ _ 113 rfl B 5 K (.int .u8 0) 1 1 Tryz.underlying113 M t s r rfl (by decide) _ _ _ rfl (f.alloc _) ⟨o.heap.size,0,none⟩ 1 1 [.int .u8 c.toNat] rfl rfl ?G ?c2 ?c3 ?c4 ?c5 ?_)
 case G=>
  intro j u q
  match j,q with
  |0,q=>simp at q;subst q;simp[Addr.add]
 case c2=>intro u D;simp at D;subst D;rfl
 case c3=>unfold maxLen;omega
 case c4=>omega
 case c5=>have:=i.below.size;simp;omega
 intro J w2 d a _;have z:b<o.heap.size:=Ac m
 have n:w2.heap[b]?=some (.cells #[.pointer (some ⟨b,0,none⟩),v] T (0,0)):=by
  rw[a.block b (by simp;omega) (fun e=>y e.symm),Lib.alloc_old o _ b z];exact m
 have V:w2.cell? ⟨b,0,none⟩=some (.pointer (some ⟨b,0,none⟩)):=by rw[Lib.cell_of_heap n];rfl
 have U:w2.cell? ⟨b,1,none⟩=some v:=by rw[Lib.cell_of_heap n];rfl
 have S:w2.frozen? ⟨b,1,none⟩=false:=Lib.frozen_of_heap n 1
 obtain⟨I,C,cap,rfl⟩:∃I C cap,J=.slice I C cap:=by
  rcases d.2 with⟨x,_⟩|⟨g,cap,R,x,_⟩
  ·exact⟨_,_,_,x⟩
  ·exact⟨_,_,_,x⟩
 go_wp2;go_ret;refine⟨rfl,?_,?_,((i.others.alloc _).grown a (gA (f.alloc _))).setCell ⟨b,1,none⟩ rfl _⟩
 ·right;exact Lib.BuilderAt.put (T:=T) (e:=5) F n (bs':=Lib.byteCells (l++[c])) (by rw[Lib.byteCells_append,List.length_append,Lib.byteCells_length];simpa [Lib.byteCells] using d) A
 ·exact((i.below.alloc (by have:=i.below.size;omega) _).grown a (by have:=i.below.size;simp;omega) (fun k L=>(f.lt k L).1)).setCell (p:=⟨b,1,none⟩) F _
theorem Xk(p:Option Addr):∀W:World,(Builtin.unsafeString_ #[197,3] 9 #[.pointer p,.int .i64 0]).run Tryz.prog W=.ok (.string ⟨#[]⟩) W:=fun W=>Lib.run_unsafeString_none W _ _ _ p
theorem aD{T:TypeId}(B b:Nat)(l:List UInt8)(w:World)(h:Dp T B b l w):
  Calls Tryz.prog 72 #[.pointer (some ⟨b,0,none⟩)] w fun e w'=>e=.returned (.string ⟨l.toArray⟩)/\Below B w w':=by
 obtain⟨p,K,v,a,d,C⟩:=h.at;have u:=h.le;rw[Lib.byteCells_length] at d;have q:=Ac a
 rcases d.2 with⟨rfl,G⟩|⟨g,cap,f,rfl,t,z,D,s,F,o⟩
 ·have:l=[]:=a0z G;subst this;have n:=Xk
  have y:w.drew.cell? ⟨b,1,none⟩=some (.slice none 0 0):=by rw[Lib.cell_of_heap (w:=w.drew) a];rfl
  have m:(Builtin.unsafeSliceData_ #[113] 197 #[.slice none 0 0]).run Tryz.prog w.drew=.ok (.pointer none) w.drew:=rfl;go_enter Tryz.func72,Tryz.ntmps72;go_wp2
  go_region
  all_goals(go_wp2;go_ret;exact⟨rfl,Below.drew (Below.refl B w)⟩)
 ·by_cases r:l=[]
  ·subst r;have n:=Xk
   by_cases k:cap=0
   ·subst k
    have J:w.cell? ⟨b,1,none⟩=some (.slice (some ⟨g,0,none⟩) 0 0):=by rw[Lib.cell_of_heap a];rfl
    have y:w.drew.cell? ⟨b,1,none⟩=some (.slice (some ⟨g,0,none⟩) 0 0):=J
    have m:(Builtin.unsafeSliceData_ #[113] 197 #[.slice (some ⟨g,0,none⟩) 0 0]).run Tryz.prog w.drew=.ok (.pointer (some ⟨w.drew.heap.size,0,none⟩)) (w.drew.alloc (.view ⟨g,0,none⟩ 5)):=
     Lib.run_unsafeSliceData_zero w.drew _ _ 5 Tryz.underlying197 ⟨g,0,none⟩ 0 (5,f.size) (by have i:w.drew.heap[g]?=some (.cells f 5 (0,0)):=z;simp[World.shape?,i])
    have I:(w.drew.alloc (.view ⟨g,0,none⟩ 5)).cell? ⟨b,1,none⟩=some (.slice (some ⟨g,0,none⟩) 0 0):=by
     rw[Lib.cell_of_heap ((Lib.alloc_old w.drew _ b q).trans a)];rfl
    have L:(w.alloc (.view ⟨g,0,none⟩ 5)).drew.cell? ⟨b,1,none⟩=some (.slice (some ⟨g,0,none⟩) 0 0):=I;go_enter Tryz.func72,Tryz.ntmps72;go_wp2
    go_region
    all_goals(go_wp2;go_ret;exact⟨rfl,(Below.drew (Below.refl B w)).alloc u _⟩)
   ·have y:w.drew.cell? ⟨b,1,none⟩=some (.slice (some ⟨g,0,none⟩) 0 cap):=by rw[Lib.cell_of_heap (w:=w.drew) a];rfl
    have m:(Builtin.unsafeSliceData_ #[113] 197 #[.slice (some ⟨g,0,none⟩) 0 cap]).run Tryz.prog w.drew=.ok (.pointer (some ⟨g,0,none⟩)) w.drew:=
     Lib.run_unsafeSliceData_row _ _ _ _ _ _ k
    clear k;go_enter Tryz.func72,Tryz.ntmps72;go_wp2
    go_region
    all_goals(go_wp2;go_ret;exact⟨rfl,Below.drew (Below.refl B w)⟩)
  ·have E:l.length≠0:=fun e=>r (a0z e)
   have y:w.drew.cell? ⟨b,1,none⟩=some (.slice (some ⟨g,0,none⟩) l.length cap):=by rw[Lib.cell_of_heap (w:=w.drew) a];rfl
   have m:(Builtin.unsafeSliceData_ #[113] 197 #[.slice (some ⟨g,0,none⟩) l.length cap]).run Tryz.prog w.drew=.ok (.pointer (some ⟨g,0,none⟩)) w.drew:=
    Lib.run_unsafeSliceData_row _ _ _ _ _ _ (by omega)
   have n:(Builtin.unsafeString_ #[197,3] 9 #[.pointer (some ⟨g,0,none⟩),.int .i64 l.length]).run Tryz.prog w.drew=.ok (.string ⟨l.toArray⟩) (w.drew.freeze ⟨g,0,none⟩ l.length):=by
    refine Lib.run_unsafeString_row w.drew 197 3 9 5 Tryz.underlying197 Tryz.cellsB g f.size (by have i:w.drew.heap[g]?=some (.cells f 5 (0,0)):=z;simp[World.shape?,i]) l r (by omega) (by unfold maxLen at s;omega) ?_;intro j x A;exact d.cells (g:=g) rfl j (.int .u8 x.toNat) (by simp[Lib.byteCells,A])
   go_enter Tryz.func72,Tryz.ntmps72;go_wp2
   go_region
   all_goals(go_wp2;go_ret;exact⟨rfl,Lib.below_freeze (Below.drew (Below.refl B w)) (p:=⟨g,0,none⟩) t _⟩)
end
section
section
open Go.RowKit
theorem tZ(a b:List UInt8):Cj (a++b)=Cj a++Cj b:=by
 induction a with
 |nil=>rfl
 |cons x a ih=>
  by_cases h:x=0
  ·subst h;rw[List.cons_append,Lt,Lt,ih];rfl
  ·rw[List.cons_append,Lu h,Lu h,ih];rfl
end
section
open Go.RowKit
end
section
open Go.RowKit
def zr:Aa × ByteArray × Int->Prop:=fun _=>True
end
section
open Go.RowKit
theorem Xl{a b:ByteArray}(h:a.toList=b.toList):a=b:=by
 rw[ByteArray.toList_eq,ByteArray.toList_eq] at h;rw[<-Lib.mk_data a,<-Lib.mk_data b,h]
def Fo(row col:ByteArray)(ts seq:Nat):Aa:=⟨row,col,ts,seq,false,⟨#[]⟩⟩
def Sv(s:ByteArray)(c:Aa):Aa × Int:=if Oj c=s then(c,0) else(Az,1)
end
end
end Go.Proofs.YtkagolpnaicdoaaGreatDoor
