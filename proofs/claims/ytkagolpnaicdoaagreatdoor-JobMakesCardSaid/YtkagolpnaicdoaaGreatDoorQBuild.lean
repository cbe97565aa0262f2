/- Lemmas. -/
import Derived.Test.YtkagolpnaicdoaaGreatDoorQCellA
set_option maxRecDepth 100000
set_option maxHeartbeats 8000000
open Go.Lib renaming hid->X
open List renaming length_append->Y,eq_nil_of_length_eq_zero->a0z,length_cons->a0x,length_nil->a0w
open UInt8 renaming ofNat->Z
namespace Go.Proofs.YtkagolpnaicdoaaGreatDoor
section
open Go.RowKit
def D5(T:TypeId)(B b:Nat)(l:List UInt8)(w:World):Prop:=Lib.IsBuilder T 5 B b (Lib.byteCells l) w
theorem D5.fresh(T:TypeId)(w:World):D5 T w.heap.size w.heap.size [] (w.alloc (.cells #[.pointer none,.slice none 0 0] T)):=Lib.fresh_isBuilder T 5 w
theorem D5.at{T:TypeId}{B b:Nat}{l:List UInt8}{w:World}(h:D5 T B b l w):∃p,Lib.BuilderAt T 5 B b p (Lib.byteCells l) w:=by
 rcases h with h|h
 .exact⟨_,h⟩
 .exact⟨_,h⟩
theorem BuilderAt.below{T:TypeId}{B b:Nat}{p:Value}{u:List Value}{w w':World}{S:List Nat}(h:Lib.BuilderAt T 5 B b p u w)(q:Fp S w w')(y:∀i∈S,i<B):Lib.BuilderAt T 5 B b p u w':=by
 obtain⟨t,v,s,a,c⟩:=h
 have l:∀k,B<=k->k∉S:=fun k C z=>by have:=y k z;omega
 refine⟨t,v,(q.block b (Ae s) (l b t)).trans s,?_,c⟩;obtain⟨A,d⟩:=a;refine⟨A,?_⟩;rcases d with d|⟨g,cap,j,x,n,m,r⟩
 .exact Or.inl d
 .exact Or.inr ⟨g,cap,j,x,n,(q.block g (Ae m) (l g n)).trans m,r⟩
theorem D5.fp{T:TypeId}{B b:Nat}{l:List UInt8}{w w':World}{S:List Nat}(h:D5 T B b l w)(c:Fp S w w')(a:∀i∈S,i<B:=by simp):D5 T B b l w':=by
 rcases h with h|h
 .exact Or.inl (BuilderAt.below h c a)
 .exact Or.inr (BuilderAt.below h c a)
theorem D5.le{T:TypeId}{B b:Nat}{l:List UInt8}{w:World}(h:D5 T B b l w):B<=w.heap.size:=by
 obtain⟨p,h⟩:=h.at;have:=h.lt;have:=h.1;omega
theorem fX{w:World}{B:Nat}{e:TypeId}{v:Value}{n:Nat}{xs:List Value}(h:w.ownsRow B e 1 v n xs):∀g,v.ownBlock=some g->∃c d,w.heap[g]?=some (.cells c e d):=by
 intro g a;rcases h.2 with⟨rfl,_⟩|⟨j,cap,i,rfl,_,b,_⟩
 .simp[Value.ownBlock] at a
 .simp only[Value.ownBlock,Option.some.injEq] at a;subst a;exact⟨_,_,b⟩
theorem sizeBuilder:∃j,Tryz.prog.info? 131=some j/\j.size=2:=by
 have h:(Tryz.prog.info? 131).map (·.size)=some 2:=by kernel_rfl
 exact Option.map_eq_some_iff.1 h
theorem Tryz.infoB:(Tryz.prog.info? 5).map (fun i=>(i.zero,i.size,i.bytes))=some (some (.int .u8 0),1,1):=by kernel_rfl
theorem Tryz.cellsB:Tryz.prog.cellsOf 5=1:=by kernel_rfl
structure Lp(B b:Nat)(w w':World):Prop where
 below:Below B w w'
 others:Lib.OthersKept 5 (some b) w w'
theorem Lp.trans{B b:Nat}{a c d:World}(h:Lp B b a c)(k:Lp B b c d):Lp B b a d:=⟨h.below.trans k.below,h.others.trans k.others⟩
theorem Fp.bfp{a w w':World}{B b:Nat}(h:Fp [] a w)(k:Lp B b w w')(g:a.heap.size<=B):Fp [] a w':=
 ⟨k.below.os.trans h.os,k.below.tape.trans h.tape,k.below.output.trans h.output,Nat.le_trans h.size k.below.size,fun i c d=>(k.below.block i (Nat.lt_of_lt_of_le c g)).trans (h.block i c d)⟩
theorem sV{T:TypeId}(h:liesAt Tryz.prog Tryz.prog.depth T (2/Tryz.prog.cellsOf T) 0 131 1=true)(b:Nat)(w:World)(i:w.cell? ⟨b,0,none⟩=some (.pointer none))(a:w.shape? b=some (T,2))(g:w.frozen? ⟨b,0,none⟩=false):
  Calls Tryz.prog 130 #[.pointer (some ⟨b,0,none⟩)] w fun e w'=>e=.returned (.tuple #[])/\w'=w.setCell ⟨b,0,none⟩ (.pointer (some ⟨b,0,none⟩)):=by
 obtain⟨j,d,c⟩:=sizeBuilder;go_in;go_wp2;rw[Lib.run_to_unsafe w ⟨b,0,none⟩ Tryz.underlying129 Tryz.underlying267 d (by rw[c];decide) a (Nat.zero_lt_succ 1)];simp only[Result.andThen];rw[Oper.upon_value];go_wp2;rw[run_callFunc_extern Tryz.func203 (by kernel_rfl) (by kernel_rfl) (by kernel_rfl) (e:=Extern.AbiNoEscape.same) (by kernel_rfl)];rw[Lib.run_noEscape];simp only[Result.andThen];rw[Oper.upon_value];go_wp2;rw[Lib.run_from_unsafe w ⟨b,0,none⟩ Tryz.underlying267 Tryz.underlying129 d a h];simp only[Result.andThen];rw[Oper.upon_value];go_wp2;go_end0;exact⟨rfl,rfl⟩
theorem sW(b:Nat)(w:World)(c:w.cell? ⟨b,0,none⟩=some (.pointer (some ⟨b,0,none⟩))):
  Calls Tryz.prog 130 #[.pointer (some ⟨b,0,none⟩)] w fun e w'=>e=.returned (.tuple #[])/\w'=w:=by
 obtain⟨j,a,_⟩:=sizeBuilder;go_in;go_wp2;rw[Lib.run_neq_ptr_same w _ Tryz.underlying129 a];go_wp2;go_end0;exact⟨rfl,rfl⟩
theorem fY{T:TypeId}(a:liesAt Tryz.prog Tryz.prog.depth T (2/Tryz.prog.cellsOf T) 0 131 1=true)(B b:Nat)(l:List UInt8)(w:World)(h:D5 T B b l w):
  Calls Tryz.prog 130 #[.pointer (some ⟨b,0,none⟩)] w fun e w'=>e=.returned (.tuple #[])/\Lib.BuilderAt T 5 B b (.pointer (some ⟨b,0,none⟩)) (Lib.byteCells l) w'/\Lp B b w w':=by
 rcases h with h|h
 .refine(sV a b w h.cell0 h.shape h.frozen0).mono ?_;rintro e w' ⟨rfl,rfl⟩;exact⟨rfl,h.used _,(Below.refl B w).setCell (p:=⟨b,0,none⟩) h.1 _,(Lib.OthersKept.refl _ _ w).setCell ⟨b,0,none⟩ rfl _⟩
 .refine(sW b w h.cell0).mono ?_;rintro e w' ⟨rfl,rfl⟩;exact⟨rfl,h,Below.refl B _,Lib.OthersKept.refl _ _ _⟩
theorem Wv{T:TypeId}(L:liesAt Tryz.prog Tryz.prog.depth T (2/Tryz.prog.cellsOf T) 0 131 1=true)(z:T≠5)(B b:Nat)(l:List UInt8)(s:ByteArray)(w:World)(h:D5 T B b l w)(C:l.length+s.size≤1000000000):
  Calls Tryz.prog 71 #[.pointer (some ⟨b,0,none⟩),.string s] w fun e w'=>e=.returned (.tuple #[.int .i64 s.size,.nilIface])/\D5 T B b (l++s.data.toList) w'/\Lp B b w w':=by
 obtain⟨G,J,t,r,q⟩:=info_parts Tryz.infoB;have M:=h.le;go_in;go_wp2_with fail;refine(fY L B b l _ h).mono ?_;rintro e n ⟨rfl,N,m⟩;obtain⟨D,v,i,d,x⟩:=N
 have U:n.cell? ⟨b,0,none⟩=some (.pointer (some ⟨b,0,none⟩)):=by rw[Lib.cell_of_heap i];rfl
 have S:n.cell? ⟨b,1,none⟩=some v:=by rw[Lib.cell_of_heap i];rfl
 have K:=Lib.byteCells_length l;go_wp2_with (at_builtin;refine Lib.wpList_append_own_string _ rfl _ _ 113 9 rfl B 5 G Tryz.underlying113 Tryz.underlying9 J t r q _ _ _ rfl d s rfl ?c3 ?c4 ?c5 ?_)
 case c3=>unfold maxLen;omega
 case c4=>omega
 case c5=>have:=m.below.size;omega
 intro F w2 c a _;have y:b<n.heap.size:=Ae i;have j:w2.heap[b]?=some (.cells #[.pointer (some ⟨b,0,none⟩),v] T (0,0)):=by
  rw[a.block b y (fun e=>x e.symm)];exact i
 have R:w2.cell? ⟨b,0,none⟩=some (.pointer (some ⟨b,0,none⟩)):=by rw[Lib.cell_of_heap j];rfl
 have Q:w2.cell? ⟨b,1,none⟩=some v:=by rw[Lib.cell_of_heap j];rfl
 have P:w2.frozen? ⟨b,1,none⟩=false:=Lib.frozen_of_heap j 1;obtain⟨E,A,cap,rfl⟩:∃E A cap,F=.slice E A cap:=by
  rcases c.2 with⟨u,_⟩|⟨g,cap,O,u,_⟩
  .exact⟨_,_,_,u⟩
  .exact⟨_,_,_,u⟩
 go_wp2;go_ret2;refine⟨rfl,?_,?_,(m.others.grown a (fX d)).setCell ⟨b,1,none⟩ rfl _⟩
 .right;exact Lib.BuilderAt.put (T:=T) (e:=5) D j (bs':=Lib.byteCells (l++s.data.toList)) (by rw[Lib.byteCells_append,<-Lib.strCells_eq,Y,Lib.strCells_length,Lib.byteCells_length];exact c) z
 .exact(m.below.grown a (by have:=m.below.size;omega) (fun k I=>(d.lt k I).1)).setCell (p:=⟨b,1,none⟩) D _
theorem fZ{T:TypeId}(Q:liesAt Tryz.prog Tryz.prog.depth T (2/Tryz.prog.cellsOf T) 0 131 1=true)(D:T≠5)(B b:Nat)(l:List UInt8)(c:UInt8)(w:World)(h:D5 T B b l w)(G:l.length+1≤1000000000):
  Calls Tryz.prog 151 #[.pointer (some ⟨b,0,none⟩),.int .u8 c.toNat] w fun e w'=>e=.returned .nilIface/\D5 T B b (l++[c]) w'/\Lp B b w w':=by
 obtain⟨M,O,y,x,t⟩:=info_parts Tryz.infoB;have R:=h.le;go_in;go_wp2_with fail;refine(fY Q B b l _ h).mono ?_;rintro e r ⟨rfl,S,m⟩;obtain⟨I,v,n,i,A⟩:=S
 have c0:r.cell? ⟨b,0,none⟩=some (.pointer (some ⟨b,0,none⟩)):=by rw[Lib.cell_of_heap n];rfl
 have J:r.cell? ⟨b,1,none⟩=some v:=by rw[Lib.cell_of_heap n];rfl
 have P:=Lib.byteCells_length l;go_wp2_with (at_builtin;refine wpList_append_own _ rfl _ _ 113 rfl B 5 M (.int .u8 0) 1 1 Tryz.underlying113 O y x t rfl (by decide) _ _ _ rfl (i.alloc _) ⟨r.heap.size,0,none⟩ 1 1 [.int .u8 c.toNat] rfl rfl ?J ?c2 ?c3 ?c4 ?c5 ?_)
 case J=>
  intro j u s
  match j,s with
  |0,s=>simp at s;subst s;simp[Addr.add]
 case c2=>intro u F;simp at F;subst F;rfl
 case c3=>unfold maxLen;omega
 case c4=>omega
 case c5=>have:=m.below.size;simp;omega
 intro L w2 d a _;have C:b<r.heap.size:=Ae n;have q:w2.heap[b]?=some (.cells #[.pointer (some ⟨b,0,none⟩),v] T (0,0)):=by
  rw[a.block b (by simp;omega) (fun e=>A e.symm),Lib.alloc_old r _ b C];exact n
 have d0:w2.cell? ⟨b,0,none⟩=some (.pointer (some ⟨b,0,none⟩)):=by rw[Lib.cell_of_heap q];rfl
 have W:w2.cell? ⟨b,1,none⟩=some v:=by rw[Lib.cell_of_heap q];rfl
 have V:w2.frozen? ⟨b,1,none⟩=false:=Lib.frozen_of_heap q 1;obtain⟨K,E,cap,rfl⟩:∃K E cap,L=.slice K E cap:=by
  rcases d.2 with⟨z,_⟩|⟨g,cap,U,z,_⟩
  .exact⟨_,_,_,z⟩
  .exact⟨_,_,_,z⟩
 go_wp2;go_ret;refine⟨rfl,?_,?_,((m.others.alloc _).grown a (fX (i.alloc _))).setCell ⟨b,1,none⟩ rfl _⟩
 .right;exact Lib.BuilderAt.put (T:=T) (e:=5) I q (bs':=Lib.byteCells (l++[c])) (by rw[Lib.byteCells_append,Y,Lib.byteCells_length];simpa [Lib.byteCells] using d) D
 .exact((m.below.alloc (by have:=m.below.size;omega) _).grown a (by have:=m.below.size;simp;omega) (fun k N=>(i.lt k N).1)).setCell (p:=⟨b,1,none⟩) I _
theorem Ww(p:Option Addr):∀W:World,(Builtin.unsafeString_ #[197,3] 9 #[.pointer p,.int .i64 0]).run Tryz.prog W=.ok (.string ⟨#[]⟩) W:=fun W=>Lib.run_unsafeString_none W _ _ _ p
theorem gA{T:TypeId}(B b:Nat)(l:List UInt8)(w:World)(h:D5 T B b l w):
  Calls Tryz.prog 72 #[.pointer (some ⟨b,0,none⟩)] w fun e w'=>e=.returned (.string ⟨l.toArray⟩)/\Below B w w':=by
 obtain⟨p,L,v,a,c,D⟩:=h.at;have y:=h.le;rw[Lib.byteCells_length] at c;have r:=Ae a;rcases c.2 with⟨rfl,I⟩|⟨g,cap,d,rfl,u,A,E,t,G,q⟩
 .have:l=[]:=a0z I;subst this;have n:=Ww
  have z:w.drew.cell? ⟨b,1,none⟩=some (.slice none 0 0):=by rw[Lib.cell_of_heap (w:=w.drew) a];rfl
  have m:(Builtin.unsafeSliceData_ #[113] 197 #[.slice none 0 0]).run Tryz.prog w.drew=.ok (.pointer none) w.drew:=rfl;go_in;go_wp2
  go_region
  all_goals(go_wp2;go_ret;exact⟨rfl,Below.drew (Below.refl B w)⟩)
 .by_cases s:l=[]
  .subst s;have n:=Ww;by_cases k:cap=0
   .subst k
    have K:w.cell? ⟨b,1,none⟩=some (.slice (some ⟨g,0,none⟩) 0 0):=(by rw[Lib.cell_of_heap a];rfl)
    have z:w.drew.cell? ⟨b,1,none⟩=some (.slice (some ⟨g,0,none⟩) 0 0):=K
    have m:(Builtin.unsafeSliceData_ #[113] 197 #[.slice (some ⟨g,0,none⟩) 0 0]).run Tryz.prog w.drew=.ok (.pointer (some ⟨w.drew.heap.size,0,none⟩)) (w.drew.alloc (.view ⟨g,0,none⟩ 5)):=
     Lib.run_unsafeSliceData_zero w.drew _ _ 5 Tryz.underlying197 ⟨g,0,none⟩ 0 (5,d.size) (by have i:w.drew.heap[g]?=some (.cells d 5 (0,0)):=A;simp[World.shape?,i])
    have J:(w.drew.alloc (.view ⟨g,0,none⟩ 5)).cell? ⟨b,1,none⟩=some (.slice (some ⟨g,0,none⟩) 0 0):=by
     rw[Lib.cell_of_heap ((Lib.alloc_old w.drew _ b r).trans a)];rfl
    have M:(w.alloc (.view ⟨g,0,none⟩ 5)).drew.cell? ⟨b,1,none⟩=some (.slice (some ⟨g,0,none⟩) 0 0):=J;go_in;go_wp2
    go_region
    all_goals(go_wp2;go_ret;exact⟨rfl,(Below.drew (Below.refl B w)).alloc y _⟩)
   .have z:w.drew.cell? ⟨b,1,none⟩=some (.slice (some ⟨g,0,none⟩) 0 cap):=(by rw[Lib.cell_of_heap (w:=w.drew) a];rfl)
    have m:(Builtin.unsafeSliceData_ #[113] 197 #[.slice (some ⟨g,0,none⟩) 0 cap]).run Tryz.prog w.drew=.ok (.pointer (some ⟨g,0,none⟩)) w.drew:=
     Lib.run_unsafeSliceData_row _ _ _ _ _ _ k
    clear k;go_in;go_wp2
    go_region
    all_goals(go_wp2;go_ret;exact⟨rfl,Below.drew (Below.refl B w)⟩)
  .have F:l.length≠0:=fun e=>s (a0z e)
   have z:w.drew.cell? ⟨b,1,none⟩=some (.slice (some ⟨g,0,none⟩) l.length cap):=(by rw[Lib.cell_of_heap (w:=w.drew) a];rfl)
   have m:(Builtin.unsafeSliceData_ #[113] 197 #[.slice (some ⟨g,0,none⟩) l.length cap]).run Tryz.prog w.drew=.ok (.pointer (some ⟨g,0,none⟩)) w.drew:=
    Lib.run_unsafeSliceData_row _ _ _ _ _ _ (by omega)
   have n:(Builtin.unsafeString_ #[197,3] 9 #[.pointer (some ⟨g,0,none⟩),.int .i64 l.length]).run Tryz.prog w.drew=.ok (.string ⟨l.toArray⟩) (w.drew.freeze ⟨g,0,none⟩ l.length):=by
    refine Lib.run_unsafeString_row w.drew 197 3 9 5 Tryz.underlying197 Tryz.cellsB g d.size (by have i:w.drew.heap[g]?=some (.cells d 5 (0,0)):=A;simp[World.shape?,i]) l s (by omega) (by unfold maxLen at t;omega) ?_;intro j x C;exact c.cells (g:=g) rfl j (.int .u8 x.toNat) (by simp[Lib.byteCells,C])
   go_in;go_wp2
   go_region
   all_goals(go_wp2;go_ret;exact⟨rfl,Lib.below_freeze (Below.drew (Below.refl B w)) (p:=⟨g,0,none⟩) u _⟩)
end
section
open Go.RowKit
theorem gB(a b:List UInt8):B3 (a++b)=B3 a++B3 b:=by
 induction a with
 |nil=>rfl
 |cons x a ih=>
  by_cases h:x=0
  .subst h;rw[List.cons_append,Ol,Ol,ih];rfl
  .rw[List.cons_append,Nn h,Nn h,ih];rfl
theorem sX{s:ByteArray}{k:Nat}(h:k<s.size):s.data.toList.take (k+1)=s.data.toList.take k++[A4 s k]:=by
 have a:k<s.data.toList.length:=by rw[<-Lib.size_eq];exact h
 rw[List.take_succ_eq_append_getElem a];congr 2;unfold A4;rw[List.getD_eq_getElem?_getD,List.getElem?_eq_getElem a];rfl
theorem sY{s:ByteArray}{k:Nat}(h:k<s.size):B3 (s.data.toList.take (k+1))=B3 (s.data.toList.take k)++B3 [A4 s k]:=by
 rw[sX h,gB]
theorem sZ(s:ByteArray)(k:Nat):(B3 (s.data.toList.take k)).length<=2*s.size:=by
 have h:=Om (s.data.toList.take k);have b:=List.length_take_le k s.data.toList
 have a:(s.data.toList.take k).length<=s.data.toList.length:=by rw[List.length_take];omega
 rw[<-Lib.size_eq] at a;omega
theorem ofNat_toNat(y:UInt8):Z y.toNat=y:=by simp
theorem gC(s:ByteArray)(w:World)(hs:s.size≤100000):
  Calls Tryz.prog 232 #[.string s] w fun e w'=>e=.returned (.string (bl (B3 s.data.toList++[0,1])))/\Fp [] w w':=by
 go_in;go_wp2_with fail
 go_loopg [3,4] s.size (fun g P O wr=>∃k:Nat,g+k=s.size/\O=.int .i64 k/\Bt wr w.heap.size P (B3 (s.data.toList.take k))/\Fp [] w wr)
 case atStart=>exact⟨0,rfl,rfl,Bt.made w w.heap.size [] (Nat.le_refl _) (by decide),Fp.alloc _ _⟩
 case round=>
  obtain⟨k,hg,rfl,M,v⟩:=hrel;have C:=X M;have F:=X v;have R:=v.size;have Q:=sZ s k;clear M v;by_cases N:k<s.size
  .have I:=X (sY N);have x:=uD N;have l:(A4 s k).toNat<256:=(A4 s k).toNat_lt;obtain⟨y,K⟩:=Aa (A4 s k);rw[K] at I x l
   have q:Hid ((B3 (s.data.toList.take k)).length+1<=1000000000):=(by unfold Hid;omega)
   clear K;by_cases t:y=0
   .subst t
    have D:Hid ((B3 (s.data.toList.take k)++[Z 0]).length+1<=1000000000):=(by unfold Hid;rw[Y];simp only[a0x,a0w];omega)
    have p:Hid (∀w:World,Hu (w.alloc (.cells #[.int .u8 0] 5)) (.slice (some ⟨w.heap.size,0,none⟩) 1 1) [Z 0]):=fun w=>Hu.one w (n:=0) (by decide);have T:Hid (∀w:World,Hu (w.alloc (.cells #[.int .u8 255] 5)) (.slice (some ⟨w.heap.size,0,none⟩) 1 1) [Z 255]):=fun w=>Hu.one w (n:=255) (by decide)
    go_wp2_with (first
     |(at_builtin;with_reducible refine Wz rfl _ _ rfl w.heap.size _ _ rfl (C.o.alloc _) _ _ rfl (p.o _) q.o (by simp;omega) ?_;intro J r a b;have c:=X ((F.o.alloc' _).belowTrans b);have S:w.heap.size<=r.heap.size:=c.o.size;have j:=X a;clear a b)
     |(at_builtin;with_reducible refine Wz rfl _ _ rfl w.heap.size _ _ rfl (j.o.alloc _) _ _ rfl (T.o _) D.o (by simp;omega) ?_;intro V U d i;have E:=X ((c.o.alloc' _).belowTrans i);have A:=X d;clear d i))
    go_roundg (gk-1)
    case measure=>omega
    case rel=>exact⟨k+1,by omega,by go_num,by rw[I.o];have:=A.o;rw[List.append_assoc] at this;exact this,E.o⟩
   .have u:¬((y.toNat:Int)=0):=fun h=>t (UInt8.toNat_inj.1 (by show y.toNat=0;omega))
    have W:((y.toNat:Int)==0)=false:=(by simpa using u)
    have p:Hid (∀w:World,Hu (w.alloc (.cells #[.int .u8 y.toNat] 5)) (.slice (some ⟨w.heap.size,0,none⟩) 1 1) [Z y.toNat]):=fun w=>Hu.one w (n:=y.toNat) l
    have G:Hid (B3 [y]=[Z y.toNat]):=(by unfold Hid;rw[ofNat_toNat,Nn t];rfl)
    go_wp2_with (first
     |(at_builtin;with_reducible refine Wz rfl _ _ rfl w.heap.size _ _ rfl (C.o.alloc _) _ _ rfl (p.o _) q.o (by simp;omega) ?_;intro J r a b;have c:=X ((F.o.alloc' _).belowTrans b);have j:=X a;clear a b))
    go_roundg (gk-1)
    case measure=>omega
    case rel=>exact⟨k+1,by omega,by go_num,by rw[I.o,G.o];exact j.o,c.o⟩
  .have m:k=s.size:=(by omega)
   have z:=C.o;rw[m,Lib.size_eq,List.take_length] at z;have B:=X z;have q:Hid ((B3 s.data.toList).length+2<=1000000000):=by
    unfold Hid;have:=Om s.data.toList;rw[<-Lib.size_eq] at this;omega
   have p:Hid (∀w:World,Hu (w.alloc (.cells #[.int .u8 0,.int .u8 1] 5)) (.slice (some ⟨w.heap.size,0,none⟩) 2 2) [0,1]):=fun w=>Or.inr ⟨w.heap.size,0,2,rfl,by simp,Z3 w 0 1⟩;clear z m
   go_wp2_with (first
    |(at_builtin;with_reducible refine Wz rfl _ _ rfl w.heap.size _ _ rfl (B.o.alloc _) _ _ rfl (p.o _) q.o (by simp;omega) ?_;intro J r a b;have c:=X ((F.o.alloc' _).belowTrans b);have L:=Wy a;clear a b))
   go_ret;exact⟨rfl,c.o⟩
theorem tA(c:Ac):bl (B3 c.row.data.toList++[0,1])++bl (B3 c.col.data.toList++[0,1])++bl (Ht (Ds-c.ts))++bl (Ht (Ds-c.seq))=bl (B7 c):=by
 simp only[Lq];unfold B7;simp
theorem gG{a:Nat}(h:a<18446744073709551616):IntKind.u64.wrap (18446744073709551615-(a:Int))=((Ds-a:Nat):Int):=by
 rw[IntKind.wrap_u64];unfold Ds;omega
theorem Zx(c:Ac)(w:World)(B:Di c):Calls Tryz.prog 168 #[A7 c] w fun e w'=>e=.returned (.string (Nr c))∧Fp [] w w':=by
 have l:=fun w=>iH c w B;have P:=B.ts;have R:=B.seq;have L:Hid (Nr c=if Bh c=true then⟨(B7 c).toArray⟩ else⟨#[]⟩):=rfl;unfold A7 at l ⊢;cases hmay:Bh c
 .rw[hmay] at l
  have G:Hid (Nr c=⟨#[]⟩):=by unfold Hid;rw[L.o,hmay];rfl
  have D:=X l;clear l hmay;go_in;go_wp2_with fail;refine(D.o _).mono ?_;rintro e M ⟨rfl,h⟩;have k:=X h;clear h;go_wp2_with fail;go_ret;rw[G.o];exact⟨rfl,(Fp.alloc w _).trans k.o⟩
 obtain⟨⟨Q,hr⟩,⟨S,hk⟩,hv,_⟩:=gZ hmay;rw[hmay] at l;have g:bl (B3 c.row.data.toList++[0,1])++bl (B3 c.col.data.toList++[0,1])++bl (Ht (Ds-c.ts))++bl (Ht (Ds-c.seq))=Nr c:=by
  rw[tA,L.o,hmay];rfl
 have D:=X l;clear l hmay;have A:=fun w=>gC c.row w (by omega);have z:=fun w=>gC c.col w (by omega);have v:=fun w=>Z5 (Ds-c.ts) true w (by unfold Ds;omega);have u:=fun w=>Z5 (Ds-c.seq) true w (by unfold Ds;omega);have O:=gG P;have N:=gG R;simp only[W7] at v u;have J:=Om c.row.data.toList;have I:=Om c.col.data.toList;rw[<-Lib.size_eq] at J I;obtain⟨b1,q⟩:=Aa (bl (B3 c.row.data.toList++[0,1]));obtain⟨V,p⟩:=Aa (bl (B3 c.col.data.toList++[0,1]));obtain⟨U,n⟩:=Aa (bl (Ht (Ds-c.ts)));obtain⟨T,m⟩:=Aa (bl (Ht (Ds-c.seq)))
 have z1:b1.size<=82:=by rw[<-q,Dt,Y];simp only[a0x,a0w];omega
 have z2:V.size<=82:=by rw[<-p,Dt,Y];simp only[a0x,a0w];omega
 have z3:U.size=8:=by rw[<-n,Dt];unfold Ht;rw[List.length_reverse,Np]
 have z4:T.size=8:=by rw[<-m,Dt];unfold Ht;rw[List.length_reverse,Np]
 rw[q] at A g;rw[p] at z g;rw[n] at v g;rw[m] at u g;have M1:=X A;have M2:=X z;have M3:=X v;have M4:=X u;have F:=X g;clear A z v u q p n m g J I;obtain⟨W,x⟩:=Bz (w.alloc (.cells #[.string c.row,.string c.col,.int .u64 c.ts,.int .u64 c.seq,.bool c.del,.string c.val] 80));have C:W.heap[w.heap.size]?=some (.cells #[.string c.row,.string c.col,.int .u64 c.ts,.int .u64 c.seq,.bool c.del,.string c.val] 80 (0,0)):=by
  rw[x];exact Ai rfl _
 have t:Fp [] w W:=by rw[x];exact Fp.alloc _ _
 have i:∀w',Fp [] W w'->w'.cell? ⟨w.heap.size,0,none⟩=some (.string c.row)/\w'.cell? ⟨w.heap.size,1,none⟩=some (.string c.col)/\w'.cell? ⟨w.heap.size,2,none⟩=some (.int .u64 c.ts)/\w'.cell? ⟨w.heap.size,3,none⟩=some (.int .u64 c.seq):=by
  intro w' d;have y:=(d.block _ (Ae C) (by simp)).trans C;exact⟨Ab y 0,Ab y 1,Ab y 2,Ab y 3⟩
 have r:=X i;have E:=X t;have HW:=X x;clear i t C x;go_in;go_wp2_with fail;rw[<-HW.o];refine(D.o _).mono ?_;rintro e M ⟨rfl,h⟩;have k:=X h;clear h;go_wp2_with fail;refine Bo (by kernel_rfl) (by kernel_rfl) ?_
 iterate 18
  apply A1 rfl rfl rfl
  .intro a w j b K s;have:=b.f 1;(try have:=b.e 0 6);(try have:=b.e 1 7);(try have:=b.e 3 9);(try have:=b.e 4 10);(try have:=b.e 2 8);(try have:=b.e 5 11);(try have:=b.e 7 13);(try have:=b.e 8 14);(try have:=b.e 9 15);(try have:=b.e 6 12);(try have:=b.e 10 16);(try have:=b.e 12 18);(try have:=b.e 13 19);(try have:=b.e 14 20);(try have:=b.e 11 17);(try have:=b.e 15 21);(try have:=b.e 16 22);obtain⟨k0,k1,k2,k3⟩:=r.o _ (k.o.trans j);simp only[Oper.wp,execOp];go_simp
   first
   |exact s _ j (Fp.refl _ _)
   |rw[if_neg (by first|omega|(simp only[ByteArray.size_append];omega))]
    exact s _ j (Fp.refl _ _)
   |first
     |((with_reducible refine(M1.o _).mono ?_);rintro e w2 ⟨rfl,d⟩;exact s _ (j.trans d) d)
     |((with_reducible refine(M2.o _).mono ?_);rintro e w2 ⟨rfl,d⟩;exact s _ (j.trans d) d)
     |((with_reducible refine(M3.o _).mono ?_);rintro e w2 ⟨rfl,d⟩;exact s _ (j.trans d) d)
     |((with_reducible refine(M4.o _).mono ?_);rintro e w2 ⟨rfl,d⟩;exact s _ (j.trans d) d)
 refine Bn ?_
 iterate 18 refine Bm ?_
 refine Bl fun w' j=>?_
 .simp only[Aj,Act.put,List.setIfInBounds_toArray,List.set_cons_succ,List.set_cons_zero];have HF:=X (k.o.trans j);clear j;go_wp2_with fail;go_ret;rw[<-F.o];exact⟨rfl,E.o.trans HF.o⟩
def zr:Ac × ByteArray × Int->Prop:=fun _=>True
theorem tB{a b:ByteArray}(h:a.toList=b.toList):a=b:=by
 rw[ByteArray.toList_eq,ByteArray.toList_eq] at h;rw[<-Lib.mk_data a,<-Lib.mk_data b,h]
end
section
open Go.Lib
theorem tC(n:Nat):(Ht n).length=8:=by unfold Ht;rw[List.length_reverse,Np]
theorem tD(l:List UInt8)(a:Nat):(bl l).extract a (bl l).size=bl (l.drop a):=by
 rw[Z4,Dt,List.take_of_length_le (by rw[List.length_drop];exact Nat.le_refl _)]
end
end Go.Proofs.YtkagolpnaicdoaaGreatDoor
