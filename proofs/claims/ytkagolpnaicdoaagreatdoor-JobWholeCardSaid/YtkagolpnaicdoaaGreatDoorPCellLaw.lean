/-
 The bytes of cells' keys: plain laws. Byte slices that a call owns. Bytes turned round. slices.Grow and slices.Concat of bytes. Key. A number of eight bytes, the lowest one first. The reader of bytes. The reader of bytes: numbers and flags. Appends of bytes, as steps of a region that draws its order.
-/
import Derived.Lib.AppendZeros
import Derived.Test.YtkagolpnaicdoaaGreatDoorPParPL
import Derived.Deep.AppendLies
set_option maxRecDepth 100000
set_option maxHeartbeats 8000000
open Go.Lib renaming hid->a0z
open List renaming length_append->a0x,isPrefixOf->a0w,getElem?_eq_getElem->a0v,getD_eq_getElem?_getD->a1z,eq_nil_of_length_eq_zero->a1u,getElem?_map->a2z,range->a2x,length_cons->a2w,take_of_length_le->a2v
open UInt8 renaming ofNat->a0u,lt_irrefl->a1v
open Nat renaming le_refl->a1x,lt_trichotomy->a1w
namespace Go.Proofs.YtkagolpnaicdoaaGreatDoor
section
open Go.Lib
theorem Vb(s a new:List UInt8)(h:a≠new):replaceAll s a new=replaceK a new (count s a) s:=by
 unfold replaceAll replace replaceNum;rw[if_neg (by simpa using h),if_pos (Or.inl (by decide))]
theorem gG(b new:List UInt8)(d:b≠[])(h:b≠new):replaceAll [] b new=[]:=by
 rw[Vb _ _ _ h]
 have:index [] b= -1:=by
  unfold index
  cases b with
  |nil=>exact absurd rfl d
  |cons a l=>rfl
 rw[count_miss this];rfl
theorem gI(s a new:List UInt8)(b:a≠[])(h:a≠new)(d:index s a=((0:Nat):Int)):replaceAll s a new=new++replaceAll (s.drop a.length) a new:=by
 rw[Vb _ _ _ h,Vb _ _ _ h,count_hit b d,Nat.add_comm 1,replaceK_hit _ _ _ _ 0 d];simp
theorem gJ(b:UInt8)(l a new:List UInt8)(g:a≠[])(h:a≠new)(m:a.isPrefixOf (b::l)=false):replaceAll (b::l) a new=b::replaceAll l a new:=by
 have f:index (b::l) a=if index l a==-1 then -1 else index l a+1:=by
  conv=>lhs;unfold index
  rw[m];simp
 rw[Vb _ _ _ h,Vb _ _ _ h];have n:=index_ge l a
 by_cases k:index l a= -1
 ·rw[k] at f;rw[count_miss k,count_miss (by rw[f];rfl)];rfl
 ·obtain⟨i,j⟩:∃i:Nat,index l a=i:=⟨(index l a).toNat,by omega⟩
  have d:index (b::l) a=((i+1:Nat):Int):=by
   rw[f,j,if_neg (by simp)];omega
  have e:(b::l).drop (i+1+a.length)=l.drop (i+a.length):=by
   rw[show i+1+a.length=(i+a.length)+1 by omega];rfl
  rw[count_hit g d,count_hit g j,e,Nat.add_comm 1,replaceK_hit _ _ _ _ _ d,replaceK_hit _ _ _ _ _ j,e];rfl
theorem aE{s sub:List UInt8}(h:sub.isPrefixOf s=true):index s sub=((0:Nat):Int):=by
 cases s with
 |nil=>
  cases sub with
  |nil=>rfl
  |cons a l=>cases h
 |cons b l=>unfold index;rw[if_pos h];rfl
def Cj:List UInt8->List UInt8
 |[]=>[]
 |b::l=>if b=0 then 0::255::Cj l else b::Cj l
theorem Lt(l:List UInt8):Cj (0::l)=0::255::Cj l:=rfl
theorem Lu{b:UInt8}(h:b≠0)(l:List UInt8):Cj (b::l)=b::Cj l:=if_neg h
theorem Vd(l:List UInt8):(Cj l).length≤2*l.length:=by
 induction l with
 |nil=>exact a1x _
 |cons b l ih=>
  by_cases h:b=0
  ·subst h;rw[Lt];simp only[a2w];omega
  ·rw[Lu h];simp only[a2w];omega
theorem uA(l:List UInt8):replaceAll l [0] [0,255]=Cj l:=by
 induction l with
 |nil=>exact gG _ _ (by simp) (by simp)
 |cons b l ih=>
  by_cases h:b=0
  ·subst h;rw[gI _ _ _ (by simp) (by simp) (aE (by simp[a0w])),Lt];simp[ih]
  ·rw[gJ _ _ _ _ (by simp) (by simp) (by simpa [a0w] using Ne.symm h),Lu h,ih]
theorem uB(l:List UInt8):replaceAll (Cj l) [0,255] [0]=l:=by
 induction l with
 |nil=>exact gG _ _ (by simp) (by simp)
 |cons b l ih=>
  by_cases h:b=0
  ·subst h;rw[Lt,gI _ _ _ (by simp) (by simp) (aE (by simp[a0w]))];simp[ih]
  ·rw[Lu h,gJ _ _ _ _ (by simp) (by simp) (by simp[a0w,Ne.symm h]),ih]
theorem gK(a new:List UInt8)(d:new.length≤a.length):∀k s,(replaceK a new k s).length≤s.length
 |0,_=>a1x _
 |k+1,s=>by
  unfold replaceK;split
  ·exact a1x _
  ·rename_i h
   have i:index s a≠-1:=by simpa using h
   have f:=index_ge s a;have g:=index_room s a (by omega);have b:=gK a new d k (s.drop ((index s a).toNat+a.length));simp only[a0x,List.length_take,List.length_drop] at b ⊢;omega
theorem uC(s a new:List UInt8)(b:new.length<=a.length):(replaceAll s a new).length<=s.length:=by
 unfold replaceAll replace;split
 ·exact a1x _
 ·exact gK _ _ b _ _
theorem uD(r X:List UInt8):index (Cj r++0::1::X) [0,1]=(Cj r).length:=by
 have step:∀(b:UInt8) (l:List UInt8) (n:Nat),([0,1]:List UInt8).isPrefixOf (b::l)=false->index l [0,1]=n->index (b::l) [0,1]=(n+1:Nat):=by
  intro b l n a h;unfold index;rw[a,h]
  have:¬((n:Int)==-1)=true:=by simp
  simp[this]
 induction r with
 |nil=>exact aE (by simp[Cj,a0w])
 |cons b l ih=>
  by_cases h:b=0
  ·subst h;rw[Lt];exact step _ _ _ (by simp[a0w]) (step _ _ _ (by simp[a0w]) ih)
  ·rw[Lu h];exact step _ _ _ (by simp[a0w,Ne.symm h]) ih
theorem gP(r X:List UInt8):cut (Cj r++0::1::X) [0,1]=(Cj r,X,true):=by
 have h:=uD r X;unfold cut;rw[h,if_pos (by omega)];simp only[Int.toNat_natCast];rw[List.take_left,List.drop_append];simp
theorem P5(l:List UInt8):compareBytes l l=0:=by
 induction l with
 |nil=>rfl
 |cons b l ih=>unfold compareBytes;rw[if_neg (a1v _),if_neg (a1v _),ih]
theorem Ve{a b:List UInt8}(h:compareBytes a b=0):a=b:=by
 induction a generalizing b with
 |nil=>cases b with
  |nil=>rfl
  |cons y b=>simp[compareBytes] at h
 |cons x a ih=>cases b with
  |nil=>simp[compareBytes] at h
  |cons y b=>
   unfold compareBytes at h
   by_cases d:x<y
   ·rw[if_pos d] at h;simp at h
   ·by_cases f:y<x
    ·rw[if_neg d,if_pos f] at h;simp at h
    ·rw[if_neg d,if_neg f] at h;have:x=y:=UInt8.le_antisymm (UInt8.not_lt.1 f) (UInt8.not_lt.1 d);rw[this,ih h]
theorem gQ(a b:List UInt8):compareBytes b a= -compareBytes a b:=by
 induction a generalizing b with
 |nil=>cases b<;>simp[compareBytes]
 |cons x a ih=>cases b with
  |nil=>simp[compareBytes]
  |cons y b=>
   unfold compareBytes
   by_cases d:x<y
   ·rw[if_pos d,if_neg (UInt8.lt_asymm d),if_pos d];rfl
   ·by_cases f:y<x
    ·rw[if_pos f,if_neg d,if_pos f]
    ·rw[if_neg d,if_neg f,if_neg f,if_neg d];exact ih b
theorem Xm(a b:List UInt8):compareBytes a b= -1∨compareBytes a b=0∨compareBytes a b=1:=by
 induction a generalizing b with
 |nil=>cases b<;>simp[compareBytes]
 |cons x a ih=>cases b with
  |nil=>simp[compareBytes]
  |cons y b=>
   unfold compareBytes
   by_cases d:x<y
   ·rw[if_pos d];simp
   ·by_cases f:y<x
    ·rw[if_neg d,if_pos f];simp
    ·rw[if_neg d,if_neg f];exact ih b
theorem Ko(x:UInt8)(a b:List UInt8):compareBytes (x::a) (x::b)=compareBytes a b:=by
 conv=>lhs;unfold compareBytes
 rw[if_neg (a1v _),if_neg (a1v _)]
theorem Lx{x y:UInt8}(h:x<y)(a b:List UInt8):compareBytes (x::a) (y::b)= -1:=by
 unfold compareBytes;rw[if_pos h]
theorem Ly{x y:UInt8}(h:y<x)(a b:List UInt8):compareBytes (x::a) (y::b)=1:=by
 unfold compareBytes;rw[if_neg (UInt8.lt_asymm h),if_pos h]
theorem aG{a b c:List UInt8}(f:compareBytes a b≤0)(d:compareBytes b c≤0):compareBytes a c≤0:=by
 induction a generalizing b c with
 |nil=>cases c<;>simp[compareBytes]
 |cons x a ih=>
  cases b with
  |nil=>simp[compareBytes] at f
  |cons y b=>
   cases c with
   |nil=>simp[compareBytes] at d
   |cons z c=>
    rcases a1w x.toNat y.toNat with h|h|h
    ·have g:x<y:=UInt8.lt_iff_toNat_lt.2 h
     rcases a1w y.toNat z.toNat with k|k|k
     ·rw[Lx (UInt8.lt_iff_toNat_lt.2 (by omega))];decide
     ·rw[Lx (UInt8.lt_iff_toNat_lt.2 (by omega))];decide
     ·rw[Ly (UInt8.lt_iff_toNat_lt.2 k)] at d;exact absurd d (by decide)
    ·obtain rfl:x=y:=UInt8.toNat_inj.1 h;rw[Ko] at f
     rcases a1w x.toNat z.toNat with k|k|k
     ·rw[Lx (UInt8.lt_iff_toNat_lt.2 k)];decide
     ·obtain rfl:x=z:=UInt8.toNat_inj.1 k;rw[Ko] at d ⊢;exact ih f d
     ·rw[Ly (UInt8.lt_iff_toNat_lt.2 k)] at d;exact absurd d (by decide)
    ·rw[Ly (UInt8.lt_iff_toNat_lt.2 h)] at f;exact absurd f (by decide)
theorem Sz{b:UInt8}(h:b≠0):(0:UInt8)<b:=by
 rw[UInt8.lt_iff_toNat_lt]
 have:b.toNat≠0:=fun e=>h (UInt8.toNat_inj.1 e)
 show 0<b.toNat;omega
theorem gR(a b X Y:List UInt8):compareBytes (Cj a++0::1::X) (Cj b++0::1::Y)=if a=b then compareBytes X Y else compareBytes a b:=by
 induction a generalizing b with
 |nil=>
  cases b with
  |nil=>rw[if_pos rfl];show compareBytes (0::1::X) (0::1::Y)=_;rw[Ko,Ko]
  |cons y b=>
   rw[if_neg (by simp)]
   by_cases h:y=0
   ·subst h;rw[Lt];show compareBytes (0::1::X) (0::255::_)=_;rw[Ko,Lx (by decide)];rfl
   ·rw[Lu h];show compareBytes (0::1::X) (y::_)=_;rw[Lx (Sz h)];rfl
 |cons x a ih=>
  cases b with
  |nil=>
   rw[if_neg (by simp)]
   by_cases h:x=0
   ·subst h;rw[Lt];show compareBytes (0::255::_) (0::1::Y)=_;rw[Ko,Ly (by decide)];rfl
   ·rw[Lu h];show compareBytes (x::_) (0::1::Y)=_;rw[Ly (Sz h)];rfl
  |cons y b=>
   by_cases f:x=0
   ·subst f;rw[Lt]
    by_cases d:y=0
    ·subst d;rw[Lt];show compareBytes (0::255::(Cj a++_)) (0::255::(Cj b++_))=_;rw[Ko,Ko,ih,Ko]
     by_cases e:a=b
     ·rw[if_pos e,if_pos (by rw[e])]
     ·rw[if_neg e,if_neg (by simpa using e)]
    ·rw[Lu d,if_neg (by simp[Ne.symm d])];show compareBytes (0::_) (y::_)=_;rw[Lx (Sz d),Lx (Sz d)]
   ·rw[Lu f]
    by_cases d:y=0
    ·subst d;rw[Lt,if_neg (by simp[f])];show compareBytes (x::_) (0::_)=_;rw[Ly (Sz f),Ly (Sz f)]
    ·rw[Lu d];show compareBytes (x::(Cj a++_)) (y::(Cj b++_))=_
     by_cases e:x=y
     ·subst e;rw[Ko,Ko,ih]
      by_cases g:a=b
      ·rw[if_pos g,if_pos (by rw[g])]
      ·rw[if_neg g,if_neg (by simpa using g)]
     ·rw[if_neg (by simp[e])]
      rcases a1w x.toNat y.toNat with k|k|k
      ·rw[Lx (UInt8.lt_iff_toNat_lt.2 k),Lx (UInt8.lt_iff_toNat_lt.2 k)]
      ·exact absurd (UInt8.toNat_inj.1 k) e
      ·rw[Ly (UInt8.lt_iff_toNat_lt.2 k),Ly (UInt8.lt_iff_toNat_lt.2 k)]
end
section
section
open Go.RowKit
def Bc(b:UInt8):Value:=.int .u8 b.toNat
def Cb(w:World)(base:Nat)(v:Value)(l:List UInt8):Prop:=w.ownsRow base 5 1 v l.length (l.map Bc)
theorem Tryz.info5:(Tryz.prog.info? 5).map (fun i=>(i.zero,i.size,i.bytes))=some (some (.int .u8 0),1,1):=by kernel_rfl
theorem Cb.nil(w:World)(base:Nat):Cb w base (.slice none 0 0) []:=World.ownsRow_nil w base _ _
theorem Cb.mono{w:World}{base a:Nat}{v:Value}{l:List UInt8}(h:Cb w base v l)(j:a<=base):Cb w a v l:=by
 obtain⟨k,b⟩:=h;refine⟨k,?_⟩
 rcases b with b|⟨g,cap,d,f,i,r⟩
 ·exact Or.inl b
 ·exact Or.inr ⟨g,cap,d,f,Nat.le_trans j i,r⟩
theorem Cb.alloc{w:World}{base:Nat}{v:Value}{l:List UInt8}(h:Cb w base v l)(o:Obj):Cb (w.alloc o) base v l:=World.ownsRow.alloc h o
theorem Cb.lt{w:World}{base:Nat}{v:Value}{l:List UInt8}(h:Cb w base v l):∀k,v.ownBlock=some k->base<=k/\k<w.heap.size:=World.ownsRow.lt h
theorem Cb.kept{w w':World}{base:Nat}{v:Value}{l:List UInt8}(h:Cb w base v l)(j:∀k,v.ownBlock=some k->w'.heap[k]?=w.heap[k]?):Cb w' base v l:=by
 obtain⟨m,a⟩:=h;refine⟨m,?_⟩
 rcases a with a|⟨g,cap,b,d,i,f,r⟩
 ·exact Or.inl a
 ·exact Or.inr ⟨g,cap,b,d,i,(j g (by rw[d];rfl)).trans f,r⟩
theorem Cb.fp{w w':World}{base:Nat}{v:Value}{l:List UInt8}(h:Cb w base v l)(b:Fp [] w w'):Cb w' base v l:=
 h.kept fun k a=>b.block k (h.lt k a).2 (by simp)
theorem Cb.made(w:World)(base:Nat)(l:List UInt8)(b:base≤w.heap.size)(a:l.length≤maxLen):
  Cb (w.alloc (.cells (l.map Bc).toArray 5)) base (.slice (some ⟨w.heap.size,0,none⟩) l.length l.length) l:=
 ⟨by simp,Or.inr ⟨w.heap.size,l.length,(l.map Bc).toArray,rfl,b,(MapKept.heap_alloc w _).1,a1x _,a,by simp,by
  rw[a2v (by simp)]⟩⟩
theorem gU{w w':World}{base:Nat}{v:Value}{l:List UInt8}(h:Cb w base v l)(b:w.grownBy w' v.ownBlock)(d:base<=w.heap.size):Below base w w':=
 (Below.refl base w).grown b d (fun k a=>(h.lt k a).1)
theorem uE(l:List UInt8):∀u∈l.map Bc,u.oneCell'=true:=by
 intro u a;obtain⟨b,_,rfl⟩:=List.mem_map.1 a;rfl
theorem Xn{w:World}{k:Array Oper}{rest:List Oper}{o:Oper}{a:Act}{Q:Exit→Act→World→Prop}(z:o.guard=none)(s x:Operand)
  (E:o.op=.call {callee:=.builtin .append,args:=#[s,x],argTypes:=#[113,113]})(base:Nat)(v:Value)(l:List UInt8)(D:a.eval s=v)(f:Cb w base v l)
  (b off m c:Nat)(bs:List UInt8)(C:a.eval x=.slice (some ⟨b,off,none⟩) m c)(F:m=bs.length)(g:∀j (h:j<bs.length),w.cell? ⟨b,off+j,none⟩=some (Bc bs[j]))(A:l.length+bs.length<=1000000000)(d:base<=w.heap.size)
  (h:∀n w',Cb w' base n (l++bs)->Below base w w'->wpList Tryz.prog k Q rest (a.put o.dst n) w'):wpList Tryz.prog k Q (o::rest) a w:=by
 obtain⟨B,G,r,q,p⟩:=info_parts Tryz.info5;subst F;refine wpList_append_own w z s x 113 E base 5 B (.int .u8 0) 1 1 Tryz.underlying113 G r q p rfl (by decide) v l.length (l.map Bc) D f ⟨b,off,none⟩ bs.length c (bs.map Bc) C (by simp) ?_ (uE bs) (by unfold maxLen;omega) (by omega) d ?_
 ·intro j u i;rw[a2z] at i
  cases hj:bs[j]? with
  |none=>rw[hj] at i;cases i
  |some y=>
   rw[hj] at i;simp only[Option.map_some,Option.some.injEq] at i;subst i;have t:=(List.getElem?_eq_some_iff.1 hj).1
   have L:(⟨b,off,none⟩:Addr).add j=⟨b,off+j,none⟩:=by unfold Addr.add;split<;>simp_all
   rw[L,g j t];obtain⟨_,K⟩:=List.getElem?_eq_some_iff.1 hj;rw[K]
 ·intro n w' J I _;refine h n w' ?_ (gU f I d);unfold Cb;rw[a0x,List.map_append];exact J
theorem aH{w:World}{b:Nat}{x:UInt8}(h:w.cell? ⟨b,0,none⟩=some (Bc x)):∀j (h:j<[x].length),w.cell? ⟨b,0+j,none⟩=some (Bc [x][j]):=by
 intro j a
 have:j=0:=by simpa using a
 subst this;exact h
theorem aI{w:World}{f:Array Oper}{rest:List Oper}{o:Oper}{a:Act}{Q:Exit→Act→World→Prop}(m:o.guard=none)(sl x:Operand)
  (t:o.op=.call {callee:=.builtin .append,args:=#[sl,x],argTypes:=#[113,9]})(base:Nat)(v:Value)(l:List UInt8)(r:a.eval sl=v)(d:Cb w base v l)(s:ByteArray)(q:a.eval x=.string s)
  (n:l.length+s.size<=1000000000)(b:base<=w.heap.size)
  (h:∀g w',Cb w' base g (l++s.data.toList)->Below base w w'->wpList Tryz.prog f Q rest (a.put o.dst g) w'):wpList Tryz.prog f Q (o::rest) a w:=by
 obtain⟨p,u,k,j,i⟩:=info_parts Tryz.info5;refine Lib.wpList_append_own_string w m sl x 113 9 t base 5 p Tryz.underlying113 Tryz.underlying9 u k j i v l.length (l.map Bc) r d s q (by unfold maxLen;omega) (by omega) b ?_;intro g w' z y _;refine h g w' ?_ (gU d y b);unfold Cb;rw[a0x,List.map_append];exact z
theorem aJ{w:World}{base:Nat}{v:Value}{l:List UInt8}(a:Cb w base v l):(convert 113 9 v).run Tryz.prog w=.ok (.string ⟨l.toArray⟩) w:=by
 obtain⟨s,k⟩:=a
 rcases k with⟨rfl,m⟩|⟨g,cap,b,rfl,r,i,p,q,o,f⟩
 ·have:l=[]:=a1u m;subst this;rw[run_convert_bytes_string w _ _ 5 none 0 0 Tryz.underlying113 Tryz.underlying5 Tryz.underlying9];rfl
 ·refine run_convert_bytes_back w _ _ 5 ⟨g,0,none⟩ cap l Tryz.underlying113 Tryz.underlying5 Tryz.underlying9 ?_;intro j h
  have n:(⟨g,0,none⟩:Addr).add j=⟨g,j,none⟩:=by unfold Addr.add;split<;>simp_all
  rw[n,Ab i]
  have d:(b.toList.take (l.length*1))[j]?=(l.map Bc)[j]?:=by rw[f]
  rw[List.getElem?_take,if_pos (by omega),a2z,a0v h] at d
  simpa [Bc] using d
def Dc(n i:Nat):UInt8:=a0u (n/256^i)
def Gx(n:Nat):List UInt8:=(a2x 8).map (Dc n)
def E8(n:Nat):List UInt8:=(Gx n).reverse
theorem aK(n k:Nat):Bc (Dc n k)=.int .u8 ((n:Int)/2^(8*k)%256):=by
 unfold Bc Dc
 have b:(2:Nat)^(8*k)=256^k:=by rw[Nat.pow_mul]
 have a:((a0u (n/256^k)).toNat:Int)=(n:Int)/2^(8*k)%256:=by
  rw[UInt8.toNat_ofNat',<-b];rw[Int.natCast_emod,Int.natCast_ediv,Int.natCast_pow];rfl
 rw[a]
theorem uF{n k:Nat}(h:k<8):(Gx n).take (k+1)=(Gx n).take k++[Dc n k]:=by
 unfold Gx;rw[List.take_succ_eq_append_getElem (by simpa using h)];simp
theorem P6(n:Nat):(Gx n).length=8:=by simp[Gx]
theorem uG(w:World)(base:Nat)(v:Value)(l:List UInt8)(n:Nat)(h:Cb w base v l)(F:base≤w.heap.size)(D:l.length≤1000000)(z:n<18446744073709551616):
  Calls Tryz.prog 274 #[v,.int .u64 n] w fun e w'=>∃p,e=.returned p/\Cb w' base p (l++Gx n)/\Below base w w':=by
 have G:=a0z z;clear z;go_enter Tryz.func274,Tryz.ntmps274;go_wp2
 go_loopg [0,6] 8 (fun g p i wr=>∃k:Nat,g+k=8/\i=.int .i64 k/\Cb wr base p (l++(Gx n).take k)/\Below base w wr)
 case atStart=>exact⟨0,rfl,rfl,by simpa using h,Below.refl _ _⟩
 case round=>
  obtain⟨k,E,rfl,y,d⟩:=hrel;have A:=a0z y;have x:=a0z d;clear y d
  by_cases B:k<8
  ·have o:(wr.alloc (.cells #[.int .u8 ((n:Int)/2^(8*k)%256)] 5)).cell? ⟨wr.heap.size,0,none⟩=some (Bc (Dc n k)):=by
    rw[aK];exact Ab (Ai rfl _) 0
   have t:=a0z o
   have q:base<=wr.heap.size:=by have:=x.out.size;omega
   have j:(l++(Gx n).take k).length+1<=1000000000:=by
    have:((Gx n).take k).length<=8:=by rw[List.length_take,P6];omega
    simp only[a0x];omega
   have s:=a0z j;clear o j;go_wp2_with (at_builtin;refine Xn rfl _ _ rfl base _ _ rfl (A.out.alloc _) wr.heap.size 0 1 1 [Dc n k] rfl rfl (aH t.out) s.out (by simp;omega) ?_;intro C w2 a b);have f:=a0z a;have u:=a0z b;clear a b;go_wp2
   go_roundg (gk-1)
   case measure=>omega
   case rel=>exact⟨k+1,by omega,by go_num,by rw[uF B,<-List.append_assoc];exact f.out,(x.out.alloc q _).trans u.out⟩
  ·have m:(Gx n).take k=Gx n:=a2v (by rw[P6];omega);have r:=A.out;rw[m] at r;have f:=a0z r;clear m r;go_wp2;go_ret;exact⟨_,rfl,f.out,x.out⟩
end
section
open Go.RowKit
structure L0(w:World)(b:Nat)(n:Nat)(f:Nat->UInt8):Prop where
 lt:b<w.heap.size
 cell:∀j,j<n->w.cell? ⟨b,j,none⟩=some (Bc (f j))
 free:∀j,j<n->w.frozen? ⟨b,j,none⟩=false
def Nl(n k:Nat)(f:Nat->UInt8)(t:Nat):UInt8:=if t<k∨n-k<=t then f (n-1-t) else f t
theorem uH{n k:Nat}{f:Nat->UInt8}(h:2*k<n):Nl n k f k=f k:=by unfold Nl;rw[if_neg (by omega)]
theorem uI{n k:Nat}{f:Nat->UInt8}(h:2*k<n):Nl n k f (n-1-k)=f (n-1-k):=by unfold Nl;rw[if_neg (by omega)]
theorem uJ(w:World)(b n cap:Nat)(f:Nat→UInt8)(x:L0 w b n f)(P:n≤1000000000):
  Calls Tryz.prog 258 #[.slice (some ⟨b,0,none⟩) n cap] w fun e w'=>e=.returned (.tuple #[])/\L0 w' b n (fun t=>f (n-1-t))/\Fp [b] w w':=by
 have u:=a0z x;clear x;go_enter Tryz.func258,Tryz.ntmps258;go_wp2_with (fail)
 go_loopg [2,3] n (fun g F E wr=>∃k:Nat,g+k=n/\F=.int .i64 k/\E=.int .i64 ((n:Int)-1-k)/\2*k<=n/\L0 wr b n (Nl n k f)/\Fp [b] w wr)
 case atStart=>
  refine⟨0,rfl,rfl,by simp,by omega,⟨u.out.lt,fun j i=>?_,u.out.free⟩,Fp.refl _ _⟩;rw[u.out.cell j i];unfold Nl;rw[if_neg (by omega)]
 case round=>
  obtain⟨k,Q,rfl,rfl,L,a,l⟩:=hrel;have d:=a0z a;have o:=a0z l;clear l
  by_cases s:k+1+k<n
  ·obtain⟨m,r⟩:∃m,m=n-1-k:=⟨_,rfl⟩
   have h:(n:Int)-1-k=(m:Int):=by omega
   have D:wr.cell? ⟨b,k,none⟩=some (Bc (f k)):=by rw[a.cell k (by omega),uH (by omega)]
   have C:wr.cell? ⟨b,m,none⟩=some (Bc (f m)):=by rw[a.cell m (by omega),r,uI (by omega)]
   have S:wr.frozen? ⟨b,k,none⟩=false:=a.free k (by omega);have R:wr.frozen? ⟨b,m,none⟩=false:=a.free m (by omega)
   have q:k≠m:=by omega
   have G:m<n:=by omega
   have K:k<m:=by omega
   have J:k<n:=by omega
   unfold Bc at D C;have p:=a0z r;rw[h];have v:=a0z h;clear a r h
   have y:(k:Int)<(m:Int):=by omega
   go_wp2_with (fail)
   go_region
   go_wp2_with (fail)
   go_roundg (gk-1)
   case measure=>omega
   case rel=>
    refine⟨k+1,by omega,by go_num,?_,by omega,⟨?_,?_,?_⟩,?_⟩
    ·have:=v.out;congr 1;omega
    ·simpa [World.setCell] using d.out.lt
    ·intro j i;have N:=d.out.cell j i;show((wr.setCell ⟨b,k,none⟩ _).setCell ⟨b,m,none⟩ _).cell? ⟨b,j,none⟩=_
     by_cases B:j=m
     ·subst B
      have O:(wr.setCell ⟨b,k,none⟩ (.int .u8 (f j).toNat)).cell? ⟨b,j,none⟩=some (.int .u8 (f j).toNat):=by
       rw[World.cell?_setCell_other _ _ _ _ (fun e=>q (congrArg Addr.off e))];exact C
      rw[World.cell?_setCell_same _ _ _ O];unfold Nl Bc;rw[if_pos (by have:=p.out;omega),show n-1-j=k by have:=p.out;omega]
     ·rw[World.cell?_setCell_other _ _ _ _ (fun e=>B (congrArg Addr.off e).symm)]
      by_cases A:j=k
      ·subst A;rw[World.cell?_setCell_same _ _ _ D];unfold Nl Bc;rw[if_pos (by omega),show n-1-j=m by have:=p.out;omega]
      ·rw[World.cell?_setCell_other _ _ _ _ (fun e=>A (congrArg Addr.off e).symm),N];have I:=p.out;unfold Nl
       by_cases z:j<k∨n-k<=j
       ·rw[if_pos z,if_pos (by omega)]
       ·rw[if_neg z,if_neg (by omega)]
    ·intro j i;show((wr.setCell ⟨b,k,none⟩ _).setCell ⟨b,m,none⟩ _).frozen? ⟨b,j,none⟩=_;rw[World.frozen?_setCell,World.frozen?_setCell];exact d.out.free j i
    ·exact(((o.out.setCell' (by simp) _).setCell' (by simp) _).drew')
  ·have H:Hid (L0 wr b n (fun t=>f (n-1-t))):=by
    refine⟨d.out.lt,fun j i=>?_,d.out.free⟩;rw[d.out.cell j i];unfold Nl
    by_cases e:j<k∨n-k<=j
    ·rw[if_pos e]
    ·rw[if_neg e,show n-1-j=j by omega]
   have M:¬(k:Int)<(n:Int)-1-k:=by omega
   clear a s;go_wp2_with (fail);go_end0;exact⟨rfl,H.out,o.out⟩
def A5(s:ByteArray)(j:Nat):UInt8:=s.data.toList.getD j 0
theorem uK(w:World)(s:ByteArray):∃cap W,(convert 9 113 (.string s)).run Tryz.prog w=.ok (.slice (some ⟨w.heap.size,0,none⟩) s.size cap) W∧L0 W w.heap.size s.size (A5 s)∧Fp [] w W:=by
 have h:=run_bytes_of_string (P:=Tryz.prog) w 9 113 5 s Tryz.underlying9 Tryz.underlying113 Tryz.underlying5;refine⟨_,_,h,?_,(Fp.drew w).alloc' _⟩;have b:=Ai (w:=w.drew) (n:=w.heap.size) rfl (.cells (bytesRow s (grownCap w s.size 0 5)) 5 ((bytesRow s (grownCap w s.size 0 5)).size,(bytesRow s (grownCap w s.size 0 5)).size+1));refine⟨Ac b,fun j a=>?_,fun j a=>?_⟩
 ·rw[Ab b,bytesRow_at s _ j a];unfold Bc A5
  have:s.data.toList.getD j 0=s.data[j]:=by
   rw[a1z,a0v (by simpa using a)];simp
  rw[this]
 ·have d:s.size≤(bytesRow s (grownCap w s.size 0 5)).size:=by
   unfold bytesRow;simp only[Array.size_append,Array.size_map,Array.size_replicate];exact Nat.le_add_right _ _
  simp only[World.frozen?,b]
  have:¬(bytesRow s (grownCap w s.size 0 5)).size<=j:=by omega
  simp[this]
theorem Vf{w:World}{b n cap:Nat}{f:Nat→UInt8}(h:L0 w b n f):(convert 113 9 (.slice (some ⟨b,0,none⟩) n cap)).run Tryz.prog w=.ok (.string ⟨((a2x n).map f).toArray⟩) w:=by
 have:=run_convert_bytes_back (P:=Tryz.prog) w 113 9 5 ⟨b,0,none⟩ cap ((a2x n).map f) Tryz.underlying113 Tryz.underlying5 Tryz.underlying9 (by
  intro j d
  have a:j<n:=by simpa using d
  have g:(⟨b,0,none⟩:Addr).add j=⟨b,j,none⟩:=by unfold Addr.add;split<;>simp_all
  rw[g,h.cell j a]
  simp[Bc])
 simpa using this
theorem uL(s:ByteArray):((a2x s.size).map (fun t=>A5 s (s.size-1-t)))=s.data.toList.reverse:=by
 apply List.ext_getElem
 ·simp
 ·intro i b g
  have f:i<s.data.toList.length:=by simpa using b
  have d:i<s.size:=by simpa using b
  simp only[List.getElem_map,List.getElem_range,List.getElem_reverse];unfold A5;have a:s.data.toList.length=s.size:=rfl;rw[a1z,a0v (by omega)];simp only[Option.getD_some];congr 1
theorem aL(w:World)(s:ByteArray)(m:s.size≤1000000000):
  Calls Tryz.prog 210 #[.string s] w fun e w'=>e=.returned (.string ⟨s.data.toList.reverse.toArray⟩)/\Fp [] w w':=by
 obtain⟨cap,W,j,b,g⟩:=uK w s;have d:=uJ W w.heap.size s.size cap (A5 s) b m;have i:=a0z d;have k:=a0z g;clear b g d;go_enter Tryz.func210,Tryz.ntmps210;go_wp2_with (fail);refine i.out.mono ?_;rintro e w2 ⟨rfl,a,h⟩;have f:=Vf (cap:=cap) a;rw[uL] at f;have l:=a0z (k.out.trans h (by simp));clear a h;go_wp2_with (fail);go_ret;exact⟨rfl,l.out⟩
theorem gV(w:World)(base:Nat)(v:Value)(l:List UInt8)(n:Nat)(g:Cb w base v l)(E:base≤w.heap.size)(K:l.length≤1000000)(B:n<18446744073709551616):
  Calls Tryz.prog 226 #[v,.int .u64 n] w fun e w'=>∃A,e=.returned A/\Cb w' base A (l++E8 n)/\Below base w w':=by
 have m:=uG w w.heap.size (.slice none 0 0) [] n (Cb.nil _ _) (a1x _) (by simp) B;have u:=a0z m;have F:=a0z g;clear m g B;go_enter Tryz.func226,Tryz.ntmps226;go_wp2_with (fail);refine u.out.mono ?_;rintro e w2 ⟨J,rfl,j,a⟩;have f:=aJ j;rw[List.nil_append] at f
 have i:Fp [] w w2:=⟨a.os,a.tape,a.output,a.size,fun k D _=>a.block k D⟩
 have t:=a0z (F.out.fp i);have x:=a0z i;clear j a i;go_wp2_with (fail);refine(aL w2 _ (by show(Gx n).toArray.size<=_;simp[P6])).mono ?_;rintro e C ⟨rfl,h⟩;have s:=a0z (t.out.fp h);have p:=a0z (x.out.trans h (by simp))
 have q:base<=C.heap.size:=by have:=p.out.size;omega
 have o:l.length+(⟨(Gx n).reverse.toArray⟩:ByteArray).size<=1000000000:=by
  show l.length+(Gx n).reverse.toArray.size<=_;simp[P6];omega
 have y:=a0z o;clear h f o;go_wp2_with (at_builtin;refine aI rfl _ _ rfl base _ _ rfl s.out _ rfl y.out q ?_;intro I G b d);have r:=a0z b;have z:=a0z d;clear b d;go_wp2_with (fail);go_ret;exact⟨_,rfl,r.out,(p.out.below E (by simp)).trans z.out⟩
end
section
open Go.RowKit
def K6(w:World)(v:Value)(l:List UInt8):Prop:=
 (v=.slice none 0 0/\l=[])∨∃b off cap,v=.slice (some ⟨b,off,none⟩) l.length cap/\b<w.heap.size/\∀j (h:j<l.length),w.cell? ⟨b,off+j,none⟩=some (Bc l[j])
theorem K6.fp{w w':World}{v:Value}{l:List UInt8}(h:K6 w v l)(a:Fp [] w w'):K6 w' v l:=by
 rcases h with h|⟨b,off,cap,i,d,g⟩
 ·exact Or.inl h
 ·exact Or.inr ⟨b,off,cap,i,Nat.lt_of_lt_of_le d a.size,fun j f=>by rw[a.cell d (by simp)];exact g j f⟩
theorem Cb.reads{w:World}{base:Nat}{v:Value}{l:List UInt8}(h:Cb w base v l):K6 w v l:=by
 obtain⟨r,k⟩:=h
 rcases k with⟨rfl,m⟩|⟨g,cap,a,rfl,q,b,o,p,n,f⟩
 ·exact Or.inl ⟨rfl,a1u m⟩
 ·refine Or.inr ⟨g,0,cap,rfl,Ac b,fun j i=>?_⟩;rw[Nat.zero_add,Ab b]
  have d:(a.toList.take (l.length*1))[j]?=(l.map Bc)[j]?:=by rw[f]
  rw[List.getElem?_take,if_pos (by omega),a2z,a0v i] at d
  simpa using d
theorem K6.form{w:World}{v:Value}{l:List UInt8}(h:K6 w v l):∃a cap,v=.slice a l.length cap:=by
 rcases h with⟨rfl,rfl⟩|⟨b,off,cap,rfl,_⟩
 ·exact⟨_,_,rfl⟩
 ·exact⟨_,_,rfl⟩
end
end
section
open Go.RowKit
def A8:Nat:=18446744073709551615
def Bq(c:Aa):List UInt8:=Cj c.row.data.toList++0::1::(Cj c.col.data.toList++0::1::(E8 (A8-c.ts)++E8 (A8-c.seq)))
def Oj(c:Aa):ByteArray:=if B8 c=true then⟨(Bq c).toArray⟩ else⟨#[]⟩
def Je(c:Aa):Nat->List UInt8
 |0=>[]
 |1=>Cj c.row.data.toList++[0,1]
 |_=>Cj c.row.data.toList++[0,1]++Cj c.col.data.toList++[0,1]
theorem gW{c:Aa}(h:B8 c=true):(1<=c.row.size/\c.row.size<=40)/\(1<=c.col.size/\c.col.size<=40)/\c.val.size<=100/\(c.del=true->c.val.size=0):=by
 unfold B8 Im at h;simp only[Bool.and_eq_true,decide_eq_true_eq,Bool.or_eq_true,Bool.not_eq_true'] at h;obtain⟨⟨⟨g,f⟩,d⟩,a⟩:=h;refine⟨g,f,d,fun b=>?_⟩
 rcases a with a|a
 ·rw[b] at a;cases a
 ·exact a
theorem gX(w:World)(x y:UInt8):∀j (h:j<[x,y].length),(w.alloc (.cells #[Bc x,Bc y] 5)).cell? ⟨w.heap.size,0+j,none⟩=some (Bc [x,y][j]):=by
 intro j a
 have b:j=0∨j=1:=by have:j<2:=a;omega
 rcases b with rfl|rfl
 ·exact Ab (Ai rfl _) 0
 ·exact Ab (Ai rfl _) 1
theorem gY(s:ByteArray):(⟨(Cj s.data.toList).toArray⟩:ByteArray).size<=2*s.size:=by
 have h:=Vd s.data.toList;rw[<-Lib.size_eq] at h;show(Cj s.data.toList).toArray.size<=_
 simpa using h
theorem S1(c:Aa)(k:Nat)(d:c.row.size<=40)(f:c.col.size<=40):(Je c k).length<=200:=by
 have b:=Vd c.row.data.toList;have a:=Vd c.col.data.toList;rw[<-Lib.size_eq] at b a;unfold Je
 split<;>simp only[a0x,a2w,List.length_nil]<;>omega
theorem uM(c:Aa){w:World}{b:Nat}{v:Value}(h:Cb w b v (Je c 0++(⟨(Cj c.row.data.toList).toArray⟩:ByteArray).data.toList++[0,1])):Cb w b v (Je c (0+1)):=h
theorem uN(c:Aa){w:World}{b:Nat}{v:Value}(h:Cb w b v (Je c 1++(⟨(Cj c.col.data.toList).toArray⟩:ByteArray).data.toList++[0,1])):Cb w b v (Je c (1+1)):=h
theorem Xo(a:Nat)(h:a<18446744073709551616):bits .xor .u64 IntKind.u64.max (a:Int)=((A8-a:Nat):Int):=by
 have d:=BitVec.toNat_not (x:=BitVec.ofNat 64 a);rw[BitVec.not_def,BitVec.toNat_xor,BitVec.toNat_allOnes,BitVec.toNat_ofNat,Nat.mod_eq_of_lt h] at d;have b:=bits_xor_u64_nat 18446744073709551615 a (by decide) h;have f:(18446744073709551615:Nat) ^^^ a=A8-a:=d;rw[f] at b;exact b
theorem uO(c:Aa):Je c 2++E8 (A8-c.ts)++E8 (A8-c.seq)=Bq c:=by
 unfold Je Bq;simp
theorem gZ(s:ByteArray)(w:World)(a:Ia w)(g:s.size≤1000):
  Calls Tryz.prog 208 #[.string s,.string ⟨#[0]⟩,.string ⟨#[0,255]⟩] w fun e w'=>e=.returned (.string ⟨(Cj s.data.toList).toArray⟩)/\Fp [] w w':=by
 obtain⟨m,a⟩:=a;have b:Lib.countB s ⟨#[0]⟩<=s.size:=Lib.countB_le ⟨#[0]⟩ (by decide) s.size s (a1x _);have f:(⟨#[0,255]⟩:ByteArray).size=2:=rfl;refine(Tryz.strings_ReplaceAll s ⟨#[0]⟩ ⟨#[0,255]⟩ m w (by omega) a (by decide) (by rw[f];omega)).mono ?_;rintro e w' ⟨rfl,d⟩;exact⟨by rw[<-uA],Below.toFp d⟩
theorem uP(a b:ByteArray)(w:World):(Instr.index 290 (.agg #[.string a,.string b]) (.int .i64 0)).run Tryz.prog w=.ok (.string a) w:=by
 simp[Instr.index,run_underlying Tryz.underlying290,asIntOf,go_sem]
theorem uQ(a b:ByteArray)(w:World):(Instr.index 290 (.agg #[.string a,.string b]) (.int .i64 1)).run Tryz.prog w=.ok (.string b) w:=by
 simp[Instr.index,run_underlying Tryz.underlying290,asIntOf,go_sem]
theorem uR(c:Aa)(w:World)(g:B3 c)(a:B8 c=false):Calls Tryz.prog 152 #[Bm c] w fun e w'=>e=.returned (.string ⟨#[]⟩)/\Fp [] w w':=by
 have d:=fun w=>cT c w g
 rw[a] at d;unfold Bm at d ⊢;have h:=a0z d;clear d a;go_enter Tryz.func152,Tryz.ntmps152;go_wp2_with (fail);refine(h.out _).mono ?_;rintro e i ⟨rfl,b⟩;have f:=a0z b;clear b;go_wp2_with (fail);go_ret;exact⟨rfl,(Fp.alloc w _).trans f.out (by simp)⟩
theorem hG(c:Aa)(w:World)(R:B3 c)(l:B8 c=true)(hm:Ia w):Calls Tryz.prog 152 #[Bm c] w fun e w'=>e=.returned (.string ⟨(Bq c).toArray⟩)∧Fp [] w w':=by
 have O:=fun w=>cT c w R
 obtain⟨D,E,_⟩:=gW l;rw[l] at O;have ht:=R.ts;have hq:=R.seq;unfold Bm at O ⊢;have N1:=a0z O;have HM:=a0z hm;clear O l hm
 obtain⟨W,Q⟩:∃W,W=w.alloc (.cells #[.string c.row,.string c.col,.int .u64 c.ts,.int .u64 c.seq,.bool c.del,.string c.val] 80):=⟨_,rfl⟩
 have U:W.heap[w.heap.size]?=some (.cells #[.string c.row,.string c.col,.int .u64 c.ts,.int .u64 c.seq,.bool c.del,.string c.val] 80 (0,0)):=by
  rw[Q];exact Ai rfl _
 have s:Fp [] w W:=by rw[Q];exact Fp.alloc _ _
 have m:∀w',Fp [] W w'->w'.cell? ⟨w.heap.size,0,none⟩=some (.string c.row)/\w'.cell? ⟨w.heap.size,1,none⟩=some (.string c.col)/\w'.cell? ⟨w.heap.size,2,none⟩=some (.int .u64 c.ts)/\w'.cell? ⟨w.heap.size,3,none⟩=some (.int .u64 c.seq)/\w.heap.size<w'.heap.size:=by
  intro w' P;have L:=(P.block _ (Ac U) (by simp)).trans U;exact⟨Ab L 0,Ab L 1,Ab L 2,Ab L 3,Ac L⟩
 have j:=a0z m;have aa:=a0z s;have HW:=a0z Q;have M:=a0z (Ia.fp HM.out s (by simp));clear m s U Q;go_enter Tryz.func152,Tryz.ntmps152;go_wp2_with (fail);rw[<-HW.out];refine(N1.out _).mono ?_;rintro e w1 ⟨rfl,t⟩;have N:=a0z t;obtain⟨c0,c1,-,-,r⟩:=j.out _ t;clear t;go_wp2_with (fail);have ag:=a0z r;have af:W.heap.size<=w1.heap.size:=N.out.size
 have ae:W.heap.size=w.heap.size+1:=by rw[HW.out];simp
 clear c0 c1 r
 go_loopg [3,15] 2 (fun g vb vi wr=>∃k:Nat,g+k=2/\vi=.int .i64 k/\Cb wr W.heap.size vb (Je c k)/\Fp [] W wr)
 case atStart=>
  refine⟨0,rfl,rfl,?_,N.out.alloc' _⟩;exact Cb.made w1 W.heap.size [] (by omega) (by decide)
 case round=>
  obtain⟨k,hg,rfl,ho,P⟩:=hrel;have Y:=a0z ho;have B:=a0z P;clear ho P
  have h3:k=0∨k=1∨k=2:=by omega
  rcases h3 with rfl|rfl|rfl
  ·rw[show((0:Nat):Int)=0 from rfl]
   have hx:=fun w=>uP c.row c.col w
   go_wp2_with (fail);refine(gZ c.row _ (M.out.fp B.out (by simp)) (by omega)).mono ?_;rintro e w2 ⟨rfl,i⟩;have o:=a0z (B.out.trans i (by simp));have y:=a0z (Y.out.fp i)
   have u:W.heap.size<=w2.heap.size:=by have:=o.out.size;omega
   have a:(Je c 0).length+(⟨(Cj c.row.data.toList).toArray⟩:ByteArray).size<=1000000000:=by
    have:=S1 c 0 D.2 E.2;have:=gY c.row;omega
   have Z:=a0z a;clear i a
   have a:(Je c 0++(⟨(Cj c.row.data.toList).toArray⟩:ByteArray).data.toList).length+2<=1000000000:=by
    have h4:=S1 c 0 D.2 E.2;have V:=Vd c.row.data.toList;rw[<-Lib.size_eq] at V;show(Je c 0++Cj c.row.data.toList).length+2<=_;simp only[a0x];omega
   have z:=a0z a;clear a
   go_wp2_with (first
    |(at_builtin;refine aI rfl _ _ rfl W.heap.size _ _ rfl y.out _ rfl Z.out u ?_;intro v3 q d h;have n:=a0z (o.out.belowTrans h);have T:W.heap.size<=q.heap.size:=n.out.size;have x:=a0z d;have C:=a0z (gX q 0 1);clear d h)
    |(at_builtin;refine Xn rfl _ _ rfl W.heap.size _ _ rfl (x.out.alloc _) q.heap.size 0 2 2 [0,1] rfl rfl C.out z.out (by simp;omega) ?_;intro v4 w4 b f))
   have A:=a0z ((n.out.alloc' _).belowTrans f);have v:=a0z b;clear b f;go_wp2_with (fail)
   go_roundg (gk-1)
   case measure=>omega
   case rel=>exact⟨1,by omega,by go_num,uM c v.out,A.out⟩
  ·rw[show((1:Nat):Int)=1 from rfl]
   have hx:=fun w=>uQ c.row c.col w
   go_wp2_with (fail);refine(gZ c.col _ (M.out.fp B.out (by simp)) (by omega)).mono ?_;rintro e w2 ⟨rfl,i⟩;have o:=a0z (B.out.trans i (by simp));have y:=a0z (Y.out.fp i)
   have u:W.heap.size<=w2.heap.size:=by have:=o.out.size;omega
   have a:(Je c 1).length+(⟨(Cj c.col.data.toList).toArray⟩:ByteArray).size<=1000000000:=by
    have:=S1 c 1 D.2 E.2;have:=gY c.col;omega
   have Z:=a0z a;clear i a
   have a:(Je c 1++(⟨(Cj c.col.data.toList).toArray⟩:ByteArray).data.toList).length+2<=1000000000:=by
    have h4:=S1 c 1 D.2 E.2;have V:=Vd c.col.data.toList;rw[<-Lib.size_eq] at V;show(Je c 1++Cj c.col.data.toList).length+2<=_;simp only[a0x];omega
   have z:=a0z a;clear a
   go_wp2_with (first
    |(at_builtin;refine aI rfl _ _ rfl W.heap.size _ _ rfl y.out _ rfl Z.out u ?_;intro v3 q d h;have n:=a0z (o.out.belowTrans h);have T:W.heap.size<=q.heap.size:=n.out.size;have x:=a0z d;have C:=a0z (gX q 0 1);clear d h)
    |(at_builtin;refine Xn rfl _ _ rfl W.heap.size _ _ rfl (x.out.alloc _) q.heap.size 0 2 2 [0,1] rfl rfl C.out z.out (by simp;omega) ?_;intro v4 w4 b f))
   have A:=a0z ((n.out.alloc' _).belowTrans f);have v:=a0z b;clear b f;go_wp2_with (fail)
   go_roundg (gk-1)
   case measure=>omega
   case rel=>exact⟨2,by omega,by go_num,uN c v.out,A.out⟩
  ·obtain⟨-,-,c2,c3,r⟩:=j.out _ B.out;have S:W.heap.size<=wr.heap.size:=B.out.size;have NX:=a0z (Xo c.ts ht);have NY:=a0z (Xo c.seq hq);go_wp2_with (fail);rw[NX.out];refine(gV wr W.heap.size _ _ (A8-c.ts) Y.out S (by have:=S1 c 2 D.2 E.2;omega) (by unfold A8;omega)).mono ?_;rintro e w5 ⟨v5,rfl,G,K⟩;have X:=a0z G;have p:=B.out.belowTrans K;have ac:=a0z p;have I:W.heap.size<=w5.heap.size:=p.size;obtain⟨-,-,d2,d3,ad⟩:=j.out _ p;clear G K p c2 c3;go_wp2_with (fail);rw[NY.out];refine(gV w5 W.heap.size _ _ (A8-c.seq) X.out I (by have:=S1 c 2 D.2 E.2;simp only[a0x,E8,List.length_reverse,P6];omega) (by unfold A8;omega)).mono ?_;rintro e w6 ⟨v6,rfl,F,J⟩;have ab:=a0z (ac.out.belowTrans J);have hs:=aJ F;clear F J d2 d3;go_wp2_with (fail);go_ret;exact⟨Aa4 (by rw[<-uO,List.append_assoc]),aa.out.trans ab.out (by simp)⟩
end
section
section
open Go.RowKit
def Bn(s:ByteArray):Nat->Nat
 |0=>0
 |k+1=>Bn s k+(A5 s k).toNat*256^k
theorem K7(s:ByteArray):∀k,Bn s k<256^k
 |0=>Nat.one_pos
 |k+1=>by
  have d:=K7 s k;have b:=(A5 s k).toNat_lt;show Bn s k+(A5 s k).toNat*256^k<256^(k+1);have a:(A5 s k).toNat*256^k<=255*256^k:=Nat.mul_le_mul_right _ (by omega);rw[Nat.pow_succ];omega
theorem hO(s:ByteArray)(k:Nat):Bn s k ||| ((A5 s k).toNat*256^k)=Bn s (k+1):=by
 have b:=K7 s k
 have a:(256:Nat)^k=2^(8*k):=by rw[Nat.pow_mul]
 rw[a] at b ⊢;have d:=Nat.two_pow_add_eq_or_of_lt b (A5 s k).toNat;show _ =Bn s k+(A5 s k).toNat*256^k;rw[a,Nat.or_comm,Nat.mul_comm,<-d];omega
theorem aM{s:ByteArray}{k:Nat}(a:k<s.size)(i:k<8):
  bits .or .u64 (Bn s k:Int) (IntKind.u64.wrap (IntKind.u64.wrap (s[k].toNat:Int)*2^(8*k)))=(Bn s (k+1):Int):=by
 have p:s[k].toNat<256:=s[k].toNat_lt
 have d:A5 s k=s[k]:=by
  unfold A5;rw[a1z,a0v (by simpa using a)];simp;rfl
 have o:=K7 s k;have n:=K7 s (k+1);have b:=hO s k;rw[d] at b
 have h:(256:Nat)^k=2^(8*k):=by rw[Nat.pow_mul]
 have m:(256:Nat)^(k+1)<=256^8:=Nat.pow_le_pow_right (by decide) (by omega)
 have l:(256:Nat)^8=18446744073709551616:=by decide
 have g:s[k].toNat*256^k<18446744073709551616:=by
  have:Bn s (k+1)=Bn s k+s[k].toNat*256^k:=by rw[<-d];rfl
  omega
 have f:IntKind.u64.wrap (s[k].toNat:Int)=(s[k].toNat:Int):=by rw[IntKind.wrap_u64];omega
 have w2:((s[k].toNat:Int)*2^(8*k))=((s[k].toNat*256^k:Nat):Int):=by
  rw[h];push_cast;rfl
 rw[f,w2,IntKind.wrap_u64,show((s[k].toNat*256^k:Nat):Int)%18446744073709551616=((s[k].toNat*256^k:Nat):Int) by omega];have j:(256:Nat)^k<=256^8:=Nat.pow_le_pow_right (by decide) (by omega);rw[bits_or_u64_nat _ _ (by omega) g,b]
theorem hQ(w:World)(s:ByteArray)(j:8≤s.size)(f:s.size≤9223372036854775807):
  Calls Tryz.prog 209 #[.string s] w fun e w'=>e=.returned (.int .u64 (Bn s 8))/\Fp [] w w':=by
 go_enter Tryz.func209,Tryz.ntmps209;go_wp2
 go_loopg [2,4] 8 (fun g n i wr=>∃k:Nat,g+k=8/\n=.int .u64 (Bn s k)/\i=.int .i64 k/\Fp [] w wr)
 case atStart=>exact⟨0,rfl,rfl,rfl,Fp.refl _ _⟩
 case round=>
  obtain⟨k,l,rfl,rfl,b⟩:=hrel;have d:=a0z b;clear b
  by_cases h:k<8
  ·have a:k<s.size:=by omega
   go_wp2_with (fail)
   go_roundg (gk-1)
   case measure=>omega
   case rel=>exact⟨k+1,by omega,by rw[aM a h],by go_num,d.out⟩
  ·obtain rfl:k=8:=by omega
   go_wp2_with (fail);go_ret;exact⟨rfl,d.out⟩
end
section
open Go.RowKit
end
section
open Go.RowKit
end
end
section
open Go.RowKit
theorem Nn{n:Nat}(h:n<256):Bc (a0u n)=.int .u8 n:=by
 unfold Bc;rw[UInt8.toNat_ofNat',Nat.mod_eq_of_lt h]
theorem K6.one(w:World){n:Nat}(h:n<256):K6 (w.alloc (.cells #[.int .u8 n] 5)) (.slice (some ⟨w.heap.size,0,none⟩) 1 1) [a0u n]:=by
 refine Or.inr ⟨w.heap.size,0,1,rfl,by simp,aH ?_⟩;rw[Nn h];exact Ab (Ai rfl _) 0
theorem Cb.one(w:World)(base:Nat)(a:base<=w.heap.size){n:Nat}(h:n<256):Cb (w.alloc (.cells #[.int .u8 n] 5)) base (.slice (some ⟨w.heap.size,0,none⟩) 1 1) [a0u n]:=by
 have:=Cb.made w base [a0u n] a (by simp[maxLen]);simp only[List.map_cons,List.map_nil,Nn h] at this;exact this
theorem Cb.two(w:World)(base:Nat)(a:base<=w.heap.size){n m:Nat}(h:n<256)(b:m<256):Cb (w.alloc (.cells #[.int .u8 n,.int .u8 m] 5)) base (.slice (some ⟨w.heap.size,0,none⟩) 2 2) [a0u n,a0u m]:=by
 have:=Cb.made w base [a0u n,a0u m] a (by simp[maxLen]);simp only[List.map_cons,List.map_nil,Nn h,Nn b] at this;exact this
theorem Cb.drew{w:World}{base:Nat}{v:Value}{l:List UInt8}(h:Cb w base v l):Cb w.drew base v l:=h.fp (Fp.drew w)
theorem K6.drew{w:World}{v:Value}{l:List UInt8}(h:K6 w v l):K6 w.drew v l:=h.fp (Fp.drew w)
theorem L0.reads{w:World}{b n cap:Nat}{f:Nat→UInt8}(h:L0 w b n f):K6 w (.slice (some ⟨b,0,none⟩) n cap) ((a2x n).map f):=
 Or.inr ⟨b,0,cap,by simp,h.lt,fun j d=>by
  have a:j<n:=by simpa using d
  rw[Nat.zero_add,h.cell j a];simp⟩
theorem Cb.slice{w:World}{base:Nat}{v:Value}{l:List UInt8}(h:Cb w base v l):∃a n cap,v=.slice a n cap:=by
 obtain⟨a,cap,rfl⟩:=h.reads.form;exact⟨_,_,_,rfl⟩
theorem wrap_u8{n:Nat}(h:n<256):IntKind.u8.wrap (n:Int)=n:=by rw[IntKind.wrap_u8];omega
end
end Go.Proofs.YtkagolpnaicdoaaGreatDoor
