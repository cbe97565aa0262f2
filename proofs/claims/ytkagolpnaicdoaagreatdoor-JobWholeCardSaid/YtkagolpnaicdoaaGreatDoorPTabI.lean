/-
 Slices of cells: slices.Grow, Concat, Clone; what table's methods do with them. slices.DeleteFunc of cells, with table.Row's question. cut: Clone of cells, Search of a row, Split. cut.Split.
-/
import Derived.Test.YtkagolpnaicdoaaGreatDoorPListB
import Derived.Test.YtkagolpnaicdoaaGreatDoorPMrgF
set_option maxRecDepth 100000
set_option maxHeartbeats 8000000
open Go.Lib renaming hid->a0z
open List renaming getElem?_cons_zero->a0x,getElem?_toArray->a0w,getElem?_eq_getElem->a0v,getD_eq_getElem?_getD->a0u,setIfInBounds_toArray->a1z,take_succ_eq_append_getElem->a1w,set_cons_succ->a1v,set_cons_zero->a1u,reverse_cons->a2z,reverse_nil->a2x,cons_append->a2w,nil_append->a2v,take_of_length_le->a2u
open Nat renaming le_refl->a1x
namespace Go.Proofs.YtkagolpnaicdoaaGreatDoor
section
section
open Go.RowKit
theorem Ae9(w:World)(n:Nat)(z:n≤1000000000):
  Calls Tryz.prog 137 #[.slice none 0 0,.int .i64 n] w fun e w'=>∃o,e=.returned o/\Ao w' w.heap.size o []/\Fp [] w w':=by
 by_cases s:n=0
 ·subst s;go_enter Tryz.func137,Tryz.ntmps137;go_wp2_with (fail);go_ret;exact⟨_,rfl,Ao.nil _ _,Fp.refl _ _⟩
 ·obtain⟨t,q,g,f,d⟩:=info_parts Tryz.infoCel
  have h:0<n:=by omega
  have a:=Lib.run_append_nil_zeros (P:=Tryz.prog) w 78 3 78 80 t _ .i64 .i64 Tryz.underlying78 Tryz.underlying3 q g n h (by rw[f];decide) (by omega) (by rw[d];omega);have m:=grownCap_ge w n 0 80;have i:=grownCap_le_maxLen w n 0 80 (by unfold maxLen;omega)
  obtain⟨k,j⟩:∃k,k=grownCap w n 0 80:=⟨_,rfl⟩
  rw[<-j] at a m i;clear j q g f d s
  obtain⟨W,l⟩:∃W,W=(w.drew.alloc (.cells (Builtin.zeroCells (Value.agg #[.string ⟨#[]⟩,.string ⟨#[]⟩,.int .u64 0,.int .u64 0,.bool false,.string ⟨#[]⟩]).cells n++Builtin.zeroCells (Value.agg #[.string ⟨#[]⟩,.string ⟨#[]⟩,.int .u64 0,.int .u64 0,.bool false,.string ⟨#[]⟩]).cells (k-n)) 80)):=⟨_,rfl⟩
  rw[<-l] at a
  have r:Fp [] w W:=by rw[l];exact(Fp.drew w).alloc' _
  have p:Ao W w.heap.size (.slice (some ⟨w.heap.size,0,none⟩) 0 k) []:=by
   refine⟨rfl,Or.inr ⟨w.heap.size,k,_,rfl,a1x _,by rw[l];exact Ai (w:=w.drew) rfl _,Nat.zero_le _,i,?_,by simp⟩⟩;simp[Builtin.zeroCells,Value.cells];omega
  have u:=a0z p;have x:=a0z r;have y:=a0z a;clear p r l a;go_enter Tryz.func137,Tryz.ntmps137;go_wp2_with (at_builtin;refine Lib.wpList_append_run _ rfl _ _ _ _ rfl _ _ rfl rfl _ _ y.out ?_);go_ret;exact⟨_,rfl,u.out,x.out⟩
structure R2(w:World)(a:Option Addr)(vs:List Value)(ls:List (List Aa)):Prop where
 cells:vs=[]∨∃g,a=some ⟨g,0,none⟩/\g<w.heap.size/\∀i (h:i<vs.length),w.cell? ⟨g,i,none⟩=some vs[i]
 len:vs.length=ls.length
 row:∀i (h:i<vs.length),∃ad m c,vs[i]=.slice (some ad) m c/\Bh w (some ad) m (ls.getD i [])
theorem R2.fp{w w':World}{a:Option Addr}{vs:List Value}{ls:List (List Aa)}(h:R2 w a vs ls)(f:Fp [] w w'):R2 w' a vs ls:=by
 refine⟨?_,h.len,fun i d=>?_⟩
 ·rcases h.cells with l|⟨g,e,k,j⟩
  ·exact Or.inl l
  ·exact Or.inr ⟨g,e,Nat.lt_of_lt_of_le k f.size,fun i d=>(f.cell (p:=⟨g,i,none⟩) k (by simp)).trans (j i d)⟩
 ·obtain⟨n,m,c,e,j⟩:=h.row i d;exact⟨n,m,c,e,j.fp f⟩
theorem R2.get{w:World}{a:Option Addr}{vs:List Value}{f:List (List Aa)}(h:R2 w a vs f){k:Nat}(d:k<vs.length):∃g,a=some ⟨g,0,none⟩/\∀w',Fp [] w w'->w'.cell? ⟨g,k,none⟩=some vs[k]:=by
 rcases h.cells with m|⟨g,e,i,l⟩
 ·subst m;exact absurd d (Nat.not_lt_zero _)
 ·exact⟨g,e,fun w' j=>(j.cell (p:=⟨g,k,none⟩) i (by simp)).trans (l k d)⟩
def M7(ls:List (List Aa))(k:Nat):Nat:=(ls.take k).flatten.length
theorem pQ(a:List (List Aa))(k:Nat)(h:k<a.length):M7 a (k+1)=M7 a k+(a.getD k []).length:=by
 unfold M7;rw[a1w h,List.flatten_append,List.length_append];simp[a0u,a0v h]
theorem pR(a:List (List Aa))(k:Nat):M7 a k<=a.flatten.length:=by
 unfold M7
 conv=>rhs;rw[<-List.take_append_drop k a,List.flatten_append,List.length_append]
 omega
theorem Afa(a:List (List Aa))(k:Nat)(h:k<a.length):(a.take (k+1)).flatten=(a.take k).flatten++a.getD k []:=by
 rw[a1w h,List.flatten_append];simp[a0u,a0v h]
theorem Afb(w:World)(a:Option Addr)(cap:Nat)(vs:List Value)(j:List (List Aa))(L:R2 w a vs j)(hn:vs.length≤1000000)(ht:j.flatten.length≤1000000):
  Calls Tryz.prog 79 #[.slice a vs.length cap] w fun e w'=>∃Y,e=.returned Y/\Ao w' w.heap.size Y j.flatten/\Fp [] w w':=by
 have E:=a0z L;have i:=a0z L.len
 obtain⟨n,y⟩:∃n,vs.length=n:=⟨_,rfl⟩
 have F:=a0z y;rw[y] at hn ⊢;clear L y;go_enter Tryz.func79,Tryz.ntmps79;go_wp2_with (fail)
 go_loopg [3,11] n (fun g vt J wr=>∃k:Nat,g+k=n/\J=.int .i64 k/\vt=.int .i64 (M7 j k)/\w=wr)
 case atStart=>exact⟨0,by omega,rfl,rfl,rfl⟩
 case round=>
  obtain⟨k,hg,rfl,rfl,rfl⟩:=hrel
  by_cases M:k<n
  ·have f:k<vs.length:=by rw[F.out];exact M
   obtain⟨g,rfl,d⟩:=E.out.get f;obtain⟨ad,m,c,A,r⟩:=E.out.row k f;have l:=d w (Fp.refl _ _);rw[A] at l;have u:=pQ j k (by rw[<-i.out];exact f);rw[<-r.len] at u;have K:=pR j (k+1)
   obtain⟨t,o⟩:∃t,t=M7 j k:=⟨_,rfl⟩
   rw[<-o] at u ⊢;have P:=a0z u
   have ab:t+m<=1000000:=by omega
   have I:(k:Int)<(n:Int):=by omega
   clear A u K o r d
   have aa:¬((t:Int)+(m:Int))<0:=by omega
   go_wp2_with (fail)
   go_roundg (gk-1)
   case measure=>omega
   case rel=>exact⟨k+1,by omega,by go_num,by rw[P.out];go_num,rfl⟩
  ·have q:k=n:=by omega
   have x:M7 j k=j.flatten.length:=by unfold M7;rw[q,<-F.out,i.out,List.take_length]
   have hb:=x▸ht
   obtain⟨t,o⟩:∃t,t=M7 j k:=⟨_,rfl⟩
   rw[<-o] at hb ⊢
   have I:¬(k:Int)<(n:Int):=by omega
   clear x o q;go_wp2_with (fail);(with_reducible refine(Ae9 w t (by omega)).mono ?_);rintro e w1 ⟨v1,rfl,B,C⟩;have R:=a0z B;have U:=a0z C;clear B C;go_wp2_with (fail)
   go_loopg [6,27] n (fun g X J V=>∃(k:Nat) (v:Value),g+k=n/\v=X/\J=.int .i64 k/\Ao V w.heap.size v (j.take k).flatten/\Fp [] w V)
   case atStart=>exact⟨0,_,by omega,rfl,rfl,R.out,U.out⟩
   case round=>
    obtain⟨k,X,hg,rfl,rfl,Z,N⟩:=hrel;have HO:=a0z Z;have G:=a0z N;have O:=N.size;clear Z N
    by_cases M:k<n
    ·have f:k<vs.length:=by rw[F.out];exact M
     obtain⟨g,rfl,d⟩:=E.out.get f;obtain⟨ad,m,c,A,r⟩:=E.out.row k f;have l:=d wr G.out;rw[A] at l;have Q:=a0z (r.fp G.out);have S:=a0z (Afa j k (by rw[<-i.out];exact f))
     have hL:(j.take k).flatten.length+(j.getD k []).length<=1000000000:=by
      have h1:=pQ j k (by rw[<-i.out];exact f);have D:=pR j (k+1);unfold M7 at h1 D;omega
     have HL:=a0z hL
     have I:(k:Int)<(n:Int):=by omega
     clear hL r A d;go_wp2_with (at_builtin;refine Rr rfl _ _ rfl w.heap.size _ _ rfl HO.out _ _ _ _ rfl Q.out (by intro h;cases h) HL.out O ?_;intro v2 w2 p s);have z:=a0z p;have T:=a0z (G.out.belowTrans s);clear p s;go_wp2_with (fail)
     go_roundg (gk-1)
     case measure=>omega
     case rel=>exact⟨k+1,_,by omega,rfl,by go_num,by rw[S.out];exact z.out,T.out⟩
    ·have q:k=n:=by omega
     have D:=HO.out;rw[q,<-F.out,i.out,List.take_length] at D;have z:=a0z D
     have I:¬(k:Int)<(n:Int):=by omega
     clear D q;go_wp2_with (fail);go_ret;exact⟨_,rfl,z.out,G.out⟩
theorem Afc(w:World)(v:Value)(base:Nat)(l:List Aa)(t:Ao w base v l)(k:∀c∈l,B3 c)(y:l.length≤1000000):
  Calls Tryz.prog 136 #[v] w fun e w'=>∃s,e=.returned s/\Ao w' w.heap.size s l/\Fp [] w w':=by
 obtain⟨a,cap,rfl,f,i⟩:=t.at2 k;have r:=a0z i
 have u:∀(w:World) (a:Option Addr) (n c j c':Nat),(binOp .eql 78 (.slice a n c) (.slice none j c')).run Tryz.prog w=.ok (.bool a.isNone) w:=fun w a n c j c'=>Lib.run_eql_slice_nil w _ _ a n c j c' Tryz.underlying78
 cases a with
 |none=>
  obtain rfl:=f rfl
  have m:l=[]:=by
   rcases i.cells with h|⟨b,o,h,_⟩
   ·exact h
   ·cases h
  subst m;go_enter Tryz.func136,Tryz.ntmps136;go_wp2_with (fail);go_ret;exact⟨_,rfl,Ao.nil _ _,Fp.refl _ _⟩
 |some ad=>
  clear t i f;go_enter Tryz.func136,Tryz.ntmps136;go_wp2_with (at_builtin;refine Rr rfl _ _ rfl w.heap.size _ [] rfl (Ao.made w _ (a1x _)) _ _ _ l rfl (r.out.fp (Fp.alloc _ _)) (by intro h;cases h) (by simp;omega) (by simp) ?_;intro x w2 d g;have p:=a0z d;have q:=a0z g;clear d g);go_ret;exact⟨_,rfl,p.out,(Fp.alloc w _).belowTrans (q.out.mono (by simp))⟩
def Un(a b:ByteArray):Bool:=!decide (a=b)
theorem Afd(a b:ByteArray):(!(a.toList==b.toList))=Un a b:=by
 unfold Un
 by_cases h:a=b
 ·subst h;simp
 ·rw[decide_eq_false h]
  have:a.toList≠b.toList:=fun e=>h (Xl e)
  simpa using this
end
section
open Go.RowKit
theorem Afe{a:Array Value}{l:List Aa}(h:a.toList.take (l.length*6)=l.flatMap Ed)(i:Nat)(f:i<l.length)(j:Nat)(d:j<6):a[i*6+j]?=(Ed l[i])[j]?:=by
 rw[<-dC l i j d f,<-h,List.getElem?_take,if_pos (by omega),Array.getElem?_toList]
theorem Ao.cel{w:World}{base g n cap j:Nat}{l:List Aa}(h:Ao w base (.slice (some ⟨g,0,none⟩) n cap) l)(p:j<l.length):Jl w g (j*6) l[j]/\∀o,w.frozen? ⟨g,o,none⟩=false:=by
 obtain⟨x,f,q,e,u,d,s,t,r,i⟩:=h.open (by omega);cases e
 have a:=fun k m=>Afe i j p k m
 refine⟨⟨?_,?_,?_,?_,?_,?_⟩,fun o=>Ar d o⟩
 ·rw[Ab d];exact a 0 (by decide)
 ·rw[Ab d];exact a 1 (by decide)
 ·rw[Ab d];exact a 2 (by decide)
 ·rw[Ab d];exact a 3 (by decide)
 ·rw[Ab d];exact a 4 (by decide)
 ·rw[Ab d];exact a 5 (by decide)
end
end
section
open Go.RowKit Go.Lib
theorem Wq(w:World)(a:Option Addr)(n cap:Nat)(l:List Aa)(i:Bh w a n l)(d:a=none→cap=0)(y:n≤1000000):
  Calls Tryz.prog 136 #[.slice a n cap] w fun e w'=>∃u,e=.returned u/\Ao w' w.heap.size u l/\Fp [] w w':=by
 have t:=a0z i;have j:n=l.length:=i.len
 have x:∀(w:World) (a:Option Addr) (n c k c':Nat),(binOp .eql 78 (.slice a n c) (.slice none k c')).run Tryz.prog w=.ok (.bool a.isNone) w:=fun w a n c k c'=>Lib.run_eql_slice_nil w _ _ a n c k c' Tryz.underlying78
 cases a with
 |none=>
  obtain rfl:=d rfl
  have p:l=[]:=by
   rcases i.cells with h|⟨b,o,h,_⟩
   ·exact h
   ·cases h
  subst p;have m:n=0:=j;subst m;clear j i d y;go_enter Tryz.func136,Tryz.ntmps136;go_wp2_with (fail);go_ret;exact⟨_,rfl,Ao.nil _ _,Fp.refl _ _⟩
 |some ad=>
  have r:=a0z j;clear i d j;go_enter Tryz.func136,Tryz.ntmps136;go_wp2_with (at_builtin;refine Rr rfl _ _ rfl w.heap.size _ [] rfl (Ao.made w _ (a1x _)) _ _ _ l rfl (t.out.fp (Fp.alloc _ _)) (by intro h;cases h) (by have:=r.out;simp;omega) (by simp) ?_;intro z w2 f g;have q:=a0z f;have s:=a0z g;clear f g);go_ret;exact⟨_,rfl,q.out,(Fp.alloc w _).belowTrans (s.out.mono (by simp))⟩
theorem Aff(w:World)(D C:Nat)(a:Option Addr)(n cap i:Nat)(l:List Aa)(s:ByteArray)(p:w.heap[D]?=some (.cells #[.slice a n cap] 78 (0,0)))(o:w.heap[C]?=some (.cells #[.string s] 9 (0,0)))(t:Bh w a n l)(J:i<n):
  Calls Tryz.prog 146 #[.int .i64 i,.pointer (some ⟨D,0,none⟩),.pointer (some ⟨C,0,none⟩)] w fun e w'=>e=.returned (.bool (!(Ic (l.getD i Az).row s)))/\Fp [] w w':=by
 have k:i<l.length:=by rw[<-t.len];exact J
 obtain⟨b1,V,e,_,u⟩:=Lj t k;subst e
 have B:l.getD i Az=l[i]:=by rw[a0u,a0v k];rfl
 rw[B]
 obtain⟨c,m⟩:∃c,l[i]=c:=⟨_,rfl⟩
 rw[m] at u ⊢;obtain⟨j,Q,U,seq,P,E⟩:=c;have z:=a0z u;have r:=a0z p;have q:=a0z o
 have S:(i:Int)<(n:Int):=by omega
 obtain⟨bl,x⟩:∃bl,Op.bytesLess j.toList s.toList=bl:=⟨_,rfl⟩
 have f:Ic j s=bl:=x;simp only;rw[f];clear u p o m B t f;go_enter Tryz.func146,Tryz.ntmps146;go_wp2_with (fail);refine C9 (by kernel_rfl) (by kernel_rfl) ?_
 iterate 8
  apply Aw rfl rfl rfl
  ·intro a w h d K M
   try have A:=d.fr 1 rfl
   try have h0:=d.fr 0 rfl
   try have h5:=d.eq 0 5 rfl
   try have h6:=d.eq 1 6 rfl
   try have h7:=d.eq 2 7 rfl
   try have h8:=d.eq 3 8 rfl
   try have y:=d.fr 2 rfl
   try have h9:=d.eq 4 9 rfl
   try have O:=d.eq 5 10 rfl
   try have N:=d.eq 6 11 rfl
   obtain⟨I,k1,k2,Z,Y,X⟩:=z.out _ h;simp only at I;have G:=Ab ((h.block _ (Ac r.out) (by simp)).trans r.out) 0;have F:=Ab ((h.block _ (Ac q.out) (by simp)).trans q.out) 0;simp only[a0w,a0x] at G F;simp only[Oper.wp,execOp];go_simp;exact M _ h (Fp.refl _ _)
 refine⟨?_,?_⟩
 ·repeat(first|exact trivial|refine B7 _ ?_ |refine⟨fun T w2 v _ L ⟨g,A,y⟩=>⟨g,A,(L.block g (Ac y) (by simp)).trans y⟩,?_⟩)
 ·intro w' h;simp only[a2z,a2x,a2v,a2w]
  iterate 8 (refine Am ?_)
  refine A0 ?_;simp only[Aj,Act.put,a1z,a1v,a1u];have R:=a0z h;clear h;go_wp2_with (fail);go_ret;exact⟨rfl,R.out⟩
theorem Afg(w:World)(n y x:Nat)(p:Nat→Bool)(I:n≤1000000)
  (l:∀i W,i<n->Fp [] w W->Calls Tryz.prog 146 #[.int .i64 i,.pointer (some ⟨y,0,none⟩),.pointer (some ⟨x,0,none⟩)] W fun e W'=>e=.returned (.bool (p i))/\Fp [] W W'):
  Calls Tryz.prog 145 #[.int .i64 n,.func (.func 146) #[] #[.pointer (some ⟨y,0,none⟩),.pointer (some ⟨x,0,none⟩)]] w fun e w'=>
   ∃h:Nat,e=.returned (.int .i64 h)/\h<=n/\(h<n->p h=true)/\(0<h->p (h-1)=false)/\Fp [] w w':=by
 have u:=a0z l;clear l;go_enter Tryz.func145,Tryz.ntmps145;go_wp2_with (fail)
 go_loopg [5,6] n (fun g B A wr=>∃i j:Nat,g=j-i/\i<=j/\j<=n/\B=.int .i64 i/\A=.int .i64 j/\(j<n->p j=true)/\(0<i->p (i-1)=false)/\Fp [] w wr)
 case atStart=>exact⟨0,n,by omega,by omega,a1x _,rfl,rfl,fun h=>absurd h (Nat.lt_irrefl _),fun h=>absurd h (Nat.lt_irrefl _),Fp.refl _ _⟩
 case round=>
  obtain⟨i,j,rfl,G,f,rfl,rfl,a,d,k⟩:=hrel;have t:=a0z k;have o:=a0z a;have q:=a0z d;clear k a d
  by_cases F:i<j
  ·have z:(i:Int)<(j:Int):=by omega
   obtain⟨m,E⟩:∃m,(i+j)/2=m:=⟨_,rfl⟩
   have J:((i:Int)+(j:Int))/2=(m:Int):=by omega
   have D:i<=m:=by omega
   have C:m<j:=by omega
   clear E;go_wp2_with (fail);(with_reducible refine(u.out m _ (by omega) t.out).mono ?_);rintro e w2 ⟨rfl,k⟩;have r:=a0z (t.out.trans k (by simp));clear k;cases hp:p m
   ·have s:=a0z hp;clear hp;go_wp2_with (fail)
    go_roundg (j-(m+1))
    case measure=>omega
    case rel=>exact⟨m+1,j,rfl,by omega,f,by simp,rfl,o.out,fun _=>s.out,r.out⟩
   ·have s:=a0z hp;clear hp;go_wp2_with (fail)
    go_roundg (m-i)
    case measure=>omega
    case rel=>exact⟨i,m,rfl,by omega,by omega,rfl,rfl,fun _=>s.out,q.out,r.out⟩
  ·obtain rfl:i=j:=by omega
   have z:¬(i:Int)<(i:Int):=by omega
   go_wp2_with (fail);go_ret;exact⟨i,rfl,f,o.out,q.out,t.out⟩
inductive Gf:List Aa->List ByteArray->List (List Aa)->Prop
 |nil (l:List Aa):Gf l [] [l]
 |cons (l:List Aa) (s:ByteArray) (bs:List ByteArray) (out:List (List Aa)) (h:Nat):h<=l.length->(h<l.length->Ic (l.getD h Az).row s=false)->(0<h->Ic (l.getD (h-1) Az).row s=true)->Gf (l.drop h) bs out->Gf l (s::bs) (l.take h::out)
inductive Ky:List Aa->List ByteArray->List (List Aa)->List Aa->Prop
 |nil (l:List Aa):Ky l [] [] l
 |snoc (l:List Aa) (bs:List ByteArray) (out:List (List Aa)) (r:List Aa) (s:ByteArray) (h:Nat):Ky l bs out r->h<=r.length->(h<r.length->Ic (r.getD h Az).row s=false)->(0<h->Ic (r.getD (h-1) Az).row s=true)->Ky l (bs++[s]) (out++[r.take h]) (r.drop h)
theorem Ky.join{l r:List Aa}{bs:List ByteArray}{f:List (List Aa)}(h:Ky l bs f r):∀{d:List ByteArray} {a:List (List Aa)},Gf r d a→Gf l (bs++d) (f++a):=by
 induction h with
 |nil=>exact fun h=>h
 |snoc bs f r s h _ h1 h2 h3 ih=>
  intro d a g;rw[List.append_assoc,List.append_assoc];exact ih (Gf.cons r s d a h h1 h2 h3 g)
theorem Ky.all{l r:List Aa}{bs:List ByteArray}{a:List (List Aa)}(h:Ky l bs a r):Gf l bs (a++[r]):=by
 have:=h.join (Gf.nil r);rw[List.append_nil] at this;exact this
theorem Ky.sub{l r:List Aa}{bs:List ByteArray}{a:List (List Aa)}(h:Ky l bs a r):r.length<=l.length/\(∀c∈r,c∈l)/\a.length=bs.length:=by
 induction h with
 |nil=>exact⟨a1x _,fun c h=>h,rfl⟩
 |snoc bs a r s h _ h1 h2 h3 ih=>exact⟨by rw[List.length_drop];omega,fun c d=>ih.2.1 c (List.mem_of_mem_drop d),by simp[ih.2.2]⟩
end
section
open Go.RowKit Go.Lib
def pS(rv nv:Value):Bool->Value->Value:=fun d _=>cond d nv rv
structure Kz(w W0:World)(base cl:Nat)(rv nv:Value)(hd:List Aa)(v:Value)(xs:List (List Aa))(b:Nat->Bool)(vs:Nat->Value)(W:World):Prop where
 l:Ep Gu (fun r=>r=hd) w W0 base cl 78 (pS rv nv) 4 5 6 11 v xs b vs W
 m:b 10=true->b 6=true/\vs 10=vs 6
variable {w W0 W W2 : World} {base cl : Nat} {rv nv : Value} {hd : List Aa} {v : Value} {xs : List (List Aa)} {b : Nat -> Bool} {vs : Nat -> Value}
theorem Qr:Tm 4 5 6 11:=⟨by decide,by decide,by decide,by decide,by decide,by decide⟩
theorem Kz.other{k:Nat}{x:Value}(h:Kz w W0 base cl rv nv hd v xs b vs W)(f:k≠10)(i:k=6->b 6=false)(g:Ep Gu (fun r=>r=hd) w W0 base cl 78 (pS rv nv) 4 5 6 11 v xs (Ah b k) (C0 vs k x) W2):Kz w W0 base cl rv nv hd v xs (Ah b k) (C0 vs k x) W2:=by
 refine⟨g,fun e=>?_⟩;rw[Ag f.symm] at e;obtain⟨d,j⟩:=h.m e
 have a:k≠6:=fun e=>by rw[i e] at d;cases d
 exact⟨Ji d,by rw[Bi f.symm,Bi a.symm];exact j⟩
theorem Kz.plain{k:Nat}{x:Value}(h:Kz w W0 base cl rv nv hd v xs b vs W)(a:k≠10/\k≠4/\k≠5/\k≠6/\k≠11):Kz w W0 base cl rv nv hd v xs (Ah b k) (C0 vs k x) W:=h.other a.1 (fun e=>absurd e a.2.2.2.1) (h.l.plain ⟨a.2.1,a.2.2.1,a.2.2.2.1,a.2.2.2.2⟩)
theorem Kz.assign(h:Kz w W0 base cl rv nv hd v xs b vs W)(d:b 6=true){x:Value}(a:x=vs 6):Kz w W0 base cl rv nv hd v xs (Ah b 10) (C0 vs 10 x) W:=
 ⟨h.l.plain (by decide),fun _=>⟨Ji d,by rw[Hj,Bi (by decide)];exact a⟩⟩
theorem Kz.cel0(h:Kz w W0 base cl rv nv hd v xs b vs W)(a:b 11=false):W.heap[cl]?=some (.cells #[rv] 78 (0,0)):=by
 have:=h.l.cel;rw[a] at this;exact this
structure SpM(w:World)(l:List Aa)(borders:List ByteArray)(k:Nat)(v:Value)(W:World):Prop where
 ex:∃out r a n cap,D4 Gu W (w.heap.size+1) v out/\Ky l (borders.take k) out r/\W.heap[w.heap.size]?=some (.cells #[.slice a n cap] 78 (0,0))/\Bh w a n r/\n<=cap/\(a=none/\cap=0∨∃b o,a=some ⟨b,o,none⟩)
 fp:Fp [] w W
 sz:w.heap.size<W.heap.size
theorem pT(w:World)(a:Option Addr)(n cap:Nat)(a2:Option Addr)(I aa:Nat)(l:List Aa)(borders:List ByteArray)(hl:Bh w a n l)(aq:a=none∧cap=0∨∃b o,a=some ⟨b,o,none⟩)(S:n≤cap)(hb:Eq w a2 I borders)(hn:n≤1000000)(bg:I≤1000000)(aS:G8 borders=true)(au:risC l=true):
  Calls Tryz.prog 88 #[.slice a n cap,.slice a2 I aa] w fun e w'=>∃v t,e=.returned (.tuple #[v,.int .i64 0])/\D4 Gu w' w.heap.size v t/\Gf l borders t/\Fp [] w w':=by
 have bd:=a0z (fun W (h:Eq W a2 I borders)=>cM W a2 I aa borders h bg);have a5:=a0z (fun W (h:Bh W a n l)=>Xu W a n cap l h (by omega));rw[aS] at bd;rw[au] at a5;have HL:=a0z hl;have HB:=a0z hb;have HC:=a0z S;have an:=a0z hb.len;have b1:=a0z hl.len;have bx:=a0z aq;clear hl hb aS au S aq;go_enter Tryz.func88,Tryz.ntmps88;go_wp2_with (fail);(with_reducible refine(bd.out _ (HB.out.of_fp (Fp.alloc _ _))).mono ?_);rintro e w1 ⟨rfl,ah⟩;have al:=a0z ((ah.block _ (by simp) (by simp)).trans (Ai rfl _):w1.heap[w.heap.size]?=some (.cells #[.slice a n cap] 78 (0,0)));have q1:w1.cell? ⟨w.heap.size,0,none⟩=some (.slice a n cap):=Ab al.out 0;have ba:Hid (Fp [] w w1):=(Fp.alloc _ _).trans ah (by simp);clear ah;go_wp2_with (fail);(with_reducible refine(a5.out _ (HL.out.fp ba.out)).mono ?_);rintro e w2 ⟨rfl,ag⟩;have a4:=a0z ((ag.block _ (Ac al.out) (by simp)).trans al.out);have b2:Hid (Fp [] w w2):=ba.out.trans ag (by simp);have bi:w.heap.size<w2.heap.size:=Ac a4.out;clear ag q1;go_wp2_with (fail)
 go_loopg [4,19] I (fun gg v vi wr=>∃k:Nat,vi=.int .i64 k/\gg+k=I/\SpM w l borders k v wr)
 case atStart=>exact⟨0,rfl,by omega,⟨[],l,a,n,cap,D4.nil _ _,Ky.nil l,a4.out,HL.out,HC.out,bx.out⟩,b2.out,bi⟩
 case round=>
  obtain⟨k,rfl,hg,hm⟩:=hrel;obtain⟨t,r,U,A,C,ho,hu,hx,ai,b5,ap⟩:=hm.ex;have HF:=a0z hm.fp;have HO:=a0z ho;have HU:=a0z hu;have HX:=a0z hx;have P:=a0z ai;have V:=a0z ap;have bf:=hm.sz;have aw:A=r.length:=ai.len;have G:=a0z aw;have Z:=hu.sub
  have ax:A<=1000000:=by have:=b1.out;omega
  have b8:t.length<=1000000:=by have:=Z.2.2;rw[List.length_take] at this;have:=an.out;omega
  clear hm ho hu hx ai ap Z aw
  by_cases hk:k<I
  ·have zk:(k:Int)<(I:Int):=by omega
   have n1:IntKind.i64.wrap ((k:Int)+1)=((k+1:Nat):Int):=by rw[IntKind.wrap_i64];omega
   have R:k<borders.length:=by have:=an.out;omega
   obtain⟨b,o,e,S⟩:=V6 HB.out R;subst e;have q0:=S k R wr HF.out
   have ao:borders.take (k+1)=borders.take k++[Es borders k]:=by
    rw[List.take_add_one,a0v R,Qj R];rfl
   have am:=a0z ao
   obtain⟨s,hs⟩:∃s,Es borders k=s:=⟨_,rfl⟩
   rw[hs] at q0 am
   have T:∀X:Obj,(wr.alloc X).heap[w.heap.size]?=some (.cells #[.slice U A C] 78 (0,0)):=fun X=>Bw HX.out
   have q2:∀X:Obj,(wr.alloc X).cell? ⟨w.heap.size,0,none⟩=some (.slice U A C):=fun X=>Ab (T X) 0
   have bz:=a0z (Afg (wr.alloc (.cells #[.string s] 9)) A w.heap.size wr.heap.size (fun i=>!(Ic (r.getD i Az).row s)) ax fun i W hi O=>Aff W w.heap.size wr.heap.size U A C i r s ((O.block _ (Ac (T _)) (by simp)).trans (T _)) ((O.block _ (by simp) (by simp)).trans (Ai rfl _)) (P.out.fp ((HF.out.alloc' _).trans O (by simp))) hi);clear S hs ao T;go_wp2_with (fail);(with_reducible refine bz.out.mono ?_);rintro e w3 ⟨h,rfl,b9,az,ay,N⟩
   have a8:Hid (h<A->Ic (r.getD h Az).row s=false):=fun e=>by simpa using az e
   have a7:Hid (0<h->Ic (r.getD (h-1) Az).row s=true):=fun e=>by simpa using ay e
   have D:Hid (Fp [] wr w3):=(Fp.alloc _ _).trans N (by simp);have a9:Hid (Fp [] w w3):=HF.out.trans D.out (by simp);have a1:=a0z ((D.out.block _ (Ac HX.out) (by simp)).trans HX.out);have F:=a0z (HO.out.fp D.out (by simp))
   have E:w.heap.size+1<=w3.heap.size:=by have:=D.out.size;omega
   have b7:(h:Int)<=(C:Int):=by omega
   have b6:(h:Int)<=(A:Int):=by omega
   obtain⟨va,vc,rfl⟩:=F.out.slice;clear az ay N q2 q0
   by_cases aj:C=h
   ·have ad:A=h:=by omega
    have Y:Hid (r.drop h=[]/\r.take h=r):=⟨List.drop_of_length_le (by have:=G.out;omega),a2u (by have:=G.out;omega)⟩
    have Q:=a0z (fun w' (O:Fp [] w w')=>Wq w' U h h (r.take h) (by rw[Y.out.2,<-ad];exact P.out.fp O) (fun e=>by rcases V.out with x|⟨b,o,x⟩;exact aj▸x.2;rw[x] at e;cases e) (by omega));subst aj;have a6:=a0z ad;clear ad
    obtain⟨d1,aF⟩:∃d,A-C=d:=⟨_,rfl⟩
    go_wp2_with (fail);refine Uj (Kz w w3 (w.heap.size+1) w.heap.size (.slice U A C) (.slice U d1 0) (r.take C) (.slice va t.length vc) t) (fun _ _=>True) (by kernel_rfl) (by kernel_rfl) (fun _=>⟨Ep.start F.out a1.out (fun _=>rfl) a9.out E (by omega),(fun e=>by cases e)⟩) ?_;apply Dn (fun _ _ _ h _=>h.plain (by decide)) rfl rfl rfl
    ·intro b a w j f K p;have h4:=f.fr 4 rfl;simp only[Oper.wp,execOp];go_simp;exact p _ j trivial
    apply Dn (fun _ _ _ h _=>h.plain (by decide)) rfl rfl rfl
    ·intro b a w j f K p;have x:=f.fr 2 rfl;have q0:=Ab (j.cel0 (f.post 11 (by kernel_rfl))) 0;simp only[a0w,a0x] at q0;simp only[Oper.wp,execOp];go_simp;exact p _ j trivial
    iterate 2
     apply Dn (fun _ _ _ h _=>h.plain (by decide)) rfl rfl rfl
     ·intro b a w j f K p
      try have h8:=f.fr 8 rfl
      try have bv:=f.eq 1 28 rfl
      try have bt:=f.eq 2 29 rfl
      simp only[Oper.wp,execOp];go_simp;exact p _ j trivial
    apply Ee (fun _ _=>True) rfl rfl rfl
    ·intro b a w j f K p;have br:=f.eq 3 30 rfl;simp only[Oper.wp,execOp];go_simp;(with_reducible refine(Q.out _ j.l.fp).mono ?_);rintro e w4 ⟨vr,rfl,L,O⟩;exact p _ _ (j.other (by decide) (fun e=>absurd e (by decide)) (j.l.call Qr f.self O rfl L)) trivial trivial
    apply Ee (fun _ _=>True) rfl rfl rfl
    ·intro b a w j f K p;have bq:=f.dep 4 31 _ (by kernel_rfl) rfl;obtain⟨rr,hg,L,-⟩:=j.l.res (f.pre 4 (by kernel_rfl)) (f.post 6 (by kernel_rfl));obtain⟨a2,I,c2,e2⟩:=Gu.sl L;have hv:=f.val 4 31 (by kernel_rfl);rw[e2] at hv;have y:=j.other (by decide) (fun e=>absurd e (by decide)) (j.l.build Qr (f.pre 4 (by kernel_rfl)) f.self);rw[e2] at y;simp only[Oper.wp,execOp];go_simp;exact p _ _ y trivial trivial
    apply Ee (fun _ _=>True) rfl rfl rfl
    ·intro b a w j f K p;have ak:=f.eq 0 27 rfl;have bp:=f.dep 5 32 _ (by kernel_rfl) rfl;obtain⟨g,af,ae⟩:=j.l.bld (f.pre 5 (by kernel_rfl)) f.self;obtain⟨rr,hg,L,hq⟩:=j.l.res (j.l.o32 (f.pre 5 (by kernel_rfl))) f.self;refine Yd Gu (.tmp 27) (.tmp 32) rfl _ (.slice va t.length vc) t (E0 ak) (j.l.own0 f.self) g _ rr L hq (E0 ((f.val 5 32 (by kernel_rfl)).trans af)) ae (by omega) j.l.sz ?_;intro v' w' h1 x h3;exact p _ _ (j.other (by decide) (fun _=>f.self) (j.l.append Qr (f.pre 5 (by kernel_rfl)) f.self hg h1 x h3 (by omega) (by omega) (fun _ _=>rfl))) trivial trivial
    apply Dn (fun _ _ _ h _=>h.plain (by decide)) rfl rfl rfl
    ·intro b a w j f K p;have x:=f.fr 2 rfl;have q0:=Ab (j.cel0 (f.post 11 (by kernel_rfl))) 0;simp only[a0w,a0x] at q0;simp only[Oper.wp,execOp];go_simp;exact p _ j trivial
    iterate 2
     apply Dn (fun _ _ _ h _=>h.plain (by decide)) rfl rfl rfl
     ·intro b a w j f K p
      try have h8:=f.fr 8 rfl
      try have bn:=f.eq 7 34 rfl
      try have bm:=f.eq 8 35 rfl
      simp only[Oper.wp,execOp];go_simp;exact p _ j trivial
    apply Ee (fun _ _=>True) rfl rfl rfl
    ·intro b a w j f K p;have bo:=f.dep 6 33 _ (by kernel_rfl) rfl;simp only[Oper.wp,execOp];go_simp;exact p _ _ (j.assign (f.pre 6 (by kernel_rfl)) (f.val 6 33 (by kernel_rfl))) trivial trivial
    apply Kv (fun _=>True) rfl rfl rfl
    ·intro b a w j f K p;have x:=f.fr 2 rfl;have bk:=f.eq 9 36 rfl;have h6:b 6=true:=(j.m (f.pre 10 (by kernel_rfl))).1;have y:=j.other (by decide) (fun e=>absurd e (by decide)) (j.l.store Qr h6 (by omega) (a1x _) rfl);have f0:=Ar j.l.cel 0;have q0:=Ab j.l.cel 0;simp only[Oper.wp,execOp];go_simp;exact p undef _ y trivial trivial
    refine⟨?_,?_⟩
    ·refine⟨fun _ _ _ _ _=>trivial,?_⟩;refine⟨fun _ _ _ _ _=>trivial,?_⟩
     iterate 3 refine Gl _ ?_
     refine⟨fun _ _ _ _ _=>trivial,?_⟩;refine⟨fun _ _ _ _ _=>trivial,?_⟩;refine⟨fun _ _ _ _ _=>trivial,?_⟩
     iterate 4 refine Gl _ ?_
     exact trivial
    ·intro w' bb z;simp only[a2z,a2x,a2v,a2w]
     iterate 4 (refine Am ?_)
     refine Ap ?_;intro v4 u4;refine Ap ?_;intro v5 u5;refine Ap ?_;intro v6 u6
     iterate 3 (refine Am ?_)
     refine Ap ?_;intro J u10;refine Ap ?_;intro be u11;refine A0 ?_;intro j;simp only[Aj,Act.put,a1z,a1v,a1u];have u:=j.l.cel;rw[z 11 (by simp)] at u;obtain⟨rr,ab,M⟩:=j.l.own1 (z 6 (by simp));have B:=(j.m (z 10 (by simp))).2;have H1:=a0z u
     have H2:Hid (D4 Gu w' (w.heap.size+1) J (t++[r.take C])):=by
      rw[<-ab];have e:J=v6:=B;rw[e];exact M
     have H3:=a0z j.l.fp;clear j z u M B;go_wp2_with (fail)
     go_roundg (gk-1)
     case measure=>omega
     case rel=>
      refine⟨k+1,by simp,by omega,⟨t++[r.take C],r.drop C,_,_,_,H2.out,by rw[am.out];exact Ky.snoc _ _ _ _ s C HU.out (by have:=G.out;omega) (fun e=>a8.out (by have:=G.out;omega)) a7.out,H1.out,⟨by rw[Y.out.1];have:=a6.out;simp;omega,Or.inl Y.out.1,by rw[Y.out.1];intro c S;cases S⟩,by have:=a6.out;omega,by rcases V.out with x|x;exact Or.inl ⟨x.1,rfl⟩;exact Or.inr x⟩,H3.out,Ac H1.out⟩
   ·obtain⟨b3,o3,bj⟩:∃b o,U=some ⟨b,o,none⟩:=by
     rcases V.out with x|x
     ·exfalso;apply aj;omega
     ·exact x
    subst bj;have bc:Hid (Bh w (some ⟨b3,o3+h*6,none⟩) (A-h) (r.drop h)):=P.out.drop h (A-h) (by omega);have Q:=a0z (fun w' (O:Fp [] w w')=>Wq w' (some ⟨b3,o3,none⟩) h C (r.take h) ((P.out.fp O).take h (by omega)) (fun e=>by cases e) (by omega))
    obtain⟨d1,aF⟩:∃d,A-h=d:=⟨_,rfl⟩
    obtain⟨d2,ca⟩:∃d,C-h=d:=⟨_,rfl⟩
    rw[aF] at bc;go_wp2_with (fail);refine Uj (Kz w w3 (w.heap.size+1) w.heap.size (.slice (some ⟨b3,o3,none⟩) A C) (.slice (some ⟨b3,o3+h*6,none⟩) d1 d2) (r.take h) (.slice va t.length vc) t) (fun _ _=>True) (by kernel_rfl) (by kernel_rfl) (fun _=>⟨Ep.start F.out a1.out (fun _=>rfl) a9.out E (by omega),(fun e=>by cases e)⟩) ?_;apply Dn (fun _ _ _ h _=>h.plain (by decide)) rfl rfl rfl
    ·intro b a w j f K p;have h4:=f.fr 4 rfl;simp only[Oper.wp,execOp];go_simp;exact p _ j trivial
    apply Dn (fun _ _ _ h _=>h.plain (by decide)) rfl rfl rfl
    ·intro b a w j f K p;have x:=f.fr 2 rfl;have q0:=Ab (j.cel0 (f.post 11 (by kernel_rfl))) 0;simp only[a0w,a0x] at q0;simp only[Oper.wp,execOp];go_simp;exact p _ j trivial
    iterate 2
     apply Dn (fun _ _ _ h _=>h.plain (by decide)) rfl rfl rfl
     ·intro b a w j f K p
      try have h8:=f.fr 8 rfl
      try have bv:=f.eq 1 28 rfl
      try have bt:=f.eq 2 29 rfl
      simp only[Oper.wp,execOp];go_simp;exact p _ j trivial
    apply Ee (fun _ _=>True) rfl rfl rfl
    ·intro b a w j f K p;have br:=f.eq 3 30 rfl;simp only[Oper.wp,execOp];go_simp;(with_reducible refine(Q.out _ j.l.fp).mono ?_);rintro e w4 ⟨vr,rfl,L,O⟩;exact p _ _ (j.other (by decide) (fun e=>absurd e (by decide)) (j.l.call Qr f.self O rfl L)) trivial trivial
    apply Ee (fun _ _=>True) rfl rfl rfl
    ·intro b a w j f K p;have bq:=f.dep 4 31 _ (by kernel_rfl) rfl;obtain⟨rr,hg,L,-⟩:=j.l.res (f.pre 4 (by kernel_rfl)) (f.post 6 (by kernel_rfl));obtain⟨a2,I,c2,e2⟩:=Gu.sl L;have hv:=f.val 4 31 (by kernel_rfl);rw[e2] at hv;have y:=j.other (by decide) (fun e=>absurd e (by decide)) (j.l.build Qr (f.pre 4 (by kernel_rfl)) f.self);rw[e2] at y;simp only[Oper.wp,execOp];go_simp;exact p _ _ y trivial trivial
    apply Ee (fun _ _=>True) rfl rfl rfl
    ·intro b a w j f K p;have ak:=f.eq 0 27 rfl;have bp:=f.dep 5 32 _ (by kernel_rfl) rfl;obtain⟨g,af,ae⟩:=j.l.bld (f.pre 5 (by kernel_rfl)) f.self;obtain⟨rr,hg,L,hq⟩:=j.l.res (j.l.o32 (f.pre 5 (by kernel_rfl))) f.self;refine Yd Gu (.tmp 27) (.tmp 32) rfl _ (.slice va t.length vc) t (E0 ak) (j.l.own0 f.self) g _ rr L hq (E0 ((f.val 5 32 (by kernel_rfl)).trans af)) ae (by omega) j.l.sz ?_;intro v' w' h1 x h3;exact p _ _ (j.other (by decide) (fun _=>f.self) (j.l.append Qr (f.pre 5 (by kernel_rfl)) f.self hg h1 x h3 (by omega) (by omega) (fun _ _=>rfl))) trivial trivial
    apply Dn (fun _ _ _ h _=>h.plain (by decide)) rfl rfl rfl
    ·intro b a w j f K p;have x:=f.fr 2 rfl;have q0:=Ab (j.cel0 (f.post 11 (by kernel_rfl))) 0;simp only[a0w,a0x] at q0;simp only[Oper.wp,execOp];go_simp;exact p _ j trivial
    iterate 2
     apply Dn (fun _ _ _ h _=>h.plain (by decide)) rfl rfl rfl
     ·intro b a w j f K p
      try have h8:=f.fr 8 rfl
      try have bn:=f.eq 7 34 rfl
      try have bm:=f.eq 8 35 rfl
      simp only[Oper.wp,execOp];go_simp;exact p _ j trivial
    apply Ee (fun _ _=>True) rfl rfl rfl
    ·intro b a w j f K p;have bo:=f.dep 6 33 _ (by kernel_rfl) rfl;simp only[Oper.wp,execOp];go_simp;exact p _ _ (j.assign (f.pre 6 (by kernel_rfl)) (f.val 6 33 (by kernel_rfl))) trivial trivial
    apply Kv (fun _=>True) rfl rfl rfl
    ·intro b a w j f K p;have x:=f.fr 2 rfl;have bk:=f.eq 9 36 rfl;have h6:b 6=true:=(j.m (f.pre 10 (by kernel_rfl))).1;have y:=j.other (by decide) (fun e=>absurd e (by decide)) (j.l.store Qr h6 (by omega) (a1x _) rfl);have f0:=Ar j.l.cel 0;have q0:=Ab j.l.cel 0;simp only[Oper.wp,execOp];go_simp;exact p undef _ y trivial trivial
    refine⟨?_,?_⟩
    ·refine⟨fun _ _ _ _ _=>trivial,?_⟩;refine⟨fun _ _ _ _ _=>trivial,?_⟩
     iterate 3 refine Gl _ ?_
     refine⟨fun _ _ _ _ _=>trivial,?_⟩;refine⟨fun _ _ _ _ _=>trivial,?_⟩;refine⟨fun _ _ _ _ _=>trivial,?_⟩
     iterate 4 refine Gl _ ?_
     exact trivial
    ·intro w' bb z;simp only[a2z,a2x,a2v,a2w]
     iterate 4 (refine Am ?_)
     refine Ap ?_;intro v4 u4;refine Ap ?_;intro v5 u5;refine Ap ?_;intro v6 u6
     iterate 3 (refine Am ?_)
     refine Ap ?_;intro J u10;refine Ap ?_;intro be u11;refine A0 ?_;intro j;simp only[Aj,Act.put,a1z,a1v,a1u];have u:=j.l.cel;rw[z 11 (by simp)] at u;obtain⟨rr,ab,M⟩:=j.l.own1 (z 6 (by simp));have B:=(j.m (z 10 (by simp))).2;have H1:=a0z u
     have H2:Hid (D4 Gu w' (w.heap.size+1) J (t++[r.take h])):=by
      rw[<-ab];have e:J=v6:=B;rw[e];exact M
     have H3:=a0z j.l.fp;clear j z u M B;go_wp2_with (fail)
     go_roundg (gk-1)
     case measure=>omega
     case rel=>
      refine⟨k+1,by simp,by omega,⟨t++[r.take h],r.drop h,_,_,_,H2.out,by rw[am.out];exact Ky.snoc _ _ _ _ s h HU.out (by have:=G.out;omega) (fun e=>a8.out (by have:=G.out;omega)) a7.out,H1.out,bc.out,by omega,Or.inr ⟨_,_,rfl⟩⟩,H3.out,Ac H1.out⟩
  ·have zk:¬(k:Int)<(I:Int):=by omega
   have q2:wr.cell? ⟨w.heap.size,0,none⟩=some (.slice U A C):=Ab HX.out 0;have Q:=a0z (Wq wr U A C r (P.out.fp HF.out) (fun e=>by rcases V.out with h|⟨b,o,h⟩;exact h.2;rw[h] at e;cases e) ax)
   have bw:Hid (Gf l borders (t++[r])):=by
    have:=HU.out.all;rw[a2u (by have:=an.out;omega)] at this;exact this
   have E:w.heap.size+1<=wr.heap.size:=bf;go_wp2_with (fail);(with_reducible refine Q.out.mono ?_);rintro e w3 ⟨v3,rfl,ac,N⟩;have F:=a0z ac;have D:=a0z N;obtain⟨a3,c3,rfl,-⟩:=ac.at2 (fun c S=>HL.out.ok c (HU.out.sub.2.1 c S));clear ac N;go_wp2_with (at_builtin;(refine Aak Gu rfl _ _ rfl (w.heap.size+1) _ t rfl ((HO.out.toN.fp D.out (by simp)).fp (Fp.alloc _ _) (by simp)) _ _ r (((F.out.mono E:Ao w3 (w.heap.size+1) _ r)).fp (Fp.alloc _ _) (by simp)) (fun q hq=>(F.out.lt q hq).1) rfl (by rw[Ab (Ai rfl _)];rfl) (by omega) (by have:=D.out.size;simp;omega) ?_);intro v4 w4 av a0 bh;have b0:=a0z av;have b4:=a0z a0;clear av a0 bh);refine bodyPost_ret (v:=.tuple #[v4,.int .i64 0]) (by simp[results,Tryz.results88,go_sem]) rfl ?_;exact⟨v4,_,rfl,b0.out.mono (by omega),bw.out,((HF.out.trans D.out (by simp)).alloc' _).belowTrans (b4.out.mono (by omega))⟩
end
end Go.Proofs.YtkagolpnaicdoaaGreatDoor
