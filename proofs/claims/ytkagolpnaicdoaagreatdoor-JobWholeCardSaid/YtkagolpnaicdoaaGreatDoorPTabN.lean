/-
 What an opened file says: Blocks, Many, Cells. What an opened file says of a row: near, Looks, Row. Files: what is built is opened to what it was built of. The law's own helpers: bounded, cells. A row's cells lie in the parts that are near; a filter has all its names. The law's own helper: shown. job.Make: what it computes; the walk of what it tries. JobWhole: what the parts come to.
-/
import Derived.Test.YtkagolpnaicdoaaGreatDoorPTabL
set_option maxRecDepth 100000
set_option maxHeartbeats 8000000
open List renaming length_append->a0z,getD_eq_getElem?_getD->a0x,getElem?_eq_getElem->a0w,append_assoc->a0v,length_map->a1z,take_succ_eq_append_getElem->a1w,length_take->a1v,flatMap_cons->a1u,mem_cons_of_mem->a2z,getElem_mem->a2x,take_length->a2v,flatten_cons->a3w,drop_eq_getElem_cons->a3v,length_drop->a3u,length_cons->a4z,map_append->a4w,append_nil->a4v,length_set->a4u,range->a5z,mem_of_mem_drop->a5x,mem_of_mem_take->a5w,mem_of_getElem?->a5v,map_cons->a5u,map_map->a6z
open Go.Lib renaming hid->a0u
open Nat renaming le_refl->a1x,mod_eq_of_lt->a2u,not_lt_zero->a3z
open UInt8 renaming ofNat->a2w,toNat_ofNat'->a3x
open Bool renaming and_eq_true->a4x
namespace Go.Proofs.YtkagolpnaicdoaaGreatDoor
section
section
open Go.RowKit
def Qs(l:List Aa):List (List Aa):=(a5z (Bl l)).map (D8 l)
theorem qJ(l:List Aa):(Qs l).length=Bl l:=by simp[Qs]
theorem qK(l:List Aa):∀k,((a5z k).map (D8 l)).flatten=l.take (8*k)
 |0=>by simp
 |k+1=>by
  rw[List.range_succ,a4w,List.flatten_append,qK l k];simp only[a5u,List.map_nil,a3w,List.flatten_nil,a4v];unfold D8;rw[show 8*(k+1)=8*k+8 from by omega,List.take_add]
theorem dZ(l:List Aa):(Qs l).flatten=l:=by
 unfold Qs;rw[qK];exact List.take_of_length_le (by unfold Bl;omega)
def Lp(b o:Nat)(l:List Aa):List Value:=(D6 l.length).map (Iu b o)
theorem Ur(b o:Nat)(l:List Aa):(Lp b o l).length=Bl l:=by unfold Lp Bl;rw[a1z,R1]
theorem eA{b o k:Nat}{l:List Aa}(h:k<(Lp b o l).length):(Lp b o l)[k]=.slice (some ⟨b,o+8*k*6,none⟩) (min 8 (l.length-8*k)) (min 8 (l.length-8*k)):=by
 have a:k<(D6 l.length).length:=by rw[Ur] at h;rw[R1];exact h
 have e:(Lp b o l)[k]?=some (Iu b o (D6 l.length)[k]):=by
  unfold Lp;rw[List.getElem?_map,a0w a];rfl
 rw[a0w h] at e;rw[Option.some.inj e,qA a];rfl
theorem qL{w:World}{base b o:Nat}{a:Option Addr}{n cap:Nat}{l:List Aa}(m:Bh w (some ⟨b,o,none⟩) l.length l)(j:E2 w base (.slice a n cap) (Lp b o l)):n=Bl l∧R2 w a (Lp b o l) (Qs l):=by
 have d:=Ur b o l
 have t:n=(Lp b o l).length:=by
  rcases j.2 with⟨e,h⟩|⟨g,c,s,e,_⟩
  ·injection e with _ e2 _
   omega
  ·injection e with _ e2 _
 refine⟨by omega,?_,by rw[d,qJ],fun i f=>?_⟩
 ·by_cases h:Lp b o l=[]
  ·exact Or.inl h
  ·obtain⟨g,c,e,_,p,q⟩:=j.get (k:=0) (by have:=List.length_pos_iff.2 h;omega)
   injection e with e1 _ _
   exact Or.inr ⟨g,e1,p,q⟩
 ·refine⟨_,_,_,eA f,?_⟩
  have r:8*i<l.length:=by rw[d] at f;unfold Bl at f;omega
  have e:(Qs l).getD i []=D8 l i:=by
   rw[a0x,a0w (by rw[qJ];omega)];simp[Qs]
  rw[e];exact pY m r
theorem Ao.len{w:World}{base:Nat}{v:Value}{l:List Aa}(h:Ao w base v l):∃a cap,v=.slice a l.length cap:=by
 rcases h.2 with⟨rfl,b⟩|⟨g,cap,d,rfl,_⟩
 ·have:l=[]:=List.eq_nil_of_length_eq_zero b;subst this;exact⟨_,_,rfl⟩
 ·exact⟨_,_,rfl⟩
def Wt(l:List Aa)(q:Nat):List Aa:=if q=0 then l else l.map fun c=>{c with seq:=q}
def K0(l:List Aa)(q k:Nat):List Aa:=(l.take k).map (fun c=>{c with seq:=q})++l.drop k
theorem Afx{l:List Aa}{q k:Nat}(h:k<l.length):K0 l q (k+1)=(K0 l q k).set k {l[k] with seq:=q}:=by
 unfold K0;rw[a1w h,a4w,List.set_append_right _ _ (by simp;omega)];simp only[a1z,a1v,a5u,List.map_nil];rw[Nat.min_eq_left (by omega),Nat.sub_self,a3v h,List.set_cons_zero,a0v];rfl
theorem Afy{l:List Aa}{q k:Nat}(h:k<l.length):(K0 l q k).getD k Az=l[k]:=by
 unfold K0;rw[a0x,List.getElem?_append_right (by simp;omega)];simp only[a1z,a1v];rw[Nat.min_eq_left (by omega),Nat.sub_self,a3v h];rfl
theorem Afz(l:List Aa)(q k:Nat):(K0 l q k).length=l.length:=by
 unfold K0;simp only[a0z,a1z,a1v,a3u];omega
theorem Af0(l:List Aa)(q:Nat):K0 l q 0=l:=by simp[K0]
theorem Af1{l:List Aa}{q:Nat}(a:q≠0):K0 l q l.length=Wt l q:=by
 unfold K0 Wt;rw[if_neg a,a2v,List.drop_length,a4v]
theorem qM:∀(l:List Aa) (k:Nat) (q:Nat),k<l.length→(l.flatMap Ed).set (k*6+3) (.int .u64 q)=(l.set k {l.getD k Az with seq:=q}).flatMap Ed
 |[],k,q,h=>absurd h (a3z _)
 |c::l,0,q,_=>by simp[Ed]
 |c::l,k+1,q,h=>by
  rw[a1u,List.set_append,if_neg (by show ¬(k+1)*6+3<6;omega),List.set_cons_succ,a1u]
  have e:(k+1)*6+3-(Ed c).length=k*6+3:=by show(k+1)*6+3-6=_;omega
  rw[e,qM l k q (by simpa using h)];rfl
theorem Ao.setSeq{w:World}{base g k n cap:Nat}{l:List Aa}(q:Nat)(h:Ao w base (.slice (some ⟨g,0,none⟩) n cap) l)(m:k<l.length):
  Ao (w.setCell ⟨g,k*6+3,none⟩ (.int .u64 q)) base (.slice (some ⟨g,0,none⟩) n cap) (l.set k {l.getD k Az with seq:=q}):=by
 obtain⟨r,b,a,e,p,o,i,j,f,d⟩:=h.open (by omega);cases e;refine⟨by rw[Wa],Or.inr ⟨g,cap,a.setIfInBounds (k*6+3) (.int .u64 q),by rw[a4u],p,Bd o _,by rw[a4u];exact i,j,by rw[Array.size_setIfInBounds];exact f,?_⟩⟩;rw[Array.toList_setIfInBounds,a4u,List.take_set,d,qM l k q m]
theorem Af2(w:World)(L base:Nat)(F:M9)(v:Value)(l:List Aa)(d:Na w L F)(X:Ao w base v l)(O:∀c∈l,B3 c)(Y:l.length≤1000000)(hq:F.f.seq<18446744073709551616):
  Calls Tryz.prog 78 #[.pointer (some ⟨L,0,none⟩),v] w fun e w'=>∃W,e=.returned W/\Ao w' w.heap.size W (Wt l F.f.seq)/\Fp [] w w':=by
 have HC:=a0u (Afc w v base l X O Y);have J:=a0u d
 obtain⟨q,h⟩:∃q,F.f.seq=q:=⟨_,rfl⟩
 have HQ:=a0u h;rw[h] at hq ⊢;clear d X h;go_enter Tryz.func78,Tryz.ntmps78;go_wp2_with (fail);(with_reducible refine HC.out.mono ?_);rintro e w1 ⟨v1,rfl,r,E⟩;obtain⟨a1,c1,rfl⟩:=r.len;have T:=a0u r;have K:=a0u E;clear r E
 obtain⟨n,s⟩:∃n,l.length=n:=⟨_,rfl⟩
 have U:=a0u s;have m:=T.out;rw[s] at Y m ⊢;have I:=a0u m;clear m s;go_wp2_with (fail)
 by_cases y:q=0
 ·subst y;have R:Hid (Wt l 0=l):=rfl
  go_loopg [10] n (fun g N wr=>∃k:Nat,g+k=n/\N=.int .i64 k/\Ao wr w.heap.size (.slice a1 n c1) l/\Fp [] w wr)
  case atStart=>exact⟨0,by omega,rfl,I.out,K.out⟩
  case round=>
   obtain⟨k,hg,rfl,z,d⟩:=hrel;have u:=a0u z;have x:=a0u d;clear z d
   by_cases Z:k<n
   ·have M:(k:Int)<(n:Int):=by omega
    obtain⟨pv,b,o,t,-,-⟩:=(J.out.fp x.out).ex;rw[HQ.out] at t;have q3:wr.cell? ⟨L,3,none⟩=some (.int .u64 (0:Nat)):=Ab t 3;clear t;go_wp2_with (fail)
    go_roundg (gk-1)
    case measure=>omega
    case rel=>exact⟨k+1,by omega,by go_num,u.out,x.out⟩
   ·have M:¬(k:Int)<(n:Int):=by omega
    go_wp2_with (fail);go_ret;exact⟨_,rfl,by rw[R.out];exact u.out,x.out⟩
 ·go_loopg [10] n (fun g N wr=>∃k:Nat,g+k=n∧N=.int .i64 k∧Ao wr w.heap.size (.slice a1 n c1) (K0 l q k)∧Fp [] w wr)
  case atStart=>exact⟨0,by omega,rfl,by rw[Af0];exact I.out,K.out⟩
  case round=>
   obtain⟨k,hg,rfl,z,d⟩:=hrel;have u:=a0u z;have x:=a0u d;clear z d
   by_cases Z:k<n
   ·have M:(k:Int)<(n:Int):=by omega
    have C:k<l.length:=by rw[U.out];exact Z
    obtain⟨pv,b,o,t,-,-⟩:=(J.out.fp x.out).ex;rw[HQ.out] at t;have q3:wr.cell? ⟨L,3,none⟩=some (.int .u64 q):=Ab t 3
    have zq:((q:Int)!=0)=true:=by rw[bne_iff_ne];omega
    have A:(K0 l q k).length=n:=by rw[Afz,U.out]
    obtain⟨g,cap,aa,e0,P,hh,-⟩:=Ao.open u.out (by omega);rw[A] at e0
    injection e0 with e1 _ e3
    subst e1 e3;obtain⟨Q,D⟩:=u.out.cel (j:=k) (by omega);obtain⟨-,-,-,p3,-,-⟩:=Q;have z3:=D (k*6+3);have HS:=a0u (Afx (q:=q) C);have a:=Ao.setSeq q u.out (k:=k) (by omega);rw[Afy C,<-HS.out] at a;have G:=a0u a;have V:=a0u (x.out.setCell' (p:=⟨g,k*6+3,none⟩) (Or.inr P) (.int .u64 q));clear t D hh a;go_wp2_with (fail)
    go_roundg (gk-1)
    case measure=>omega
    case rel=>exact⟨k+1,by omega,by go_num,G.out,V.out⟩
   ·have M:¬(k:Int)<(n:Int):=by omega
    have B:k=l.length:=by have:=U.out;omega
    have i:=u.out;rw[B,Af1 y] at i;have S:=a0u i;clear i B;go_wp2_with (fail);go_ret;exact⟨_,rfl,S.out,x.out⟩
theorem Af3(w:World)(n:Nat)(F:M9)(q:Na w n F)(D:F.l.length≤1000000)(L:F.f.seq<18446744073709551616):
  Calls Tryz.prog 40 #[.pointer (some ⟨n,0,none⟩)] w fun e w'=>∃A,e=.returned A/\Ao w' w.heap.size A (Wt F.l F.f.seq)/\Fp [] w w':=by
 obtain⟨O,b,o,E,s,r⟩:=q.ex;obtain⟨C,K,B,rfl⟩:=r.slice;obtain⟨i,h⟩:=qL s r;have N:w.cell? ⟨n,4,none⟩=some (.slice C K B):=Ab E 4
 have p:Bl F.l<=1000000:=by unfold Bl;omega
 have d:=Afb w C B _ _ h (by rw[Ur];exact p) (by rw[dZ];exact D);rw[Ur,dZ,<-i] at d;have z:=a0u d;have u:=a0u s.ok;have x:=a0u q;clear q E s r i h d;go_enter Tryz.func40,Tryz.ntmps40;go_wp2_with (fail);(with_reducible refine z.out.mono ?_);rintro e I ⟨J,rfl,k,a⟩;have t:=a0u (Af2 I n w.heap.size F J F.l (x.out.fp a) k u.out D L);have G:=a0u a;clear k a;go_wp2_with (fail);(with_reducible refine t.out.mono ?_);rintro e w2 ⟨M,rfl,j,m⟩;have v:=a0u j;have y:=a0u (G.out.trans m (by simp));have g:=G.out.size;clear j m;go_wp2_with (fail);go_ret;exact⟨_,rfl,v.out.mono g,y.out⟩
end
section
open Go.RowKit
def Pj(a b:ByteArray):Bool:=Op.bytesLess a.toList b.toList||a.toList==b.toList
def Qu(l:List Aa):ByteArray:=(l.getD 0 Az).row
def Qv(l:List Aa):ByteArray:=(l.getD (l.length-1) Az).row
end
end
section
section
open Go.RowKit
def C3(x:ByteArray):List UInt8:=two x.size++(Nv (Nw (bl (two x.size)) x)++x.data.toList)
theorem Wu(x:ByteArray):Kp x=bl (C3 x):=by
 unfold Kp C3
 conv=>lhs;rw[<-L1 x]
 simp only[L1,Q3];rw[show(x:ByteArray)=bl x.data.toList from(L1 x).symm];simp only[Q3,Nq,a0v,Dm]
theorem Pm(x:ByteArray):(C3 x).length=6+x.size:=by
 unfold C3 two Nv;simp only[a0z,a4z,List.length_nil];show 0+1+1+(0+1+1+1+1+x.size)=_;omega
theorem Us{x:ByteArray}(h:x.size<=65535):Jd x=Kp x:=by
 unfold Jd L3;rw[if_neg (by omega)]
theorem Zi(x:ByteArray)(y:List UInt8)(h:x.size≤65535):B4 (bl (C3 x++y))=(x,6+x.size,0):=by
 obtain⟨c,g⟩:∃c,Nw (bl (two x.size)) x=c:=⟨_,rfl⟩
 have f:c<4294967296:=by rw[<-g];exact jF _ _
 have a:C3 x++y=two x.size++(Nv c++(x.data.toList++y)):=by unfold C3;rw[g];simp only[a0v]
 have b:(bl (C3 x++y)).size=6+x.size+y.length:=by rw[Dm,a0z,Pm]
 have j:x.data.toList.length=x.size:=rfl
 have r:A5 (bl (C3 x++y)) 0=a2w x.size:=by rw[K8,a];rfl
 have q:A5 (bl (C3 x++y)) 1=a2w (x.size/256):=by rw[K8,a];rfl
 have p:A5 (bl (C3 x++y)) 2=a2w c:=by rw[K8,a];rfl
 have o:A5 (bl (C3 x++y)) 3=a2w (c/256):=by rw[K8,a];rfl
 have n:A5 (bl (C3 x++y)) 4=a2w (c/65536):=by rw[K8,a];rfl
 have m:A5 (bl (C3 x++y)) 5=a2w (c/16777216):=by rw[K8,a];rfl
 have d:Gq (bl (C3 x++y))=6+x.size:=by
  unfold Gq;rw[r,q,a3x,a3x];omega
 have l:(bl (C3 x++y)).extract 0 2=bl (two x.size):=by
  rw[a];exact Vv _ _ _ rfl
 have i:(bl (C3 x++y)).extract 6 (6+x.size)=x:=by
  rw[a,<-a0v];rw[bP (two x.size++Nv c) x.data.toList y 6 (6+x.size) rfl (by rw[j];rfl),L1]
 have k:=aX (s:=bl (C3 x++y)) (by rw[b];omega) (by rw[b];omega) (by rw[d,b];omega) (by
  rw[d,l,i,g,p,o,n,m,vU c f])
 rw[k,d,i]
theorem qN:∀(xs:List ByteArray) (P:List UInt8) (n:Nat),(∀x∈xs,x.size≤65535)→(xs.flatMap C3).length<n→(Jq n P.length (bl (P++xs.flatMap C3))).map (·.2)=xs
 |[],P,0,_,h=>absurd h (a3z _)
 |_ ::_,_,0,_,h=>absurd h (a3z _)
 |[],P,n+1,_,_=>by
  have a:B4 ((bl (P++[])).extract P.length (bl (P++[])).size)=(⟨#[]⟩,0,3):=by
   rw[Oz P [] P.length rfl];exact Vo rfl
  rw[List.flatMap_nil,Pg a (by decide)];rfl
 |x::xs,P,n+1,hs,hn=>by
  have f:=hs x (by simp)
  have a:B4 ((bl (P++(C3 x++xs.flatMap C3))).extract P.length (bl (P++(C3 x++xs.flatMap C3))).size)=(x,6+x.size,0):=by
   rw[Oz P _ P.length rfl];exact Zi x _ f
  rw[a1u] at hn ⊢;rw[a0z,Pm] at hn;rw[Pe a,a5u];have b:=qN xs (P++C3 x) n (fun y d=>hs y (a2z _ d)) (by omega);rw[a0z,Pm,a0v] at b;rw[b]
theorem Af4(xs:List ByteArray)(h:∀x∈xs,x.size<=65535):(Dy (bl (xs.flatMap C3))).map (·.2)=xs:=by
 have a:=qN xs [] ((bl (xs.flatMap C3)).size+1) h (by rw[Dm];omega);exact a
theorem Wv(n m:Nat):∀k,k≤m→Bn (bl (C4 n m)) k=n%256^k
 |0,_=>by rw[Nat.pow_zero,Nat.mod_one];rfl
 |k+1,h=>by
  have a:=Wv n m k (by omega);show Bn (bl (C4 n m)) k+(A5 (bl (C4 n m)) k).toNat*256^k=_
  have b:(A5 (bl (C4 n m)) k).toNat=n/256^k%256:=by
   rw[K8];unfold C4;rw[a0x,List.getElem?_map,List.getElem?_range (by omega)];show(Dc n k).toNat=_;unfold Dc;rw[a3x]
  rw[a,b,Nat.mod_pow_succ,Nat.mul_comm]
theorem Af5{f:Gn}(j:f.blocks<4294967296)(g:f.index<4294967296)(d:f.filter<4294967296)(a:f.seq<18446744073709551616):R3 f.text=f:=by
 obtain⟨b,i,t,q⟩:=f;simp only at j g d a
 have e:Gn.text ⟨b,i,t,q⟩=bl (C4 b 4++(C4 i 4++(C4 t 4++C4 q 8))):=by
  unfold Gn.text Em;simp only[Q3,a0v]
 unfold R3;rw[e];have n:(bl (C4 b 4++(C4 i 4++(C4 t 4++C4 q 8)))).extract 0 4=bl (C4 b 4):=Vv _ _ _ (Kx b 4).symm;have m:(bl (C4 b 4++(C4 i 4++(C4 t 4++C4 q 8)))).extract 4 8=bl (C4 i 4):=bP _ _ _ _ _ (by rw[Kx]) (by rw[Kx,Kx])
 have l:(bl (C4 b 4++(C4 i 4++(C4 t 4++C4 q 8)))).extract 8 12=bl (C4 t 4):=by
  rw[<-a0v];exact bP _ _ _ _ _ (by rw[a0z,Kx,Kx]) (by rw[a0z,Kx,Kx,Kx])
 have k:(bl (C4 b 4++(C4 i 4++(C4 t 4++C4 q 8)))).extract 12 20=bl (C4 q 8):=by
  have h:=Oz (C4 b 4++(C4 i 4++C4 t 4)) (C4 q 8) 12 (by simp only[a0z,Kx]);simp only[a0v] at h;rw[show(bl (C4 b 4++(C4 i 4++(C4 t 4++C4 q 8)))).size=20 from by rw[Dm];simp only[a0z,Kx]] at h;exact h
 rw[n,m,l,k,Wv b 4 4 (a1x _),Wv i 4 4 (a1x _),Wv t 4 4 (a1x _),Wv q 8 8 (a1x _)];rw[a2u (by simpa using j),a2u (by simpa using g),a2u (by simpa using d),a2u (by simpa using a)]
structure Oe(l:List Aa):Prop where
 len:l.length<=2000
 pos:0<l.length
 err:Du l (Bl l)=0
 ris:risC l=true
theorem Zj{l:List Aa}(seq:Nat)(h:Oe l):G1 l seq=(E3 l seq,0):=by
 have b:=h.len;have a:=h.pos;unfold G1;rw[if_neg (by omega),if_neg (by omega),if_neg (by simp[h.err]),if_neg (by simp[h.ris])]
theorem Af6{l:List Aa}{seq:Nat}(h:(G1 l seq).2=0):Oe l:=by
 unfold G1 at h;split at h
 ·cases h
 ·split at h
  ·cases h
  ·split at h
   ·rename_i a;exact absurd h a
   ·split at h
    ·cases h
    ·rename_i f d a b;exact⟨by omega,by omega,by simpa using a,by simpa using b⟩
def Ut(l:List Aa)(k:Nat):ByteArray:=(Da (D8 l k)).1
theorem qO{l:List Aa}(h:Du l (Bl l)=0){k:Nat}(b:k<Bl l):(Ut l k).size<=2300:=by
 have a:=Vw (Ze h k b);unfold Ut;rw[a.2.2.2,Dm,a4z];have f:=bR (D8 l k) 0 [] a.2.1;have d:=pX l k;omega
def Pn(l:List Aa):List ByteArray:=(a5z (Bl l)).map (Ut l)
theorem Af7{l:List Aa}(h:Du l (Bl l)=0):∀x∈Pn l,x.size<=65535:=by
 intro x a;obtain⟨k,b,rfl⟩:=List.mem_map.1 a;have:=qO h (List.mem_range.1 b);omega
theorem Af8{l:List Aa}(h:Du l (Bl l)=0):F3 l (Bl l)=(Pn l).flatMap C3:=by
 unfold F3 Pn;rw[List.flatMap_map]
 have d:∀a:List Nat,(∀k∈a,k<Bl l)→a.flatMap (fun j=>(M8 l j).data.toList)=a.flatMap (fun j=>C3 (Ut l j)):=by
  intro a
  induction a with
  |nil=>intro _;rfl
  |cons k a ih=>
   intro b;rw[a1u,a1u,ih fun j f=>b j (a2z _ f)];congr 1;have g:=qO h (b k (by simp));show(Jd (Ut l k)).data.toList=_;rw[Us (by omega),Wu,Nq]
 exact d _ fun k b=>List.mem_range.1 b
theorem Af9(l:List Aa):(Fe l).length<=l.length:=lW l l.length
theorem Zk{l:List Aa}(h:l.length<=2000):(G6 (Fe l)).size<=2501:=by
 rw[qB];have:=Af9 l;unfold Rk;omega
theorem Zl{l:List Aa}(h:l.length<=2000):(Gp l (Bl l)).size<=1002:=by
 rw[Zd];unfold Bl;omega
theorem eB(f:Gn):f.text.size=20:=by
 unfold Gn.text;simp only[ByteArray.size_append,Ph]
def Po(l:List Aa)(seq:Nat):List UInt8:=F3 l (Bl l)++(C3 (Gp l (Bl l))++(C3 (G6 (Fe l))++C3 (Hu l seq).text))
theorem Ww{l:List Aa}(seq:Nat)(h:l.length<=2000):E3 l seq=bl (Po l seq):=by
 have d:=Zl h;have b:=Zk h;have a:=eB (Hu l seq);unfold E3 dX Oa Pi Po;rw[Us (by omega),Us (by omega),Us (by omega),Wu,Wu,Wu];simp only[Q3,a0v]
theorem Aga{l:List Aa}(seq:Nat)(h:l.length<=2000):Hu l seq=⟨(F3 l (Bl l)).length,6+(Gp l (Bl l)).size,6+(G6 (Fe l)).size,seq⟩:=by
 have b:=Zl h;have a:=Zk h;unfold Hu Oa Pi;rw[Us (by omega),Us (by omega),X2,X2]
theorem qP{l:List Aa}(seq:Nat):(Po l seq).length=(F3 l (Bl l)).length+(6+(Gp l (Bl l)).size)+(6+(G6 (Fe l)).size)+26:=by
 unfold Po;simp only[a0z,Pm,eB];omega
def Wx(l:List Aa)(seq:Nat):M9:=⟨l,Hu l seq,G6 (Fe l)⟩
theorem Agb{l:List Aa}(b:∀c∈l,B3 c)(h:Du l (Bl l)=0):Iw (Pn l) (Pn l).length=l∧Ob (Pn l) (Pn l).length=true:=by
 have d:∀k,k<Bl l->Ej (Ut l k)=some (D8 l k):=fun k a=>yK (fun c f=>b c (by
  unfold D8 at f
  exact a5x (a5w f))) (Ze h k a)
 constructor
 ·unfold Iw;rw[a2v]
  conv=>rhs;rw[<-dZ l]
  unfold Pn Qs;rw[a6z];congr 1;apply List.map_congr_left;intro k a;simp only[Function.comp];rw[d k (List.mem_range.1 a)];rfl
 ·unfold Ob;rw[a2v,List.all_eq_true];intro x g;obtain⟨k,a,rfl⟩:=List.mem_map.1 g;rw[d k (List.mem_range.1 a)];rfl
theorem qQ{l:List Aa}(h:Oe l):(F3 l (Bl l)).length<=80006*250:=by
 have b:=Zc l (Bl l);have d:=h.len
 have a:Bl l<=250:=by unfold Bl;omega
 exact Nat.le_trans b (Nat.mul_le_mul_left _ a)
theorem Agc{l:List Aa}{seq:Nat}(q:∀c∈l,B3 c)(h:Oe l)(v:seq<18446744073709551616):Oc (E3 l seq)=(some (Wx l seq),0):=by
 have d:=h.len;have x:=Zl d;have y:=Zk d;have w:=qQ h;have o:=eB (Hu l seq);have s:=qP (l:=l) seq;have a:=Aga seq d
 have j:(E3 l seq).size=(F3 l (Bl l)).length+(6+(Gp l (Bl l)).size)+(6+(G6 (Fe l)).size)+26:=by rw[Ww seq d,Dm,s]
 obtain⟨ft,g⟩:∃f,(Hu l seq).text=f:=⟨_,rfl⟩
 rw[g] at o
 have b:(E3 l seq).extract ((E3 l seq).size-26) (E3 l seq).size=bl (C3 ft):=by
  rw[Ww seq d]
  have e:Po l seq=(F3 l (Bl l)++(C3 (Gp l (Bl l))++C3 (G6 (Fe l))))++C3 ft:=by unfold Po;rw[g];simp only[a0v]
  rw[e];refine Oz _ _ _ ?_;rw[Dm,a0z,Pm,o];omega
 have k:B4 ((E3 l seq).extract ((E3 l seq).size-26) (E3 l seq).size)=(ft,26,0):=by
  rw[b];have:=Zi ft [] (by omega);rw[a4v,o] at this;exact this
 have i:R3 ft=Hu l seq:=by
  rw[<-g];exact Af5 (by rw[a];show(F3 l (Bl l)).length<_;omega) (by rw[a];show 6+(Gp l (Bl l)).size<_;omega) (by rw[a];show 6+(G6 (Fe l)).size<_;omega) v
 have n:(Hu l seq).blocks=(F3 l (Bl l)).length:=rfl
 have p:Hk (E3 l seq) (Hu l seq).blocks=Pn l:=by
  unfold Hk;rw[n,Ww seq d];have e:(bl (Po l seq)).extract 0 (F3 l (Bl l)).length=bl (F3 l (Bl l)):=Vv _ _ _ rfl;rw[e,Af8 h.err];exact Af4 _ (Af7 h.err)
 obtain⟨u,t⟩:=Agb q h.err
 have m:(B4 ((E3 l seq).extract ((Hu l seq).blocks+(Hu l seq).index) (E3 l seq).size)).1=G6 (Fe l):=by
  rw[a];show(B4 ((E3 l seq).extract ((F3 l (Bl l)).length+(6+(Gp l (Bl l)).size)) (E3 l seq).size)).1=_;rw[Ww seq d]
  have e:Po l seq=(F3 l (Bl l)++C3 (Gp l (Bl l)))++(C3 (G6 (Fe l))++C3 (Hu l seq).text):=by unfold Po;simp only[a0v]
  rw[e,Oz _ _ _ (by rw[a0z,Pm]),Zi _ _ (by omega)]
 have r:Uo (E3 l seq) (Hu l seq)=some (Wx l seq):=by
  unfold Uo;rw[if_neg (by rw[a,j];show ¬((F3 l (Bl l)).length+(6+(Gp l (Bl l)).size)+(6+(G6 (Fe l)).size)≠_);omega)];rw[p,t,if_neg (by decide),u,show(Hu l seq).seq=seq from rfl,if_pos (Zj _ h),m];rfl
 unfold Oc;rw[k];simp only;rw[if_neg (by simp;rw[j];omega),if_neg (by simp[o]),i,r];rfl
end
section
open Go.RowKit
end
section
open Go.RowKit
theorem Agd{a b:Aa}(h:Df a b<0):Bo a.row b.row≤0:=by
 unfold Df Ew at h;split at h
 ·omega
 ·rename_i d
  have:Bo a.row b.row=0:=by simpa using d
  omega
theorem Age{l:List Aa}(h:risC l=true){k:Nat}(d:k+1<l.length):Df (l.getD k Az) (l.getD (k+1) Az)<0:=by
 have b:(a5z l.length).any (I1 l)=false:=by unfold risC at h;simpa using h
 rw[List.any_eq_false] at b;have a:=b (k+1) (List.mem_range.2 d);unfold I1 at a;rw[Nat.add_sub_cancel,decide_eq_true (Nat.succ_pos k),Bool.true_and] at a
 simpa using a
def Qw(l:List Aa)(k:Nat):ByteArray:=(l.getD k Az).row
theorem eC{l:List Aa}(h:risC l=true):∀(j i:Nat),i≤j→j<l.length→Bo (Qw l i) (Qw l j)≤0
 |0,i,hi,_=>by
  obtain rfl:i=0:=by omega
  unfold Bo;rw[P5];exact Int.le_refl _
 |j+1,i,hi,hj=>by
  by_cases e:i=j+1
  ·subst e;unfold Bo;rw[P5];exact Int.le_refl _
  ·have b:=eC h j i (by omega) (by omega);have a:=Agd (Age h hj);exact aG b a
theorem Agf{a b:ByteArray}(h:Bo a b<=0):Pj a b=true:=by
 unfold Pj;rw[Xt,ByteArray.toList_eq,ByteArray.toList_eq];unfold Bo at h
 rcases Xm a.data.toList b.data.toList with e|e|e
 ·rw[decide_eq_true e];rfl
 ·rw[Ve e];simp
 ·omega
end
section
open Go.RowKit
theorem eD{l:List Aa}(seq:Nat)(h:Oe l):(E3 l seq).size<=100000000:=by
 have d:=qQ h;have b:=Zl h.len;have a:=Zk h.len;rw[Ww seq h.len,Dm,qP];omega
theorem Agg{l:List Aa}{seq:Nat}(w:World)(b:∀c∈l,B3 c)(h:Oe l)(i:seq<18446744073709551616)(j:Ia w)(g:Dl w):
  Calls Tryz.prog 37 #[.string (E3 l seq)] w fun e w'=>(∃a,e=.returned (.tuple #[.pointer (some ⟨a,0,none⟩),.int .i64 0])/\Na w' a (Wx l seq))/\Fp [] w w':=by
 have f:=Afw w (E3 l seq) (eD seq h) j g;rw[Agc b h i] at f;refine f.mono ?_;rintro e w' ⟨v,rfl,⟨a,rfl,d⟩,k⟩;exact⟨⟨a,rfl,d⟩,k⟩
end
end
section
open Go.RowKit Go.Lib
def Pq:List Nat->Nat
 |[]=>0
 |e::r=>if e=0 then Pq r else e
theorem qR:∀(l:List Nat),(∀x∈l,x=0)->Pq l=0
 |[],_=>rfl
 |x::l,h=>by rw[Pq,if_pos (h x (by simp))];exact qR l fun y a=>h y (by simp[a])
theorem qS:∀(l:List Nat) (i:Nat) (a:i<l.length),(∀j (_ :j<i),l[j]'(by omega)=0)→l[i]≠0→Pq l=l[i]
 |[],i,a,_,_=>absurd a (a3z _)
 |x::l,0,_,_,hx=>by rw[Pq,if_neg (by simpa using hx)];rfl
 |x::l,i+1,a,h,hx=>by
  rw[Pq,if_pos (show x=0 from h 0 (Nat.zero_lt_succ _))];exact qS l i (by simpa using a) (fun j b=>h (j+1) (Nat.succ_lt_succ b)) (by simpa using hx)
def K2(ps:List (Nat × List Aa)):List Nat:=ps.map fun x=>(G1 x.2 0).2
def Jt(ps:List (Nat × List Aa)):List ByteArray:=ps.map fun x=>(G1 x.2 0).1
inductive G2(s:ByteArray)(borders:List ByteArray)(m wid mo:Int):Nat->List ByteArray->Prop
 |parse:(Et s).2.2≠0->G2 s borders m wid mo (Et s).2.2 []
 |none:(Et s).2.2=0->(Et s).1=[]->G2 s borders m wid mo 1 []
 |sort:(Et s).2.2=0->(Et s).1≠[]->(m<1∨wid<2)->G2 s borders m wid mo 1 []
 |cut:(Et s).2.2=0->(Et s).1≠[]->1<=m->2<=wid->(G8 borders=false∨mo<1)->G2 s borders m wid mo 1 []
 |build (r:List Ad) (out:List (List Aa)) (most:Nat):(Et s).2.2=0->(Et s).1≠[]->1<=m->2<=wid->G8 borders=true->1<=most->mo=(most:Int)->Bv (Dj (Et s).1) r->Gf (r.map (·.c)) borders out->Pq (K2 (Hg most out))≠0->G2 s borders m wid mo (Pq (K2 (Hg most out))) []
 |ok (r:List Ad) (out:List (List Aa)) (most:Nat):(Et s).2.2=0->(Et s).1≠[]->1<=m->2<=wid->G8 borders=true->1<=most->mo=(most:Int)->Bv (Dj (Et s).1) r->Gf (r.map (·.c)) borders out->(∀e∈K2 (Hg most out),e=0)->G2 s borders m wid mo 0 (Jt (Hg most out))
theorem Agh{x y:Ad}(h:Bt x y<0):Df x.c y.c<0:=by
 unfold Bt Df I2 at h;simp only at h;rw[Vj,S4 0] at h;unfold Df;rw[Vj]
 by_cases a:Bo x.c.row y.c.row=0
 ·by_cases b:Bo x.c.col y.c.col=0
  ·by_cases d:Ds y.c.ts x.c.ts=0
   ·simp[a,b,d] at h
   ·simp[a,b,d] at h ⊢;exact h
  ·simp[a,b] at h ⊢;exact h
 ·simp[a] at h ⊢;exact h
theorem D3.risC{r:List Ad}(h:D3 r):risC (r.map (·.c))=true:=by
 refine Vi fun j a=>?_
 rcases Nat.eq_zero_or_pos j with rfl|b
 ·rfl
 rw[a1z] at a;rw[aP (k:=j) (m:=j-1) (by rw[a1z];exact a) (by omega) (r[j-1]'(by omega)).c (r[j]'a).c (by rw[List.getElem_map]) (by rw[List.getElem_map])];have:=Agh (List.pairwise_iff_getElem.1 h (j-1) j (by omega) a (by omega));exact decide_eq_false (by omega)
theorem Agi(s:ByteArray):(Et s).1.length<=4001:=by
 unfold Et;split
 ·exact Nat.zero_le _
 ·rename_i h;have b:=dB 10 s;obtain⟨_,d,_,_⟩:=X9 (Ih 10 s) 0 [] (fun t a=>by have:=Ro a;omega) (by simp);have:([]:List Aa).length=0:=rfl;omega
theorem Ao.at4{w:World}{base:Nat}{v:Value}{l:List Aa}(h:Ao w base v l)(f:∀c∈l,B3 c):∃a cap,v=.slice a l.length cap∧l.length≤cap∧(a=Option.none∧cap=0∨∃b o,a=some ⟨b,o,Option.none⟩)∧Bh w a l.length l:=by
 obtain⟨a,cap,e,j,m,i⟩:=h.at5 f;refine⟨a,cap,e,j,?_,i⟩
 rcases h.2 with⟨d,_⟩|⟨g,n,k,d,_⟩
 ·rw[e] at d
  injection d with h4 h5 h6
  exact Or.inl ⟨h4,h6⟩
 ·rw[e] at d;cases d;exact Or.inr ⟨g,0,rfl⟩
theorem Agj{l:List Aa}{x:Ad}(h:x∈Dj l):x.c∈l:=by
 obtain⟨i,a,e⟩:=List.mem_iff_getElem.1 h;have b:(Dj l).length=l.length:=Qq l _;rw[<-e,show(Dj l)[i]=⟨l.getD i Az,i⟩ from Y3 l l.length i a];show l.getD i Az∈l;rw[a0x,a0w (by omega)];exact a2x _
theorem Zm(l:List Aa)(a:Nat):(Ld l a).flatten=l:=by
 unfold Ld;rw[jN,X5 l 0 0 (a1x _) (Or.inr rfl),List.drop_zero]
theorem Agk{b:Nat}{a:List (List Aa)}{k:Nat}{x:Nat × List Aa}(f:x∈Hy b a k){c:Aa}(j:c∈x.2):c∈a.flatten:=by
 unfold Hy at f;obtain⟨i,-,h⟩:=List.mem_flatMap.1 f;obtain⟨r,g,rfl⟩:=List.mem_map.1 h
 have d:c∈a.getD i []:=by
  rw[<-Zm (a.getD i []) b];exact List.mem_flatten.2 ⟨r,g,j⟩
 rw[a0x] at d
 cases h2:a[i]? with
 |none=>rw[h2] at d;simp at d
 |some y=>
  rw[h2] at d;exact List.mem_flatten.2 ⟨y,a5v h2,d⟩
theorem Agl{d:Nat}{a:List (List Aa)}{k:Nat}{x:Nat × List Aa}(f:x∈Hy d a k):x.2.length≤a.flatten.length:=by
 unfold Hy at f;obtain⟨i,-,h⟩:=List.mem_flatMap.1 f;obtain⟨r,g,rfl⟩:=List.mem_map.1 h
 have b:r.length<=(a.getD i []).length:=by
  have:=Vr g;rw[Zm] at this;exact this
 rw[a0x] at b
 cases h2:a[i]? with
 |none=>rw[h2] at b;simp at b;simp[b]
 |some y=>
  rw[h2] at b;exact Nat.le_trans b (Vr (a5v h2))
theorem Gi.low{W W':World}{base:Nat}{v:Value}{ps:List (Nat × List Aa)}(h:Gi W base v ps)(d:∀k,base<=k->k<W.heap.size->W'.heap[k]?=W.heap[k]?):Gi W' base v ps:=by
 obtain⟨f,b,g⟩:=h;exact⟨f,b.kept fun k a=>d k (b.lt k a).1 (b.lt k a).2,Md (fun _ _ h=>⟨h.1,h.2.kept fun k a=>d k (h.2.lt k a).1 (h.2.lt k a).2⟩) g⟩
theorem Gi.get{W:World}{base i:Nat}{v:Value}{ps:List (Nat × List Aa)}(h:Gi W base v ps)(m:i<ps.length):∃g cap a n c,v=.slice (some ⟨g,0,Option.none⟩) ps.length cap/\W.cell? ⟨g,i*2,Option.none⟩=some (.int .i64 (ps[i].1:Nat))/\W.cell? ⟨g,i*2+1,Option.none⟩=some (.slice a n c)/\Ao W base (.slice a n c) ps[i].2:=by
 obtain⟨b,j,f⟩:=h;have l:=f.length_eq;obtain⟨g,cap,q,rfl,-,-,-,-,-,-⟩:=j.open (by omega);obtain⟨d,-⟩:=j.elem (i:=i) (by omega);obtain⟨p,o⟩:=f.nth i (by omega) m;have k:=d 0 (.int .i64 (b[i]'(by omega)).1) rfl;have r:=d 1 (jS (b[i]'(by omega))) rfl;rw[p] at k;exact⟨g,cap,_,_,_,by rw[l],k,r,o⟩
end
section
open Go.RowKit Go.Lib
def Qx(bs:List ByteArray)(r:ByteArray):Nat:=(bs.filter fun b=>Pj b r).length
theorem Zn(a b:ByteArray):Ic a b=true↔Bo a b<0:=by
 unfold Ic;rw[Xt]
 have h:Bo a b=compareBytes a.toList b.toList:=by rw[ByteArray.toList_eq,ByteArray.toList_eq];rfl
 rcases Xm a.toList b.toList with e|e|e<;>rw[h,e]<;>simp
theorem qT(a b:ByteArray):Pj a b=true↔Bo a b≤0:=by
 refine⟨fun h=>?_,Agf⟩;unfold Pj at h
 rcases Bool.or_eq_true_iff.1 h with h|h
 ·have:=(Zn a b).1 h;omega
 ·have e:=eq_of_beq h
  have d:Bo a b=compareBytes a.toList b.toList:=by rw[ByteArray.toList_eq,ByteArray.toList_eq];rfl
  rw[d,e,P5];omega
theorem qU{a b c:ByteArray}(f:Bo a b<=0)(d:Bo b c<=0):Bo a c<=0:=aG f d
theorem Zo(a b:ByteArray):Bo b a= -Bo a b:=gQ _ _
theorem eE{a b c:ByteArray}(f:Bo a b<=0)(d:Bo b c<0):Bo a c<0:=by
 have i:=qU f (Int.le_of_lt d);have h:=Zo a b
 by_cases e:Bo a c=0
 ·have g:=aR e;subst g;omega
 ·omega
def qV(s:ByteArray)(x:List Aa):Prop:=(∀c∈x,Bo c.row s<0)∨(∀c∈x,Bo s c.row<=0)
theorem Zp{l:List Aa}{i:Nat}(h:i<l.length):Qw l i=l[i].row:=by unfold Qw;rw[a0x,a0w h];rfl
theorem Agm{l:List Aa}{bs:List ByteArray}{d:List (List Aa)}(h:Gf l bs d):risC l=true→(bs.Pairwise fun a b=>Bo a b<0)→∀x∈d,∀s∈bs,qV s x:=by
 induction h with
 |nil l=>intro _ _ x _ s q;cases q
 |cons l s bs d h hle h1 h2 h3 ih=>
  intro m n x k t f;rw[List.pairwise_cons] at n
  rcases List.mem_cons.1 k with rfl|k
  ·have j:∀c∈l.take h,Bo c.row s<0:=by
    intro c g;obtain⟨i,o,rfl⟩:=List.getElem_of_mem g;rw[a1v] at o;rw[List.getElem_take,<-Zp (by omega)];exact eE (eC m (h-1) i (by omega) (by omega)) ((Zn _ _).1 (h2 (by omega)))
   refine Or.inl fun c g=>?_
   rcases List.mem_cons.1 f with rfl|f
   ·exact j c g
   ·exact eE (Int.le_of_lt (j c g)) (n.1 t f)
  ·rcases List.mem_cons.1 f with rfl|f
   ·refine Or.inr fun c g=>?_
    obtain⟨i,o,rfl⟩:=List.getElem_of_mem (h3.mem k g);rw[a3u] at o;rw[List.getElem_drop,<-Zp (by omega)];refine qU ?_ (eC m (h+i) h (by omega) (by omega));have p:Ic (Qw l h) t=false:=h1 (by omega)
    have r:¬Bo (Qw l h) t<0:=fun e=>by rw[show Ic (Qw l h) t=true from(Zn _ _).2 e] at p;cases p
    have:=Zo (Qw l h) t;omega
   ·exact ih (X7 m h) n.2 x k t f
theorem Agn{l:List ByteArray}(h:G8 l=true):l.Pairwise fun a b=>Bo a b<0:=by
 have m:∀k,k<l.length→0<k→Bo (Es l (k-1)) (Es l k)<0:=by
  intro k p m
  cases e:Jk l k with
  |true=>rw[mR p e] at h;cases h
  |false=>
   unfold Jk at e;rw[Bool.or_eq_false_iff] at e;have o:=e.2;rw[decide_eq_true m,Bool.true_and] at o;exact(Zn _ _).1 (by simpa using o)
 have q:∀j i,i<j→j<l.length→Bo (Es l i) (Es l j)<0:=by
  intro j
  induction j with
  |zero=>intro i g;omega
  |succ j ih=>
   intro i g d;have n:=m (j+1) d (by omega)
   by_cases e:i=j
   ·subst e;exact n
   ·exact eE (Int.le_of_lt (ih i (by omega) (by omega))) n
 rw[List.pairwise_iff_getElem];intro i j g d f;have:=q j i f d;rw[Qj g,Qj d] at this;exact this
theorem Ago{x:List Aa}(h:0<x.length):∃c∈x,Qu x=c.row:=⟨x[0],a2x h,Zp h⟩
theorem Agp{x:List Aa}(h:0<x.length):∃c∈x,Qv x=c.row:=⟨x[x.length-1]'(by omega),a2x _,Zp (by omega)⟩
theorem Agq{bs:List ByteArray}{x:List Aa}(f:0<x.length)(h:∀s∈bs,qV s x):Qx bs (Qu x)=Qx bs (Qv x):=by
 unfold Qx;congr 1
 refine List.filter_congr fun s j=>?_
 obtain⟨a,i,l⟩:=Ago f;obtain⟨b,g,k⟩:=Agp f;rw[l,k,Bool.eq_iff_iff,qT,qT]
 rcases h s j with d|d
 ·have:=d a i;have:=d b g;have:=Zo a.row s;have:=Zo b.row s;omega
 ·have:=d a i;have:=d b g;omega
theorem qW{most:Nat}{a:List (List Aa)}{x:Nat × List Aa}(d:x∈Hg most a):∃y∈a,x.2∈Ld y most:=by
 unfold Hg Hy at d;obtain⟨i,g,h⟩:=List.mem_flatMap.1 d;obtain⟨r,f,rfl⟩:=List.mem_map.1 h;have b:=List.mem_range.1 g;rw[a0x,a0w b] at f;exact⟨a[i],a2x b,f⟩
theorem qX(b:Nat)(a:List (List Aa)):∀k,k≤a.length→((Hy b a k).map (·.2)).flatten=(a.take k).flatten
 |0,_=>rfl
 |k+1,h=>by
  rw[Ti,a4w,List.flatten_append,qX b a k (by omega),a1w (by omega),List.flatten_append,a6z];congr 1;rw[show((fun x:Nat × List Aa=>x.2) ∘ fun r=>(k,r))=id from rfl,List.map_id,Zm,a0x,a0w (by omega)];simp
theorem eF(l:List Aa):∀(k fr i:Nat),l.length-i=k→fr≤i→∀x∈Eh l fr i,0<(Ip l x).length
 |k,fr,i,hk,hf,x,a=>by
  by_cases h:i<l.length
  ·cases k with
   |zero=>omega
   |succ k=>
    cases e:Jz l i with
    |true=>
     rw[Ta h e] at a
     rcases List.mem_cons.1 a with rfl|a
     ·unfold Ip;rw[a1v,a3u];simp only;omega
     ·exact eF l k (i+1) (i+1) (by omega) (a1x _) x a
    |false=>
     rw[Vp h e] at a;exact eF l k fr (i+1) (by omega) (by omega) x a
  ·rw[Eh,if_neg h] at a;cases a
theorem qY(b:Nat)(l:List Aa):∀(d:List (Nat × Nat)) (xs:List (List Aa)),(∀r∈xs,0<r.length)→(∀x∈d,0<(Ip l x).length)→∀r∈d.foldl (fun xs x=>Jf b xs (Ip l x)) xs,0<r.length
 |[],xs,h,_,r,a=>h r a
 |p::d,xs,h,h2,r,a=>by
  refine qY b l d _ (fun r a=>?_) (fun x f=>h2 x (a2z _ f)) r a;have g:=h2 p List.mem_cons_self;have a:r∈Jf b xs (Ip l p):=a;unfold Jf at a;split at a
  ·rcases List.mem_or_eq_of_mem_set a with a|rfl
   ·exact h r a
   ·rw[a0z];omega
  ·rcases List.mem_append.1 a with a|a
   ·exact h r a
   ·rw[List.mem_singleton.1 a];exact g
theorem Agr{l:List Aa}{a:Nat}{r:List Aa}(h:r∈Ld l a):0<r.length:=
 qY a l _ [] (fun _ h=>by cases h) (eF l _ 0 0 rfl (a1x _)) r h
theorem qZ:∀{xs:List (List Aa)},risC xs.flatten=true→∀x∈xs,risC x=true
 |[],_,x,b=>by cases b
 |a::r,h,x,b=>by
  rw[a3w] at h
  rcases List.mem_cons.1 b with rfl|b
  ·have:=bD h x.length
   rwa [List.take_left] at this
  ·have:=X7 h a.length;rw[List.drop_left] at this;exact qZ this x b
theorem rA{l:List Aa}:∀m,(∀k,k<m->(Da (D8 l k)).2=0)->Du l m=0
 |0,_=>rfl
 |m+1,h=>pV (rA m fun k a=>h k (by omega)) (h m (by omega))
theorem Ags{x:List Aa}(g:0<x.length)(b:x.length<=2000)(d:∀c∈x,B8 c=true)(a:risC x=true):Oe x:=by
 refine⟨b,g,rA _ fun k _=>?_,a⟩;rw[fF]
 ·unfold D8;rw[a1v];omega
 ·rw[List.all_eq_true];intro c f;exact d c (a5x (a5w f))
 ·exact bD (X7 a _) _
theorem Agt{t:ByteArray}{c:Aa}(h:D5 t=some c):B8 c=true∧c.seq=0:=by
 unfold D5 at h;split at h
 ·rename_i x y z d e;unfold I9 at h;split at h
  ·rename_i g;obtain⟨u,_,e⟩:=Option.map_eq_some_iff.1 h;subst e;obtain⟨f,b,a⟩:=g;unfold Ku J6 at f b;simp only[a4x,decide_eq_true_eq] at f b;refine⟨?_,rfl⟩;unfold B8 Im;simp only[a4x,Bool.or_eq_true,decide_eq_true_eq]
   cases hg:Ii d with
   |true=>exact⟨⟨⟨⟨by omega,by omega⟩,by omega,by omega⟩,Nat.zero_le _⟩,Or.inr rfl⟩
   |false=>
    rw[hg,Bool.false_or] at a;unfold Qo at a;simp only[a4x,decide_eq_true_eq] at a;exact⟨⟨⟨⟨by omega,by omega⟩,by omega,by omega⟩,by simpa using a.2.2⟩,Or.inl rfl⟩
  ·cases h
 ·cases h
theorem Agu{l:List Aa}{y:Ad}(h:y∈Dj l):y.c∈l:=by
 unfold Dj Jp at h;obtain⟨i,b,rfl⟩:=List.mem_map.1 h;have a:=List.mem_range.1 b;show l.getD i Az∈l;rw[a0x,a0w a];exact a2x a
structure Uu(l:List Aa)(bs:List ByteArray)(r:List Ad)(ps:List (List Aa)):Prop where
 res:Bv (Dj l) r
 flat:ps.flatten=r.map (·.c)
 good:∀x∈ps,Oe x
 ok:∀x∈ps,∀c∈x,B3 c
 place:∀x∈ps,Qx bs (Qu x)=Qx bs (Qv x)
 len:r.length<=l.length
theorem rB:∀{ps:List (List Aa)},(∀x∈ps,0<x.length)→ps.length≤ps.flatten.length
 |[],_=>a1x _
 |a::r,h=>by
  have f:=h a List.mem_cons_self
  have d:=rB (ps:=r) fun x b=>h x (a2z _ b)
  rw[a3w,a0z,a4z];omega
theorem Uu.few{l:List Aa}{bs:List ByteArray}{r:List Ad}{ps:List (List Aa)}(h:Uu l bs r ps):ps.length<=l.length:=by
 have b:=rB (ps:=ps) fun x a=>(h.good x a).pos
 rw[h.flat,a1z] at b;have:=h.len;omega
theorem Uu.part{l:List Aa}{bs:List ByteArray}{r:List Ad}{ps:List (List Aa)}(h:Uu l bs r ps)(k:Nat):(ps.take k).flatten.length<=l.length:=by
 have a:ps.flatten.length=(ps.take k).flatten.length+(ps.drop k).flatten.length:=by rw[<-a0z,<-List.flatten_append,List.take_append_drop]
 rw[h.flat,a1z] at a;have:=h.len;omega
theorem Agv{ps:List (List Aa)}{k:Nat}(a:k<ps.length):(ps.take (k+1)).flatten=(ps.take k).flatten++ps[k]:=by
 rw[a1w a,List.flatten_append];simp
theorem Agw{l:List Aa}{bs:List ByteArray}{m wid mo:Int}{x:Nat}{files:List ByteArray}(I:∀c∈l,Hq c=true)(f:∀c∈l,B3 c)(L:l≠[])(K:l.length≤1000)
  (D:(Jn (l.map E1)).size<=4000)(J:G8 bs=true)(O:1<=m)(G:2<=wid)(N:1<=mo)(h:G2 (Jn (l.map E1)) bs m wid mo x files):
  x=0/\∃r ps,files=ps.map (fun x=>E3 x 0)/\Uu l bs r ps:=by
 have C:=Acg I D
 have w:∀c∈l,B8 c=true:=fun c f=>(Agt (cP (I c f)).1).1
 have u:∀(r:List Ad) (b:List (List Aa)) (a:Nat),Bv (Dj l) r→Gf (r.map (·.c)) bs b→
   (∀e∈K2 (Hg a b),e=0)/\Jt (Hg a b)=((Hg a b).map (·.2)).map (fun x=>E3 x 0)/\Uu l bs r ((Hg a b).map (·.2)):=by
  intro r b a B v;have o:=B.ris.risC
  have k:((Hg a b).map (·.2)).flatten=r.map (·.c):=by
   unfold Hg;rw[qX a b _ (a1x _),a2v,v.flat]
  have E:∀c∈r.map (·.c),c∈l:=by
   intro c f;obtain⟨y,j,rfl⟩:=List.mem_map.1 f;exact Agu (B.sub y j)
  have n:∀x∈(Hg a b).map (·.2),∀c∈x,c∈l:=fun x g c f=>E c (by rw[<-k];exact List.mem_flatten.2 ⟨x,g,f⟩)
  have A:r.length<=l.length:=by
   have:=B.len (Ul f (by omega))
   rwa [Yj] at this
  have d:∀x∈(Hg a b).map (·.2),Oe x:=by
   intro x g;obtain⟨y,j,rfl⟩:=List.mem_map.1 g;obtain⟨z,F,i⟩:=qW j;refine Ags (Agr i) ?_ (fun c f=>w c (n _ g c f)) (qZ (by rw[k];exact o) _ g);have p:=Vr g;rw[k,a1z] at p;omega
  refine⟨?_,?_,B,k,d,fun x g c h=>f c (n x g c h),?_,A⟩
  ·intro e M;obtain⟨y,j,rfl⟩:=List.mem_map.1 M;rw[Zj 0 (d _ (List.mem_map_of_mem j))]
  ·unfold Jt;rw[a6z]
   refine List.map_congr_left fun y j=>?_
   rw[Zj 0 (d _ (List.mem_map_of_mem j))];rfl
  ·intro x g
   refine Agq (d x g).pos fun s D=>?_
   obtain⟨y,j,rfl⟩:=List.mem_map.1 g;obtain⟨z,F,i⟩:=qW j
   have p:∀c∈y.2,c∈z:=fun c f=>by rw[<-Zm z a];exact List.mem_flatten.2 ⟨_,i,f⟩
   rcases Agm v o (Agn J) z F s D with t|t
   ·exact Or.inl fun c f=>t c (p c f)
   ·exact Or.inr fun c f=>t c (p c f)
 cases h with
 |parse h1=>rw[C] at h1;exact absurd rfl h1
 |none h1 i=>rw[C] at i;exact absurd i L
 |sort h1 i p=>omega
 |cut h1 i p t q=>
  rcases q with q|q
  ·rw[J] at q;cases q
  ·omega
 |build r b a h1 i p t q h6 h7 h8 h9 h10=>
  rw[C] at h8;exact absurd (qR _ (u r b a h8 h9).1) h10
 |ok r b a h1 i p t q h6 h7 h8 h9 h10=>
  rw[C] at h8;obtain⟨_,e,G⟩:=u r b a h8 h9;exact⟨rfl,r,_,e,G⟩
end
end Go.Proofs.YtkagolpnaicdoaaGreatDoor
