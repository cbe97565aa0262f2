/- Lemmas. -/
import Derived.Test.YtkagolpnaicdoaaGreatDoorQR9C
import Derived.Stop.LaidErr
set_option maxRecDepth 100000
set_option maxHeartbeats 8000000
open Go.Lib renaming hid->Y
open UInt8 renaming ofNat->Z,toNat_ofNat'->a1v
open List renaming replicate->a0z,getD_eq_getElem?_getD->a0x,getElem?_eq_getElem->a0v,getElem_map->a1z,setIfInBounds_toArray->a1x,set_cons_succ->a2x,set_cons_zero->a2w,getElem?_toArray->a3z,range_succ->a3x,map_append->a3w,getElem?_cons_zero->a3v,getElem?_cons_succ->a3u,length_set->a4z,length_replicate->a4x,range->a4w
open Go.IntKind renaming wrap_i64->a0w,wrap_u8->a0u,wrap_u64->a2z,wrap_u32->a2u
open Nat renaming le_refl->a1w,lt_of_lt_of_le->a2v
open ByteArray renaming size_append->a1u
namespace Go.Proofs.YtkagolpnaicdoaaGreatDoor
section
open Go.RowKit
theorem oL{w:World}{a:Option Addr}{n:Nat}{l:List Ac}(h:Ba w a n l){k:Nat}(d:k<l.length):∃b o,a=some ⟨b,o,none⟩/\∀w2,Fp [] w w2->J1 w2 b (o+k*6) l[k]:=by
 rcases h.cells with h|⟨r,g,q,m,j⟩
 .rw[h] at d;exact absurd d (Nat.not_lt_zero _)
 .exact⟨r,g,q,fun w2 i=>(j k d).fp i m List.not_mem_nil⟩
theorem Adp(w:World)(a:Option Addr)(len cap:Nat)(l:List Ac)(hl:Ba w a len l)(hn:len≤1000000):
  Calls Tryz.prog 111 #[.slice a len cap] w fun e w'=>∃v,e=.returned v/\Ce w' w.heap.size v (En l)/\Fp [] w w':=by
 have HL:=Y hl;have J:=Y hl.len;clear hl;go_in;go_wp2_with fail
 go_loopg [3,4] len (fun g va vi wr=>∃(k:Nat) (v:Value),g+k=len/\v=va/\vi=.int .i64 k/\Ce wr w.heap.size v (Ny l k)/\Fp [] w wr)
 case atStart=>exact⟨0,_,by omega,rfl,rfl,Ce.made w _ (a1w _),Fp.alloc _ _⟩
 case round=>
  obtain⟨k,va,hg,rfl,rfl,ho,hf⟩:=hrel;have G:=Y hf;have HO:=Y ho;clear hf ho;by_cases hk:k<len
  .have Q:k<l.length:=(by rw[←J.o];exact hk)
   have m:=zY l k;have E:=X6 l k
   have t:l.getD k Aq=l[k]:=(by rw[a0x,a0v Q];rfl)
   obtain⟨b1,o1,rfl,j⟩:=oL HL.o Q;obtain⟨c,hc⟩:=Aa (l[k]);rw[hc] at j t;rw[t] at m;have I:=Y j;have ad:w.heap.size<=wr.heap.size:=G.o.size
   have zk:(k:Int)<(len:Int):=(by omega)
   by_cases S:k=0
   .subst S;rw[show((0:Nat):Int)=0 from rfl]
    have R:O3 l 0=true:=(by unfold O3;exact decide_eq_true (Or.inl rfl))
    rw[R,if_pos rfl] at m;have u:=Y m;obtain⟨O,q⟩:=Aa c.row;rw[q] at u;have B:=Y q;clear m R t hc q j E;go_wp2_with fail;refine Bo (by kernel_rfl) (by kernel_rfl) ?_
    iterate 16
     first
     |apply Jq _ _ rfl rfl rfl rfl (by kernel_rfl) rfl rfl
     |apply A1 rfl rfl rfl
      .intro a w n d K U;have:=d.f 4;(try have:=d.e 0 12);(try have:=d.e 1 13);(try have:=d.e 2 14);(try have:=d.e 14 26);simp only[Oper.wp,execOp];go_simp;exact U _ n (Fp.refl _ _)
    refine Bn ?_
    iterate 16 refine Bm ?_
    refine Bl fun w' n=>?_
    .simp only[Aj,Act.put,a1x,a2x,a2w];have r:=Y (G.o.trans n);have C:=Y (HO.o.fp n);obtain⟨q0,q1,q2,q3,q4,q5⟩:=I.o _ r.o;rw[B.o] at q0;rw[show o1+0*6=o1 by omega] at q0;have T:w.heap.size<=w'.heap.size:=r.o.size;clear n;go_wp2_with (at_builtin;(refine Uo rfl _ _ rfl w.heap.size _ _ rfl (C.o.fp (Fp.alloc _ _)) _ O rfl (by rw[Ab (Ai (by simp) _)];rfl) (by show 0+1<=_;omega) (by simp;omega) ?_);intro v2 w2 x A;have L:=Y x;have N:=Y A;clear x A)
     go_roundg (gk-1)
     case measure=>omega
     case rel=>exact⟨0+1,_,by omega,rfl,by simp,by rw[u.o];exact L.o,((r.o.alloc' _)).belowTrans N.o⟩
   .have P:k-1<l.length:=(by omega)
    obtain⟨b2,o2,z,i⟩:=oL HL.o P
    obtain⟨rfl,rfl⟩:b1=b2/\o1=o2:=by cases z;exact⟨rfl,rfl⟩
    have F:l.getD (k-1) Aq=l[k-1]:=(by rw[a0x,a0v P];rfl)
    obtain⟨p,hp⟩:=Aa (l[k-1]);rw[hp] at i F;have M:=Y i
    have z0:((k:Int)==0)=false:=(by rw[beq_eq_false_iff_ne];omega)
    have n1:IntKind.i64.wrap ((k:Int)-1)=((k-1:Nat):Int):=(by rw[a0w];omega)
    have z1:((k-1:Nat):Int)<(len:Int):=(by omega)
    obtain⟨O,q⟩:=Aa c.row;obtain⟨rp,D⟩:=Aa p.row;have s:O3 l k=decide (O≠rp):=by
     unfold O3;rw[t,F,q,D];exact decide_eq_decide.2 ⟨fun h=>h.resolve_left S,Or.inr⟩
    rw[s,q] at m;have B:=Y q;have V:=Y D;have ab:=Y E;obtain⟨kp,y⟩:=Aa (k-1);rw[y] at M n1 z1;by_cases hr:O=rp
    .subst hr;rw[decide_eq_false (by simp),if_neg (by decide),List.append_nil] at m;have u:=Y m;clear m s q D t F hc hp j i E z y;go_wp2_with fail;refine Bo (by kernel_rfl) (by kernel_rfl) ?_
     iterate 16
      first|apply A1 rfl rfl rfl|apply Gw _ _ rfl rfl rfl rfl (by kernel_rfl) rfl rfl
      .intro a w n d K U;have:=d.f 4;have:=d.f 0;(try have:=d.e 0 12);(try have:=d.e 1 13);(try have:=d.e 3 15);(try have:=d.e 4 16);(try have:=d.e 5 17);(try have:=d.e 6 18);(try have:=d.e 9 21);(try have:=d.e 8 20);(try have:=d.e 10 22);(try have:=d.e 11 23);(try have:=d.e 12 24);(try have:=d.e 7 19);(try have:=d.e 13 25);(try have:=d.e 2 14);(try have:=d.e 14 26);obtain⟨x0,x1,x2,x3,x4,x5⟩:=I.o _ (G.o.trans n);obtain⟨y0,y1,y2,y3,y4,y5⟩:=M.o _ (G.o.trans n);rw[B.o] at x0;rw[V.o] at y0;simp only[Oper.wp,execOp];go_simp;exact U _ n (Fp.refl _ _)
     refine Bn ?_
     iterate 16 refine Bm ?_
     refine Bl fun w' n=>?_
     .simp only[Aj,Act.put,a1x,a2x,a2w];have r:=Y (G.o.trans n);have C:=Y (HO.o.fp n);clear n;go_wp2_with fail
      go_roundg (gk-1)
      case measure=>omega
      case rel=>exact⟨k+1,_,by omega,rfl,by simp,by rw[u.o];exact C.o,r.o⟩
    .have ac:(O.toList==rp.toList)=false:=by
      rw[beq_eq_false_iff_ne];intro e;rw[ByteArray.toList_eq,ByteArray.toList_eq] at e;exact hr (mG e)
     rw[decide_eq_true hr,if_pos rfl] at m;have u:=Y m;clear m s q D t F hc hp j i E hr z y;go_wp2_with fail;refine Bo (by kernel_rfl) (by kernel_rfl) ?_
     iterate 16
      first|apply A1 rfl rfl rfl|apply Gw _ _ rfl rfl rfl rfl (by kernel_rfl) rfl rfl
      .intro a w n d K U;have:=d.f 4;have:=d.f 0;(try have:=d.e 0 12);(try have:=d.e 1 13);(try have:=d.e 3 15);(try have:=d.e 4 16);(try have:=d.e 5 17);(try have:=d.e 6 18);(try have:=d.e 9 21);(try have:=d.e 8 20);(try have:=d.e 10 22);(try have:=d.e 11 23);(try have:=d.e 12 24);(try have:=d.e 7 19);(try have:=d.e 13 25);(try have:=d.e 2 14);(try have:=d.e 14 26);obtain⟨x0,x1,x2,x3,x4,x5⟩:=I.o _ (G.o.trans n);obtain⟨y0,y1,y2,y3,y4,y5⟩:=M.o _ (G.o.trans n);rw[B.o] at x0;rw[V.o] at y0;simp only[Oper.wp,execOp];go_simp;exact U _ n (Fp.refl _ _)
     refine Bn ?_
     iterate 16 refine Bm ?_
     refine Bl fun w' n=>?_
     .simp only[Aj,Act.put,a1x,a2x,a2w];have r:=Y (G.o.trans n);have C:=Y (HO.o.fp n);obtain⟨q0,q1,q2,q3,q4,q5⟩:=I.o _ r.o;rw[B.o] at q0;have T:w.heap.size<=w'.heap.size:=r.o.size;clear n;go_wp2_with (at_builtin;(refine Uo rfl _ _ rfl w.heap.size _ _ rfl (C.o.fp (Fp.alloc _ _)) _ O rfl (by rw[Ab (Ai (by simp) _)];rfl) (by have:=ab.o;omega) (by simp;omega) ?_);intro v2 w2 x A;have L:=Y x;have N:=Y A;clear x A)
      go_roundg (gk-1)
      case measure=>omega
      case rel=>exact⟨k+1,_,by omega,rfl,by simp,by rw[u.o];exact L.o,((r.o.alloc' _)).belowTrans N.o⟩
  .obtain rfl:k=len:=by omega
   have zk:¬(k:Int)<(k:Int):=(by omega)
   have aa:Hid (Ny l k=En l):=(by unfold En;rw[J.o];exact Y rfl)
   go_wp2_with fail;go_ret;exact⟨_,rfl,by rw[<-aa.o];exact HO.o,G.o⟩
end
section
open Go.RowKit Go.Lib
theorem V0(n:Nat)(w:World)(J:n<4294967296):Calls Tryz.prog 109 #[.int .u32 n] w fun e w'=>e=.returned (.string (bl (Ih n)))∧Fp [] w w':=by
 have z:Hid (Ih n=[Z (n%256),Z (n/256%256),Z (n/65536%256),Z (n/16777216)]):=by
  have a:∀m:Nat,Z (m%256)=Z m:=fun m=>by
   apply UInt8.toNat_inj.1;rw[a1v,a1v];omega
  unfold Hid Ih;rw[a,a,a]
 obtain⟨j,s⟩:=Aa (n%256);obtain⟨y,u⟩:=Aa (n/256);obtain⟨x,t⟩:=Aa (n/65536);obtain⟨d,k⟩:=Aa (n/16777216);obtain⟨i,q⟩:=Aa (y%256);obtain⟨h,l⟩:=Aa (x%256)
 have P:(n:Int)%256=(j:Int):=by omega
 have O:(n:Int)/256=(y:Int):=by omega
 have N:(n:Int)/65536=(x:Int):=by omega
 have M:(n:Int)/16777216=(d:Int):=by omega
 have L:(y:Int)%256=(i:Int):=by omega
 have K:(x:Int)%256=(h:Int):=by omega
 have C:j<256:=by omega
 have l1:i<256:=by omega
 have B:h<256:=by omega
 have A:d<256:=by omega
 have I:IntKind.u8.wrap (j:Int)=(j:Int):=by rw[a0u];omega
 have G:IntKind.u8.wrap (i:Int)=(i:Int):=by rw[a0u];omega
 have w2:IntKind.u8.wrap (h:Int)=(h:Int):=by rw[a0u];omega
 have F:IntKind.u8.wrap (d:Int)=(d:Int):=by rw[a0u];omega
 have D:=eT (w:=w.alloc (.cells #[.int .u8 j,.int .u8 i,.int .u8 h,.int .u8 d] 5)) (g:=w.heap.size) (Ai rfl _) C l1 B A;rw[s,u,t,q,l,k] at z;obtain⟨r,v⟩:=Aa (bl [Z j,Z i,Z h,Z d]);rw[v] at D;have E:=Y v;clear s q l k u t v;go_in;go_wp2_with fail;go_ret;exact⟨by rw[z.o,E.o];rfl,Fp.alloc _ _⟩
theorem Adq(a b:ByteArray):B0 0 (a++b)=Ln a b:=eR 0 a b (by decide)
theorem Adr(s:ByteArray)(w:World)(P:s.size≤100000000):
  Calls Tryz.prog 171 #[.string s] w fun e w'=>e=.returned (.tuple #[.string (I1 s).1,.int .i64 (I1 s).2])/\Fp [] w w':=by
 by_cases J:s.size>65535
 .have q:I1 s=(⟨#[]⟩,71):=if_pos J;rw[q]
  have z:(s.size:Int)>65535:=by omega
  go_in;go_wp2_with fail;go_ret2;exact⟨rfl,Fp.refl _ _⟩
 .have q:I1 s=(Jc s,0):=if_neg J;rw[q]
  have z:¬(s.size:Int)>65535:=by omega
  obtain⟨x,n⟩:=Aa (Ln (bl (two s.size)) s)
  have y:x<4294967296:=by rw[<-n];exact Zd _ _
  have C:Hid (Jc s=bl (two s.size)++bl (Ih x)++s):=by unfold Hid Jc;rw[n]
  have B:=Y (fun w=>Us (bl (two s.size)++s) w (by rw[a1u,Dt];show 2+_ <=_;omega));rw[Adq,n] at B;have m:=Y (fun w=>V0 x w y);clear n q;obtain⟨g,l⟩:=Aa (s.size%256);obtain⟨d,k⟩:=Aa (s.size/256)
  have R:(s.size:Int)%256=(g:Int):=by omega
  have Q:(s.size:Int)/256=(d:Int):=by omega
  have v:g<256:=by omega
  have u:d<256:=by omega
  have O:IntKind.u8.wrap (g:Int)=(g:Int):=by rw[a0u];omega
  have M:IntKind.u8.wrap (d:Int)=(d:Int):=by rw[a0u];omega
  have A:Hid (bl [Z g,Z d]=bl (two s.size)):=by
   unfold Hid two;rw[<-l,<-k];have t:Z (s.size%256)=Z s.size:=by
    apply UInt8.toNat_inj.1;rw[a1v,a1v];omega
   rw[t]
  clear l k;have F:=Y (P5 (w:=w.alloc (.cells #[.int .u8 g,.int .u8 d] 5)) (Ai rfl _) v u);have a:=F.o;rw[A.o] at a
  have l1:(bl (two s.size)).size=2:=by rw[Dt];rfl
  have I:(bl (Ih x)).size=4:=by rw[Dt];rfl
  obtain⟨r,i⟩:=Aa (bl (two s.size));obtain⟨G,h⟩:=Aa (bl (Ih x));rw[i] at l1 C a B;rw[h] at I C m
  have L:¬r.size+s.size>9223372036854775807:=by omega
  have N:¬r.size+G.size>9223372036854775807:=by omega
  have K:¬r.size+G.size+s.size>9223372036854775807:=by omega
  clear i h l1 I;go_in;go_wp2_with fail;refine(B.o _).mono ?_;rintro e M ⟨rfl,j⟩;have E:=Y ((Fp.alloc w _).trans j);clear j a;go_wp2_with fail;refine(m.o _).next E fun w2 D=>?_;go_wp2_with fail;go_ret2;exact⟨by rw[C.o];rfl,D.o⟩
theorem Tryz.info3:(Tryz.prog.info? 3).map (fun i=>(i.zero,i.size,i.bytes))=some (some (.int .i64 0),1,8):=by kernel_rfl
def Oa(s:ByteArray)(many k:Nat):List Value:=(a4w k).map fun j=>.int .i64 (Jn s many j:Nat)
theorem Ads(s:ByteArray)(a k:Nat):Oa s a (k+1)=Oa s a k++[.int .i64 (Jn s a k:Nat)]:=by
 unfold Oa;rw[a3x,a3w];rfl
theorem Yt(s:ByteArray)(a k:Nat):(Oa s a k).length=k:=by simp[Oa]
theorem Adt(s:ByteArray):B0 0 (s++⟨#[1]⟩)=Qd s:=eR 0 s ⟨#[1]⟩ (by decide)
theorem Adu(s:ByteArray)(many:Nat)(w:World)(hs:s.size≤100000)(hm:0<many)(ac:many≤1000000000):
  Calls Tryz.prog 172 #[.string s,.int .i64 many] w fun e w'=>∃v,e=.returned v/\An 3 w' w.heap.size v (Oa s many 4)/\Fp [] w w':=by
 have T:=Y (fun w=>Us s w (by omega));have L:=Y (fun w=>Us (s++⟨#[1]⟩) w (by rw[a1u];show _ +1<=_;omega));rw[Adt] at L;have la:Ly s<4294967296:=Og _ _;have lb:Qd s<4294967296:=Og _ _;have F:Hid (∀k,K9 s k=(Ly s+k*Qd s)%4294967296):=fun k=>rfl;have C:Hid (∀k,Jn s many k=K9 s k%many):=fun k=>rfl;have B:=Y (fun k=>Ads s many k);have E:=Y (fun k=>Yt s many k);have HA':Hid (∀w,Calls Tryz.prog 56 #[.string s] w fun e w'=>e=.returned (.int .u32 (Ly s))/\Fp [] w w'):=T;clear T;obtain⟨a,R⟩:=Aa (Ly s);obtain⟨b,Q⟩:=Aa (Qd s);rw[R] at HA' F la;rw[Q] at L F lb;clear R Q
 have zl:¬s.size+(ByteArray.mk #[1]).size>9223372036854775807:=by show ¬_ +1>_;omega
 have aa:¬s.size+1>9223372036854775807:=by omega
 have wa:IntKind.u64.wrap (a:Int)=(a:Int):=by rw[a2z];omega
 have wb:IntKind.u64.wrap (b:Int)=(b:Int):=by rw[a2z];omega
 have zm:(many:Int)>0:=by omega
 have m4:IntKind.u64.wrap (many:Int)=(many:Int):=by rw[a2z];omega
 have V:((many:Int)==0)=false:=by rw[beq_eq_false_iff_ne];omega
 have U:¬(many:Int)=0:=by omega
 go_in;go_wp2_with fail;refine(HA'.o _).mono ?_;rintro e w1 ⟨rfl,l⟩;have I:=Y ((Fp.alloc w (.cells #[] 3)).trans l);have D:=Y ((An.made 3 w _ (a1w _)).fp l);clear l;go_wp2_with fail;refine(L.o _).mono ?_;rintro e w2 ⟨rfl,j⟩;have G:=Y (I.o.trans j);have m:=Y (D.o.fp j);clear j;go_wp2_with fail
 go_loopg [5,8] 4 (fun g u vi wr=>∃(k:Nat) (v:Value),g+k=4/\v=u/\vi=.int .u64 k/\An 3 wr w.heap.size v (Oa s many k)/\Fp [] w wr)
 case atStart=>exact⟨0,_,by omega,rfl,rfl,m.o,G.o⟩
 case round=>
  obtain⟨k,u,hg,rfl,rfl,O,P⟩:=hrel;have J:=Y P;have S:=Y O;clear P O;have ae:w.heap.size<=wr.heap.size:=J.o.size;by_cases hk:k<4
  .have zk:(k:Int)<4:=(by omega)
   have A:k*b<=3*b:=Nat.mul_le_mul_right _ (by omega);have h:=F.o k;have d:=C.o k;obtain⟨p,z⟩:=Aa (k*b);rw[z] at A h
   have m1:IntKind.u64.wrap ((k:Int)*(b:Int))=(p:Int):=(by rw[<-Int.natCast_mul,z,a2z];omega)
   obtain⟨q,N⟩:=Aa (a+p);rw[N] at h
   have m2:IntKind.u64.wrap ((a:Int)+(p:Int))=(q:Int):=(by rw[a2z];omega)
   obtain⟨r,M⟩:=Aa (K9 s k);rw[M] at h d
   have m3:(q:Int)%4294967296=(r:Int):=(by omega)
   obtain⟨x,y⟩:=Aa (Jn s many k);rw[y] at d
   have ab:x<many:=(by rw[d];exact Nat.mod_lt _ hm)
   have m5:(r:Int)%(many:Int)=(x:Int):=(by rw[d];exact(Int.natCast_emod r many).symm)
   have m6:IntKind.i64.wrap (x:Int)=(x:Int):=(by rw[a0w];omega)
   have i:=B.o k;rw[y] at i;have HS:=Y i;have ad:=E.o k;clear i z N M y d h
   have n1:IntKind.u64.wrap ((k:Int)+1)=((k+1:Nat):Int):=(by rw[a2z];omega)
   go_wp2_with (at_builtin;(refine Za 245 3 Tryz.underlying245 Tryz.info3 rfl (by decide) rfl _ _ rfl w.heap.size _ _ rfl (S.o.fp (Fp.alloc _ _)) _ (.int .i64 x) rfl rfl (by rw[Ab (Ai (by simp) _)];rfl) (by omega) (by simp;omega) ?_);intro v2 w2 n t;have m:=Y n;have K:=Y t;clear n t)
   go_roundg (gk-1)
   case measure=>omega
   case rel=>exact⟨k+1,_,by omega,rfl,by simp,by rw[HS.o];exact m.o,(J.o.alloc' _).belowTrans K.o⟩
  .obtain rfl:k=4:=by omega
   have zk:¬((4:Nat):Int)<4:=(by omega)
   go_wp2_with fail;go_ret;exact⟨u,rfl,S.o,J.o⟩
structure oM(s:ByteArray)(many:Nat)(v:Value)(w:World):Prop where
 ex:∃g cap,v=.slice (some ⟨g,0,none⟩) 4 cap/\g<w.heap.size/\∀i,i<4->w.cell? ⟨g,i,none⟩=some (.int .i64 (Jn s many i:Nat))
theorem oM.of{s:ByteArray}{a base:Nat}{v:Value}{w:World}(h:An 3 w base v (Oa s a 4)):∃g cap,v=.slice (some ⟨g,0,none⟩) 4 cap/\base<=g/\g<w.heap.size/\∀w',Fp [] w w'->∀i,i<4->w'.cell? ⟨g,i,none⟩=some (.int .i64 (Jn s a i:Nat)):=by
 rcases h.at with⟨_,d|⟨g,cap,d,n,j,m⟩⟩
 .have:=Yt s a 4;rw[d] at this;exact absurd this (by decide)
 .rw[Yt] at d;refine⟨g,cap,d,n,j,fun w' l i k=>?_⟩;rw[l.cell j (by simp),m i (by rw[Yt];exact k)];unfold Oa;rw[a1z,List.getElem_range]
def Jv(d:List UInt8):List Bool:=(a4w (8*d.length)).map (Nl d)
theorem dE(d:List UInt8):(Jv d).length=8*d.length:=by simp[Jv]
theorem oN{d:List UInt8}{j:Nat}(h:j<(Jv d).length):(Jv d)[j]=Nl d j:=by
 simp only[Jv,a1z,List.getElem_range]
theorem Adv{d:List UInt8}{i:Nat}(h:i<8*d.length):Jv (Lx d i)=(Jv d).set i true:=by
 apply List.ext_getElem
 .rw[a4z,dE,dE,mH]
 .intro j g a;rw[List.getElem_set,oN,oN,sG j h];by_cases e:i=j
  .rw[if_pos e,decide_eq_true e,Bool.or_true]
  .rw[if_neg e,decide_eq_false e,Bool.or_false]
theorem Adw(n:Nat):Jv (a0z n 0)=a0z (8*n) false:=by
 unfold Jv;rw[a4x];apply List.ext_getElem
 .simp
 .intro j d a;rw[a1z,List.getElem_range,List.getElem_replicate];unfold Nl;have:(a0z n (0:UInt8)).getD (j/8) 0=0:=by
   rw[a0x,List.getElem?_replicate]
   split<;>rfl
  rw[this];exact Nat.zero_testBit _
def It(d:List UInt8)(m j:Nat):Nat:=(d.getD j 0).toNat/2^(m-8*j)
def Iu(d:List UInt8)(m:Nat):List UInt8:=(a4w d.length).map fun j=>Z (It d m j)
theorem Uf(d:List UInt8)(m:Nat):(Iu d m).length=d.length:=by simp[Iu]
theorem Adx(d:List UInt8)(m j:Nat):It d m j<256:=Nat.lt_of_le_of_lt (Nat.div_le_self _ _) (UInt8.toNat_lt _)
theorem dF{d:List UInt8}{m j:Nat}(h:8*j+8<=m):It d m j=0:=by
 unfold It;apply Nat.div_eq_of_lt;refine a2v (UInt8.toNat_lt _) ?_;show 2^8<=2^(m-8*j);exact Nat.pow_le_pow_right (by decide) (by omega)
theorem Ady(d:List UInt8):Iu d (8*d.length)=a0z d.length 0:=by
 unfold Iu;apply List.ext_getElem
 .simp
 .intro j g a;rw[a4x] at a;rw[a1z,List.getElem_range,List.getElem_replicate,dF (by omega)];rfl
theorem Adz(d:List UInt8):Iu d 0=d:=by
 unfold Iu;apply List.ext_getElem
 .simp
 .intro j g a;rw[a1z,List.getElem_range];unfold It;rw[Nat.zero_sub,Nat.pow_zero,Nat.div_one,UInt8.ofNat_toNat,a0x,a0v a];rfl
theorem Ad0{d:List UInt8}{m j:Nat}(h:j<d.length):(Iu d m).getD j 0=Z (It d m j):=by
 rw[a0x,a0v (by rw[Uf];exact h)];unfold Iu;rw[a1z,List.getElem_range];rfl
theorem Ad1{d:List UInt8}{m:Nat}:It d m (m/8)=2*It d (m+1) (m/8)+(if Nl d m=true then 1 else 0):=by
 unfold It Nl;rw[Nat.testBit_eq_decide_div_mod_eq,show m-8*(m/8)=m%8 by omega,show m+1-8*(m/8)=m%8+1 by omega,Nat.pow_succ,<-Nat.div_div_eq_div_mul];generalize (d.getD (m/8) 0).toNat/2^(m%8)=y;by_cases h:y%2=1
 .rw[if_pos (decide_eq_true h)];omega
 .rw[if_neg (by rw[decide_eq_false h];decide)];omega
theorem Ad2(d:List UInt8)(m:Nat):2*It d (m+1) (m/8)+1<256:=by
 unfold It;rw[show m+1-8*(m/8)=m%8+1 by omega,Nat.pow_succ',<-Nat.div_div_eq_div_mul];have i:=UInt8.toNat_lt (d.getD (m/8) 0)
 have h:(d.getD (m/8) 0).toNat/2<=127:=by omega
 have g:=Nat.div_le_self ((d.getD (m/8) 0).toNat/2) (2^(m%8))
 have a:(d.getD (m/8) 0).toNat/2/2^(m%8)<=127:=by omega
 omega
theorem oO{d:List UInt8}{m j:Nat}(h:j<(Iu d m).length):(Iu d m)[j]=Z (It d m j):=by
 simp only[Iu,a1z,List.getElem_range]
theorem Ad3{d:List UInt8}{m:Nat}:Iu d m=(Iu d (m+1)).set (m/8) (Z (It d m (m/8))):=by
 apply List.ext_getElem
 .rw[a4z,Uf,Uf]
 .intro j a h;rw[Uf] at a;rw[List.getElem_set,oO,oO];by_cases e:m/8=j
  .rw[if_pos e,e]
  .rw[if_neg e];congr 1;by_cases g:j<m/8
   .rw[dF (by omega),dF (by omega)]
   .unfold It;rw[show m-8*j=0 by omega,show m+1-8*j=0 by omega]
def Ky(w:World)(g:Nat)(d:List Bool):Prop:=w.heap[g]?=some (.cells (d.map Value.bool).toArray 4 (0,0))
theorem Ky.cell{w:World}{g j:Nat}{d:List Bool}(h:Ky w g d)(a:j<d.length):w.cell? ⟨g,j,none⟩=some (.bool (d.getD j false)):=by
 rw[Ab h];rw[a3z,List.getElem?_map,a0v a,a0x,a0v a];rfl
theorem Ky.free{w:World}{g:Nat}{d:List Bool}(h:Ky w g d)(j:Nat):w.frozen? ⟨g,j,none⟩=false:=Av h j
theorem Ky.set{w:World}{g j:Nat}{d:List Bool}{x:Bool}(h:Ky w g d):Ky (w.setCell ⟨g,j,none⟩ (.bool x)) g (d.set j x):=by
 unfold Ky;rw[Cf h];simp only[a1x];rw[<-List.map_set]
theorem Ky.fp{w w':World}{g:Nat}{d:List Bool}{S:List Nat}(h:Ky w g d)(i:Fp S w w')(a:g∉S:=by simp):Ky w' g d:=(i.block g (Ae h) a).trans h
theorem Ft.setN{w:World}{g j n:Nat}{d:List UInt8}(h:Ft w g d)(a:n<256):Ft (w.setCell ⟨g,j,none⟩ (.int .u8 n)) g (d.set j (Z n)):=by
 have:=h.set (j:=j) (x:=Z n);rw[show(Value.int .u8 ((Z n).toNat:Int))=A5 (Z n) from rfl,Ku a] at this;exact this
theorem Ad4(w:World)(n:Nat)(a:n<=1000000):(Instr.makeSlice 244 (.int .i64 n) (.int .i64 n)).run Tryz.prog w=.ok (.slice (some ⟨w.heap.size,0,none⟩) n n) (w.alloc (.cells ((a0z n false).map Value.bool).toArray 4)):=by
 have h:=run_makeSlice (P:=Tryz.prog) w 244 4 Tryz.t4 (.bool false) Tryz.underlying244 (by kernel_rfl) (by kernel_rfl) .i64 .i64 n n (by omega) (Int.le_refl _) (by show(n:Int).toNat*1<=_;omega) (by show((1:Nat):Int)*n<=_;omega) (by omega)
 change _ =Result.ok _ (w.alloc (.cells (madeCells (Value.bool false).cells ((n:Int).toNat*1)) 4)) at h
 rw[h,Int.toNat_natCast,Nat.mul_one];rw[show(Value.bool false).cells=#[Value.bool false] from rfl,mL,List.map_replicate]
theorem Ad5(w:World)(v:Value)(base:Nat)(names:List ByteArray)(hv:Ce w base v names)(hn:names.length≤2000)(ax:∀s∈names,s.size≤100000):
  Calls Tryz.prog 110 #[v,.int .i64 10] w fun e w'=>e=.returned (.tuple #[.string (Hy names),.int .i64 0])/\Fp [] w w':=by
 obtain⟨⟨a,cap,rfl⟩,bd⟩:=hv.at;have b7:=Y bd;have b0:=Y ax;obtain⟨nl,z⟩:=Aa names.length;obtain⟨n,ak⟩:=Aa (Nz nl)
 have br:n=max ((nl*10+7)/8) 8:=by rw[<-ak];rfl
 have n1:IntKind.i64.wrap ((nl:Int)*10)=((nl*10:Nat):Int):=by rw[a0w];omega
 obtain⟨m1,a2⟩:=Aa (nl*10);rw[a2] at n1
 have n2:IntKind.i64.wrap ((m1:Int)+7)=((m1+7:Nat):Int):=by rw[a0w];omega
 obtain⟨m2,a1⟩:=Aa (m1+7);rw[a1] at n2;obtain⟨m3,bv⟩:=Aa (m2/8)
 have n3:(m2:Int)/8=(m3:Int):=by omega
 have n4:max (m3:Int) 8=(n:Int):=by omega
 have ci:8<=n:=by omega
 have bs:n<=100000:=by omega
 clear a2 a1 bv br hv bd ax
 have zn:¬(nl:Int)>2000:=by omega
 have n5:IntKind.i64.wrap (8*(n:Int))=((8*n:Nat):Int):=by rw[a0w];omega
 have bp:=Y (Adw n)
 have bg:Hid (∀d:List UInt8,d.length=n->Iu d (8*n)=a0z n 0):=fun d E=>by rw[<-E];exact Ady d
 have bh:Hid (∀s k,Jn s (8*n) k<8*n):=fun s k=>mI _ _ (by omega)
 have bj:Hid (∀k,(Hl names k).length=n):=fun k=>by rw[X7,z,ak]
 have t:Hid (∀d:List UInt8,d.length=n->(Jv d).length=8*n):=fun d E=>by rw[dE,E]
 have M:Hid (∀(d:List UInt8) i,d.length=n->i<8*n->Jv (Lx d i)=(Jv d).set i true):=fun d i E hi=>Adv (by rw[E];exact hi)
 have ad:Hid (∀s d k,d.length=n->Jo s d (k+1)=Lx (Jo s d k) (Jn s (8*n) k)):=fun s d k E=>by rw[cC,Ti,E]
 have bi:Hid (∀(d:List UInt8) m,d.length=n->m<8*n->Iu d m=(Iu d (m+1)).set (m/8) (Z (It d m (m/8)))):=fun _ _ _ _=>Ad3;have ah:Hid (∀s w,s.size<=100000->Calls Tryz.prog 172 #[.string s,.int .i64 ((8*n:Nat):Int)] w fun e w'=>∃v,e=.returned v/\An 3 w' w.heap.size v (Oa s (8*n) 4)/\Fp [] w w'):=fun s w hs=>Adu s (8*n) w hs (by omega) (by omega)
 have bz:8*(n/1)=8*n:=by omega
 obtain⟨n8,a0⟩:=Aa (8*n);rw[a0] at n5 bp bg bh t M ad bi ah
 have cm:64<=n8:=by omega
 have b9:n8<=800000:=by omega
 have b5:Hid (∀m,m<n8->m/8<n):=fun m hm=>by omega
 rw[z];have bt:=Ad4 w n8 (by omega);have C:Ky (w.alloc (.cells ((a0z n8 false).map Value.bool).toArray 4)) w.heap.size (a0z n8 false):=Ai rfl _;have al:=Fp.alloc w (.cells ((a0z n8 false).map Value.bool).toArray 4);obtain⟨w1,av⟩:=Aa (w.alloc (.cells ((a0z n8 false).map Value.bool).toArray 4));rw[av] at bt C al;have bo:=Y C;have b2:=Y al;have b8:w.heap.size<w1.heap.size:=Ae C;clear av C al bz;go_in;go_wp2_with fail
 go_loopg [8] nl (fun g vi wr=>∃k:Nat,g+k=nl/\vi=.int .i64 k/\Ky wr w.heap.size (Jv (Hl names k))/\Fp [] w wr)
 case atStart=>
  refine⟨0,by omega,rfl,?_,b2.o⟩
  have e:Hl names 0=a0z n 0:=by unfold Hl;rw[z,ak];rfl
  rw[e,bp.o];exact bo.o
 case round=>
  obtain⟨k,hg,rfl,a7,hf⟩:=hrel;have N:=Y a7;have HF:=Y hf;clear a7 hf;have bq:w.heap.size<wr.heap.size:=Ae N.o;by_cases hk:k<nl
  .have zk:(k:Int)<(nl:Int):=(by omega)
   have P:k<names.length:=(by rw[z];exact hk)
   have ap:=Y (mK names P);have l:=Y (bj.o k);obtain⟨s,hs⟩:=Aa (names[k])
   have aw:s.size<=100000:=(by rw[<-hs];exact b0.o _ (List.getElem_mem P))
   rw[hs] at ap;have bc:∃g0 ac,a=some ⟨g0,0,none⟩∧cap=ac∧wr.cell? ⟨g0,k,none⟩=some (.string s):=by
    rcases b7.o with h|⟨g0,c0,e0,_,bw,hc⟩
    .rw[h] at z;simp at z;omega
    .injection e0 with e1 _ e3
     refine⟨g0,c0,e1,e3,?_⟩;rw[HF.o.cell (p:=⟨g0,k,none⟩) bw (by simp),hc k P,hs]
   obtain⟨g0,ac,rfl,rfl,q0⟩:=bc;obtain⟨d,E⟩:=Aa (Hl names k);rw[E] at N ap l;have b6:=Y (ah.o s wr aw)
   have n9:IntKind.i64.wrap ((k:Int)+1)=((k+1:Nat):Int):=(by rw[a0w];omega)
   clear hs E aw P;go_wp2_with fail;refine b6.o.mono ?_;rintro e w2 ⟨v2,rfl,ay,Q⟩;obtain⟨g2,c2,rfl,cl,_,B⟩:=oM.of ay;have bn:=Y B;have b4:=Y (HF.o.trans Q);have ag:=Y (N.o.fp Q);have HF2':=Y Q;have ch:w.heap.size<w2.heap.size:=Ae ag.o
   have az:g2≠w.heap.size:=(by omega)
   clear Q ay B;go_wp2_with fail
   go_loopg [10] 4 (fun g vi wt=>∃j:Nat,g+j=4/\vi=.int .i64 j/\Ky wt w.heap.size (Jv (Jo s d j))/\Fp [w.heap.size] w2 wt)
   case atStart=>exact⟨0,by omega,rfl,ag.o,Fp.refl _ _⟩
   case round=>
    obtain⟨j,ck,rfl,ab,D⟩:=hrel;have q:=Y ab;have F:=Y D;clear ab D;by_cases hj:j<4
    .have zj:(j:Int)<4:=(by omega)
     have q1:(cd:World)->True:=fun _=>trivial;have q2:=(F.o.cell (p:=⟨g2,j,none⟩) (World.block_lt_of_cell? _ _ (bn.o _ (Fp.refl _ _) j hj)) (by simpa using az)).trans (bn.o _ (Fp.refl _ _) j hj);have aj:=bh.o s j;have bf:=Y (ad.o s d j l.o)
     have ai:(Jo s d j).length=n:=(by rw[Ti];exact l.o)
     have be:=Y (M.o (Jo s d j) (Jn s n8 j) ai aj);have a8:=t.o _ ai;obtain⟨x,hx⟩:=Aa (Jn s n8 j);rw[hx] at q2 aj bf be
     have zx:(x:Int)<(n8:Int):=(by omega)
     have z0:=q.o.free x;have c0:=q.o.cell (j:=x) (by rw[a8];exact aj)
     have cg:IntKind.i64.wrap ((j:Int)+1)=((j+1:Nat):Int):=(by rw[a0w];omega)
     clear hx ai a8 q1;go_wp2_with fail
     go_roundg (4-(j+1))
     case measure=>omega
     case rel=>exact⟨j+1,by omega,by simp,by rw[bf.o,be.o];exact q.o.set,F.o.setCell' (Or.inl (by simp)) _⟩
    .obtain rfl:j=4:=by omega
     have zj:¬((4:Nat):Int)<4:=(by omega)
     go_wp2_with fail
     go_roundg (nl-(k+1))
     case measure=>omega
     case rel=>exact⟨k+1,by omega,by simp,by rw[ap.o];exact q.o,b4.o.trans F.o⟩
  .obtain rfl:k=nl:=by omega
   have zk:¬(k:Int)<(k:Int):=(by omega)
   have l:=Y (bj.o k)
   have aq:Hid (Hy names=bl (Hl names k)):=(by unfold Hid Hy;rw[z])
   obtain⟨d,E⟩:=Aa (Hl names k);rw[E] at N l aq;have U:=mM wr n bs;have K:Ft (wr.alloc (.cells ((a0z n (0:UInt8)).map A5).toArray 5)) wr.heap.size (a0z n 0):=Ai rfl _;have A:=Fp.alloc wr (.cells ((a0z n (0:UInt8)).map A5).toArray 5);obtain⟨w3,au⟩:=Aa (wr.alloc (.cells ((a0z n (0:UInt8)).map A5).toArray 5));rw[au] at U K A;have ae:=Y K;have bk:=Y A;have q:=Y (N.o.fp A);obtain⟨b3,ba⟩:=Aa wr.heap.size;rw[ba] at U ae bq
   have cf:IntKind.i64.wrap ((n8:Int)-1)=(n8:Int)-1:=(by rw[a0w];omega)
   clear E au K A ba;go_wp2_with fail
   go_loopg [12] n8 (fun g vi wt=>∃i:Int,vi=.int .i64 i/\i=(g:Int)-1/\g<=n8/\Ft wt b3 (Iu d g)/\Fp [b3] w3 wt)
   case atStart=>exact⟨_,rfl,rfl,a1w _,by rw[bg.o d l.o];exact ae.o,Fp.refl _ _⟩
   case round=>
    obtain⟨i,rfl,hi,cj,a4,D⟩:=hrel;have T:=Y a4;have F:=Y D;have af:=Y (q.o.fp D (by simp;omega));clear a4 D
    cases gk with
    |zero=>
     have zi:¬i≥0:=(by omega)
     have b1:=Y (Adz d);have a5:=T.o.str (cap:=n);rw[b1.o,show d.length=n from l.o] at a5;obtain⟨r,hr⟩:=Aa (bl d);rw[hr] at a5 aq;clear hr hi;go_wp2_with fail;go_ret2;exact⟨by rw[aq.o];rfl,(HF.o.trans bk.o).trans F.o (by intro i hi;right;simp at hi;omega)⟩
    |succ m=>
     obtain rfl:i=(m:Int):=by omega
     have I:m<n8:=(by omega)
     have J:=b5.o m I;have HD:=Y (bi.o d m l.o I);have G:=Y (Ad1 (d:=d) (m:=m));have am:=Ad2 d m;have a6:=af.o.cell (j:=m) (by rw[t.o d l.o];exact I);have ao:(Jv d).getD m false=Nl d m:=by
      rw[a0x,a0v (by rw[t.o d l.o];exact I)];unfold Jv;rw[Option.getD_some,a1z,List.getElem_range]
     rw[ao] at a6;have R:=T.o.cell (j:=m/8) (by rw[Uf,l.o];exact J);rw[Ad0 (by rw[l.o];exact J)] at R;have an:=Ku (Adx d (m+1) (m/8));rw[show A5 (Z (It d (m+1) (m/8)))=Value.int .u8 ((Z (It d (m+1) (m/8))).toNat:Int) from rfl] at an;rw[an] at R;have bx:=T.o.free (m/8)
     have u:(Iu d (m+1)).length=n:=(by rw[Uf,l.o])
     obtain⟨j,a3⟩:=Aa (m/8);rw[a3] at J HD G am R bx;obtain⟨y,hy⟩:=Aa (It d (m+1) j);rw[hy] at G am R;obtain⟨O,ar⟩:=Aa (2*y);rw[ar] at G am
     have zi:(m:Int)≥0:=(by omega)
     have d1:(m:Int)/8=(j:Int):=(by omega)
     have zj:(j:Int)<(n:Int):=(by omega)
     have zm:(m:Int)<(n8:Int):=(by omega)
     have u1:IntKind.u8.wrap ((y:Int)*2)=(O:Int):=(by rw[a0u];omega)
     have u2:IntKind.u8.wrap ((O:Int)+1)=((O+1:Nat):Int):=(by rw[a0u];omega)
     have ce:IntKind.i64.wrap ((m:Int)-1)=(m:Int)-1:=(by rw[a0w];omega)
     have S:=Y (T.o.setN (j:=j) (n:=O) (by omega));have bm:=Y (F.o.setCell' (p:=⟨b3,j,none⟩) (Or.inl (by simp)) (.int .u8 O));have V:=S.o.cell (j:=j) (by rw[a4z,u];exact J);rw[a0x,List.getElem?_set_self (by rw[u];exact J),Option.getD_some] at V;have L:=Ku (n:=O) (by omega);rw[show A5 (Z O)=Value.int .u8 ((Z O).toNat:Int) from rfl] at L;rw[L] at V;have cc:=S.o.free j;have aa:=(af.o.fp (Fp.setCell _ ⟨b3,j,none⟩ (.int .u8 O)) (by simp;omega)).cell (j:=m) (by rw[t.o d l.o];exact I);rw[ao] at aa;clear a3 hy ar ao an L u hi;obtain⟨bb,a9⟩:=Aa (Nl d m);rw[a9] at a6 aa G;clear a9;cases bb
     .go_wp2_with fail
      go_roundg m
      case measure=>omega
      case rel=>
       refine⟨_,rfl,rfl,by omega,?_,bm.o⟩;rw[HD.o,G.o];exact S.o
     .go_wp2_with fail
      go_roundg m
      case measure=>omega
      case rel=>
       refine⟨_,rfl,rfl,by omega,?_,bm.o.setCell' (Or.inl (by simp)) _⟩;rw[HD.o,G.o];have h:=S.o.setN (j:=j) (n:=O+1) (by omega);rw[List.set_set] at h;exact h
def Yu(b o len cap k:Nat):Value:=.slice (some ⟨b,o+8*k*6,none⟩) (min 8 (len-8*k)) (cap-8*k)
def Ob(b o len cap k:Nat):List Value:=(a4w k).map (Yu b o len cap)
theorem Ad6(b o len cap k:Nat):Ob b o len cap (k+1)=Ob b o len cap k++[Yu b o len cap k]:=by
 unfold Ob;rw[a3x,a3w];rfl
theorem oP(b o len cap k:Nat):(Ob b o len cap k).length=k:=by simp[Ob]
theorem Ad7{b o len cap m k:Nat}(h:k<(Ob b o len cap m).length):(Ob b o len cap m)[k]=Yu b o len cap k:=by
 simp only[Ob,a1z,List.getElem_range]
theorem Ad8(w:World)(b o len cap:Nat)(ak:len≤cap)(ai:len≤1000000000):
  Calls Tryz.prog 106 #[.slice (some ⟨b,o,none⟩) len cap] w fun e w'=>∃v,e=.returned v/\An 78 w' w.heap.size v (Ob b o len cap ((len+7)/8))/\Fp [] w w':=by
 obtain⟨m,Q⟩:=Aa ((len+7)/8)
 have ah:8*m<=len+7:=by omega
 have ag:len<=8*m:=by omega
 rw[Q];clear Q;have J:=Y (fun k=>Ad6 b o len cap k);have M:=Y (fun k=>oP b o len cap k);go_in;go_wp2_with fail
 go_loopg [0,3] m (fun g vl C wr=>∃(k:Nat) (v:Value) (a:Option Addr) (ca:Nat),g+k=m/\v=C/\vl=.slice a (len-8*k) ca/\(8*k<len->a=some ⟨b,o+8*k*6,none⟩/\ca=cap-8*k)/\An 78 wr w.heap.size v (Ob b o len cap k)/\Fp [] w wr)
 case atStart=>exact⟨0,_,_,_,by omega,rfl,rfl,fun _=>⟨rfl,rfl⟩,An.made _ w _ (a1w _),Fp.alloc _ _⟩
 case round=>
  obtain⟨k,C,a,ca,hg,rfl,rfl,S,P,R⟩:=hrel;have B:=Y R;have L:=Y P;clear R P;have al:w.heap.size<=wr.heap.size:=B.o.size;by_cases hk:k<m
  .have F:8*k<len:=(by omega)
   obtain⟨rfl,rfl⟩:=S F;have l:=J.o k;have aj:=M.o k;have n:Yu b o len cap k=.slice (some ⟨b,o+8*k*6,none⟩) (min 8 (len-8*k)) (cap-8*k):=rfl;obtain⟨x,s⟩:=Aa (len-8*k);obtain⟨y,O⟩:=Aa (min 8 x);obtain⟨c,A⟩:=Aa (cap-8*k);obtain⟨D,d⟩:=Aa (o+8*k*6);rw[s,O,A,d] at n;rw[n] at l;have U:=Y l
   have zx:(x:Int)>0:=(by omega)
   have zy:min 8 (x:Int)=(y:Int):=(by omega)
   have V:(y:Int)<=(x:Int):=(by omega)
   have aa:(y:Int)<=(c:Int):=(by omega)
   have ac:y<=x:=(by omega)
   have af:x<=c:=(by omega)
   have ab:(x:Int)<=(c:Int):=(by omega)
   have ad:y<=8:=(by omega)
   have t:len-8*(k+1)=x-y:=(by omega)
   have T:Hid (len-8*(k+1)=x-y):=t
   have N:Hid (y=8∨x-y=0):=(by unfold Hid;omega)
   have I:=Y s;have z:=Y A;have K:=Y d;rw[s,A,d];clear s A d O l n S t;by_cases u:c=y
   .subst u;go_wp2_with (at_builtin;(refine Za 149 78 Tryz.underlying149 Tryz.infoP rfl (by decide) rfl _ _ rfl w.heap.size _ _ rfl (L.o.fp (Fp.alloc _ _)) _ (.slice (some ⟨b,D,none⟩) c c) rfl rfl (by rw[Ab (Ai (by simp) _)];rfl) (by omega) (by simp;omega) ?_);intro v2 w2 d i;have q:=Y d;have r:=Y i;clear d i)
    go_roundg (gk-1)
    case measure=>omega
    case rel=>
     have j:=T.o;have G:=z.o;exact⟨k+1,_,some ⟨b,D,none⟩,0,by omega,rfl,by rw[j,show x-c=0 by omega],fun h=>absurd h (by omega),by rw[U.o];exact q.o,(B.o.alloc' _).belowTrans r.o⟩
   .have HN:=Y u;go_wp2_with (at_builtin;(refine Za 149 78 Tryz.underlying149 Tryz.infoP rfl (by decide) rfl _ _ rfl w.heap.size _ _ rfl (L.o.fp (Fp.alloc _ _)) _ (.slice (some ⟨b,D,none⟩) y c) rfl rfl (by rw[Ab (Ai (by simp) _)];rfl) (by omega) (by simp;omega) ?_);intro v2 w2 d i;have q:=Y d;have r:=Y i;clear d i)
    go_roundg (gk-1)
    case measure=>omega
    case rel=>
     have j:=T.o;have G:=z.o;have ae:=I.o;have E:=K.o;have h8:=N.o;exact⟨k+1,_,_,_,by omega,rfl,by rw[j],fun h=>⟨by rw[<-E,show y=8 by omega,show o+8*(k+1)*6=o+8*k*6+8*6 by omega],by omega⟩,by rw[U.o];exact q.o,(B.o.alloc' _).belowTrans r.o⟩
  .obtain rfl:k=m:=by omega
   have s:len-8*k=0:=(by omega)
   rw[s];go_wp2_with fail;go_ret;exact⟨C,rfl,L.o,B.o⟩
theorem Yv(s:ByteArray)(w:World)(i:s.size≤100000000):
  Calls Tryz.prog 108 #[.string s] w fun e w'=>e=.returned (.string (Gz s))/\Fp [] w w':=by
 have h:=Y (Adr s w i);have g:Hid (Gz s=(I1 s).1):=rfl
 obtain⟨⟨x,n⟩,d⟩:∃x,I1 s=x:=⟨_,rfl⟩
 rw[d] at h g;clear d;go_in;go_wp2_with fail;refine h.o.nexh fun j a=>?_;go_wp2_with fail;go_ret;exact⟨by rw[g.o];rfl,a.o⟩
theorem oQ(n:Nat):C6 n 4=bl (Ih n):=by
 unfold C6 Ih;congr 1;simp[M9,Cj,a3x]
theorem Ad9(n:Nat):bl (W7 n false)=C6 n 8:=rfl
theorem Aea(n:Nat):C6 n 2=bl [Z n,Z (n/256)]:=by
 unfold C6;congr 1;simp[M9,Cj,a3x]
theorem Aeb(f:Hn):f.text.size=20:=by
 unfold Hn.text;rw[a1u,a1u,a1u,Ir,Ir,Ir,Ir]
theorem Aec(a:List UInt8)(b:ByteArray):bl a++b=bl (a++b.data.toList):=by
 apply ByteArray.ext;apply Array.ext';simp[bl]
theorem Aed(w:World)(a:Option Addr)(len cap:Nat)(l:List Ac)(seq:Nat)(v:Ba w a len l)(b3:len≤cap)(hq:seq<18446744073709551616):
  Calls Tryz.prog 57 #[.slice a len cap,.int .u64 seq] w fun e w'=>e=.returned (.tuple #[.string (F7 l seq).1,.int .i64 ((F7 l seq).2:Nat)])/\Fp [] w w':=by
 have HL:=Y v;have cd:=Y v.len;by_cases h1:len>2000
 .have hb:F7 l seq=(⟨#[]⟩,71):=if_pos (by rw[<-v.len];exact h1);rw[hb]
  have z:(len:Int)>2000:=by omega
  clear v hb;go_in;go_wp2_with fail;go_ret2;exact⟨rfl,Fp.refl _ _⟩
 by_cases h2:len=0
 .have hb:F7 l seq=(⟨#[]⟩,1):=by unfold F7;rw[if_neg (by rw[<-v.len];exact h1),if_pos (by rw[<-v.len];exact h2)]
  rw[hb];subst h2;clear v hb;go_in;go_wp2_with fail;go_ret2;exact⟨rfl,Fp.refl _ _⟩
 have hb:F7 l seq=if D2 l (Em l)≠0 then(⟨#[]⟩,D2 l (Em l)) else if risC l=false then(⟨#[]⟩,40) else(Jy l seq,0):=by
  unfold F7;rw[if_neg (by rw[<-v.len];exact h1),if_neg (by rw[<-v.len];exact h2)]
 have HB:=Y hb
 have y1:¬(len:Int)>2000:=by omega
 have y2:((len:Int)==0)=false:=by rw[beq_eq_false_iff_ne];omega
 obtain⟨b,o,rfl⟩:∃b o,a=some ⟨b,o,none⟩:=by
  rcases v.cells with h0|⟨b,o,e,_⟩
  .rw[h0] at v;have:=v.len;simp at this;omega
  .exact⟨b,o,e⟩
 have ak:=Y (fun w=>Ad8 w b o len cap b3 (by omega));obtain⟨m,B⟩:=Aa (Em l)
 have bd:(len+7)/8=m:=by rw[<-B,Em,v.len]
 rw[bd] at ak
 have cn:8*m<len+8:=by omega
 have cm:len<=8*m:=by omega
 have i:=Y B;clear v hb B bd;go_in;go_wp2_with fail;refine(ak.o _).mono ?_;rintro e w1 ⟨v1,rfl,a8,bm⟩;have E:=oP b o len cap m;obtain⟨-,b7|⟨g1,c1,rfl,ct,bf,bn⟩⟩:=a8.at
 .rw[b7] at E;simp at E;omega
 rw[E];have ck:Hid (∀k,k<m->w1.cell? ⟨g1,k,none⟩=some (.slice (some ⟨b,o+8*k*6,none⟩) (min 8 (len-8*k)) (cap-8*k))):=by
  intro k hk;have h:=bn k (by rw[E];exact hk);rw[Ad7] at h;exact h
 have D:=Y bm;obtain⟨p0,a6⟩:=Aa (m%256);obtain⟨p1,a5⟩:=Aa (m/256)
 have e0:(m:Int)%256=(p0:Int):=by omega
 have x:(m:Int)/256=(p1:Int):=by omega
 have l0:p0<256:=by omega
 have l1:p1<256:=by omega
 have w0:IntKind.u8.wrap (p0:Int)=(p0:Int):=by rw[a0u];omega
 have bx:IntKind.u8.wrap (p1:Int)=(p1:Int):=by rw[a0u];omega
 have ce:Hid (Fh l 0=bl [Z p0,Z p1]):=by
  unfold Hid;show C6 (Em l) 2=_;rw[i.o,Aea,<-a6,<-a5];have bz:Z (m%256)=Z m:=by
   apply UInt8.toNat_inj.1;rw[a1v,a1v];omega
  rw[bz]
 have cv:=P5 (w:=w1.alloc (.cells #[.int .u8 p0,.int .u8 p1] 5)) (g:=w1.heap.size) (Ai rfl _) l0 l1;rw[<-ce.o] at cv;obtain⟨cs,F⟩:=Aa (Fh l 0);rw[F] at cv;have bo:=Y F;clear a6 a5 bn a8 bm ak F E;go_wp2_with fail
 go_loopg [7,8,9] m (fun g vb vi vk wr=>∃k:Nat,g+k=m/\vb=.string (bl (G5 l k))/\vi=.string (Fh l k)/\vk=.int .i64 k/\Fp [] w1 wr/\D2 l k=0)
 case atStart=>exact⟨0,by omega,rfl,by rw[bo.o],rfl,Fp.alloc _ _,rfl⟩
 case round=>
  obtain⟨k,hg,rfl,rfl,rfl,hf,he⟩:=hrel;have HF:=Y hf;have HE:=Y he;clear hf he cv e0 x w0 bx;by_cases hk:k<m
  .have zk:(k:Int)<(m:Int):=(by omega)
   have q0:wr.cell? ⟨g1,k,none⟩=some (.slice (some ⟨b,o+8*k*6,none⟩) (min 8 (len-8*k)) (cap-8*k)):=(HF.o.cell (p:=⟨g1,k,none⟩) bf (by simp)).trans (ck.o k hk);have al:=Y (rU wr (some ⟨b,o+8*k*6,none⟩) (min 8 (len-8*k)) (cap-8*k) (Es l k) (fD (HL.o.fp (D.o.trans HF.o)) (by omega)) (by omega));have bv:=Y (fun h=>fC (m:=Em l) HE.o h (by rw[i.o];exact hk));have bt:=Y (fun h=>Zi HE.o h);have ai:Hid (K1 l k=Gz (Ec (Es l k)).1):=rfl;have ag:=Zh (l:=Es l k)
   obtain⟨⟨s,e⟩,a1⟩:∃t,Ec (Es l k)=t:=⟨_,rfl⟩
   rw[a1] at al bv bt ai ag;obtain⟨mm,B⟩:=Aa (min 8 (len-8*k));rw[B] at q0 al;have ah:=R4 l k;have bw:=Y (Zj l k);have ad:=R5 l k;have R:Hid (Fh l (k+1)=Fh l k++C6 (K1 l k).size 4):=rfl;have j:=Dt (G5 l k);obtain⟨K,n⟩:=Aa (bl (G5 l k));rw[n] at j;rw[n];obtain⟨ix,r⟩:=Aa (Fh l k);rw[r] at R ad;rw[r];have cl:=Y n
   have n1:IntKind.i64.wrap ((k:Int)+1)=((k+1:Nat):Int):=(by rw[a0w];omega)
   clear a1 B n r;go_wp2_with fail;refine al.o.mono ?_;rintro x w3 ⟨rfl,J⟩;have C:=Y (HF.o.trans J);clear J;by_cases he:e=0
   .subst he;have cj:=Y (bt.o rfl);have aj:=Y (Yv s w3 (by omega));rw[←ai.o] at aj;have b1:=Zk l k;obtain⟨y,U⟩:=Aa (K1 l k);rw[U] at aj b1 bw R
    have co:¬K.size+y.size>9223372036854775807:=(by omega)
    have zl:¬ix.size+4>9223372036854775807:=(by omega)
    have u2:IntKind.u32.wrap (y.size:Int)=(y.size:Int):=(by rw[a2u];omega)
    have ar:=Y (fun w=>V0 y.size w (by omega));rw[<-oQ] at ar;have b2:=Ir y.size 4;obtain⟨le,be⟩:=Aa (C6 y.size 4);rw[be] at ar b2 R;clear U ai be;go_wp2_with fail;refine aj.o.mono ?_;rintro x w4 ⟨rfl,I⟩;have ax:=Y (C.o.trans I);clear I;go_wp2_with fail;refine(ar.o _).mono ?_;rintro x w6 ⟨rfl,G⟩;have aw:=Y (ax.o.trans G);clear G;go_wp2_with fail
    go_roundg (gk-1)
    case measure=>omega
    case rel=>
     refine⟨k+1,by omega,?_,by rw[R.o],by simp,aw.o,cj.o⟩;rw[bw.o,<-cl.o];exact congrArg Value.string (Aec _ _)
   .have ze:((e:Int)!=0)=true:=(by rw[bne_iff_ne];omega)
    have q:=HB.o;rw[i.o] at q;have af:=bv.o he;rw[i.o] at af;rw[af,if_pos he] at q;have M:=Y q;clear q af;go_wp2_with fail;go_ret2;exact⟨by rw[M.o];rfl,D.o.trans C.o⟩
  .obtain rfl:k=m:=by omega
   have zk:¬(k:Int)<(k:Int):=(by omega)
   have q:=HB.o;rw[i.o,HE.o,if_neg (by decide)] at q;have HB2':=Y q;have b9:=Y (W9 wr (some ⟨b,o,none⟩) len cap l (HL.o.fp (D.o.trans HF.o)) (by omega));clear q;go_wp2_with fail;refine b9.o.mono ?_;rintro x w3 ⟨rfl,J⟩;have C:=Y (HF.o.trans J);clear J;by_cases A:risC l=false
   .have u:=HB2'.o;rw[if_pos A] at u;have M:=Y u;rw[A];clear u A;go_wp2_with fail;go_ret2;exact⟨by rw[M.o];rfl,D.o.trans C.o⟩
   .have T:risC l=true:=(by simpa using A)
    have u:=HB2'.o;rw[if_neg A] at u;have M:=Y u;rw[T];clear u A T;have b8:=Y (Adp w3 (some ⟨b,o,none⟩) len cap l (HL.o.fp (D.o.trans C.o)) (by omega));go_wp2_with fail;refine b8.o.mono ?_;rintro x w4 ⟨v4,rfl,a7,I⟩;have ax:=Y (C.o.trans I)
    have a4:(En l).length<=2000:=by have h1:=X6 l l.length;have h2:=cd.o;unfold En;omega
    have ag:=Zl (En l)
    have b6:Nz (En l).length<=3000:=(by unfold Nz;omega)
    have cc:=Y (Ad5 w4 v4 w3.heap.size (En l) a7 a4 (by
     intro s hs;obtain⟨c,hc,rfl⟩:=fG hs;have:=(Rz (fF (by rw[i.o];exact HE.o) c hc)).1
     omega))
    clear I a7 a4;go_wp2_with fail;refine cc.o.mono ?_;rintro x w5 ⟨rfl,bj⟩;have ci:=Y (ax.o.trans bj)
    have au:Hid (Jd l=Gz (Fh l k)):=(by unfold Hid Jd;rw[i.o])
    have av:Hid (Kt l=Gz (Hy (En l))):=rfl;have ad:=R5 l k;have a3:=Qq (Fh l k);have a2:=Qq (Hy (En l));have Q:=Y (fun w=>Yv (Fh l k) w (by omega));have P:=Y (fun w=>Yv (Hy (En l)) w (by omega))
    have b4:(Jd l).size<=10000:=(by rw[au.o];omega)
    have b5:(Kt l).size<=10000:=(by rw[av.o];omega)
    have bp:Hid (Jw l seq=⟨(G5 l k).length,(Jd l).size,(Kt l).size,seq⟩):=(by unfold Hid Jw;rw[i.o])
    have L:Hid (Jy l seq=bl (G5 l k)++Jd l++Kt l++Gz (Jw l seq).text):=(by unfold Hid Jy Wm;rw[i.o])
    have d:Hid ((Jw l seq).text=C6 (G5 l k).length 4++C6 (Jd l).size 4++C6 (Kt l).size 4++C6 seq 8):=(by unfold Hid Hn.text;rw[bp.o])
    have b0:=Aeb (Jw l seq);have a0:=Qq (Jw l seq).text;have am:=Y (fun w=>Yv (Jw l seq).text w (by omega));rw[<-au.o] at Q;rw[<-av.o] at P;obtain⟨ix,r⟩:=Aa (Fh l k);rw[r] at Q;rw[r];obtain⟨fl,ae⟩:=Aa (Hy (En l));rw[ae] at P;rw[ae];have ah:=R4 l k;obtain⟨N,az⟩:=Aa (Jd l);rw[az] at Q b4 d L;obtain⟨S,ay⟩:=Aa (Kt l);rw[ay] at P b5 d L;have j:=Dt (G5 l k);obtain⟨K,n⟩:=Aa (bl (G5 l k));rw[<-j] at d ah;rw[n] at ah L d j;rw[n];have aq:=Y (fun w=>V0 K.size w (by omega));have ap:=Y (fun w=>V0 N.size w (by omega));have ao:=Y (fun w=>V0 S.size w (by omega));have an:=Y (fun w=>Z5 seq false w hq);rw[<-oQ] at aq ap ao;rw[Ad9] at an;have s1:=Ir K.size 4;have s2:=Ir N.size 4;have s3:=Ir S.size 4;have s4:=Ir seq 8;obtain⟨n1,bc⟩:=Aa (C6 K.size 4);obtain⟨n2,bb⟩:=Aa (C6 N.size 4);obtain⟨n3,ba⟩:=Aa (C6 S.size 4);obtain⟨n4,a9⟩:=Aa (C6 seq 8);rw[bc] at aq s1 d;rw[bb] at ap s2 d;rw[ba] at ao s3 d;rw[a9] at an s4 d;rw[d.o] at am;have ac:Hid (Jy l seq=K++N++S++Gz (Jw l seq).text):=L;obtain⟨rf,O⟩:=Aa (Gz (Jw l seq).text);rw[O] at ac a0;rw[d.o] at O;rw[O] at am
    have u1:IntKind.u32.wrap (K.size:Int)=(K.size:Int):=(by rw[a2u];omega)
    have u2:IntKind.u32.wrap (N.size:Int)=(N.size:Int):=(by rw[a2u];omega)
    have u3:IntKind.u32.wrap (S.size:Int)=(S.size:Int):=(by rw[a2u];omega)
    have z1:¬n1.size+n2.size>9223372036854775807:=(by omega)
    have z2:¬n1.size+n2.size+n3.size>9223372036854775807:=(by omega)
    have z3:¬n1.size+n2.size+n3.size+n4.size>9223372036854775807:=(by omega)
    have z4:¬K.size+N.size>9223372036854775807:=(by omega)
    have z5:¬K.size+N.size+S.size>9223372036854775807:=(by omega)
    have z6:¬K.size+N.size+S.size+rf.size>9223372036854775807:=(by omega)
    clear bj r ae az ay n ag b6 ad a3 a2 bp au av L j bc bb ba a9 O b0 a0 s1 s2 s3 s4;go_wp2_with fail;refine(Q.o _).mono ?_;rintro x w6 ⟨rfl,G⟩;have aw:=Y (ci.o.trans G);clear G;go_wp2_with fail;refine(P.o _).mono ?_;rintro x w7 ⟨rfl,bi⟩;have ch:=Y (aw.o.trans bi);clear bi;go_wp2_with fail;refine(aq.o _).mono ?_;rintro x w8 ⟨rfl,bh⟩;have cg:=Y (ch.o.trans bh);clear bh;go_wp2_with fail;refine(ap.o _).mono ?_;rintro x w9 ⟨rfl,bg⟩;have cf:=Y (cg.o.trans bg);clear bg;go_wp2_with fail;refine(ao.o _).mono ?_;rintro x cr ⟨rfl,ab⟩;have bs:=Y (cf.o.trans ab);clear ab;go_wp2_with fail;refine(an.o _).mono ?_;rintro x cq ⟨rfl,aa⟩;have br:=Y (bs.o.trans aa);clear aa;go_wp2_with fail;refine(am.o _).mono ?_;rintro x cp ⟨rfl,V⟩;have bq:=Y (br.o.trans V);clear V;go_wp2_with fail;go_ret2;exact⟨by rw[M.o];show _ =Ending.returned (.tuple #[.string (Jy l seq),_]);rw[ac.o];rfl,D.o.trans bq.o⟩
theorem Ip.low{W W':World}{base:Nat}{v:Value}{ps:List (Nat × List Ac)}(h:Ip W base v ps)(g:∀k,base<=k->k<W.heap.size->W'.heap[k]?=W.heap[k]?):Ip W' base v ps:=by
 obtain⟨i,d,j⟩:=h;exact⟨i,d.kept fun k a=>g k (d.lt k a).1 (d.lt k a).2,J9 (fun _ _ h=>⟨h.1,h.2.kept fun k a=>g k (h.2.lt k a).1 (h.2.lt k a).2⟩) j⟩
theorem Aee(T e:TypeId){z:Value}{d:Nat}(A:Tryz.prog.underlying T=some (.slice e))(n:(Tryz.prog.info? e).map (fun i=>(i.zero,i.size,i.bytes))=some (some z,1,d))(B:z.cells.size=1)(I:d≤100000)
  {w:World}{q:Array Oper}{rest:List Oper}{o:Oper}{a:Act}{Q:Exit->Act->World->Prop}(G:o.guard=none)(s x:Operand)
  (O:o.op=.call {callee:=.builtin .append,args:=#[s,x],argTypes:=#[T,T]})(base:Nat)(v:Value)(l:List Value)(N:a.eval s=v)(j:An e w base v l)
  (g:Nat)(t:Value)(M:t.oneCell'=true)(L:a.eval x=.slice (some ⟨g,0,none⟩) 1 1)(S:w.cell? ⟨g,0,none⟩=some t)(r:l.length+1<=1000000000)(m:base<=w.heap.size)
  (h:∀y w',An e w' base y (l++[t])->Below base w w'->(∀D,D≠e->Ao D base [] w w')->wpList Tryz.prog q Q rest (a.put o.dst y) w'):wpList Tryz.prog q Q (o::rest) a w:=by
 obtain⟨K,R,F,E,C⟩:=info_parts n;refine wpList_append_own w G s x T O base e K _ 1 d A R F E C B (by decide) v l.length l N j ⟨g,0,none⟩ 1 1 [t] L rfl (X4 S) (by intro u A;simp at A;subst A;exact M) (by unfold maxLen;omega) (Nat.le_trans (Nat.mul_le_mul r I) (by decide)) m ?_;intro y w' V J _;refine h y w' ?_ ((Below.refl base w).grown J m (fun k P=>(j.lt k P).1)) fun D U=>Sl j.typed J U;unfold An;rw[List.length_append];exact V
structure Ig(wB:World)(p:Nat)(sum ep vF vS:Value)(fl sl:List Value)(c:Value)(b:Nat->Bool)(vs:Nat->Value)(W:World):Prop where
 f:An 9 W wB.heap.size vF fl
 s0:b 5=false->An 26 W wB.heap.size vS sl
 s1:b 5=true->An 26 W wB.heap.size (vs 5) (sl++[c])
 sb:b 4=true->b 5=false->∃g,vs 4=.slice (some ⟨g,0,none⟩) 1 1/\W.heap[g]?=some (.cells #[c] 26 (0,0))
 cel:W.heap[p]?=some (.cells #[sum,ep,vF,cond (b 7) (vs 5) vS] 33 (0,0))
 fp:Fp [p] wB W
 o7:b 7=true->b 5=true
 o5:b 5=true->b 4=true
section
variable {wB W W2 : World} {p : Nat} {sum ep vF vS : Value} {fl sl : List Value} {c : Value} {b : Nat -> Bool} {vs : Nat -> Value}
theorem Ig.start{vs:Nat->Value}(g:An 9 W wB.heap.size vF fl)(d:An 26 W wB.heap.size vS sl)(i:W.heap[p]?=some (.cells #[sum,ep,vF,vS] 33 (0,0)))(a:Fp [p] wB W):Ig wB p sum ep vF vS fl sl c (fun _=>false) vs {W with drawn:=W.drawn+1}:=
 ⟨g.fp (Fp.drew W),fun _=>d.fp (Fp.drew W),(fun h=>by cases h),(fun h=>by cases h),i,a.trans (Fp.drew W),(fun h=>by cases h),(fun h=>by cases h)⟩
theorem Ig.plain{j:Nat}{x:Value}(h:Ig wB p sum ep vF vS fl sl c b vs W)(i:j≠4/\j≠5/\j≠7):Ig wB p sum ep vF vS fl sl c (Ak b j) (B6 vs j x) W:=by
 obtain⟨d,a,g⟩:=i;refine⟨h.f,?_,?_,?_,?_,h.fp,?_,?_⟩
 .rw[Ah a.symm];exact h.s0
 .rw[Ah a.symm,Bd a.symm];exact h.s1
 .rw[Ah d.symm,Ah a.symm,Bd d.symm];exact h.sb
 .rw[Ah g.symm,Bd a.symm];exact h.cel
 .rw[Ah g.symm,Ah a.symm];exact h.o7
 .rw[Ah a.symm,Ah d.symm];exact h.o5
theorem Ig.on(h:Ig wB p sum ep vF vS fl sl c b vs W)(a:Fp [] W W2):Ig wB p sum ep vF vS fl sl c b vs W2:=by
 refine⟨h.f.fp a,fun e=>(h.s0 e).fp a,fun e=>(h.s1 e).fp a,fun k j=>?_,(a.block _ (Ae h.cel) (by simp)).trans h.cel,h.fp.trans a,h.o7,h.o5⟩;obtain⟨g,i,d⟩:=h.sb k j;exact⟨g,i,(a.block _ (Ae d) (by simp)).trans d⟩
theorem Ig.bld(h:Ig wB p sum ep vF vS fl sl c b vs W)(d:b 4=false):Ig wB p sum ep vF vS fl sl c (Ak b 4) (B6 vs 4 (.slice (some ⟨W.heap.size,0,none⟩) 1 1)) (W.alloc (.cells #[c] 26)):=by
 have a:=E6 h.o5 d;have k:=h.on (Fp.alloc W (.cells #[c] 26));refine⟨k.f,k.s0,k.s1,fun _ _=>⟨W.heap.size,Gu _ _ _,Ai rfl _⟩,k.cel,k.fp,k.o7,fun e=>?_⟩;rw[Ah (by decide),a] at e;cases e
theorem Ig.app{a:Value}(h:Ig wB p sum ep vF vS fl sl c b vs W)(n:b 4=true)(m:b 5=false)(k:An 26 W2 wB.heap.size a (sl++[c]))(d:Below wB.heap.size W W2)(l:∀D,D≠26->Ao D wB.heap.size [] W W2)(j:p<wB.heap.size):Ig wB p sum ep vF vS fl sl c (Ak b 5) (B6 vs 5 a) W2:=by
 have g:=E6 h.o7 m;refine⟨h.f.keptT (l 9 (by decide)),fun e=>?_,fun _=>by rw[Gu];exact k,fun _ e=>?_,?_,h.fp.belowQ d,fun _=>Eg _ _,fun _=>n⟩
 .rw[Eg] at e;cases e
 .rw[Eg] at e;cases e
 .have i:=h.cel;rw[g] at i;rw[Ah (by decide),g];exact(d.block _ j).trans i
theorem Ig.sto{y:Value}(h:Ig wB p sum ep vF vS fl sl c b vs W)(g:b 5=true)(k:p<wB.heap.size)(j:vs 5=y):Ig wB p sum ep vF vS fl sl c (Ak b 7) (B6 vs 7 undef) (W.setCell ⟨p,3,none⟩ y):=by
 have d:Fp [p] W (W.setCell ⟨p,3,none⟩ y):=Fp.setCell W ⟨p,3,none⟩ y;have a:∀D,Ao D wB.heap.size [p] W (W.setCell ⟨p,3,none⟩ y):=fun D=>Ao.of d (by simpa using k);refine⟨h.f.keptT (a _),fun e=>(h.s0 e).keptT (a _),fun e=>(h.s1 e).keptT (a _),fun _ e=>?_,?_,h.fp.trans d,fun _=>g,h.o5⟩
 .have i:b 5=false:=e;rw[g] at i;cases i
 .rw[Cf h.cel,Eg,Bd (by decide),j];rfl
end
theorem An.setOld{e:TypeId}{W:World}{base p o:Nat}{v y:Value}{l:List Value}(h:An e W base v l)(a:p<base):An e (W.setCell ⟨p,o,none⟩ y) base v l:=h.fp (Fp.setCell W ⟨p,o,none⟩ y) (by simpa using a)
def Yw(w:World)(s:ByteArray)(bs:List ByteArray)(m wid mo ep:Int)(e:Ending)(w':World):Prop:=Fp [] w w'∧
   ((∃files vF vS,e=.returned (.tuple #[.agg #[.int .u32 (B0 0 s),.int .u64 ep,vF,vS],.int .i64 0])/\D3 s bs m wid mo 0 files/\An 9 w' w.heap.size vF (files.map Value.string)/\An 26 w' w.heap.size vS (files.map H9))∨
    ∃x:Nat,x≠0/\e=.returned (.tuple #[.agg #[.int .u32 0,.int .u64 0,.slice none 0 0,.slice none 0 0],.int .i64 x])/\D3 s bs m wid mo x [])
theorem Yx{w W:World}{s:ByteArray}{a:List ByteArray}{m wid mo ep y:Int}{x:Nat}(d:y=x)(i:Fp [] w W)(g:x≠0)(h:D3 s a m wid mo x []):Yw w s a m wid mo ep (.returned (.tuple #[.agg #[.int .u32 0,.int .u64 0,.slice none 0 0,.slice none 0 0],.int .i64 y])) W:=
 ⟨i,Or.inr ⟨x,g,by rw[d],h⟩⟩
theorem Aef{w W:World}{s:ByteArray}{a:List ByteArray}{m wid mo ep:Int}{files:List ByteArray}{vF vS:Value}(g:Fp [] w W)(d:D3 s a m wid mo 0 files)(i:An 9 W w.heap.size vF (files.map Value.string))(h:An 26 W w.heap.size vS (files.map H9)):Yw w s a m wid mo ep (.returned (.tuple #[.agg #[.int .u32 (B0 0 s),.int .u64 ep,vF,vS],.int .i64 0])) W:=
 ⟨g,Or.inl ⟨files,vF,vS,rfl,d,i,h⟩⟩
theorem Aeg(w:World)(s:ByteArray)(m wid mo:Int)(ep:Int)(a2:Option Addr)(n2 y:Nat)(bs:List ByteArray)
  (hs:s.size<=1500)(z:D6 w a2 n2 bs)(bg:n2<=100000)(hm:m<2^63)(d4:wid<2^63)(ea:mo<2^63):
  Calls Tryz.prog 12 #[.string s,.slice a2 n2 y,.int .u64 ep,.int .i64 m,.int .i64 wid,.int .i64 mo] w fun e w'=>Yw w s bs m wid mo ep e w':=by
 obtain⟨O,line,ec,bn⟩:∃O line ec,C0 s=(O,line,ec):=⟨_,_,_,rfl⟩
 have ag:=(S1 s (by omega)).1;have cf:=V9 s;have cl:=(S1 s (by omega)).2.2.2;have bv:=Y (fun w=>wG s w (by omega));rw[bn] at ag cf cl bv;simp only at ag cf cl;have E:=Y bn;have bx:=Y ag;have di:=Y z;have dk:=Y (fun w=>Us s w (by omega));have HS:=Y hs;clear bn ag z;go_in;go_wp2_with fail;have c5:Hid ((w.alloc (.cells #[.int .u32 0,.int .u64 0,.slice none 0 0,.slice none 0 0] 33)).heap[w.heap.size]?=some (.cells #[.int .u32 0,.int .u64 0,.slice none 0 0,.slice none 0 0] 33 (0,0))):=Ai rfl _;have cj:=Fp.alloc w (.cells #[.int .u32 0,.int .u64 0,.slice none 0 0,.slice none 0 0] 33);refine(bv.o _).mono ?_;rintro e F ⟨⟨v1,rfl,cd⟩,C⟩;obtain⟨a1,c1,rfl,d7,-,a0⟩:=Ap.at4 cd bx.o;have ar:Hid (Fp [] w F):=cj.trans C;have b2:Hid (∀W',Fp [] F W'->W'.heap[w.heap.size]?=some (.cells #[.int .u32 0,.int .u64 0,.slice none 0 0,.slice none 0 0] 33 (0,0))):=fun W' hf=>(hf.block _ (a2v (by simp) C.size) (by simp)).trans ((C.block _ (by simp) (by simp)).trans c5.o);have HZ:Hid (∀W',Fp [] w W'->Fp [] w ((((W'.setCell ⟨w.heap.size,0,none⟩ (.int .u32 0)).setCell ⟨w.heap.size,1,none⟩ (.int .u64 0)).setCell ⟨w.heap.size,2,none⟩ (.slice none 0 0)).setCell ⟨w.heap.size,3,none⟩ (.slice none 0 0))):=fun W' h=>(((h.setCell' (Or.inr (a1w _)) _).setCell' (Or.inr (a1w _)) _).setCell' (Or.inr (a1w _)) _).setCell' (Or.inr (a1w _)) _;have c7:=Y a0;simp only;clear cd C cj c5 a0 bv
 have au:Hid (∀W',Fp [] F W'->W'.cell? ⟨w.heap.size,0,none⟩=some (.int .u32 0)/\W'.cell? ⟨w.heap.size,1,none⟩=some (.int .u64 0)/\W'.cell? ⟨w.heap.size,2,none⟩=some (.slice none 0 0)/\W'.cell? ⟨w.heap.size,3,none⟩=some (.slice none 0 0)/\W'.frozen? ⟨w.heap.size,0,none⟩=false/\W'.frozen? ⟨w.heap.size,1,none⟩=false/\W'.frozen? ⟨w.heap.size,2,none⟩=false/\W'.frozen? ⟨w.heap.size,3,none⟩=false):=fun W' hf=>
  have h:=b2.o W' hf
  ⟨Ab h 0,Ab h 1,Ab h 2,Ab h 3,Av h 0,Av h 1,Av h 2,Av h 3⟩
 by_cases ax:ec≠0
 .have d8:(((ec:Nat):Int)!=0)=true:=bne_iff_ne.2 (by omega);obtain⟨r0,r1,r2,r3,f0,f1,f2,f3⟩:=au.o F (Fp.refl _ _);go_wp2_with fail;refine bodyPost_ret (v:=.tuple #[.agg #[.int .u32 0,.int .u64 0,.slice none 0 0,.slice none 0 0],.int .i64 ec]) (by simp[results,Tryz.results12,go_sem, *]) rfl ?_;exact Yx rfl (HZ.o _ ar.o) ax (by have:=D3.parse (borders:=bs) (m:=m) (wid:=wid) (mo:=mo) (s:=s) (by rw[E.o];exact ax);rw[E.o] at this;exact this)
 obtain rfl:ec=0:=by omega
 by_cases aj:O=[]
 .subst aj;obtain⟨r0,r1,r2,r3,f0,f1,f2,f3⟩:=au.o F (Fp.refl _ _);go_wp2_with fail;refine bodyPost_ret (v:=.tuple #[.agg #[.int .u32 0,.int .u64 0,.slice none 0 0,.slice none 0 0],.int .i64 1]) (by simp[results,Tryz.results12,go_sem, *]) rfl ?_;exact Yx (x:=1) rfl (HZ.o _ ar.o) (by decide) (D3.none (by rw[E.o]) (by rw[E.o]))
 have b9:0<O.length:=List.length_pos_iff.2 aj
 have P:Hid ((C0 s).2.2=0/\(C0 s).1≠[]):=⟨by rw[E.o],by rw[E.o];exact aj⟩
 have hz:(((O.length:Nat):Int)==0)=false:=beq_eq_false_iff_ne.2 (by omega);clear aj;by_cases T:m<1∨wid<2
 .have dm:Hid (Calls Tryz.prog 54 #[.slice a1 O.length c1,.int .i64 m,.int .i64 wid] F fun e w'=>e=.returned (.tuple #[.slice none 0 0,.int .i64 0,.int .i64 1])∧Fp [] F w'):=by
   by_cases ai:m<1
   .exact Abi F _ m wid ai
   .obtain⟨mn,rfl⟩:∃k:Nat,m=k:=⟨m.toNat,by omega⟩
    exact Abj F a1 O.length c1 mn wid O c7.o (by omega) (by omega) (by omega) (by omega)
  have HG:=Y T;clear T;go_wp2_with fail;refine dm.o.mono ?_;rintro e w3 ⟨rfl,B⟩;obtain⟨r0,r1,r2,r3,f0,f1,f2,f3⟩:=au.o w3 B;have ad:=Y (ar.o.trans B);clear B;go_wp2_with fail;refine bodyPost_ret (v:=.tuple #[.agg #[.int .u32 0,.int .u64 0,.slice none 0 0,.slice none 0 0],.int .i64 1]) (by simp[results,Tryz.results12,go_sem, *]) rfl ?_;exact Yx (x:=1) rfl (HZ.o _ ad.o) (by decide) (D3.sort P.o.1 P.o.2 HG.o)
 have ai:1<=m:=by omega
 have b6:2<=wid:=by omega
 obtain⟨mn,rfl⟩:∃k:Nat,m=k:=⟨m.toNat,by omega⟩
 obtain⟨wn,rfl⟩:∃k:Nat,wid=k:=⟨wid.toNat,by omega⟩
 have co:=Y (Abh F a1 O.length c1 mn wn O c7.o (by omega) (by omega) (by omega) (by omega) (by omega) b9);go_wp2_with fail;refine co.o.mono ?_;rintro e w3 ⟨v3,r,kp,rfl,u,bf,B⟩;have S:∀c∈r.map (·.c),Di c:=by
  intro c hc;obtain⟨x,hx,rfl⟩:=List.mem_map.1 hc;exact bx.o _ (fO (u.sub x hx))
 obtain⟨sl,R⟩:=Aa (r.map (·.c));have bd:sl.length<=4001:=by
  have h1:=u.len (Nx bx.o (by omega));have h2:(C4 O).length=O.length:=O9 O _;rw[<-R,List.length_map];omega
 have av:risC sl=true:=by rw[<-R];exact u.ris.risC
 rw[R] at bf S;obtain⟨a3,c3,rfl,d6,-,az⟩:=Ap.at4 bf S
 have a5:Hid (Bf (C4 (C0 s).1) r):=by rw[E.o];exact u
 have cq:=Y R;have a9:=Y az;have a8:=Y B;have ad:=Y (ar.o.trans B);have aa:=Y (di.o.of_fp ad.o);clear u bf S R az B co;by_cases hcut:Ee bs=false∨mo<1
 .have d3:Hid (Calls Tryz.prog 55 #[.slice a3 sl.length c3,.slice a2 n2 y,.int .i64 mo] w3 fun e w'=>e=.returned (.tuple #[.slice none 0 0,.int .i64 1])∧Fp [] w3 w'):=by
   cases hb:Ee bs with
   |false=>exact Abx w3 _ a2 n2 y bs mo aa.o bg hb
   |true=>exact Aby w3 a3 sl.length c3 a2 n2 y sl bs mo a9.o aa.o (by omega) bg hb av (hcut.resolve_left (by rw[hb];decide))
  have HG:=Y hcut;clear hcut;go_wp2_with fail;refine d3.o.mono ?_;rintro e w4 ⟨rfl,bm⟩;obtain⟨r0,r1,r2,r3,f0,f1,f2,f3⟩:=au.o w4 (a8.o.trans bm);have dz:=Y (ad.o.trans bm);clear bm;go_wp2_with fail;refine bodyPost_ret (v:=.tuple #[.agg #[.int .u32 0,.int .u64 0,.slice none 0 0,.slice none 0 0],.int .i64 1]) (by simp[results,Tryz.results12,go_sem, *]) rfl ?_;exact Yx (x:=1) rfl (HZ.o _ dz.o) (by decide) (D3.cut P.o.1 P.o.2 ai b6 HG.o)
 have bo:Ee bs=true:=by
  cases hb:Ee bs with
  |false=>exact absurd (Or.inl hb) hcut
  |true=>rfl
 have d5:1<=mo:=by
  by_cases h:mo<1
  .exact absurd (Or.inr h) hcut
  .omega
 clear hcut
 obtain⟨I,rfl⟩:∃k:Nat,mo=k:=⟨mo.toNat,by omega⟩
 have c6:=Y (Abw w3 a3 sl.length c3 a2 n2 y sl bs I a9.o aa.o (by omega) bg bo av (by omega) (by omega));have d1:=Y bo;clear bo;go_wp2_with fail;refine c6.o.mono ?_;rintro e w5 ⟨v5,G,rfl,ah,ae,bk⟩;obtain⟨pa,pc,rfl⟩:=ah.slice;have bh:=qV (most:=I) HS.o a5.o (by rw[cq.o];exact ae);have db:(G7 I G).length<=4001:=by
  have h1:=Sr I G G.length (a1w _);rw[List.take_length,ae.flat] at h1;exact Nat.le_trans h1 bd
 have dy:=Y (ad.o.trans bk);have cz:=Y (a8.o.trans bk)
 have dj:Hid (Eb (r.map (·.c)) bs G):=by rw[cq.o];exact ae
 obtain⟨ps,af⟩:=Aa (G7 I G);rw[af] at db bh ah;rw[af];have cv:=Y bh;have ct:=Y af;have cu:=Y ah;clear bk ae ah af bh c6;go_wp2_with fail;refine(dk.o _).mono ?_;rintro e w6 ⟨rfl,am⟩;have bz:=Y (cu.o.fp am);have dx:=Y (dy.o.trans am);have a7:=Y (cz.o.trans am);clear am cu;go_wp2_with fail;obtain⟨wB,J⟩:=Aa (w6.alloc (.cells #[.int .u32 (B0 0 s),.int .u64 ep,.slice none 0 0,.slice none 0 0] 33))
 have cc:wB.heap[w6.heap.size]?=some (.cells #[.int .u32 (B0 0 s),.int .u64 ep,.slice none 0 0,.slice none 0 0] 33 (0,0)):=by rw[<-J];exact Ai rfl _
 have N:Fp [] w6 wB:=by rw[<-J];exact Fp.alloc _ _
 have dq:=Y (bz.o.fp N);have dv:=Y (dx.o.trans N);have cy:=Y (a7.o.trans N);have bw:=Y cc;obtain⟨p,hp⟩:=Aa w6.heap.size;rw[hp] at bw;rw[J,hp]
 have ab:Hid (p<wB.heap.size/\F.heap.size<=p/\w.heap.size<F.heap.size):=⟨Ae bw.o,by rw[<-hp];exact a7.o.size,Ae (b2.o F (Fp.refl _ _))⟩
 have dp:Hid (∀W',Fp [p] wB W'->Ip W' w3.heap.size (.slice pa ps.length pc) ps):=fun W' hf=>by
  have h6:Ip w6 w3.heap.size (.slice pa ps.length pc) ps:=bz.o;refine h6.low fun k h1 h2=>(hf.block k (a2v h2 N.size) (by simp;omega)).trans (N.block k h2 (by simp))
 clear J cc N hp bz dq
 go_loopg [21] ps.length (fun g vi W=>∃(i:Nat) (vF vS:Value),g=ps.length-i/\vi=.int .i64 i/\i<=ps.length/\W.heap[p]?=some (.cells #[.int .u32 (B0 0 s),.int .u64 ep,vF,vS] 33 (0,0))/\An 9 W wB.heap.size vF ((F8 (ps.take i)).map Value.string)/\An 26 W wB.heap.size vS ((F8 (ps.take i)).map H9)/\Fp [p] wB W)
 case atStart=>exact⟨0,_,_,rfl,rfl,Nat.zero_le _,bw.o,An.nil _ _ _,An.nil _ _ _,Fp.refl _ _⟩
 case round=>
  obtain⟨i,vF,vS,hg,rfl,hi,ay,hF,hS,ch⟩:=hrel;obtain⟨fa,fn,fc,rfl⟩:=hF.sl;obtain⟨sa,sn,sc,rfl⟩:=hS.sl;have q:=Y ay;have b0:=Y hF;have bt:=Y hS;have ac:=Y ch;have HG:=Y hg;clear ay hF hS ch hg;have M:p<wB.heap.size:=ab.o.1;have d9:wB.heap.size<=wr.heap.size:=ac.o.size;by_cases ce:i<ps.length
  .have zi:(i:Int)<(ps.length:Int):=(by omega)
   have n1:IntKind.i64.wrap ((i:Int)+1)=((i+1:Nat):Int):=(by rw[a0w];omega)
   obtain⟨i1,bi⟩:=Aa (i+1);rw[bi] at n1;obtain⟨g,gc,xa,xn,xc,dc,-,bc,ba⟩:=(dp.o wr ac.o).get ce;cases dc;obtain⟨ak,Q⟩:=cv.o.2 ps[i] (List.getElem_mem _);obtain⟨x,hx⟩:=Aa (ps[i]);rw[hx] at ba ak Q;obtain⟨ya,yc,c9,b3,-,b4⟩:=Ap.at4 ba Q;cases c9;have an:=Aed wr xa x.2.length xc x.2 0 b4 b3 (by decide);have al:=Zo 0 ak;have bj:=fL 0 ak;rw[al,show((0:Nat):Int)=0 from rfl] at an;obtain⟨f,ci⟩:=Aa (Jy x.2 0);rw[ci] at al bj an;have c2:=Y an;have HX:=Y hx;have du:=Y al;have aq:=Y bi;have dl:=Y (fun w=>Us f w bj);obtain⟨xl,b5⟩:=Aa x.2.length;rw[b5] at bc c2;have q6:wr.cell? ⟨g,i*2+1,none⟩=some (.slice xa xl xc):=bc;clear bc ba ak Q hx b4 b3 an al ci bj bi b5;go_wp2_with fail;refine c2.o.mono ?_;rintro e w7 ⟨rfl,U⟩;have c0:=Y ((U.block _ (Ae q.o) (by simp)).trans q.o);have cx:=Y (b0.o.fp U);have cr:=Y (bt.o.fp U);have a6:=Y (ac.o.trans U)
   have ap:Hid (((F8 (ps.take i)).map Value.string).length+1<=1000000000/\((F8 (ps.take i)).map H9).length+1<=1000000000):=⟨by simp[F8];omega,by simp[F8];omega⟩
   have da:wB.heap.size<=w7.heap.size:=a6.o.size;have q7:w7.cell? ⟨p,2,none⟩=some (.slice fa fn fc):=Ab c0.o 2;obtain⟨FL,br⟩:=Aa ((F8 (ps.take i)).map Value.string);obtain⟨SL,bq⟩:=Aa ((F8 (ps.take i)).map H9);rw[br] at cx ap;rw[bq] at cr ap;have dt:=Y br;have cp:=Y bq;simp only;clear U q6 br bq;have ej:Hid (∀W',(∃v',An 9 W' wB.heap.size v' (FL++[.string f])/\An 26 W' wB.heap.size (.slice sa sn sc) SL/\W'.heap[p]?=some (.cells #[.int .u32 (B0 0 s),.int .u64 ep,.slice fa fn fc,.slice sa sn sc] 33 (0,0))/\Fp [p] wB W')->True):=fun _ _=>trivial;go_wp2_with (at_builtin;(refine Aee 22 9 Tryz.underlying22 Tryz.info9 rfl (by decide) rfl _ _ rfl wB.heap.size _ FL rfl (cx.o.fp (Fp.alloc _ _)) _ (.string f) rfl rfl (by rw[Ab (Ai rfl _)];rfl) ap.o.1 (by simp;omega) ?_);intro v8 w8 be bp cg;obtain⟨ga,gn,ao,rfl⟩:=An.sl be;have dr:=Y be;have d2:=Y bp;have ds:=Y cg;have b1:Hid (w8.heap[p]?=some (.cells #[.int .u32 (B0 0 s),.int .u64 ep,.slice fa fn fc,.slice sa sn sc] 33 (0,0))):=(bp.block p M).trans (((Fp.alloc w7 _).block p (a2v M da) (by simp)).trans c0.o);have c8:w8.cell? ⟨p,2,none⟩=some (.slice fa fn fc):=Ab b1.o 2;have f8:w8.frozen? ⟨p,2,none⟩=false:=Av b1.o 2;clear be bp cg);obtain⟨w9,L⟩:=Aa (w8.setCell ⟨p,2,none⟩ (.slice ga gn ao))
   have cm:w9.heap[p]?=some (.cells #[.int .u32 (B0 0 s),.int .u64 ep,.slice ga gn ao,.slice sa sn sc] 33 (0,0)):=(by rw[<-L];exact(Cf b1.o _).trans rfl)
   have ck:An 9 w9 wB.heap.size (.slice ga gn ao) (FL++[.string f]):=(by rw[<-L];exact dr.o.setOld M)
   have b8:An 26 w9 wB.heap.size (.slice sa sn sc) SL:=by
    rw[<-L];exact((cr.o.fp (Fp.alloc w7 _)).keptT (ds.o 26 (by decide))).setOld M
   have aw:Fp [p] wB w9:=by
    rw[<-L];exact((a6.o.trans (Fp.alloc w7 _)).belowQ d2.o).setCell' (Or.inl (by simp)) _
   rw[L];have d0:=Y cm;have dw:=Y ck;have dn:=Y b8;have cw:=Y aw;clear L cm ck b8 aw c8 f8;refine Qb (Ig wB p (.int .u32 (B0 0 s)) (.int .u64 ep) (.slice ga gn ao) (.slice sa sn sc) (FL++[.string f]) SL (H9 f)) (fun _ _=>True) (by kernel_rfl) (by kernel_rfl) (fun _=>Ig.start dw.o dn.o d0.o cw.o) ?_;apply Cm (fun _ _ _ h _=>h.plain (by decide)) rfl rfl rfl
   .intro b a w j d K D;have dh:=d.f 20;simp only[Oper.wp,execOp];go_simp;exact D _ j trivial
   apply Cm (fun _ _ _ h _=>h.plain (by decide)) rfl rfl rfl
   .intro b a w j d K D;have eh:=d.e 0 90;have V:=j.cel;rw[d.post 7 (by kernel_rfl),cond_false] at V;have q0:=Ab V 3;simp only[a3z,a3v,a3u] at q0;simp only[Oper.wp,execOp];go_simp;exact D _ j trivial
   apply Cm (fun _ _ _ h _=>h.plain (by decide)) rfl rfl rfl
   .intro b a w j d K D;have ei:=d.f 22;simp only[Oper.wp,execOp];go_simp;exact D _ j trivial
   apply Dw (Cc (H9 f)) rfl rfl rfl
   .intro b a w j d K D;have eg:=d.e 2 92;simp only[Oper.wp,execOp];go_simp;refine(dl.o _).mono ?_;rintro e w4 ⟨rfl,hf⟩;exact D _ _ ((j.on hf).plain (by decide)) trivial rfl
   apply Dw (fun _ _=>True) rfl rfl rfl
   .intro b a w j d K D;have ef:=d.e 3 93;have z:=j.bld d.self;simp only[Oper.wp,execOp];go_simp;exact D _ _ z trivial trivial
   apply Dw (fun _ _=>True) rfl rfl rfl
   .intro b a w j d K D;have dg:=d.e 1 91;have ee:=d.dep 4 94 _ (by kernel_rfl) rfl;obtain⟨g,de,dd⟩:=j.sb (d.pre 4 (by kernel_rfl)) d.self;refine aU 27 26 Tryz.underlying27 Tryz.infoU32 rfl (by decide) (.tmp 91) (.tmp 94) rfl _ _ _ (Ei dg) (j.s0 d.self) g _ rfl (Ei ((d.val 4 94 (by kernel_rfl)).trans de)) (Ab dd 0) ap.o.2 j.fp.size ?_;intro v' w' h1 h2 h3;exact D _ _ (j.app (d.pre 4 (by kernel_rfl)) d.self h1 h2 h3 M) trivial trivial
   apply Cm (fun _ _ _ h _=>h.plain (by decide)) rfl rfl rfl
   .intro b a w j d K D;have dh:=d.f 20;simp only[Oper.wp,execOp];go_simp;exact D _ j trivial
   apply J3 (fun _=>True) rfl rfl rfl
   .intro b a w j d K D;have eb:=d.e 6 96;have ed:=d.dep 5 95 _ (by kernel_rfl) rfl;obtain⟨a4,n4,c4,e4⟩:=(j.s1 (d.pre 5 (by kernel_rfl))).sl;have hv:=(d.val 5 95 (by kernel_rfl)).trans e4;have z:=j.sto (d.pre 5 (by kernel_rfl)) M rfl;rw[e4] at z;have f0:=Av j.cel 3;have q0:=Ab j.cel 3;simp only[a3z,a3v,a3u] at q0;simp only[Oper.wp,execOp];go_simp;exact D undef _ z trivial trivial
   refine⟨?_,?_⟩
   .refine⟨fun _ _ _ _ _=>trivial,?_⟩;refine E4 _ ?_;refine⟨fun _ _ _ _ _=>trivial,?_⟩;refine⟨fun _ _ _ _ _=>trivial,?_⟩;refine⟨fun _ _ _ _ h=>h,?_⟩
    iterate 3 refine E4 _ ?_
    exact trivial
   .intro w' bb cn;simp only[List.reverse_cons,List.reverse_nil,List.nil_append,List.cons_append]
    iterate 3 (refine A2 ?_)
    refine As ?_;intro v3 u3;obtain rfl:=u3;refine As ?_;intro v4 u4;refine As ?_;intro v5 u5
    iterate 1 (refine A2 ?_)
    refine As ?_;intro v7 u7;refine C7 ?_;intro j;simp only[Aj,Act.put,a1x,a2x,a2w];go_wp2_with fail
    go_roundg (ps.length-i1)
    case measure=>have:=HG.o;have:=aq.o;omega
    case rel=>
     have V:=j.cel;rw[cn 7 (by simp),cond_true] at V;have b7:=eB ce HX.o du.o;refine⟨i1,_,_,rfl,rfl,by have:=aq.o;omega,V,?_,?_,j.fp⟩
     .rw[<-aq.o,b7,a3w,dt.o];exact j.f
     .rw[<-aq.o,b7,a3w,cp.o];exact j.s1 (cn 5 (by simp))
  .have zi:¬(i:Int)<(ps.length:Int):=(by omega)
   obtain rfl:i=ps.length:=by omega
   have C:=cy.o;have t:wr.heap[w.heap.size]?=some (.cells #[.int .u32 0,.int .u64 0,.slice none 0 0,.slice none 0 0] 33 (0,0)):=(ac.o.block _ (by have:=ab.o;omega) (by have:=ab.o;simp;omega)).trans (b2.o wB C);have q0:wr.cell? ⟨p,0,none⟩=some (.int .u32 (B0 0 s)):=Ab q.o 0;have q1:wr.cell? ⟨p,1,none⟩=some (.int .u64 ep):=Ab q.o 1;have q2:wr.cell? ⟨p,2,none⟩=some (.slice fa fn fc):=Ab q.o 2;have q3:wr.cell? ⟨p,3,none⟩=some (.slice sa sn sc):=Ab q.o 3;have r0:wr.cell? ⟨w.heap.size,0,none⟩=some (.int .u32 0):=Ab t 0;have r1:wr.cell? ⟨w.heap.size,1,none⟩=some (.int .u64 0):=Ab t 1;have r2:wr.cell? ⟨w.heap.size,2,none⟩=some (.slice none 0 0):=Ab t 2;have r3:wr.cell? ⟨w.heap.size,3,none⟩=some (.slice none 0 0):=Ab t 3;have f0:wr.frozen? ⟨w.heap.size,0,none⟩=false:=Av t 0;have f1:wr.frozen? ⟨w.heap.size,1,none⟩=false:=Av t 1;have f2:wr.frozen? ⟨w.heap.size,2,none⟩=false:=Av t 2;have f3:wr.frozen? ⟨w.heap.size,3,none⟩=false:=Av t 3;rw[List.take_length] at b0 bt
   have J:w.heap.size<wB.heap.size:=by have:=ab.o;omega
   clear t C;go_wp2_with fail;refine bodyPost_ret (v:=.tuple #[.agg #[.int .u32 (B0 0 s),.int .u64 ep,.slice fa fn fc,.slice sa sn sc],.int .i64 0]) (by simp[results,Tryz.results12,go_sem, *]) rfl ?_;have df:Fp [] w wr:=dv.o.trans ac.o (by intro i hi;right;have:=ab.o;simp at hi;omega);have hz:∀(A:World) (o:Nat) (v:Value),Fp [] w A->Fp [] w (A.setCell ⟨w.heap.size,o,none⟩ v):=fun A o v h=>h.setCell' (Or.inr (a1w _)) v;have n:∀(e:TypeId) (x:Value) (l:List Value) (A:World) (o:Nat) (v:Value),An e A wB.heap.size x l->An e (A.setCell ⟨w.heap.size,o,none⟩ v) wB.heap.size x l:=fun e x l A o v h=>h.setOld J;refine Aef (files:=F8 ps) (hz _ _ _ (hz _ _ _ (hz _ _ _ (hz _ _ _ df)))) ?_ ((n _ _ _ _ _ _ (n _ _ _ _ _ _ (n _ _ _ _ _ _ (n _ _ _ _ _ _ b0.o)))).mono (by omega)) ((n _ _ _ _ _ _ (n _ _ _ _ _ _ (n _ _ _ _ _ _ (n _ _ _ _ _ _ bt.o)))).mono (by omega));rw[<-ct.o];exact D3.ok r G I P.o.1 P.o.2 ai b6 d1.o (by omega) rfl a5.o dj.o (by rw[ct.o];exact cv.o.1)
end
section
open Go.RowKit Go.Lib Go.Maps Go.MapKept Go.ChangeMaps
def V1:ByteArray:=⟨#[120]⟩
def D7:A0:=⟨7,1,0,V1⟩
def Kp:A0:=⟨7,2,0,V1⟩
theorem oR:Ph D7:=⟨by decide,by decide,by decide,by decide,by decide,by decide⟩
theorem Aeh:Ph Kp:=⟨by decide,by decide,by decide,by decide,by decide,by decide⟩
theorem dG:Ek (F2 10000 []) (I0 []) (Ej []) D7=⟨F2 10000 ([]++[Bi D7]),I0 ([]++[Bi D7]),Ej ([]++[Bi D7]),0⟩/\V6 ([]++[Bi D7])/\Ej ([]++[Bi D7])=Hr (Ej []) D7:=
 qH oR (by decide) (by decide) (by intro t a;cases a) (by decide)
theorem Yy:Ej [Bi D7]=[D7]:=by
 have h:=dG.2.2;exact h
theorem Aei:Pm (F2 10000 []) (I0 []) (Ej []) 7 V1=⟨F2 10000 [Bi D7],I0 [Bi D7],Ej [Bi D7],0⟩:=by
 have h:=dG.1;exact h
theorem dH:Ci [Bi D7]=18:=by
 have h:=qI [] D7;exact h
theorem V2:Ek (F2 10000 [Bi D7]) (I0 [Bi D7]) (Ej [Bi D7]) Kp=⟨F2 10000 ([Bi D7]++[Bi Kp]),I0 ([Bi D7]++[Bi Kp]),Ej ([Bi D7]++[Bi Kp]),0⟩/\V6 ([Bi D7]++[Bi Kp])/\Ej ([Bi D7]++[Bi Kp])=Hr (Ej [Bi D7]) Kp:=
 qH Aeh (by decide) (by decide) dG.2.1 (by rw[dH];decide)
theorem Aej:Ej ([Bi D7]++[Bi Kp])=[Kp]:=by
 have h:=V2.2.2;rw[Yy] at h;exact h
theorem Aek:Pn (F2 10000 [Bi D7]) (I0 [Bi D7]) (Ej [Bi D7]) 7 2 0=⟨F2 10000 ([Bi D7]++[Bi Kp]),I0 ([Bi D7]++[Bi Kp]),Ej ([Bi D7]++[Bi Kp]),0⟩:=by
 have h:=V2.1;rw[<-h,Yy];rfl
theorem dI:Ci ([Bi D7]++[Bi Kp])=36:=by
 rw[qI,dH];rfl
theorem Oe.behind{a w w':World}{base b d L V:Nat}{r:Ui}(h:Oe base b d L V r w w')(j:Fp [] a w)(k:a.heap.size<=base)(q:a.heap.size<=b)(n:a.heap.size<=d)(m:a.heap.size<=L)(l:a.heap.size<=V):Fp [] a w':=by
 refine h.2.onto j k ?_;intro i g;right;simp only[List.mem_cons,List.not_mem_nil,or_false] at g;omega
theorem Ael(w:World)(hp:Kw w)(m:Dp w)(hz:Ja w):Calls Tryz.prog 10 #[] w fun e w'=>e=.returned (.bool true)∧Fp [] w w':=by
 have HP:=Y hp;have HT:=Y m;have HZ:=Y hz;have d:=Fp.alloc w (.cells #[.string ⟨#[109]⟩] 9);have T:D6 (w.alloc (.cells #[.string ⟨#[109]⟩] 9)) (some ⟨w.heap.size,0,none⟩) 1 [Qm]:=⟨rfl,Or.inr ⟨w.heap.size,0,rfl,fun i hi=>by
  have:i=0:=by simpa using hi
  subst this
  rw[Ab (Ai rfl _)];rfl⟩,by intro s hs;rw[List.mem_singleton.1 hs];decide⟩
 have I:=Y (qJ (w.alloc (.cells #[.string ⟨#[109]⟩] 9)) Rx 9 2 9 3 (some ⟨w.heap.size,0,none⟩) 1 1 [Qm] (by decide) T (by decide) (by decide) (by decide) (by decide) ⟨hp.mx.fp d,hp.er.fp d (by simp)⟩ (m.fp d));have a1:=Y d;unfold Rx at I;clear hp m hz d T;go_in;go_wp2_with fail;refine I.o.mono ?_;rintro e w1 ⟨af,he⟩;have he:∃a c S sn R,e=.returned (.tuple #[.agg #[.int .u32 (B0 0 Rx),.int .u64 3,.slice a 2 c,.slice S sn R],.int .i64 0]):=by
  rcases he with⟨files,vF,vS,rfl,hm,ho,a0⟩|⟨x,hx,_,hm⟩
  .have h2:=(qR hm).2;obtain⟨⟨a,c,e1⟩,-⟩:=ho.at;obtain⟨⟨S,R,e2⟩,-⟩:=a0.at;rw[List.length_map,h2] at e1;subst e1;subst e2;exact⟨_,_,_,_,_,rfl⟩
  .exact absurd (qR hm).1 hx
 obtain⟨a,c,S,sn,R,rfl⟩:=he;obtain⟨sum,n⟩:=Aa (B0 0 Rx);rw[n];have N:=Y (a1.o.trans af);clear af n;go_wp2_with fail;obtain⟨w2,g⟩:=Aa (w1.alloc (.cells #[.int .u32 sum,.int .u64 3,.slice a 2 c,.slice S sn R] 29))
 have ae:Fp [] w w2:=by rw[<-g];exact N.o.alloc' _
 have E:w2.heap[w1.heap.size]?=some (.cells #[.int .u32 sum,.int .u64 3,.slice a 2 c,.slice S sn R] 29 (0,0)):=by rw[<-g];exact Ai rfl _
 have az:w.heap.size<=w1.heap.size:=N.o.size;obtain⟨q,hq⟩:=Aa w1.heap.size;rw[hq] at E az
 try rw[hq]
 try rw[g]
 have ar:=Y ae;have P:=Y E;clear g ae E hq N I;go_wp2_with fail;refine(xK 10000 _).mono ?_;rintro e Q ⟨rfl,D,C⟩;have ay:=Ae P.o;have M:=Y (ar.o.trans C);have O:=Y ((C.block _ (Ae P.o) (by simp)).trans P.o);obtain⟨bm,h⟩:=Aa w2.heap.size
 have u:w.heap.size<=bm:=by rw[<-h];exact ar.o.size
 rw[h] at D ay
 try rw[h]
 have aj:=Y (pR Q (bm+1) bm (Dk.new 10000) (F2 10000 []) [] D (Au.new (by decide)) (HT.o.fp M.o) (by decide) (Ag4 (by decide)) (by intro t m;cases m) (by decide));clear D C h;go_wp2_with fail;refine aj.o.mono ?_;rintro e w4 ⟨L,V,v,rfl,ai,bc,ba,B⟩;have a6:w.heap.size<=Q.heap.size:=M.o.size;have U:q<Q.heap.size:=Ae O.o;have aq:Hid (Fp [] w w4):=Y (M.o.trans B (by intro i hi;right;simp at hi;omega));have ax:=Y ((B.block _ (Ae O.o) (by simp;omega)).trans O.o);have a2:Hid (Ff w4 Q.heap.size (bm+1) bm L V v (F2 10000 []) (I0 []) (Ej [])):=Y ai;have l:=Y (Agi w4 Q.heap.size (bm+1) bm L V v (F2 10000 []) (I0 []) (Ej []) 7 V1 a2.o (eA (by decide) (by decide)) (by decide) (by decide) (HT.o.fp aq.o) (by decide) (by decide) (by decide));rw[Aei,show((7:Nat):Int)=7 from rfl] at l;unfold V1 at l;clear ai B aj;go_wp2_with fail;refine l.o.mono ?_;rintro e w5 ⟨rfl,z⟩;have ap:=Y (z.behind aq.o (by omega) (by omega) u (by omega) (by omega))
 have a7:q≠L/\q≠V:=by omega
 have aw:=Y (z.2.low (Ae ax.o) U (by simp;omega) |>.trans ax.o);obtain⟨⟨v5,F⟩,-⟩:=z;have be:=Y F;have J:=Y (Agj w5 Q.heap.size (bm+1) bm L V v5 (F2 10000 [Bi D7]) (I0 [Bi D7]) (Ej [Bi D7]) 7 2 0 F (eA (by decide) (by rw[dH];decide)) (by rw[Yy];intro j hj;rw[List.mem_singleton.1 hj];exact oR) (by decide) (by decide) (by decide) (by decide) (HT.o.fp ap.o) (by decide) (by decide) (by rw[Yy];decide));rw[Aek,show((7:Nat):Int)=7 from rfl] at J;clear F l;go_wp2_with fail;refine J.o.mono ?_;rintro e w6 ⟨rfl,y⟩;have K:=Y (y.behind ap.o (by omega) (by omega) u (by omega) (by omega));have av:=Y (y.2.low (Ae aw.o) U (by simp;omega) |>.trans aw.o);obtain⟨⟨v6,ah⟩,-⟩:=y;have G:=Y (pR w6 (bm+1) bm _ _ _ ah.disk (eA (by decide) (by rw[dI];decide)) (HT.o.fp K.o) (by rw[Ag2,dI];decide) (Ag3 (c:=10000) V2.2.1 (by rw[dI];decide)) (fun t m=>⟨(V2.2.1 t m).1,by have:=(V2.2.1 t m).2;omega⟩) (by decide));rw[Aej] at G;clear ah J;go_wp2_with fail;refine G.o.mono ?_;rintro e w7 ⟨L7,V7,v7,rfl,k,bb,a9,A⟩;have a5:w.heap.size<=w6.heap.size:=K.o.size;have ao:Hid (Fp [] w w7):=Y (K.o.trans A (by intro i hi;right;simp at hi;omega));have a3:=Y ((A.block _ (Ae av.o) (by simp;omega)).trans av.o);have bd:=Y k;have al:=Y (fun W (hf:Fp [] w7 W)=>Agc W w6.heap.size V7 L7 v7 [Kp] (k.drv.fp hf) (k.own.fp hf) (by decide));have r2:w7.cell? ⟨q,2,none⟩=some (.slice a 2 c):=Ab a3.o 2;clear k A G;go_wp2_with fail;refine(al.o _ (Fp.refl _ _)).mono ?_;rintro e w8 ⟨v8,rfl,ab,ad⟩;obtain⟨g8,c8,rfl,-,-,-⟩:=V5 ab (i:=0) (by decide);have an:=Y ad;clear ab ad;go_wp2_with fail;refine(al.o _ an.o).mono ?_;rintro e w9 ⟨v9,rfl,aa,ac⟩;obtain⟨g9,c9,rfl,a8,-,ag⟩:=V5 aa (i:=0) (by decide);obtain⟨-,k1,-,-⟩:=ag w9 (Fp.refl _ _);have k1:w9.cell? ⟨g9,1,none⟩=some (.int .i64 2):=k1;have am:=Y (an.o.trans ac);have ak:=Y (qN 255 1 2 (by decide) (by decide) (by decide) w9 (HZ.o.fp (ao.o.trans am.o (by simp))));rw[Aho,show((255:Nat):Int)=255 from rfl,show((1:Nat):Int)=1 from rfl,show((2:Nat):Int)=2 from rfl] at ak;clear aa ac ag;go_wp2_with fail;refine ak.o.mono ?_;rintro e a4 ⟨rfl,r⟩;have au:=Y ((ao.o.trans am.o).trans r);clear r;go_wp2_with fail;go_ret;exact⟨rfl,au.o⟩
end
section
open Go.ChangeShapes Go.WideShapes Go.ChangeAt Go.RowKit
section
variable {H : Type} {enc : TypeId × Value -> H}
theorem Aem{a:Assume}{C:Checked}{os:Os}{f:FuncId}{fn:Func}{s:ChangeSpec}{n:List PathCond}{d fresh h q:Bool}{X:World→Array Value→Prop}
  (own:ownKnob C.prog.godebug=none)(m:os.Started)(r:C.prog.inits.idxOf? f=none)(D:C.prog.funcs[f]?=some fn)
  (l:∃(w:World) (g:Tape) (i:Input),w.os=os/\(w.forCall g i).Shaped C.prog/\i.vars=[]/\Input.okWide C.prog (w.forCall g i) .any w.heap.size f i/\
   ((s.pre enc C.prog fn n d (w.forCall g i).memory i.args/\X (w.forCall g i).memory i.args)/\sizedMet enc C.prog fn (OpenSpec.ofChange s) d (w.forCall g i).memory i.args)/\a.holds C.prog (lone (Frame.enter C.prog f i.args .normal) [] (w.forCall g i)))
  (k:∀(W:World) (args:Array Value) (G E:List (DataW H)) (before:List MemPlace),
   (∀(j:Nat) t v,fn.params[j]?=some t->args[j]?=some v->∃base,Value.okWide C.prog W .any base t v)->
   DataW.Whole enc C.prog fn.params.toList s.vars d W args.toList G E before->W.ShapedOpen C.prog->X W.memory args->
   Calls C.prog f args W fun e W'=>∃v,e=.returned v/\s.post enc C.prog fn d fresh h q W args v W'):
  ReturnsInHanded a C os f .any (fun w args=>(s.pre enc C.prog fn n d w args/\X w args)/\sizedMet enc C.prog fn (OpenSpec.ofChange s) d w args) (s.post enc C.prog fn d fresh h q):=by
 refine returnsInHanded_of_calls own m r l ?_;intro w g i _ A _ B x _;obtain⟨_,_,_,F,y,_,_,_,_,u⟩:=B;have e:F=fn:=Option.some.inj (y.symm.trans D);subst e;obtain⟨⟨⟨G,E,before,J,_⟩,I⟩,_⟩:=x;have z:=DataW.Whole.of_heap (w':=w.forCall g i) (by rfl) J;refine(k (w.forCall g i) i.args G E before (fun j t v N M=>⟨_,u j t v N M⟩) z A I).mono fun e W' ⟨v,L,K⟩=>?_;subst L;exact ChangeSpec.post_blind K
end
theorem oS: "*" ++ "errors.errorString" = "*errors.errorString" :=by decide
theorem oT(u:TypeId)(h:Tryz.prog.typeName? 3 u=some "*errors.errorString"):u=350:=
 typeName_ptr_named (nm:= "errors.errorString") (by rw[oS];kernel_rfl) (by kernel_rfl) (by decide) u (by rw[oS];exact h)
theorem Aen{W:World}{i g:List UInt8}{r:List (String × DataW Unit)}(h:laidMet Tryz.prog (("strconv.ErrRange",.iface "*errors.errorString" (.ptr (.agg [.lit (.string i)])))::("strconv.ErrSyntax",.iface "*errors.errorString" (.ptr (.agg [.lit (.string g)])))::r) W):Q4 W:=by
 obtain⟨m,k,d,_⟩:=laid_sentinel h (show Tryz.prog.globalNamed "strconv.ErrRange" =some 4 by kernel_rfl) (show(Tryz.prog.globals[4]?).map (·.type)=some 136 by kernel_rfl) Tryz.underlying136 oT Tryz.underlying350 Tryz.underlying352 rfl rfl Tryz.underlying9 (by kernel_rfl) (by kernel_rfl);obtain⟨l,j,a,_⟩:=laid_sentinel h.tail (show Tryz.prog.globalNamed "strconv.ErrSyntax" =some 3 by kernel_rfl) (show(Tryz.prog.globals[3]?).map (·.type)=some 136 by kernel_rfl) Tryz.underlying136 oT Tryz.underlying350 Tryz.underlying352 rfl rfl Tryz.underlying9 (by kernel_rfl) (by kernel_rfl);exact⟨⟨_,_,by simpa using World.var?_cell (show Tryz.prog.globalNamed "strconv.ErrSyntax" =some 3 by kernel_rfl) a 0⟩,⟨_,_,by simpa using World.var?_cell (show Tryz.prog.globalNamed "strconv.ErrRange" =some 4 by kernel_rfl) d 0⟩⟩
theorem Aeo{W:World}{i g:List UInt8}{r:List (String × DataW Unit)}(a:W.ShapedOpen Tryz.prog)(h:laidMet Tryz.prog (("strconv.ErrRange",.iface "*errors.errorString" (.ptr (.agg [.lit (.string i)])))::("strconv.ErrSyntax",.iface "*errors.errorString" (.ptr (.agg [.lit (.string g)])))::r) W.memory):Kw W:=by
 have d:=Aen h;exact⟨zW a,d.sy,d.rg⟩
end
end Go.Proofs.YtkagolpnaicdoaaGreatDoor
