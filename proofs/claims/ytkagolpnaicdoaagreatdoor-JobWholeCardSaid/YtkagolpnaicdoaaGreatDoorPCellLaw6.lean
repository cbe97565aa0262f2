/-
 FromKey. The reference decodes as the program does. Keys come back; the reference's FromKey is the program's.
-/
import Derived.Test.YtkagolpnaicdoaaGreatDoorPBuild
set_option maxRecDepth 100000
set_option maxHeartbeats 8000000
open Go.Lib renaming hid->a0z
open Nat renaming le_refl->a0x
open List renaming getElem?_cons_succ->a0w,getElem?_cons_zero->a0v,getElem?_toArray->a0u,take_of_length_le->a1z,setIfInBounds_toArray->a1x,nil_append->a1w
namespace Go.Proofs.YtkagolpnaicdoaaGreatDoor
section
open Go.RowKit
def Iz(s:ByteArray):List UInt8 × List UInt8 × Bool:=Lib.cut s.data.toList [0,1]
def Ol(l:List UInt8):ByteArray:=bl (Lib.replaceAll l [0,255] [0])
theorem hU(s:ByteArray):(Iz s).1.length<=s.size/\(Iz s).2.1.length<=s.size:=by
 unfold Iz Lib.cut;rw[Lib.size_eq];split
 ·exact⟨by simp only[List.length_take];omega,by simp only[List.length_drop];omega⟩
 ·exact⟨a0x _,Nat.zero_le _⟩
theorem iA(l:List UInt8):(Ol l).size<=l.length:=by
 unfold Ol;rw[Dm];exact uC _ _ _ (by decide)
theorem iB(s:ByteArray)(w:World)(a:Ia w)(b:s.size≤100000):
  Calls Tryz.prog 207 #[.string s,.string ⟨#[0,1]⟩] w fun e w'=>e=.returned (.tuple #[.string (bl (Iz s).1),.string (bl (Iz s).2.1),.bool (Iz s).2.2])/\Fp [] w w':=by
 obtain⟨m,a⟩:=a;refine(Tryz.strings_Cut s ⟨#[0,1]⟩ m w (by omega) a).mono ?_;rintro e w' ⟨rfl,n,rfl⟩;exact⟨rfl,Fp.drewN _ _⟩
theorem iC(l:List UInt8)(w:World)(a:Ia w)(b:l.length≤100000):
  Calls Tryz.prog 208 #[.string (bl l),.string ⟨#[0,255]⟩,.string ⟨#[0]⟩] w fun e w'=>e=.returned (.string (Ol l))/\Fp [] w w':=by
 obtain⟨m,a⟩:=a
 have h:(bl l).size<=100000:=by rw[Dm];exact b
 have d:Lib.countB (bl l) ⟨#[0,255]⟩<=(bl l).size:=Lib.countB_le ⟨#[0,255]⟩ (by decide) _ _ (a0x _);have g:(⟨#[0]⟩:ByteArray).size=1:=rfl;refine(Tryz.strings_ReplaceAll (bl l) ⟨#[0,255]⟩ ⟨#[0]⟩ m w (by omega) a (by decide) (by rw[g];omega)).mono ?_;rintro e w' ⟨rfl,f⟩;refine⟨?_,Below.toFp f⟩;rw[Nq];rfl
theorem Vg(a b:Option Addr)(w:World):(Instr.index 272 (.agg #[.pointer a,.pointer b]) (.int .i64 0)).run Tryz.prog w=.ok (.pointer a) w:=by
 simp[Instr.index,run_underlying Tryz.underlying272,asIntOf,go_sem]
theorem Xp(a b:Option Addr)(w:World):(Instr.index 272 (.agg #[.pointer a,.pointer b]) (.int .i64 1)).run Tryz.prog w=.ok (.pointer b) w:=by
 simp[Instr.index,run_underlying Tryz.underlying272,asIntOf,go_sem]
theorem uS(c:Aa)(w:World)(a:B3 c)(b:Ia w):Calls Tryz.prog 152 #[Bm c] w fun e w'=>e=.returned (.string (Oj c))/\Fp [] w w':=by
 unfold Oj;cases h:B8 c
 ·exact uR c w a h
 ·exact hG c w a h b
def I0(s:ByteArray):ByteArray:=⟨s.data.toList.reverse.toArray⟩
def Xq(s row col s2:ByteArray):Aa × Int:=
 if s2.size=16 then Sv s (Fo row col (A8-Bn (I0 (s2.extract 0 8)) 8) (A8-Bn (I0 (s2.extract 8 s2.size)) 8)) else(Az,1)
def Xr(s row:ByteArray)(Q:List UInt8 × List UInt8 × Bool):Aa × Int:=if Q.2.2=true then Xq s row (Ol Q.1) (bl Q.2.1) else(Az,1)
def Vh(s:ByteArray)(P:List UInt8 × List UInt8 × Bool):Aa × Int:=if P.2.2=true then Xr s (Ol P.1) (Iz (bl P.2.1)) else(Az,1)
def Ea(s:ByteArray):Aa × Int:=Vh s (Iz s)
structure KC(A:Nat)(w:World)(row col:ByteArray)(w':World):Prop where
 f:Fp [] w w'
 blk:∃x2 x3,w'.heap[A]?=some (.cells #[.string row,.string col,x2,x3,.bool false,.string ⟨#[]⟩] 80 (0,0))
def KR(A z1 z2:Nat)(w w':World):Prop:=
 (w.cell? ⟨A,2,none⟩=some (.int .u64 z1)->w'.cell? ⟨A,2,none⟩=some (.int .u64 z1))/\(w.cell? ⟨A,3,none⟩=some (.int .u64 z2)->w'.cell? ⟨A,3,none⟩=some (.int .u64 z2))
theorem KR.refl(A z1 z2:Nat)(w:World):KR A z1 z2 w w:=⟨id,id⟩
theorem KC.fp{A:Nat}{w:World}{d g:ByteArray}{a b:World}(h:KC A w d g a)(i:Fp [] a b):KC A w d g b:=by
 obtain⟨l,k,j⟩:=h.blk;exact⟨h.f.trans i (by simp),l,k,(i.block A (Ac j) (by simp)).trans j⟩
theorem KC.kr{A z1 z2:Nat}{w:World}{d g:ByteArray}{a b:World}(h:KC A w d g a)(i:Fp [] a b):KR A z1 z2 a b:=by
 obtain⟨l,k,j⟩:=h.blk;exact⟨fun f=>(i.cell (Ac j) (by simp)).trans f,fun f=>(i.cell (Ac j) (by simp)).trans f⟩
theorem KC.set2{A z1 z2:Nat}{w:World}{b d:ByteArray}{a:World}(h:KC A w b d a)(j:w.heap.size≤A):
  KC A w b d (a.setCell ⟨A,2,none⟩ (.int .u64 z1))/\KR A z1 z2 a (a.setCell ⟨A,2,none⟩ (.int .u64 z1))/\(a.setCell ⟨A,2,none⟩ (.int .u64 z1)).cell? ⟨A,2,none⟩=some (.int .u64 z1):=by
 obtain⟨n,m,g⟩:=h.blk;have l:=Ab g 2;have i:(a.setCell ⟨A,2,none⟩ (.int .u64 z1)).cell? ⟨A,2,none⟩=some (.int .u64 z1):=World.cell?_setCell_same _ _ _ l;refine⟨⟨h.f.setCell' (Or.inr j) _,_,_,Bd g _⟩,⟨fun _=>i,fun k=>?_⟩,i⟩;rw[World.cell?_setCell_other _ _ _ _ (fun e=>absurd (congrArg Addr.off e) (by show ¬(2:Nat)=3;decide))];exact k
theorem KC.set3{A z1 z2:Nat}{w:World}{b d:ByteArray}{a:World}(h:KC A w b d a)(j:w.heap.size≤A):
  KC A w b d (a.setCell ⟨A,3,none⟩ (.int .u64 z2))/\KR A z1 z2 a (a.setCell ⟨A,3,none⟩ (.int .u64 z2))/\(a.setCell ⟨A,3,none⟩ (.int .u64 z2)).cell? ⟨A,3,none⟩=some (.int .u64 z2):=by
 obtain⟨n,m,g⟩:=h.blk;have l:=Ab g 3;have i:(a.setCell ⟨A,3,none⟩ (.int .u64 z2)).cell? ⟨A,3,none⟩=some (.int .u64 z2):=World.cell?_setCell_same _ _ _ l;refine⟨⟨h.f.setCell' (Or.inr j) _,_,_,Bd g _⟩,⟨fun k=>?_,fun _=>i⟩,i⟩;rw[World.cell?_setCell_other _ _ _ _ (fun e=>absurd (congrArg Addr.off e) (by show ¬(3:Nat)=2;decide))];exact k
theorem KC.done{A z1 z2:Nat}{w:World}{b d:ByteArray}{a:World}(h:KC A w b d a)(k:a.cell? ⟨A,2,none⟩=some (.int .u64 z1))(j:a.cell? ⟨A,3,none⟩=some (.int .u64 z2)):
  a.heap[A]?=some (.cells #[.string b,.string d,.int .u64 z1,.int .u64 z2,.bool false,.string ⟨#[]⟩] 80 (0,0)):=by
 obtain⟨m,l,f⟩:=h.blk;have i:=(Ab f 2).symm.trans k;have g:=(Ab f 3).symm.trans j;simp only[a0u,a0w,a0v,Option.some.injEq] at i g;rw[f,i,g]
structure E9(w W:World)(l:Array Value):Prop where
 a:W.heap[w.heap.size]?=some (.cells l 80 (0,0))
 f:Fp [] w W
theorem E9.fp{w W W':World}{l:Array Value}(h:E9 w W l)(b:Fp [] W W'):E9 w W' l:=⟨(b.block _ (Ac h.a) (by simp)).trans h.a,h.f.trans b (by simp)⟩
theorem E9.set{w W:World}{l:Array Value}(h:E9 w W l)(o:Nat)(v:Value):E9 w (W.setCell ⟨w.heap.size,o,none⟩ v) (l.setIfInBounds o v):=⟨Bd h.a v,h.f.setCell' (Or.inr (a0x _)) _⟩
theorem E9.cell{w W:World}{j i g f d b:Value}(h:E9 w W #[j,i,g,f,d,b]):(W.cell? ⟨w.heap.size,0,none⟩=some j∧W.cell? ⟨w.heap.size,1,none⟩=some i∧W.cell? ⟨w.heap.size,2,none⟩=some g∧W.cell? ⟨w.heap.size,3,none⟩=some f∧W.cell? ⟨w.heap.size,4,none⟩=some d∧W.cell? ⟨w.heap.size,5,none⟩=some b)∧
  (W.frozen? ⟨w.heap.size,0,none⟩=false/\W.frozen? ⟨w.heap.size,1,none⟩=false/\W.frozen? ⟨w.heap.size,2,none⟩=false/\W.frozen? ⟨w.heap.size,3,none⟩=false/\W.frozen? ⟨w.heap.size,4,none⟩=false/\W.frozen? ⟨w.heap.size,5,none⟩=false):=
 ⟨⟨Ab h.a 0,Ab h.a 1,Ab h.a 2,Ab h.a 3,Ab h.a 4,Ab h.a 5⟩,⟨Ar h.a 0,Ar h.a 1,Ar h.a 2,Ar h.a 3,Ar h.a 4,Ar h.a 5⟩⟩
def Hn{α:Type}(a b c:α):Nat->α|0=>a|1=>b|_=>c
theorem uT(s:ByteArray)(w:World)(S:Ia w)(hs:s.size≤100000):
  Calls Tryz.prog 134 #[.string s] w fun e w'=>e=.returned (.tuple #[Bm (Ea s).1,.int .i64 (Ea s).2])/\Fp [] w w':=by
 have E:=a0z S;have Z:Hid (E9 w (w.alloc (.cells #[.string ⟨#[]⟩,.string ⟨#[]⟩,.int .u64 0,.int .u64 0,.bool false,.string ⟨#[]⟩] 80)) #[.string ⟨#[]⟩,.string ⟨#[]⟩,.int .u64 0,.int .u64 0,.bool false,.string ⟨#[]⟩]):=a0z ⟨Ai rfl _,Fp.alloc _ _⟩
 have t1:=fun w S=>iB s w S hs
 have HD:Hid (Ea s=Vh s (Iz s)):=rfl;have D:=hU s
 obtain⟨⟨l1,m1,b1⟩,q1⟩:∃q,Iz s=q:=⟨_,rfl⟩
 rw[q1] at t1 HD D;simp only at t1 D
 have u1:=fun w S=>iC l1 w S (by omega)
 have e1:=iA l1
 obtain⟨d,V⟩:∃x,Ol l1=x:=⟨_,rfl⟩
 obtain⟨p1,au⟩:∃x,bl l1=x:=⟨_,rfl⟩
 obtain⟨s1,ad⟩:∃x,bl m1=x:=⟨_,rfl⟩
 have z1:s1.size<=100000:=by rw[<-ad,Dm];omega
 rw[V] at u1 e1;rw[au] at u1 t1;rw[ad] at t1;have aw:=a0z V;have bn:=a0z ad
 have bo:d.size<=100000:=by omega
 clear S q1 V au ad e1 D;cases b1
 ·have HO:Hid (Ea s=(Az,1)):=HD.out;have T1:=a0z t1;clear t1 u1;go_enter Tryz.func134,Tryz.ntmps134;go_wp2_with (fail)
  go_loopg [0,14] 0 (fun g vs vi wr=>g=0/\vi=.int .i64 0/\vs=.string s/\E9 w wr #[.string ⟨#[]⟩,.string ⟨#[]⟩,.int .u64 0,.int .u64 0,.bool false,.string ⟨#[]⟩])
  case atStart=>exact⟨rfl,rfl,rfl,Z.out⟩
  case round=>
   obtain⟨rfl,rfl,rfl,z⟩:=hrel;have o:=a0z z;clear z
   have hx:=fun W'=>Vg (some ⟨w.heap.size,0,none⟩) (some ⟨w.heap.size,1,none⟩) W'
   go_wp2_with (fail);(with_reducible refine(T1.out _ (E.out.fp o.out.f (by simp))).mono ?_);rintro e ab ⟨rfl,b⟩;have r:=a0z (o.out.fp b);clear b;obtain⟨⟨R,B,A,Q,P,O⟩,⟨N,M,L,J,I,G⟩⟩:=r.out.cell;go_wp2_with (fail);rw[HO.out];refine bodyPost_ret (v:=.tuple #[Bm Az,.int .i64 1]) (by simp[results,Tryz.results134,Bm,Az,go_sem, *]) rfl ⟨rfl,?_⟩
   repeat(first|(with_reducible refine Fp.drew' ?_)|(with_reducible refine Fp.setCell' ?_ (Or.inr (a0x _)) _)|(with_reducible exact r.out.f))
 have ap:Hid (Ea s=Xr s d (Iz s1)):=by unfold Hid;rw[HD.out,<-aw.out,<-bn.out];exact if_pos rfl
 have t2:=fun w S=>iB s1 w S z1
 have C:=hU s1
 obtain⟨⟨l2,m2,b2⟩,q2⟩:∃q,Iz s1=q:=⟨_,rfl⟩
 rw[q2] at t2 ap C;simp only at t2 C
 have u2:=fun w S=>iC l2 w S (by omega)
 have e2:=iA l2
 obtain⟨j,X⟩:∃x,Ol l2=x:=⟨_,rfl⟩
 obtain⟨p2,ar⟩:∃x,bl l2=x:=⟨_,rfl⟩
 obtain⟨n,ac⟩:∃x,bl m2=x:=⟨_,rfl⟩
 have z2:n.size<=100000:=by rw[<-ac,Dm];omega
 rw[X] at u2 e2;rw[ar] at u2 t2;rw[ac] at t2;have az:=a0z X;have bm:=a0z ac
 have bp:j.size<=100000:=by omega
 have T1:=a0z t1;have U1:=a0z u1;have T2:=a0z t2;have U2:=a0z u2;clear q2 X ar ac e2 C t1 u1 t2 u2;cases b2
 ·have HO:Hid (Ea s=(Az,1)):=ap.out;go_enter Tryz.func134,Tryz.ntmps134;go_wp2_with (fail)
  go_loopg [0,14] 1 (fun g vs vi wr=>∃k:Nat,g+k=1/\vi=.int .i64 k/\vs=.string (Hn s s1 s1 k)/\E9 w wr (Hn #[.string ⟨#[]⟩,.string ⟨#[]⟩,.int .u64 0,.int .u64 0,.bool false,.string ⟨#[]⟩] #[.string d,.string ⟨#[]⟩,.int .u64 0,.int .u64 0,.bool false,.string ⟨#[]⟩] #[.string d,.string ⟨#[]⟩,.int .u64 0,.int .u64 0,.bool false,.string ⟨#[]⟩] k))
  case atStart=>exact⟨0,rfl,rfl,rfl,Z.out⟩
  case round=>
   obtain⟨k,hg,rfl,rfl,z⟩:=hrel;have p:=a0z z;clear z
   have Y:k=0∨k=1:=by omega
   rcases Y with rfl|rfl
   ·have o:Hid (E9 w wr #[.string ⟨#[]⟩,.string ⟨#[]⟩,.int .u64 0,.int .u64 0,.bool false,.string ⟨#[]⟩]):=p.out;rw[show((0:Nat):Int)=0 from rfl];simp only[Hn]
    have hx:=fun W'=>Vg (some ⟨w.heap.size,0,none⟩) (some ⟨w.heap.size,1,none⟩) W'
    go_wp2_with (fail);(with_reducible refine(T1.out _ (E.out.fp o.out.f (by simp))).mono ?_);rintro e ab ⟨rfl,b⟩;have r:=a0z (o.out.fp b);clear b;go_wp2_with (fail);(with_reducible refine(U1.out _ (E.out.fp r.out.f (by simp))).mono ?_);rintro e ah ⟨rfl,b⟩;have y:=a0z (r.out.fp b);clear b;obtain⟨⟨R,B,A,Q,P,O⟩,⟨N,M,L,J,I,G⟩⟩:=y.out.cell;go_wp2_with (fail)
    go_roundg (gk-1)
    case measure=>omega
    case rel=>exact⟨1,by omega,rfl,rfl,y.out.set 0 (.string d)⟩
   ·have o:Hid (E9 w wr #[.string d,.string ⟨#[]⟩,.int .u64 0,.int .u64 0,.bool false,.string ⟨#[]⟩]):=p.out;rw[show((1:Nat):Int)=1 from rfl];simp only[Hn]
    have hx:=fun W'=>Xp (some ⟨w.heap.size,0,none⟩) (some ⟨w.heap.size,1,none⟩) W'
    go_wp2_with (fail);(with_reducible refine(T2.out _ (E.out.fp o.out.f (by simp))).mono ?_);rintro e ag ⟨rfl,b⟩;have u:=a0z (o.out.fp b);clear b;obtain⟨⟨R,B,A,Q,P,O⟩,⟨N,M,L,J,I,G⟩⟩:=u.out.cell;go_wp2_with (fail);rw[HO.out];refine bodyPost_ret (v:=.tuple #[Bm Az,.int .i64 1]) (by simp[results,Tryz.results134,Bm,Az,go_sem, *]) rfl ⟨rfl,?_⟩
    repeat(first|(with_reducible refine Fp.drew' ?_)|(with_reducible refine Fp.setCell' ?_ (Or.inr (a0x _)) _)|(with_reducible exact u.out.f))
 have ay:Hid (Ea s=Xq s d j n):=by unfold Hid;rw[ap.out,<-az.out,<-bm.out];exact if_pos rfl
 by_cases ae:n.size=16
 case neg=>
  have HO:Hid (Ea s=(Az,1)):=by unfold Hid;rw[ay.out];exact if_neg ae
  have j1:((n.size:Int)==16)=false:=by rw[beq_eq_false_iff_ne];omega
  have j2:¬(n.size:Int)=16:=by omega
  have j3:¬n.size=16:=ae;go_enter Tryz.func134,Tryz.ntmps134;go_wp2_with (fail)
  go_loopg [0,14] 2 (fun g vs vi wr=>∃k:Nat,g+k=2/\vi=.int .i64 k/\vs=.string (Hn s s1 n k)/\E9 w wr (Hn #[.string ⟨#[]⟩,.string ⟨#[]⟩,.int .u64 0,.int .u64 0,.bool false,.string ⟨#[]⟩] #[.string d,.string ⟨#[]⟩,.int .u64 0,.int .u64 0,.bool false,.string ⟨#[]⟩] #[.string d,.string j,.int .u64 0,.int .u64 0,.bool false,.string ⟨#[]⟩] k))
  case atStart=>exact⟨0,rfl,rfl,rfl,Z.out⟩
  case round=>
   obtain⟨k,hg,rfl,rfl,z⟩:=hrel;have p:=a0z z;clear z
   have Y:k=0∨k=1∨k=2:=by omega
   rcases Y with rfl|rfl|rfl
   ·have o:Hid (E9 w wr #[.string ⟨#[]⟩,.string ⟨#[]⟩,.int .u64 0,.int .u64 0,.bool false,.string ⟨#[]⟩]):=p.out;rw[show((0:Nat):Int)=0 from rfl];simp only[Hn]
    have hx:=fun W'=>Vg (some ⟨w.heap.size,0,none⟩) (some ⟨w.heap.size,1,none⟩) W'
    go_wp2_with (fail);(with_reducible refine(T1.out _ (E.out.fp o.out.f (by simp))).mono ?_);rintro e ab ⟨rfl,b⟩;have r:=a0z (o.out.fp b);clear b;go_wp2_with (fail);(with_reducible refine(U1.out _ (E.out.fp r.out.f (by simp))).mono ?_);rintro e ah ⟨rfl,b⟩;have y:=a0z (r.out.fp b);clear b;obtain⟨⟨R,B,A,Q,P,O⟩,⟨N,M,L,J,I,G⟩⟩:=y.out.cell;go_wp2_with (fail)
    go_roundg (gk-1)
    case measure=>omega
    case rel=>exact⟨1,by omega,rfl,rfl,y.out.set 0 (.string d)⟩
   ·have o:Hid (E9 w wr #[.string d,.string ⟨#[]⟩,.int .u64 0,.int .u64 0,.bool false,.string ⟨#[]⟩]):=p.out;rw[show((1:Nat):Int)=1 from rfl];simp only[Hn]
    have hx:=fun W'=>Xp (some ⟨w.heap.size,0,none⟩) (some ⟨w.heap.size,1,none⟩) W'
    go_wp2_with (fail);(with_reducible refine(T2.out _ (E.out.fp o.out.f (by simp))).mono ?_);rintro e ag ⟨rfl,b⟩;have u:=a0z (o.out.fp b);clear b;go_wp2_with (fail);(with_reducible refine(U2.out _ (E.out.fp u.out.f (by simp))).mono ?_);rintro e aq ⟨rfl,b⟩;have F:=a0z (u.out.fp b);clear b;obtain⟨⟨R,B,A,Q,P,O⟩,⟨N,M,L,J,I,G⟩⟩:=F.out.cell;go_wp2_with (fail)
    go_roundg (gk-1)
    case measure=>omega
    case rel=>exact⟨2,by omega,rfl,rfl,F.out.set 1 (.string j)⟩
   ·have o:Hid (E9 w wr #[.string d,.string j,.int .u64 0,.int .u64 0,.bool false,.string ⟨#[]⟩]):=p.out;rw[show((2:Nat):Int)=2 from rfl];simp only[Hn];obtain⟨⟨R,B,A,Q,P,O⟩,⟨N,M,L,J,I,G⟩⟩:=o.out.cell;go_wp2_with (fail);rw[HO.out];refine bodyPost_ret (v:=.tuple #[Bm Az,.int .i64 1]) (by simp[results,Tryz.results134,Bm,Az,go_sem, *]) rfl ⟨rfl,?_⟩
    repeat(first|(with_reducible refine Fp.drew' ?_)|(with_reducible refine Fp.setCell' ?_ (Or.inr (a0x _)) _)|(with_reducible exact o.out.f))
 have aa:Hid (Ea s=Sv s (Fo d j (A8-Bn (I0 (n.extract 0 8)) 8) (A8-Bn (I0 (n.extract 8 n.size)) 8))):=by unfold Hid;rw[ay.out];exact if_pos ae
 have B:=fun w=>aL w (n.extract 0 8) (by simp;omega)
 have A:=fun w=>aL w (n.extract 8 n.size) (by simp;omega)
 have a7:(I0 (n.extract 0 8)).size=8:=by show(n.extract 0 8).data.toList.reverse.toArray.size=8;rw[List.size_toArray,List.length_reverse,<-Lib.size_eq];simp;omega
 have a6:(I0 (n.extract 8 n.size)).size=8:=by show(n.extract 8 n.size).data.toList.reverse.toArray.size=8;rw[List.size_toArray,List.length_reverse,<-Lib.size_eq];simp;omega
 have n1:=fun w=>hQ w (I0 (n.extract 0 8)) (by omega) (by omega)
 have n2:=fun w=>hQ w (I0 (n.extract 8 n.size)) (by omega) (by omega)
 have U:=K7 (I0 (n.extract 0 8)) 8;have T:=K7 (I0 (n.extract 8 n.size)) 8
 have af:(256:Nat)^8=18446744073709551616:=by decide
 rw[af] at U T
 change ∀w,Calls Tryz.prog _ _ w fun e w'=>e=.returned (.string (I0 (n.extract 0 8)))/\Fp [] w w' at B
 change ∀w,Calls Tryz.prog _ _ w fun e w'=>e=.returned (.string (I0 (n.extract 8 n.size)))/\Fp [] w w' at A
 obtain⟨v1,an⟩:∃x,I0 (n.extract 0 8)=x:=⟨_,rfl⟩
 obtain⟨v2,am⟩:∃x,I0 (n.extract 8 n.size)=x:=⟨_,rfl⟩
 rw[an,am] at aa;rw[an] at B n1 U;rw[am] at A n2 T
 obtain⟨x1,al⟩:∃x,Bn v1 8=x:=⟨_,rfl⟩
 obtain⟨x2,ak⟩:∃x,Bn v2 8=x:=⟨_,rfl⟩
 rw[al,ak] at aa;rw[al] at n1 U;rw[ak] at n2 T;have w1:=Xo x1 U;have w2:=Xo x2 T
 have av:B3 ⟨d,j,A8-x1,A8-x2,false,⟨#[]⟩⟩:=⟨by show A8-x1<_;unfold A8;omega,by show A8-x2<_;unfold A8;omega,by show d.size<=_;omega,by show j.size<=_;omega,by show(0:Nat)<=_;omega⟩
 have k1:=fun w S=>uS ⟨d,j,A8-x1,A8-x2,false,⟨#[]⟩⟩ w av S
 unfold Bm at k1;simp only at k1
 obtain⟨D,aj⟩:∃x,A8-x1=x:=⟨_,rfl⟩
 obtain⟨C,ai⟩:∃x,A8-x2=x:=⟨_,rfl⟩
 rw[aj,ai] at aa k1;rw[aj] at w1;rw[ai] at w2
 have w3:bits BinOp.xor IntKind.u64 (if IntKind.u64.signed=true then -1 else IntKind.u64.max) (x1:Int)=(D:Int):=by rw[if_neg (by decide)];exact w1
 have w4:bits BinOp.xor IntKind.u64 (if IntKind.u64.signed=true then -1 else IntKind.u64.max) (x2:Int)=(C:Int):=by rw[if_neg (by decide)];exact w2
 obtain⟨kb,ao⟩:∃x,Oj ⟨d,j,D,C,false,⟨#[]⟩⟩=x:=⟨_,rfl⟩
 rw[ao] at k1;have ax:=a0z ao;have A1:=a0z B;have A2:=a0z A;have N1:=a0z n1;have N2:=a0z n2;have K1:=a0z k1
 have j1:((n.size:Int)==16)=true:=by rw[beq_iff_eq];omega
 have j2:8<=n.size:=by omega
 have j3:(8:Int)<=(n.size:Int):=by omega
 clear al ak aj ai ao an am U T af a7 a6 B A n1 n2 k1 av ae
 by_cases hk:kb=s
 ·have HO:Hid (Ea s=(⟨d,j,D,C,false,⟨#[]⟩⟩,0)):=by unfold Hid;rw[aa.out];exact if_pos (by rw[Fo,ax.out,hk])
  have a8:(kb.toList==s.toList)=true:=by rw[hk];simp
  clear hk;go_enter Tryz.func134,Tryz.ntmps134;go_wp2_with (fail)
  go_loopg [0,14] 2 (fun g vs vi wr=>∃k:Nat,g+k=2/\vi=.int .i64 k/\vs=.string (Hn s s1 n k)/\E9 w wr (Hn #[.string ⟨#[]⟩,.string ⟨#[]⟩,.int .u64 0,.int .u64 0,.bool false,.string ⟨#[]⟩] #[.string d,.string ⟨#[]⟩,.int .u64 0,.int .u64 0,.bool false,.string ⟨#[]⟩] #[.string d,.string j,.int .u64 0,.int .u64 0,.bool false,.string ⟨#[]⟩] k))
  case atStart=>exact⟨0,rfl,rfl,rfl,Z.out⟩
  case round=>
   obtain⟨k,hg,rfl,rfl,z⟩:=hrel;have p:=a0z z;clear z
   have Y:k=0∨k=1∨k=2:=by omega
   rcases Y with rfl|rfl|rfl
   ·have o:Hid (E9 w wr #[.string ⟨#[]⟩,.string ⟨#[]⟩,.int .u64 0,.int .u64 0,.bool false,.string ⟨#[]⟩]):=p.out;rw[show((0:Nat):Int)=0 from rfl];simp only[Hn]
    have hx:=fun W'=>Vg (some ⟨w.heap.size,0,none⟩) (some ⟨w.heap.size,1,none⟩) W'
    go_wp2_with (fail);(with_reducible refine(T1.out _ (E.out.fp o.out.f (by simp))).mono ?_);rintro e ab ⟨rfl,b⟩;have r:=a0z (o.out.fp b);clear b;go_wp2_with (fail);(with_reducible refine(U1.out _ (E.out.fp r.out.f (by simp))).mono ?_);rintro e ah ⟨rfl,b⟩;have y:=a0z (r.out.fp b);clear b;obtain⟨⟨R,B,A,Q,P,O⟩,⟨N,M,L,J,I,G⟩⟩:=y.out.cell;go_wp2_with (fail)
    go_roundg (gk-1)
    case measure=>omega
    case rel=>exact⟨1,by omega,rfl,rfl,y.out.set 0 (.string d)⟩
   ·have o:Hid (E9 w wr #[.string d,.string ⟨#[]⟩,.int .u64 0,.int .u64 0,.bool false,.string ⟨#[]⟩]):=p.out;rw[show((1:Nat):Int)=1 from rfl];simp only[Hn]
    have hx:=fun W'=>Xp (some ⟨w.heap.size,0,none⟩) (some ⟨w.heap.size,1,none⟩) W'
    go_wp2_with (fail);(with_reducible refine(T2.out _ (E.out.fp o.out.f (by simp))).mono ?_);rintro e ag ⟨rfl,b⟩;have u:=a0z (o.out.fp b);clear b;go_wp2_with (fail);(with_reducible refine(U2.out _ (E.out.fp u.out.f (by simp))).mono ?_);rintro e aq ⟨rfl,b⟩;have F:=a0z (u.out.fp b);clear b;obtain⟨⟨R,B,A,Q,P,O⟩,⟨N,M,L,J,I,G⟩⟩:=F.out.cell;go_wp2_with (fail)
    go_roundg (gk-1)
    case measure=>omega
    case rel=>exact⟨2,by omega,rfl,rfl,F.out.set 1 (.string j)⟩
   ·have o:Hid (E9 w wr #[.string d,.string j,.int .u64 0,.int .u64 0,.bool false,.string ⟨#[]⟩]):=p.out;rw[show((2:Nat):Int)=2 from rfl];simp only[Hn];go_wp2_with (fail);refine dM (KC w.heap.size w d j) (KR w.heap.size D C) (by kernel_rfl) (by kernel_rfl) ?_ ?_
    ·exact⟨o.out.f.trans (Fp.drew _) (by simp),_,_,o.out.a⟩
    iterate 11
     apply Aw rfl rfl rfl
     ·intro a w l m K t
      try have h0:=m.fr 0 rfl
      try have bk:=m.eq 0 36 rfl
      try have bj:=m.eq 1 37 rfl
      try have bi:=m.eq 2 38 rfl
      try have bh:=m.eq 3 39 rfl
      try have bf:=m.eq 5 41 rfl
      try have be:=m.eq 6 42 rfl
      try have bd:=m.eq 7 43 rfl
      try have bc:=m.eq 8 44 rfl
      try have Y:=m.fr 2 rfl
      simp only[Oper.wp,execOp];go_simp
      first
      |exact t _ l (KR.refl _ _ _ _)
      |first
        |((with_reducible refine(A1.out _).mono ?_);rintro e w2 ⟨rfl,b⟩;exact t _ (l.fp b) (l.kr b))
        |((with_reducible refine(A2.out _).mono ?_);rintro e w2 ⟨rfl,b⟩;exact t _ (l.fp b) (l.kr b))
        |((with_reducible refine(N1.out _).mono ?_);rintro e w2 ⟨rfl,b⟩;exact t _ (l.fp b) (l.kr b))
        |((with_reducible refine(N2.out _).mono ?_);rintro e w2 ⟨rfl,b⟩;exact t _ (l.fp b) (l.kr b))
    apply Yz ((fun w'=>w'.cell? ⟨w.heap.size,2,none⟩=some (.int .u64 D))) rfl rfl
    ·intro a w l m K t;have ba:=m.eq 10 46 rfl;have bg:=m.eq 4 40 rfl;obtain⟨q2,q3,W⟩:=l.blk;have qc:=Ab W 2;have qf:=Ar W 2;simp only[a0u,a0w,a0v] at qc;have i:=l.set2 (z1:=D) (z2:=C) (a0x _);simp only[Oper.wp,execOp];go_simp;exact t undef _ i.1 i.2.1 i.2.2
    apply Aw rfl rfl rfl
    ·intro a w l m K t;have Y:=m.fr 2 rfl;simp only[Oper.wp,execOp];go_simp;exact t _ l (KR.refl _ _ _ _)
    apply Yz ((fun w'=>w'.cell? ⟨w.heap.size,3,none⟩=some (.int .u64 C))) rfl rfl
    ·intro a w l m K t;have a9:=m.eq 12 47 rfl;have bb:=m.eq 9 45 rfl;obtain⟨q2,q3,W⟩:=l.blk;have qc:=Ab W 3;have qf:=Ar W 3;simp only[a0u,a0w,a0v] at qc;have i:=l.set3 (z1:=D) (z2:=C) (a0x _);simp only[Oper.wp,execOp];go_simp;exact t undef _ i.1 i.2.1 i.2.2
    refine⟨?_,?_⟩
    ·refine⟨fun w1 w2 v _ z h=>z.2 h,?_⟩;refine B7 _ ?_;refine⟨fun w1 w2 v _ z h=>z.1 h,?_⟩
     iterate 11 refine B7 _ ?_
     exact trivial
    ·intro w' l;simp only[List.reverse_cons,List.reverse_nil,a1w,List.cons_append]
     iterate 11 (refine Am ?_)
     refine Ap ?_;intro aS u11
     iterate 1 (refine Am ?_)
     refine Ap ?_;intro aF u13;refine A0 ?_;simp only[Aj,Act.put,a1x,List.set_cons_succ,List.set_cons_zero];have H5:Hid (E9 w w' #[.string d,.string j,.int .u64 D,.int .u64 C,.bool false,.string ⟨#[]⟩]):=a0z ⟨l.done u11 u13,l.f⟩;clear l u11 u13;obtain⟨⟨R,B,A,Q,P,O⟩,⟨N,M,L,J,I,G⟩⟩:=H5.out.cell;go_wp2_with (fail);clear R B A Q P O N M L J I G;(with_reducible refine(K1.out _ (E.out.fp H5.out.f (by simp))).mono ?_);rintro e w6 ⟨rfl,b⟩;have H6:=a0z (H5.out.fp b);clear b;obtain⟨⟨R,B,A,Q,P,O⟩,⟨N,M,L,J,I,G⟩⟩:=H6.out.cell;go_wp2_with (fail);rw[HO.out];refine bodyPost_ret (v:=.tuple #[Bm ⟨d,j,D,C,false,⟨#[]⟩⟩,.int .i64 0]) (by simp[results,Tryz.results134,Bm,go_sem, *]) rfl ⟨rfl,?_⟩
     repeat(first|(with_reducible refine Fp.drew' ?_)|(with_reducible refine Fp.setCell' ?_ (Or.inr (a0x _)) _)|(with_reducible exact H6.out.f))
 ·have HO:Hid (Ea s=(Az,1)):=by unfold Hid;rw[aa.out];exact if_neg (by rw[Fo,ax.out];exact hk)
  have a8:(kb.toList==s.toList)=false:=by rw[beq_eq_false_iff_ne];exact fun e=>hk (Xl e)
  clear hk;go_enter Tryz.func134,Tryz.ntmps134;go_wp2_with (fail)
  go_loopg [0,14] 2 (fun g vs vi wr=>∃k:Nat,g+k=2/\vi=.int .i64 k/\vs=.string (Hn s s1 n k)/\E9 w wr (Hn #[.string ⟨#[]⟩,.string ⟨#[]⟩,.int .u64 0,.int .u64 0,.bool false,.string ⟨#[]⟩] #[.string d,.string ⟨#[]⟩,.int .u64 0,.int .u64 0,.bool false,.string ⟨#[]⟩] #[.string d,.string j,.int .u64 0,.int .u64 0,.bool false,.string ⟨#[]⟩] k))
  case atStart=>exact⟨0,rfl,rfl,rfl,Z.out⟩
  case round=>
   obtain⟨k,hg,rfl,rfl,z⟩:=hrel;have p:=a0z z;clear z
   have Y:k=0∨k=1∨k=2:=by omega
   rcases Y with rfl|rfl|rfl
   ·have o:Hid (E9 w wr #[.string ⟨#[]⟩,.string ⟨#[]⟩,.int .u64 0,.int .u64 0,.bool false,.string ⟨#[]⟩]):=p.out;rw[show((0:Nat):Int)=0 from rfl];simp only[Hn]
    have hx:=fun W'=>Vg (some ⟨w.heap.size,0,none⟩) (some ⟨w.heap.size,1,none⟩) W'
    go_wp2_with (fail);(with_reducible refine(T1.out _ (E.out.fp o.out.f (by simp))).mono ?_);rintro e ab ⟨rfl,b⟩;have r:=a0z (o.out.fp b);clear b;go_wp2_with (fail);(with_reducible refine(U1.out _ (E.out.fp r.out.f (by simp))).mono ?_);rintro e ah ⟨rfl,b⟩;have y:=a0z (r.out.fp b);clear b;obtain⟨⟨R,B,A,Q,P,O⟩,⟨N,M,L,J,I,G⟩⟩:=y.out.cell;go_wp2_with (fail)
    go_roundg (gk-1)
    case measure=>omega
    case rel=>exact⟨1,by omega,rfl,rfl,y.out.set 0 (.string d)⟩
   ·have o:Hid (E9 w wr #[.string d,.string ⟨#[]⟩,.int .u64 0,.int .u64 0,.bool false,.string ⟨#[]⟩]):=p.out;rw[show((1:Nat):Int)=1 from rfl];simp only[Hn]
    have hx:=fun W'=>Xp (some ⟨w.heap.size,0,none⟩) (some ⟨w.heap.size,1,none⟩) W'
    go_wp2_with (fail);(with_reducible refine(T2.out _ (E.out.fp o.out.f (by simp))).mono ?_);rintro e ag ⟨rfl,b⟩;have u:=a0z (o.out.fp b);clear b;go_wp2_with (fail);(with_reducible refine(U2.out _ (E.out.fp u.out.f (by simp))).mono ?_);rintro e aq ⟨rfl,b⟩;have F:=a0z (u.out.fp b);clear b;obtain⟨⟨R,B,A,Q,P,O⟩,⟨N,M,L,J,I,G⟩⟩:=F.out.cell;go_wp2_with (fail)
    go_roundg (gk-1)
    case measure=>omega
    case rel=>exact⟨2,by omega,rfl,rfl,F.out.set 1 (.string j)⟩
   ·have o:Hid (E9 w wr #[.string d,.string j,.int .u64 0,.int .u64 0,.bool false,.string ⟨#[]⟩]):=p.out;rw[show((2:Nat):Int)=2 from rfl];simp only[Hn];go_wp2_with (fail);refine dM (KC w.heap.size w d j) (KR w.heap.size D C) (by kernel_rfl) (by kernel_rfl) ?_ ?_
    ·exact⟨o.out.f.trans (Fp.drew _) (by simp),_,_,o.out.a⟩
    iterate 11
     apply Aw rfl rfl rfl
     ·intro a w l m K t
      try have h0:=m.fr 0 rfl
      try have bk:=m.eq 0 36 rfl
      try have bj:=m.eq 1 37 rfl
      try have bi:=m.eq 2 38 rfl
      try have bh:=m.eq 3 39 rfl
      try have bf:=m.eq 5 41 rfl
      try have be:=m.eq 6 42 rfl
      try have bd:=m.eq 7 43 rfl
      try have bc:=m.eq 8 44 rfl
      try have Y:=m.fr 2 rfl
      simp only[Oper.wp,execOp];go_simp
      first
      |exact t _ l (KR.refl _ _ _ _)
      |first
        |((with_reducible refine(A1.out _).mono ?_);rintro e w2 ⟨rfl,b⟩;exact t _ (l.fp b) (l.kr b))
        |((with_reducible refine(A2.out _).mono ?_);rintro e w2 ⟨rfl,b⟩;exact t _ (l.fp b) (l.kr b))
        |((with_reducible refine(N1.out _).mono ?_);rintro e w2 ⟨rfl,b⟩;exact t _ (l.fp b) (l.kr b))
        |((with_reducible refine(N2.out _).mono ?_);rintro e w2 ⟨rfl,b⟩;exact t _ (l.fp b) (l.kr b))
    apply Yz ((fun w'=>w'.cell? ⟨w.heap.size,2,none⟩=some (.int .u64 D))) rfl rfl
    ·intro a w l m K t;have ba:=m.eq 10 46 rfl;have bg:=m.eq 4 40 rfl;obtain⟨q2,q3,W⟩:=l.blk;have qc:=Ab W 2;have qf:=Ar W 2;simp only[a0u,a0w,a0v] at qc;have i:=l.set2 (z1:=D) (z2:=C) (a0x _);simp only[Oper.wp,execOp];go_simp;exact t undef _ i.1 i.2.1 i.2.2
    apply Aw rfl rfl rfl
    ·intro a w l m K t;have Y:=m.fr 2 rfl;simp only[Oper.wp,execOp];go_simp;exact t _ l (KR.refl _ _ _ _)
    apply Yz ((fun w'=>w'.cell? ⟨w.heap.size,3,none⟩=some (.int .u64 C))) rfl rfl
    ·intro a w l m K t;have a9:=m.eq 12 47 rfl;have bb:=m.eq 9 45 rfl;obtain⟨q2,q3,W⟩:=l.blk;have qc:=Ab W 3;have qf:=Ar W 3;simp only[a0u,a0w,a0v] at qc;have i:=l.set3 (z1:=D) (z2:=C) (a0x _);simp only[Oper.wp,execOp];go_simp;exact t undef _ i.1 i.2.1 i.2.2
    refine⟨?_,?_⟩
    ·refine⟨fun w1 w2 v _ z h=>z.2 h,?_⟩;refine B7 _ ?_;refine⟨fun w1 w2 v _ z h=>z.1 h,?_⟩
     iterate 11 refine B7 _ ?_
     exact trivial
    ·intro w' l;simp only[List.reverse_cons,List.reverse_nil,a1w,List.cons_append]
     iterate 11 (refine Am ?_)
     refine Ap ?_;intro aS u11
     iterate 1 (refine Am ?_)
     refine Ap ?_;intro aF u13;refine A0 ?_;simp only[Aj,Act.put,a1x,List.set_cons_succ,List.set_cons_zero];have H5:Hid (E9 w w' #[.string d,.string j,.int .u64 D,.int .u64 C,.bool false,.string ⟨#[]⟩]):=a0z ⟨l.done u11 u13,l.f⟩;clear l u11 u13;obtain⟨⟨R,B,A,Q,P,O⟩,⟨N,M,L,J,I,G⟩⟩:=H5.out.cell;go_wp2_with (fail);clear R B A Q P O N M L J I G;(with_reducible refine(K1.out _ (E.out.fp H5.out.f (by simp))).mono ?_);rintro e w6 ⟨rfl,b⟩;have H6:=a0z (H5.out.fp b);clear b;obtain⟨⟨R,B,A,Q,P,O⟩,⟨N,M,L,J,I,G⟩⟩:=H6.out.cell;go_wp2_with (fail);rw[HO.out];refine bodyPost_ret (v:=.tuple #[Bm Az,.int .i64 1]) (by simp[results,Tryz.results134,Bm,Az,go_sem, *]) rfl ⟨rfl,?_⟩
     repeat(first|(with_reducible refine Fp.drew' ?_)|(with_reducible refine Fp.setCell' ?_ (Or.inr (a0x _)) _)|(with_reducible exact H6.out.f))
end
section
open Go.Lib
end
section
open Go.Lib
theorem iD{c:Aa}(h:B8 c=true):B8 (Fo c.row c.col c.ts c.seq)=true:=by
 obtain⟨b,a,_,_⟩:=gW h;unfold B8 Fo Im;simp only[Bool.and_eq_true,decide_eq_true_eq,Bool.or_eq_true,Bool.not_false];exact⟨⟨⟨b,a⟩,Nat.zero_le _⟩,Or.inl trivial⟩
theorem uU{c:Aa}(h:B8 c=true):Oj (Fo c.row c.col c.ts c.seq)=bl (Bq c):=by
 unfold Oj;rw[if_pos (iD h)];rfl
theorem P7(n:Nat):(E8 n).length=8:=by unfold E8;rw[List.length_reverse,P6]
theorem iE(n:Nat):I0 (bl (E8 n))=bl (Gx n):=by
 unfold I0;rw[Nq];unfold E8;rw[List.reverse_reverse];rfl
theorem iF(n:Nat)(h:n<18446744073709551616):Bn (bl (Gx n)) 8=n:=by
 have a:=aN n [] 8 (a0x _);rw[List.append_nil] at a
 rw[a,Nat.mod_eq_of_lt (by have:(256:Nat)^8=18446744073709551616:=by decide
                           omega)]
theorem uV(a b:ByteArray)(d seq:Nat)(h:B8 (Fo a b d seq)=true):Sv (bl (Bq (Fo a b d seq))) (Fo a b d seq)=(Fo a b d seq,0):=by
 unfold Sv;rw[if_pos];unfold Oj;rw[if_pos h];rfl
theorem uW(d a:ByteArray)(b seq:Nat)(k:b≤A8)(l:seq≤A8)(h:B8 (Fo d a b seq)=true):Ea (bl (Bq (Fo d a b seq)))=(Fo d a b seq,0):=by
 have g:Iz (bl (Bq (Fo d a b seq)))=(Cj d.data.toList,Cj a.data.toList++0::1::(E8 (A8-b)++E8 (A8-seq)),true):=by
  unfold Iz;rw[Nq];exact gP _ _
 have f:Iz (bl (Cj a.data.toList++0::1::(E8 (A8-b)++E8 (A8-seq))))=(Cj a.data.toList,E8 (A8-b)++E8 (A8-seq),true):=by
  unfold Iz;rw[Nq];exact gP _ _
 have u1:∀r:ByteArray,Ol (Cj r.data.toList)=r:=fun r=>by unfold Ol;rw[uB,L1]
 unfold Ea Vh;rw[g];simp only[if_true];unfold Xr;rw[f];simp only[if_true];unfold Xq;rw[u1,u1]
 have z:(bl (E8 (A8-b)++E8 (A8-seq))).size=16:=by rw[Dm,List.length_append,P7,P7]
 rw[if_pos z,S3,S3,z]
 have j:((E8 (A8-b)++E8 (A8-seq)).drop 0).take (8-0)=E8 (A8-b):=by
  rw[List.drop_zero,List.take_append_of_le_length (by rw[P7];omega),a1z (by rw[P7];omega)]
 have i:((E8 (A8-b)++E8 (A8-seq)).drop 8).take (16-8)=E8 (A8-seq):=by
  rw[List.drop_append,List.drop_eq_nil_of_le (by rw[P7];omega),P7,a1w,List.drop_zero,a1z (by rw[P7];omega)]
 rw[j,i,iE,iE,iF _ (by unfold A8;omega),iF _ (by unfold A8;omega)];rw[show A8-(A8-b)=b by omega,show A8-(A8-seq)=seq by omega];exact uV d a b seq h
theorem uX(l:List UInt8)(a:Nat):(bl l).extract a (bl l).size=bl (l.drop a):=by
 rw[S3,Dm,a1z (by rw[List.length_drop];exact a0x _)]
def iG(s:ByteArray)(x:Aa × Int):Prop:=x=(Az,1)∨∃row col ts seq,ts<=A8/\seq<=A8/\x=(Fo row col ts seq,0)/\Oj (Fo row col ts seq)=s
theorem uY(s d f:ByteArray)(a b:Nat):iG s (Sv s (Fo d f (A8-a) (A8-b))):=by
 unfold Sv;split
 ·rename_i h;exact Or.inr ⟨d,f,A8-a,A8-b,Nat.sub_le _ _,Nat.sub_le _ _,rfl,h⟩
 ·exact Or.inl rfl
theorem iH(s:ByteArray):iG s (Ea s):=by
 unfold Ea Vh Xr Xq;split
 ·split
  ·split
   ·exact uY _ _ _ _ _
   ·exact Or.inl rfl
  ·exact Or.inl rfl
 ·exact Or.inl rfl
theorem uZ:Ea ⟨#[]⟩=(Az,1):=by
 unfold Ea Vh;rw[if_neg (by decide)]
end
end Go.Proofs.YtkagolpnaicdoaaGreatDoor
