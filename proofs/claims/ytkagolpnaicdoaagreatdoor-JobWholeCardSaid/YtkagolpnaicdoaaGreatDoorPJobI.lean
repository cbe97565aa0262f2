/-
 job: Encode, Decode. job: Decode. wal: steps; write.
-/
import Derived.Test.YtkagolpnaicdoaaGreatDoorPVdOps
set_option maxRecDepth 100000
set_option maxHeartbeats 8000000
open List renaming getElem?_cons_zero->a0z,getElem?_toArray->a0w,getElem?_cons_succ->a0v,setIfInBounds_toArray->a0u,set_cons_succ->a1w,set_cons_zero->a1v,reverse_cons->a1u,reverse_nil->a2z,cons_append->a2x,nil_append->a2v,not_mem_nil->a3x,mem_cons->a4z
open Go.Lib renaming hid->a0x
open Go.IntKind renaming wrap_i64->a1z,wrap_u8->a3w
open Bool renaming false_eq_true->a1x
open Nat renaming mod_eq_of_lt->a2w,le_refl->a3v
open UInt8 renaming toNat_ofNat'->a2u,ofNat->a4w
open BitVec renaming ofInt->a3z,ofInt_natCast->a3u,toNat_ofNat->a4x
namespace Go.Proofs.YtkagolpnaicdoaaGreatDoor
section
open Go.RowKit Go.Lib
def Re(id k:Nat):Array Value:=#[if 0<k then Bc (Dc id 0) else .int .u8 0,if 1<k then Bc (Dc id 1) else .int .u8 0,if 2<k then Bc (Dc id 2) else .int .u8 0,if 3<k then Bc (Dc id 3) else .int .u8 0,if 4<k then Bc (Dc id 4) else .int .u8 0,if 5<k then Bc (Dc id 5) else .int .u8 0,if 6<k then Bc (Dc id 6) else .int .u8 0,if 7<k then Bc (Dc id 7) else .int .u8 0,.int .u8 0,.int .u8 0,.int .u8 0]
def Rf(id:Nat)(c8 c9 c10:Bool)(p y z:Int):Array Value:=#[Bc (Dc id 0),Bc (Dc id 1),Bc (Dc id 2),Bc (Dc id 3),Bc (Dc id 4),Bc (Dc id 5),Bc (Dc id 6),Bc (Dc id 7),.int .u8 (if c8 then p else 0),.int .u8 (if c9 then y else 0),.int .u8 (if c10 then z else 0)]
theorem zX(id k:Nat)(a:k<8):(Re id k).setIfInBounds k (Bc (Dc id k))=Re id (k+1):=by
 have h:k=0∨k=1∨k=2∨k=3∨k=4∨k=5∨k=6∨k=7:=by omega
 rcases h with rfl|rfl|rfl|rfl|rfl|rfl|rfl|rfl<;>rfl
theorem zY(id k:Nat)(a:k<8):(Re id k)[k]?=some (.int .u8 0):=by
 have h:k=0∨k=1∨k=2∨k=3∨k=4∨k=5∨k=6∨k=7:=by omega
 rcases h with rfl|rfl|rfl|rfl|rfl|rfl|rfl|rfl<;>rfl
theorem zZ(id:Nat)(p y z:Int):Re id 8=Rf id false false false p y z:=rfl
structure Qg(g q:Nat)(w0:World)(box:Array Value)(id:Nat)(p y z:Int)(c8 c9 c10:Bool)(w:World):Prop where
 blk:w.heap[g]?=some (.cells (Rf id c8 c9 c10 p y z) 5 (0,0))
 box:w.heap[q]?=some (.cells box 42 (0,0))
 fp:Fp [] w0 w
theorem Qg.set{g q:Nat}{d w:World}{r:Array Value}{id o:Nat}{p y z:Int}{n m b l k a:Bool}{v:Value}(h:Qg g q d r id p y z n m b w)(u:d.heap.size≤g)
  (s:(Rf id n m b p y z).setIfInBounds o v=Rf id l k a p y z):Qg g q d r id p y z l k a (w.setCell ⟨g,o,none⟩ v):=by
 refine⟨(Bd h.blk _).trans (by rw[s]),?_,h.fp.trans (Fp.setCell w ⟨g,o,none⟩ v) (by intro i t;right;simp at t;omega)⟩
 have f:q≠g:=by
  rintro rfl;have j:=h.blk;rw[h.box] at j;cases j
 exact(O1 f _).trans h.box
theorem Aaa(w:World)(j:A4)(hj:Pv j):
  Calls Tryz.prog 17 #[Hm j] w fun e w'=>e=.returned (.tuple #[.string (En j).1,.int .i64 (En j).2])/\Fp [] w w':=by
 obtain⟨id,p,x,d⟩:=j;obtain⟨R,Q,O,M,L,Y⟩:=hj;simp only at R Q O M L Y;have z:Hid (Fp [] w (w.alloc (.cells #[.int .u64 id,.int .i64 p,.int .i64 x,.string d] 42))):=a0x (Fp.alloc _ _);unfold Hm F4;simp only
 by_cases c1:p<1
 ·have A:Hid (En ⟨id,p,x,d⟩=(⟨#[]⟩,1)):=by unfold Hid En Of;rw[if_pos (by simp[c1])]
  go_enter Tryz.func17,Tryz.ntmps17;go_wp2_with (fail);go_ret2;rw[A.out];exact⟨rfl,z.out⟩
 by_cases c2:5<p
 ·have A:Hid (En ⟨id,p,x,d⟩=(⟨#[]⟩,1)):=by unfold Hid En Of;rw[if_pos (by simp[c2])]
  go_enter Tryz.func17,Tryz.ntmps17;go_wp2_with (fail);go_ret2;rw[A.out];exact⟨rfl,z.out⟩
 by_cases c3:x<0
 ·have A:Hid (En ⟨id,p,x,d⟩=(⟨#[]⟩,1)):=by unfold Hid En Of;rw[if_pos (by simp[c3])]
  go_enter Tryz.func17,Tryz.ntmps17;go_wp2_with (fail);go_ret2;rw[A.out];exact⟨rfl,z.out⟩
 by_cases c4:65535<x
 ·have A:Hid (En ⟨id,p,x,d⟩=(⟨#[]⟩,1)):=by unfold Hid En Of;rw[if_pos (by simp[c4])]
  go_enter Tryz.func17,Tryz.ntmps17;go_wp2_with (fail);go_ret2;rw[A.out];exact⟨rfl,z.out⟩
 have C:Of ⟨id,p,x,d⟩=false:=by unfold Of;simp only[Bool.or_eq_false_iff,decide_eq_false_iff_not];exact⟨⟨⟨c1,c2⟩,c3⟩,c4⟩
 by_cases c5:60000<d.size
 ·have A:Hid (En ⟨id,p,x,d⟩=(⟨#[]⟩,71)):=by unfold Hid En;rw[C,if_neg (by simp),if_pos c5]
  have z5:(60000:Int)<(d.size:Int):=by omega
  clear C;go_enter Tryz.func17,Tryz.ntmps17;go_wp2_with (fail);go_ret2;rw[A.out];exact⟨rfl,z.out⟩
 have A:Hid (En ⟨id,p,x,d⟩=(Bj ⟨id,p,x,d⟩,0)):=by unfold Hid En;rw[C,if_neg (by simp),if_neg c5]
 have z5:¬(60000:Int)<(d.size:Int):=by omega
 obtain⟨pn,rfl⟩:∃n:Nat,p=n:=⟨p.toNat,by omega⟩
 obtain⟨q,rfl⟩:∃n:Nat,x=n:=⟨x.toNat,by omega⟩
 have am:∀W:World,(Instr.makeSlice 113 (.int .i64 11) (.int .i64 11)).run Tryz.prog W=.ok (.slice (some ⟨W.heap.size,0,none⟩) 11 11) (W.alloc (.cells (Re id 0) 5)):=fun W=>by
  have h:=run_makeSlice (P:=Tryz.prog) W 113 5 Tryz.t5 (.int .u8 0) Tryz.underlying113 (by kernel_rfl) (by kernel_rfl) .i64 .i64 11 11 (by omega) (Int.le_refl _) (by decide) (by decide) (by decide);exact h.trans (congrArg (fun c=>Result.ok _ (W.alloc (.cells c 5))) (show madeCells (Value.int .u8 0).cells 11=Re id 0 by kernel_rfl))
 have u1:IntKind.u8.wrap (pn:Int)=(pn:Int):=by rw[a3w];omega
 have u2:IntKind.u8.wrap (q:Int)=((q%256:Nat):Int):=by rw[a3w];omega
 have u3:IntKind.u8.wrap ((q:Int)/256)=((q/256:Nat):Int):=by rw[a3w];omega
 have V:Hid (bl (Jv id pn q)++d=Bj ⟨id,pn,q,d⟩):=by unfold Hid Bj;simp only[Int.toNat_natCast]
 have O:1<=pn:=by omega
 have al:pn<=5:=by omega
 have ak:q<=65535:=by omega
 have af:Hid (∀o,((w.alloc (.cells #[.int .u64 id,.int .i64 pn,.int .i64 q,.string d] 42)).alloc o).heap[w.heap.size]?=some (.cells #[.int .u64 id,.int .i64 pn,.int .i64 q,.string d] 42 (0,0))):=a0x (fun o=>Bw (Ai rfl _));have ae:Hid (∀o J,((w.alloc J).alloc o).heap[w.heap.size+1]?=some o):=a0x (fun o J=>Ai (by simp) _);have ac:Hid (∀o J,Fp [] w ((w.alloc J).alloc o)):=a0x (fun o J=>(Fp.alloc _ _).alloc' _);have G:=aK id;clear C R Q M L;go_enter Tryz.func17,Tryz.ntmps17;go_wp2_with (fail)
 go_loopg [31] 8 (fun g vi W=>∃k:Nat,g+k=8/\vi=.int .i64 k/\W.heap[w.heap.size+1]?=some (.cells (Re id k) 5 (0,0))/\W.heap[w.heap.size]?=some (.cells #[.int .u64 id,.int .i64 pn,.int .i64 q,.string d] 42 (0,0))/\Fp [] w W)
 case atStart=>exact⟨0,rfl,rfl,ae.out _ _,af.out _,ac.out _ _⟩
 case round=>
  obtain⟨k,hg,rfl,E,u,hf⟩:=hrel;have v:=a0x E;have F:=a0x u;have HF:=a0x hf;have r0:wr.cell? ⟨w.heap.size,0,none⟩=some (.int .u64 id):=Ab u 0;have r3:wr.cell? ⟨w.heap.size,3,none⟩=some (.string d):=Ab u 3;clear E u hf
  by_cases hk:k<8
  ·have q0:wr.cell? ⟨w.heap.size+1,k,none⟩=some (.int .u8 0):=(Ab v.out k).trans (zY id k hk);have f0:wr.frozen? ⟨w.heap.size+1,k,none⟩=false:=Ar v.out k;have U:=a0x (zX id k hk);have ad:=a0x (G k);clear G;go_wp2_with (fail)
   go_roundg (gk-1)
   case measure=>omega
   case rel=>
    refine⟨k+1,by omega,by go_num,?_,?_,HF.out.trans (Fp.setCell _ ⟨w.heap.size+1,k,none⟩ _) (by intro i hi;right;simp at hi;omega)⟩
    ·rw[<-U.out,ad.out];exact(Bd v.out _).trans rfl
    ·exact(O1 (by omega) _).trans F.out
  ·obtain rfl:k=8:=by omega
   have B:Hid (Qg (w.heap.size+1) w.heap.size w #[.int .u64 id,.int .i64 pn,.int .i64 q,.string d] id pn (q%256:Nat) (q/256:Nat) false false false wr):=a0x ⟨by rw[<-zZ];exact v.out,F.out,HF.out⟩;clear G;go_wp2_with (fail);refine Ft (fun X w'=>Qg (w.heap.size+1) w.heap.size w #[.int .u64 id,.int .i64 pn,.int .i64 q,.string d] id pn (q%256:Nat) (q/256:Nat) (X 14) (X 16) (X 18) w') (fun _ _=>True) (by kernel_rfl) (by kernel_rfl) ⟨((Fp.drew wr).block _ (Ac B.out.blk) (by simp)).trans B.out.blk,((Fp.drew wr).block _ (Ac B.out.box) (by simp)).trans B.out.box,B.out.fp.drew'⟩ ?_
   iterate 14
    apply Be (fun _ _ h=>h) rfl rfl rfl
    ·intro b a w l m K y
     try have h4:=m.fr 4 rfl
     try have h1:=m.fr 1 rfl
     try have aS:=m.eq 3 47 rfl
     try have aF:=m.eq 4 48 rfl
     try have ay:=m.eq 6 50 rfl
     try have ax:=m.eq 7 51 rfl
     try have av:=m.eq 9 53 rfl
     try have au:=m.eq 10 54 rfl
     try have ar:=m.eq 11 55 rfl
     try have a2:=m.eq 0 44 rfl
     have q1:=Ab l.box 1;have I:=Ab l.box 2;simp only[a0w,a0v,a0z] at q1 I;simp only[Oper.wp,execOp];go_simp;exact y _ l trivial
   apply Gs (fun _=>True) rfl rfl
   ·intro b a w l m K y;have ap:=m.eq 13 57 rfl;have az:=m.eq 5 49 rfl;have T:=m.self;rw[T] at l;have q0:=Ab l.blk 8;have f0:=Ar l.blk 8;simp only[Rf,a0w,a0v,a0z] at q0;simp only[Oper.wp,execOp];go_simp;exact y undef _ (Qg.set l (Nat.le_succ _) rfl) trivial trivial
   apply Be (fun _ _ h=>h) rfl rfl rfl
   ·intro b a w l m K y;have a1:=m.eq 1 45 rfl;have q1:=Ab l.box 1;have I:=Ab l.box 2;simp only[a0w,a0v,a0z] at q1 I;simp only[Oper.wp,execOp];go_simp;exact y _ l trivial
   apply Gs (fun _=>True) rfl rfl
   ·intro b a w l m K y;have ao:=m.eq 15 58 rfl;have aw:=m.eq 8 52 rfl;have T:=m.self;rw[T] at l;have q0:=Ab l.blk 9;have f0:=Ar l.blk 9;simp only[Rf,a0w,a0v,a0z] at q0;simp only[Oper.wp,execOp];go_simp;exact y undef _ (Qg.set l (Nat.le_succ _) rfl) trivial trivial
   apply Be (fun _ _ h=>h) rfl rfl rfl
   ·intro b a w l m K y;have a0:=m.eq 2 46 rfl;have q1:=Ab l.box 1;have I:=Ab l.box 2;simp only[a0w,a0v,a0z] at q1 I;simp only[Oper.wp,execOp];go_simp;exact y _ l trivial
   apply Gs (fun _=>True) rfl rfl
   ·intro b a w l m K y;have an:=m.eq 17 59 rfl;have aq:=m.eq 12 56 rfl;have T:=m.self;rw[T] at l;have q0:=Ab l.blk 10;have f0:=Ar l.blk 10;simp only[Rf,a0w,a0v,a0z] at q0;simp only[Oper.wp,execOp];go_simp;exact y undef _ (Qg.set l (Nat.le_succ _) rfl) trivial trivial
   refine⟨?_,?_⟩
   ·refine⟨fun _ _ _ _ _=>trivial,?_⟩;refine Cc _ ?_;refine⟨fun _ _ _ _ _=>trivial,?_⟩;refine Cc _ ?_;refine⟨fun _ _ _ _ _=>trivial,?_⟩
    iterate 14 refine Cc _ ?_
    exact trivial
   ·intro wa X l D;simp only[a1u,a2z,a2v,a2x]
    iterate 14 (refine Am ?_)
    refine Ap ?_;intro aj u14
    iterate 1 (refine Am ?_)
    refine Ap ?_;intro ai u16
    iterate 1 (refine Am ?_)
    refine Ap ?_;intro ah u18;refine A0 ?_;simp only[Aj,Act.put,a0u,a1w,a1v];have r:=l;rw[D 14 (by decide),D 16 (by decide),D 18 (by decide)] at r;have HC:=a0x r;have r4:wa.cell? ⟨w.heap.size,3,none⟩=some (.string d):=Ab r.box 3
    have Z:(convert 113 9 (.slice (some ⟨w.heap.size+1,0,none⟩) 11 11)).run Tryz.prog wa=.ok (.string (bl (Jv id pn q))) wa:=by
     refine(Vf (cap:=11) (f:=fun t=>(Jv id pn q).getD t 0) ⟨Ac r.blk,fun j hj=>?_,fun j _=>Ar r.blk j⟩).trans ?_
     ·rw[Ab r.blk]
      have aa:j=0∨j=1∨j=2∨j=3∨j=4∨j=5∨j=6∨j=7∨j=8∨j=9∨j=10:=by omega
      have b8:Bc (a4w pn)=.int .u8 (pn:Int):=by unfold Bc;rw[a2u,a2w (by omega)]
      have b9:Bc (a4w q)=.int .u8 ((q%256:Nat):Int):=by unfold Bc;rw[a2u]
      have ab:Bc (a4w (q/256))=.int .u8 ((q/256:Nat):Int):=by unfold Bc;rw[a2u,a2w (by omega)]
      rcases aa with rfl|rfl|rfl|rfl|rfl|rfl|rfl|rfl|rfl|rfl|rfl
      ·rfl
      ·rfl
      ·rfl
      ·rfl
      ·rfl
      ·rfl
      ·rfl
      ·rfl
      ·exact congrArg some b8.symm
      ·exact congrArg some b9.symm
      ·exact congrArg some ab.symm
     ·rfl
    have N:(bl (Jv id pn q)).size=11:=by rw[Dm,eK]
    obtain⟨hs,S⟩:∃s,bl (Jv id pn q)=s:=⟨_,rfl⟩
    rw[S] at Z N V
    have ag:¬hs.size+d.size>9223372036854775807:=by omega
    clear l D r S N;go_wp2_with (fail);go_ret2;rw[A.out,<-V.out];exact⟨rfl,HC.out.fp⟩
end
section
open Go.RowKit Go.Lib
theorem Aab(n m:Nat)(g:n<256)(h:m<256):bits .or .i64 (n:Int) ((m*256:Nat):Int)=((n+m*256:Nat):Int):=by
 have f:(a3z 64 (n:Int)).toNat=n:=by
  rw[a3u,a4x];exact a2w (by omega)
 have d:(a3z 64 ((m*256:Nat):Int)).toNat=m*256:=by
  rw[a3u,a4x];exact a2w (by omega)
 show IntKind.i64.wrap ((a3z 64 (n:Int) ||| a3z 64 ((m*256:Nat):Int)).toNat:Int)=_;have a:=Nat.two_pow_add_eq_or_of_lt (i:=8) (b:=n) (by omega) m;rw[BitVec.toNat_or,f,d,Nat.or_comm,show m*256=2^8*m by omega,<-a,a1z];omega
def O0(n:Nat)(c1 c2 c3:Bool)(p x:Int)(s:ByteArray):Array Value:=#[.int .u64 n,.int .i64 (if c1 then p else 0),.int .i64 (if c2 then x else 0),.string (if c3 then s else⟨#[]⟩)]
structure J3(q:Nat)(w0:World)(cs:Array Value)(w:World):Prop where
 blk:w.heap[q]?=some (.cells cs 42 (0,0))
 fp:Fp [] w0 w
theorem J3.set{q o:Nat}{b w:World}{d a:Array Value}{v:Value}(h:J3 q b d w)(j:b.heap.size<=q)(f:d.setIfInBounds o v=a):J3 q b a (w.setCell ⟨q,o,none⟩ v):=
 ⟨(Bd h.blk _).trans (by rw[f]),h.fp.trans (Fp.setCell w ⟨q,o,none⟩ v) (by intro i g;right;simp at g;omega)⟩
theorem J3.drew{q:Nat}{a w:World}{b:Array Value}(h:J3 q a b w):J3 q a b w.drew:=⟨h.blk,h.fp.drew'⟩
theorem Aac(w:World)(s:ByteArray)(hs:s.size≤1000000000):
  Calls Tryz.prog 19 #[.string s] w fun e w'=>e=.returned (.tuple #[Hm (Ha s).1,.int .i64 (Ha s).2])/\Fp [] w w':=by
 have P:J3 w.heap.size w (O0 0 false false false 0 0 ⟨#[]⟩) (w.alloc (.cells #[.int .u64 0,.int .i64 0,.int .i64 0,.string ⟨#[]⟩] 42)):=⟨Ai rfl _,Fp.alloc _ _⟩
 have t:=a0x P
 have C:∀W:World,Fp [] w W->∀o v,Fp [] w (W.setCell ⟨w.heap.size,o,none⟩ v):=fun W h o v=>h.trans (Fp.setCell W ⟨w.heap.size,o,none⟩ v) (by intro i hi;right;simp at hi;omega)
 have q:=a0x C;clear P C
 by_cases G:s.size<11
 ·have A:Hid (Ha s=(Nc,50)):=by unfold Hid Ha Zr;rw[if_pos (by simp[G])]
  have z:(s.size:Int)<11:=by omega
  clear G;go_enter Tryz.func19,Tryz.ntmps19;go_wp2_with (fail);refine bodyPost_ret (v:=.tuple #[.agg #[.int .u64 0,.int .i64 0,.int .i64 0,.string ⟨#[]⟩],.int .i64 50]) (by simp[results,Tryz.results19,go_sem, *]) rfl ?_;rw[A.out];exact⟨rfl,t.out.fp⟩
 have ac:¬(s.size:Int)<11:=by omega
 have e8:=Oq s 8 (by omega);have e9:=Oq s 9 (by omega);have bd:=Oq s 10 (by omega)
 have p8:(8:Int)<(s.size:Int):=by omega
 have p9:(9:Int)<(s.size:Int):=by omega
 have ah:(10:Int)<(s.size:Int):=by omega
 have O:=(A5 s 8).toNat_lt;have E:=(A5 s 9).toNat_lt;have r:=(A5 s 10).toNat_lt
 obtain⟨l,N⟩:∃x,(A5 s 8).toNat=x:=⟨_,rfl⟩
 obtain⟨D,M⟩:∃x,(A5 s 9).toNat=x:=⟨_,rfl⟩
 obtain⟨n,B⟩:∃x,(A5 s 10).toNat=x:=⟨_,rfl⟩
 rw[N] at O;rw[M] at E;rw[B] at r
 have R:Hid (Ha s=if l<1∨5<l∨60011<s.size then(Nc,50) else(⟨Bn s 8,(l:Int),((D+n*256:Nat):Int),s.extract 11 s.size⟩,0)):=by
  unfold Hid Ha Zr eJ;rw[N,M,B,show decide (s.size<11)=false by simpa using G]
  by_cases h:l<1∨5<l∨60011<s.size
  ·rw[if_pos h,if_pos]
   rcases h with h|h|h<;>simp[h]
  ·rw[if_neg h,if_neg];simp only[Bool.false_or,Bool.or_eq_true,decide_eq_true_eq];omega
 have ab:11<=s.size:=by omega
 by_cases X:l<1
 ·have A:Hid (Ha s=(Nc,50)):=R.out.trans (if_pos (Or.inl X))
  have z:(l:Int)<1:=by omega
  clear X;go_enter Tryz.func19,Tryz.ntmps19;go_wp2_with (fail);refine bodyPost_ret (v:=.tuple #[.agg #[.int .u64 0,.int .i64 0,.int .i64 0,.string ⟨#[]⟩],.int .i64 50]) (by simp[results,Tryz.results19,go_sem, *]) rfl ?_;rw[A.out];exact⟨rfl,t.out.fp⟩
 have z8:¬(l:Int)<1:=by omega
 by_cases Z:5<l
 ·have A:Hid (Ha s=(Nc,50)):=R.out.trans (if_pos (Or.inr (Or.inl Z)))
  have z:(5:Int)<(l:Int):=by omega
  clear Z;go_enter Tryz.func19,Tryz.ntmps19;go_wp2_with (fail);refine bodyPost_ret (v:=.tuple #[.agg #[.int .u64 0,.int .i64 0,.int .i64 0,.string ⟨#[]⟩],.int .i64 50]) (by simp[results,Tryz.results19,go_sem, *]) rfl ?_;rw[A.out];exact⟨rfl,t.out.fp⟩
 have z5:¬(5:Int)<(l:Int):=by omega
 by_cases Y:60011<s.size
 ·have A:Hid (Ha s=(Nc,50)):=R.out.trans (if_pos (Or.inr (Or.inr Y)))
  have z:(60011:Int)<(s.size:Int):=by omega
  clear Y;go_enter Tryz.func19,Tryz.ntmps19;go_wp2_with (fail);refine bodyPost_ret (v:=.tuple #[.agg #[.int .u64 0,.int .i64 0,.int .i64 0,.string ⟨#[]⟩],.int .i64 50]) (by simp[results,Tryz.results19,go_sem, *]) rfl ?_;rw[A.out];exact⟨rfl,t.out.fp⟩
 have z6:¬(60011:Int)<(s.size:Int):=by omega
 have A:Hid (Ha s=(⟨Bn s 8,(l:Int),((D+n*256:Nat):Int),s.extract 11 s.size⟩,0)):=R.out.trans (if_neg (by omega))
 have k8:IntKind.i64.wrap (l:Int)=(l:Int):=by rw[a1z];omega
 have k9:IntKind.i64.wrap (D:Int)=(D:Int):=by rw[a1z];omega
 have ai:IntKind.i64.wrap (n:Int)=(n:Int):=by rw[a1z];omega
 obtain⟨y,hy⟩:∃y,n*256=y:=⟨_,rfl⟩
 have ks:IntKind.i64.wrap ((n:Int)*256)=(y:Int):=by rw[a1z];omega
 have ho:=Aab D n E r;rw[hy] at ho
 obtain⟨J,L⟩:∃z,D+y=z:=⟨_,rfl⟩
 rw[L] at ho
 have aa:Hid (D+n*256=J):=by unfold Hid;omega
 clear X Z Y hy L O E r R;go_enter Tryz.func19,Tryz.ntmps19;go_wp2_with (fail)
 go_loopg [24] 8 (fun g vi W=>∃k:Nat,g+k=8/\vi=.int .i64 k/\J3 w.heap.size w (O0 (Bn s k) false false false l J (s.extract 11 s.size)) W)
 case atStart=>exact⟨0,rfl,rfl,t.out⟩
 case round=>
  obtain⟨k,hg,rfl,hD⟩:=hrel;have HD:=a0x hD;clear hD
  by_cases hk:k<8
  ·have V:k<s.size:=by omega
   have zk:(k:Int)<(s.size:Int):=by omega
   have S:Hid (bits .or .u64 (Bn s k:Int) (IntKind.u64.wrap (IntKind.u64.wrap (s[k].toNat:Int)*2^(8*(k:Int)).toNat))=(Bn s (k+1):Int)):=a0x (by rw[show(8*(k:Int)).toNat=8*k by omega];exact aM V hk)
   have w8:IntKind.i64.wrap (8*(k:Int))=8*(k:Int):=by rw[a1z];omega
   go_wp2_with (fail);refine Ft (fun I w'=>J3 w.heap.size w (O0 (if I 11 then Bn s (k+1) else Bn s k) false false false l J (s.extract 11 s.size)) w') (fun _ _=>True) (by kernel_rfl) (by kernel_rfl) HD.out.drew ?_;apply Be (fun _ _ h=>h) rfl rfl rfl
   ·intro b a w f d K m;have T:=d.fr 2 rfl;simp only[Oper.wp,execOp];go_simp;exact m _ f trivial
   apply Be (fun _ _ h=>h) rfl rfl rfl
   ·intro b a w f d K m;have bc:=d.eq 0 27 rfl;have q0:=Ab f.blk 0;have F:=d.post 11 (by kernel_rfl);rw[F] at q0;simp only[O0,a0w,a0z,a1x,if_false] at q0;simp only[Oper.wp,execOp];go_simp;exact m _ f trivial
   iterate 9
    apply Be (fun _ _ h=>h) rfl rfl rfl
    ·intro b a w f d K m
     try have h0:=d.fr 0 rfl
     try have h4:=d.fr 4 rfl
     try have a9:=d.eq 2 29 rfl
     try have a8:=d.eq 3 30 rfl
     try have a7:=d.eq 4 31 rfl
     try have a5:=d.eq 6 33 rfl
     try have a6:=d.eq 5 32 rfl
     try have a4:=d.eq 7 34 rfl
     try have ba:=d.eq 1 28 rfl
     try have a3:=d.eq 8 35 rfl
     try have T:=d.fr 2 rfl
     have aj:=S.out;simp only[Oper.wp,execOp];go_simp;exact m _ f trivial
   apply Gs (fun _=>True) rfl rfl
   ·intro b a w f d K m;have a1:=d.eq 10 37 rfl;have a2:=d.eq 9 36 rfl;have F:=d.self;rw[F] at f;have q0:=Ab f.blk 0;have U:=Ar f.blk 0;simp only[O0,a0w,a0z,a1x,if_false] at q0;simp only[Oper.wp,execOp];go_simp;exact m undef _ (J3.set f (a3v _) (by first|rfl|(rw[S.out];rfl))) trivial trivial
   refine⟨?_,?_⟩
   ·refine⟨fun _ _ _ _ _=>trivial,?_⟩
    iterate 11 refine Cc _ ?_
    exact trivial
   ·intro u I f p;simp only[a1u,a2z,a2v,a2x]
    iterate 11 (refine Am ?_)
    refine Ap ?_;intro ag u11;refine A0 ?_;simp only[Aj,Act.put,a0u,a1w,a1v];have j:=f;rw[p 11 (by decide),if_pos rfl] at j;have HC:=a0x j;clear f p j;go_wp2_with (fail)
    go_roundg (gk-1)
    case measure=>omega
    case rel=>exact⟨k+1,by omega,by go_num,HC.out⟩
  ·obtain rfl:k=8:=by omega
   have ak:(s.extract 11 s.size).size<=1000000000:=by rw[ByteArray.size_extract];omega
   go_wp2_with (fail);refine Ft (fun I w'=>J3 w.heap.size w (O0 (Bn s 8) (I 14) (I 16) (I 18) l J (s.extract 11 s.size)) w') (fun _ _=>True) (by kernel_rfl) (by kernel_rfl) HD.out.drew ?_
   iterate 14
    apply Be (fun _ _ h=>h) rfl rfl rfl
    ·intro b a w f d K m
     try have h0:=d.fr 0 rfl
     try have a0:=d.eq 0 39 rfl
     try have aS:=d.eq 1 40 rfl
     try have az:=d.eq 3 42 rfl
     try have ay:=d.eq 4 43 rfl
     try have aw:=d.eq 6 45 rfl
     try have av:=d.eq 7 46 rfl
     try have au:=d.eq 8 47 rfl
     try have ax:=d.eq 5 44 rfl
     try have ar:=d.eq 9 48 rfl
     try have ap:=d.eq 11 50 rfl
     try have T:=d.fr 2 rfl
     simp only[Oper.wp,execOp];go_simp;exact m _ f trivial
   apply Gs (fun _=>True) rfl rfl
   ·intro b a w f d K m;have an:=d.eq 13 52 rfl;have aF:=d.eq 2 41 rfl;have Q:=d.self;rw[Q] at f;have q0:=Ab f.blk 1;have U:=Ar f.blk 1;simp only[O0,a0w,a0v,a0z,a1x,if_false] at q0;simp only[Oper.wp,execOp];go_simp;exact m undef _ (J3.set f (a3v _) rfl) trivial trivial
   apply Be (fun _ _ h=>h) rfl rfl rfl
   ·intro b a w f d K m;have T:=d.fr 2 rfl;simp only[Oper.wp,execOp];go_simp;exact m _ f trivial
   apply Gs (fun _=>True) rfl rfl
   ·intro b a w f d K m;have am:=d.eq 15 53 rfl;have aq:=d.eq 10 49 rfl;have Q:=d.self;rw[Q] at f;have q0:=Ab f.blk 2;have U:=Ar f.blk 2;simp only[O0,a0w,a0v,a0z,a1x,if_false] at q0;simp only[Oper.wp,execOp];go_simp;exact m undef _ (J3.set f (a3v _) rfl) trivial trivial
   apply Be (fun _ _ h=>h) rfl rfl rfl
   ·intro b a w f d K m;have T:=d.fr 2 rfl;simp only[Oper.wp,execOp];go_simp;exact m _ f trivial
   apply Gs (fun _=>True) rfl rfl
   ·intro b a w f d K m;have al:=d.eq 17 54 rfl;have ao:=d.eq 12 51 rfl;have Q:=d.self;rw[Q] at f;have q0:=Ab f.blk 3;have U:=Ar f.blk 3;simp only[O0,a0w,a0v,a0z,a1x,if_false] at q0;simp only[Oper.wp,execOp];go_simp;exact m undef _ (J3.set f (a3v _) rfl) trivial trivial
   refine⟨?_,?_⟩
   ·refine⟨fun _ _ _ _ _=>trivial,?_⟩;refine Cc _ ?_;refine⟨fun _ _ _ _ _=>trivial,?_⟩;refine Cc _ ?_;refine⟨fun _ _ _ _ _=>trivial,?_⟩
    iterate 14 refine Cc _ ?_
    exact trivial
   ·intro u I f p;simp only[a1u,a2z,a2v,a2x]
    iterate 14 (refine Am ?_)
    refine Ap ?_;intro af u14
    iterate 1 (refine Am ?_)
    refine Ap ?_;intro ae u16
    iterate 1 (refine Am ?_)
    refine Ap ?_;intro ad u18;refine A0 ?_;simp only[Aj,Act.put,a0u,a1w,a1v];have j:=f;rw[p 14 (by decide),p 16 (by decide),p 18 (by decide)] at j;have HC:=a0x j;have r0:u.cell? ⟨w.heap.size,0,none⟩=some (.int .u64 (Bn s 8)):=Ab j.blk 0;have r1:u.cell? ⟨w.heap.size,1,none⟩=some (.int .i64 l):=Ab j.blk 1;have r2:u.cell? ⟨w.heap.size,2,none⟩=some (.int .i64 J):=Ab j.blk 2;have r3:u.cell? ⟨w.heap.size,3,none⟩=some (.string (s.extract 11 s.size)):=Ab j.blk 3;have U:u.frozen? ⟨w.heap.size,0,none⟩=false:=Ar j.blk 0;have f1:u.frozen? ⟨w.heap.size,1,none⟩=false:=Ar j.blk 1;have f2:u.frozen? ⟨w.heap.size,2,none⟩=false:=Ar j.blk 2;have f3:u.frozen? ⟨w.heap.size,3,none⟩=false:=Ar j.blk 3;clear f p j;go_wp2_with (fail);refine bodyPost_ret (v:=.tuple #[.agg #[.int .u64 (Bn s 8),.int .i64 l,.int .i64 J,.string (s.extract 11 s.size)],.int .i64 0]) (by simp[results,Tryz.results19,go_sem, *]) rfl ?_;rw[A.out,aa.out];exact⟨rfl,q.out _ (q.out _ (q.out _ (q.out _ HC.out.fp _ _) _ _) _ _) _ _⟩
end
section
open Go.RowKit Go.Lib Go.Maps Go.MapKept Go.ChangeMaps
structure Aad(w0:World)(b bm:Nat)(f:Nat × Array Value)(g:Dk->Dk × Int):Prop where
 enters:∀w,(callFunc f.1 f.2).run Tryz.prog w=.ok (.enter f.1 f.2) w
 calls:∀d W,Ak W b bm d->Av d->Fp [b,bm] w0 W->Calls Tryz.prog f.1 f.2 W fun e w'=>e=.returned (.int .i64 (g d).2)/\Ak w' b bm (g d).1/\Fp [b,bm] W w'
def bZ(f:Nat × Array Value):Value:=.func (.func f.1) #[] f.2
structure cA(w:World)(b bm:Nat)(fs:List (Nat × Array Value))(gs:List (Dk->Dk × Int)):Prop where
 len:fs.length=gs.length
 step:∀i (h:i<fs.length) (h2:i<gs.length),Aad w b bm fs[i] gs[i]
 ok:∀g∈gs,∀d,Av d->Av (g d).1
theorem Aae{a:List (Dk->Dk × Int)}{k:Nat}(h:k<a.length)(d:Dk):Il (a.drop k) d=if(a[k] d).2=0 then Il (a.drop (k+1)) (a[k] d).1 else a[k] d:=by
 rw[List.drop_eq_getElem_cons h];rfl
theorem lU(w:World)(b B C:Nat)(d:Dk)(m:List (Nat × Array Value))(n:List (Dk→Dk × Int))(Q:Ak w b B d)(E:Av d)
  (P:w.heap[C]?=some (.cells (m.map bZ).toArray 254 (0,0)))(hn:m.length<=1000)(D:cA w b B m n):
  Calls Tryz.prog 176 #[.slice (some ⟨C,0,none⟩) m.length m.length] w fun e w'=>e=.returned (.int .i64 (Il n d).2)/\Ak w' b B (Il n d).1/\Fp [b,B] w w':=by
 have T:C∉[b,B]:=by
  intro h;simp only[a4z,a3x,or_false] at h
  rcases h with rfl|rfl
  ·have h2:=Q.cells;rw[P] at h2
   injection Option.some.inj h2 with _ h3
   exact absurd h3 (by decide)
  ·obtain⟨es,Y,h1,_⟩:=Q.files;rw[P] at h1;cases h1
 have HD:=a0x Q;have aa:=a0x E;have HS:=a0x P;have q:=a0x D;clear Q E P D;go_enter Tryz.func176,Tryz.ntmps176;go_wp2_with (fail)
 go_loopg [8] m.length (fun g vi W=>∃(k:Nat) (o:Dk),g+k=m.length/\vi=.int .i64 k/\Il n d=Il (n.drop k) o/\Ak W b B o/\Av o/\Fp [b,B] w W)
 case atStart=>exact⟨0,d,by omega,rfl,rfl,HD.out,aa.out,Fp.refl _ _⟩
 case round=>
  obtain⟨k,o,hg,rfl,hp,J,t,hf⟩:=hrel;have Z:=a0x hp;have O:=a0x J;have v:=a0x t;have S:=a0x hf;clear hp J t hf
  by_cases U:k<m.length
  ·have zk:(k:Int)<(m.length:Int):=by omega
   have y:k<n.length:=by rw[<-q.out.len];exact U
   have l:=q.out.step k U y;have a:=Aae y o
   have j:wr.cell? ⟨C,k,none⟩=some (bZ m[k]):=by
    rw[Ab ((S.out.block C (Ac HS.out) T).trans HS.out)];simp[U]
   obtain⟨⟨F,cap⟩,z⟩:∃f,m[k]=f:=⟨_,rfl⟩
   obtain⟨A,p⟩:∃g,n[k]=g:=⟨_,rfl⟩
   have s:Av (A o).1:=q.out.ok A (by rw[<-p];exact List.getElem_mem y) o v.out;rw[z,p] at l;rw[z] at j;rw[p] at a;unfold bZ at j;have V:=l.enters;have HC:=a0x (l.calls o wr O.out v.out S.out);have u:=a0x s
   obtain⟨⟨X,x⟩,hx⟩:∃r,A o=r:=⟨_,rfl⟩
   rw[hx] at HC a u;have M:=a0x a;simp only at V j;clear l a z p s hx;go_wp2_with (fail);(with_reducible refine HC.out.mono ?_);rintro e w2 ⟨rfl,I,G⟩;have N:=a0x I;have K:=a0x (S.out.trans G (by intro i hi;exact Or.inl hi));clear I G
   by_cases R:x=0
   ·subst R
    have L:Hid (Il n d=Il (n.drop (k+1)) X):=by
     have:=M.out;rw[if_pos rfl] at this;exact Z.out.trans this
    go_wp2_with (fail)
    go_roundg (gk-1)
    case measure=>omega
    case rel=>exact⟨k+1,X,by omega,by go_num,L.out,N.out,u.out,K.out⟩
   ·have L:Hid (Il n d=(X,x)):=by
     have:=M.out;rw[if_neg R] at this;exact Z.out.trans this
    have hb:((x:Int)!=0)=true:=by simpa using R
    clear R;go_wp2_with (fail);go_ret;rw[L.out];exact⟨rfl,N.out,K.out⟩
  ·have zk:¬(k:Int)<(m.length:Int):=by omega
   have L:Hid (Il n d=(o,0)):=by
    refine Z.out.trans ?_;rw[List.drop_of_length_le (by rw[<-q.out.len];omega)];rfl
   go_wp2_with (fail);go_ret;rw[L.out];exact⟨rfl,O.out,S.out⟩
def Gj(b:Nat)(lg:Lg):Array Value:=#[.pointer (some ⟨b,0,none⟩),.string lg.name,.int .i64 lg.many,.bool lg.off]
def Dh(w:World)(L b:Nat)(lg:Lg):Prop:=w.heap[L]?=some (.cells (Gj b lg) 185 (0,0))
theorem Dh.fp{w w':World}{S:List Nat}{L b:Nat}{lg:Lg}(h:Dh w L b lg)(a:Fp S w w')(d:L∉S):Dh w' L b lg:=(a.block L (Ac h) d).trans h
theorem Dh.ne{w:World}{L b j:Nat}{lg:Lg}{d:Dk}(h:Dh w L b lg)(g:Ak w b j d):L∉[b,j]:=by
 intro f;simp only[a4z,a3x,or_false] at f
 rcases f with rfl|rfl
 ·have:=g.cells;rw[h] at this;cases this
 ·obtain⟨k,a,i,_⟩:=g.files;rw[h] at i;cases i
theorem Gt{w:World}{q b j:Nat}{d:Dk}{c:Array Value}{T:TypeId}{fr:Nat × Nat}(h:w.heap[q]?=some (.cells c T fr))(k:T≠118)(g:Ak w b j d):q∉[b,j]:=by
 intro f;simp only[a4z,a3x,or_false] at f
 rcases f with rfl|rfl
 ·have:=g.cells;rw[h] at this;cases this;exact k rfl
 ·obtain⟨l,a,i,_⟩:=g.files;rw[h] at i;cases i
structure H9(b bm:Nat)(w0:World)(d d2:Dk)(done:Bool)(w:World):Prop where
 disk:Ak w b bm (if done then d2 else d)
 fp:Fp [b,bm] w0 w
theorem H9.first{b a:Nat}{f:World}{d i:Dk}{done:Bool}{w:World}(h:H9 b a f d i done w)(g:done=false):Ak w b a d:=by
 have:=h.disk;rw[g] at this;exact this
theorem H9.start{b f:Nat}{a:World}{d g:Dk}(h:Ak a b f d):H9 b f a d g false a.drew:=⟨h.of_fp (Fp.drew a) (by simp) (by simp),(Fp.drew a).mono (by simp)⟩
theorem Aaf(w:World)(b m L C B:Nat)(lg:Lg)(d:Dk)(other:ByteArray)(n:Ak w b m d)(t:Av d)(k:other.size≤maxLen)
  (u:Dh w L b lg)(s:w.heap[C]?=some (.cells #[.pointer (some ⟨L,0,none⟩)] 119 (0,0)))(z:w.heap[B]?=some (.cells #[.string other] 9 (0,0))):
  Calls Tryz.prog 177 #[.pointer (some ⟨C,0,none⟩),.pointer (some ⟨B,0,none⟩)] w fun e w'=>e=.returned (.int .i64 (if d.thereE other=3 then 0 else d.thereE other))/\Ak w' b m (d.delete other)/\Fp [b,m] w w':=by
 have P:=u.ne n;have O:=Gt s (by decide) n;have N:=Gt z (by decide) n;have S:=a0x n;have R:=a0x u;have J:=a0x s;have I:=a0x z;have G:=a0x (fun W (h:Ak W b m d)=>Ag6 W b m d other h t k);clear n u s z
 obtain⟨x,D⟩:∃x,d.thereE other=x:=⟨_,rfl⟩
 obtain⟨F,j⟩:∃x,d.delete other=x:=⟨_,rfl⟩
 rw[D,j] at G ⊢;clear D j;go_enter Tryz.func177,Tryz.ntmps177;go_wp2_with (fail);refine Ft (fun A w'=>H9 b m w d F (A 5) w') (fun _ _=>True) (by kernel_rfl) (by kernel_rfl) (H9.start S.out) ?_
 iterate 5
  apply Be (fun _ _ h=>h) rfl rfl rfl
  ·intro b a w f g K p
   try have h0:=g.fr 0 rfl
   try have h4:=g.eq 0 4 rfl
   try have h5:=g.eq 1 5 rfl
   try have Z:=g.eq 2 6 rfl
   try have s:=g.fr 1 rfl
   have q0:=Ab ((f.fp.block _ (Ac J.out) O).trans J.out) 0;have q1:=Ab ((f.fp.block _ (Ac I.out) N).trans I.out) 0;have M:=Ab (R.out.fp f.fp P) 0;simp only[Gj,a0w,a0z] at q0 q1 M;simp only[Oper.wp,execOp];go_simp;exact p _ f trivial
 apply Fb (B6 (.int .i64 x)) rfl rfl rfl
 ·intro b a w f g K p;have Y:=g.eq 3 7 rfl;have X:=g.eq 4 8 rfl;simp only[Oper.wp,execOp];go_simp;(with_reducible refine(G.out _ (f.first g.self)).mono ?_);rintro e w2 ⟨rfl,j,v⟩;exact p _ _ ⟨j,f.fp.trans v (by intro i Q;exact Or.inl Q)⟩ trivial rfl
 apply Be (fun _ _ h=>h) rfl rfl rfl
 ·intro b a w f g K p;have V:=g.eq 5 9 rfl;simp only[Oper.wp,execOp];go_simp;exact p _ f trivial
 refine⟨?_,?_⟩
 ·refine Cc _ ?_;refine⟨fun _ _ _ _ h=>h,?_⟩
  iterate 5 refine Cc _ ?_
  exact trivial
 ·intro w' A f o;simp only[a1u,a2z,a2v,a2x]
  iterate 5 (refine Am ?_)
  refine Ap ?_;intro T u5;obtain rfl:=u5
  iterate 1 (refine Am ?_)
  refine A0 ?_;simp only[Aj,Act.put,a0u,a1w,a1v];have y:A 5=true:=o 5 (by decide);have l:=f.disk;rw[y] at l;have r:Hid (Ak w' b m F):=a0x l;have q:=a0x f.fp;clear f o l
  by_cases E:x=3
  ·subst E;go_wp2_with (fail);go_ret;exact⟨rfl,r.out,q.out⟩
  ·have U:((x:Int)!=3)=true:=by simpa using E
   go_wp2_with (fail);go_ret;exact⟨rfl,r.out,q.out⟩
end
end Go.Proofs.YtkagolpnaicdoaaGreatDoor
