/-
 job as data: the bytes of a job, jobs by their numbers, the journal's tale (plain). job: Encode, Decode. job: Decode. wal: steps; write.
-/
import Derived.Test.YtkagolpnaicdoaaGreatDoorPTabL
import Derived.Test.YtkagolpnaicdoaaGreatDoorPRegionG
set_option maxRecDepth 100000
set_option maxHeartbeats 8000000
open List renaming getElem?_cons_zero→a0z,getElem?_toArray→a0w,getElem?_cons_succ→a0v,setIfInBounds_toArray→a0u,not_mem_nil→a1w,set_cons_succ→a1v,set_cons_zero→a1u,reverse_cons→a2z,mem_cons→a2w,reverse_nil→a2v,cons_append→a2u,nil_append→a3x
open Go.Lib renaming hid→a0x
open Go.IntKind renaming wrap_i64→a1z,wrap_u8→a4z
open Bool renaming false_eq_true→a1x
open UInt8 renaming ofNat→a2x,toNat_ofNat'→a3v
open Nat renaming mod_eq_of_lt→a3z,le_refl→a3w
open BitVec renaming ofInt→a3u,ofInt_natCast→a4x,toNat_ofNat→a4w
namespace Go.Proofs.YtkagolpnaicdoaaGreatDoor
section
open Go.RowKit
structure Aj where
 id:Nat
 phase:Int
 e:Int
 input:ByteArray
structure Gy(j:Aj):Prop where
 id:j.id<18446744073709551616
 p0: -9223372036854775808≤j.phase
 p1:j.phase≤9223372036854775807
 e0: -9223372036854775808≤j.e
 e1:j.e≤9223372036854775807
 input:j.input.size≤1000000000
def Fg:Aj:=⟨0,0,0,⟨#[]⟩⟩
def Bo(j:Aj):List Value:=[.int .u64 j.id,.int .i64 j.phase,.int .i64 j.e,.string j.input]
def Bq(j:Aj):Value:=.agg (Bo j).toArray
def D2:Gx Aj:=⟨42,4,Bo,fun _=>rfl,by decide,by intro x v hv;simp only[Bo,a2w,a1w,or_false] at hv;rcases hv with rfl|rfl|rfl|rfl<;>rfl⟩
def D9:Gx Aj:=⟨46,4,Bo,fun _=>rfl,by decide,by intro x v hv;simp only[Bo,a2w,a1w,or_false] at hv;rcases hv with rfl|rfl|rfl|rfl<;>rfl⟩
def H6(id p e:Nat):List UInt8:=Gk id++[a2x p,a2x e,a2x (e/256)]
def Ea(j:Aj):Bool:=decide (j.phase<1)||decide (5<j.phase)||decide (j.e<0)||decide (65535<j.e)
def Aw(j:Aj):ByteArray:=bl (H6 j.id j.phase.toNat j.e.toNat)++j.input
def Ba(j:Aj):ByteArray × Int:=if Ea j then(⟨#[]⟩,1) else if 60000<j.input.size then(⟨#[]⟩,71) else(Aw j,0)
def Ou(s:ByteArray):Bool:=decide (s.size<11)||decide ((Aq s 8).toNat<1)||decide (5<(Aq s 8).toNat)||decide (60011<s.size)
def Gz(s:ByteArray):Aj:=⟨D7 s 8,((Aq s 8).toNat:Int),(((Aq s 9).toNat+(Aq s 10).toNat*256:Nat):Int),s.extract 11 s.size⟩
def D3(s:ByteArray):Aj × Int:=if Ou s then(Fg,50) else(Gz s,0)
theorem Xx(id p e:Nat):(H6 id p e).length=11:=by simp[H6,Ns]
theorem Ov(j:Aj):(Aw j).size=11+j.input.size:=by
 unfold Aw;rw[ByteArray.size_append,D1,Xx]
def Es:List Aj→Nat→Option Nat
 |[],_=>none
 |x::r,id=>if x.id=id then some 0 else(Es r id).map (· +1)
def Eb:List Aj→Aj→List Aj
 |[],j=>[j]
 |x::r,j=>if x.id=j.id then j::r else x::Eb r j
def F6(l:List Aj)(id:Nat):Option Aj:=l.find? (fun x=>x.id==id)
theorem U1:∀{l:List Aj} {id i:Nat},Es l id=some i→i<l.length
 |x::r,id,i,h=>by
  unfold Es at h;split at h
  ·cases h;simp
  ·obtain⟨k,hk,rfl⟩:=Option.map_eq_some_iff.1 h;have:=U1 hk;simp;omega
theorem U2:∀{l:List Aj} {id k:Nat} (hk:k<l.length),(∀i (h:i<k),¬(l[i]'(Nat.lt_trans h hk)).id=id)→(l[k]).id=id→Es l id=some k
 |x::r,id,0,_,_,h=>by unfold Es;rw[if_pos (show x.id=id from h)]
 |x::r,id,k+1,hk,hb,h=>by
  unfold Es;rw[if_neg (show ¬x.id=id from hb 0 (Nat.succ_pos _)),U2 (k:=k) (by simpa using hk) (fun i hi=>hb (i+1) (Nat.succ_lt_succ hi)) h];rfl
theorem U3:∀{l:List Aj} {id:Nat},(∀i (h:i<l.length),¬(l[i]).id=id)→Es l id=none
 |[],_,_=>rfl
 |x::r,id,hb=>by
  unfold Es;rw[if_neg (show ¬x.id=id from hb 0 (by simp)),U3 (fun i hi=>hb (i+1) (by simpa using hi))];rfl
theorem Rz:∀{l:List Aj} {j:Aj} {i:Nat},Es l j.id=some i→Eb l j=l.set i j
 |x::r,j,i,h=>by
  unfold Es at h;unfold Eb;split at h
  ·cases h;rw[if_pos (by assumption)];rfl
  ·obtain⟨k,hk,rfl⟩:=Option.map_eq_some_iff.1 h;rw[if_neg (by assumption),Rz hk];rfl
theorem R0:∀{l:List Aj} {j:Aj},Es l j.id=none→Eb l j=l++[j]
 |[],j,_=>rfl
 |x::r,j,h=>by
  unfold Es at h;unfold Eb;split at h
  ·cases h
  ·rw[if_neg (by assumption),R0 (by simpa using h)];rfl
theorem dV{l:List Aj}{id i:Nat}(h:Es l id=some i):F6 l id=some (l[i]'(U1 h)):=by
 induction l generalizing i with
 |nil=>cases h
 |cons x r ih=>
  have h0:=h;unfold Es at h;unfold F6;rw[List.find?_cons];split at h
  ·cases h;rename_i hx;rw[show(x.id==id)=true by simpa using hx];rfl
  ·rename_i hx;obtain⟨k,hk,rfl⟩:=Option.map_eq_some_iff.1 h;rw[show(x.id==id)=false by simpa using hx];exact ih hk
theorem dW{l:List Aj}{id:Nat}(h:Es l id=none):F6 l id=none:=by
 induction l with
 |nil=>rfl
 |cons x r ih=>
  unfold Es at h;unfold F6;rw[List.find?_cons];split at h
  ·cases h
  ·rename_i hx;rw[show(x.id==id)=false by simpa using hx];exact ih (by simpa using h)
theorem rL(l:List Aj)(j:Aj):(Eb l j).length≤l.length+1∧l.length≤(Eb l j).length:=by
 cases h:Es l j.id with
 |none=>rw[R0 h];simp
 |some i=>rw[Rz h];simp
theorem rM{l:List Aj}{j x:Aj}(h:x∈Eb l j):x=j∨x∈l:=by
 cases e:Es l j.id with
 |none=>rw[R0 e] at h;rcases List.mem_append.1 h with h|h;exact Or.inr h;exact Or.inl (List.mem_singleton.1 h)
 |some i=>rw[Rz e] at h;rcases List.mem_or_eq_of_mem_set h with h|h;exact Or.inr h;exact Or.inl h
def R1(l:List Aj)(id:Nat)(input:ByteArray):Aj ⊕ Int:=
 match F6 l id with
 |some j=>if j.input=input then .inr 0 else .inr 191
 |none=>.inl ⟨id,1,0,input⟩
def R2(l:List Aj)(id:Nat)(phase e:Int):Aj ⊕ Int:=
 match F6 l id with
 |none=>.inr 3
 |some j=>if 4≤j.phase∨phase<1∨5<phase then .inr 5 else .inl ⟨j.id,phase,e,j.input⟩
def An(texts:List ByteArray):List Aj:=texts.foldl (fun l t=>Eb l (D3 t).1) []
theorem Qb(a:List ByteArray)(t:ByteArray):An (a++[t])=Eb (An a) (D3 t).1:=by unfold An;rw[List.foldl_append];rfl
theorem dX(a:List ByteArray):(An a).length≤a.length:=by
 have key:∀(a:List ByteArray) (l:List Aj),(a.foldl (fun l t=>Eb l (D3 t).1) l).length≤l.length+a.length:=by
  intro a
  induction a with
  |nil=>intro l;exact a3w _
  |cons t r ih=>
   intro l;have h1:=ih (Eb l (D3 t).1);have h2:=(rL l (D3 t).1).1;simp only[List.foldl_cons,List.length_cons];omega
 have h:=key a [];rw[List.length_nil,Nat.zero_add] at h;exact h
end
section
open Go.RowKit Go.Lib
def Ox(id k:Nat):Array Value:=#[if 0<k then A4 (B3 id 0) else .int .u8 0,if 1<k then A4 (B3 id 1) else .int .u8 0,if 2<k then A4 (B3 id 2) else .int .u8 0,if 3<k then A4 (B3 id 3) else .int .u8 0,if 4<k then A4 (B3 id 4) else .int .u8 0,if 5<k then A4 (B3 id 5) else .int .u8 0,if 6<k then A4 (B3 id 6) else .int .u8 0,if 7<k then A4 (B3 id 7) else .int .u8 0,.int .u8 0,.int .u8 0,.int .u8 0]
def Oy(id:Nat)(c8 c9 c10:Bool)(p y z:Int):Array Value:=#[A4 (B3 id 0),A4 (B3 id 1),A4 (B3 id 2),A4 (B3 id 3),A4 (B3 id 4),A4 (B3 id 5),A4 (B3 id 6),A4 (B3 id 7),.int .u8 (if c8 then p else 0),.int .u8 (if c9 then y else 0),.int .u8 (if c10 then z else 0)]
theorem rN(id k:Nat)(hk:k<8):(Ox id k).setIfInBounds k (A4 (B3 id k))=Ox id (k+1):=by
 have h:k=0∨k=1∨k=2∨k=3∨k=4∨k=5∨k=6∨k=7:=by omega
 rcases h with rfl|rfl|rfl|rfl|rfl|rfl|rfl|rfl<;>rfl
theorem rO(id k:Nat)(hk:k<8):(Ox id k)[k]?=some (.int .u8 0):=by
 have h:k=0∨k=1∨k=2∨k=3∨k=4∨k=5∨k=6∨k=7:=by omega
 rcases h with rfl|rfl|rfl|rfl|rfl|rfl|rfl|rfl<;>rfl
theorem rP(id:Nat)(p y z:Int):Ox id 8=Oy id false false false p y z:=rfl
structure N0(g q:Nat)(w0:World)(box:Array Value)(id:Nat)(p y z:Int)(c8 c9 c10:Bool)(w:World):Prop where
 blk:w.heap[g]?=some (.cells (Oy id c8 c9 c10 p y z) 5 (0,0))
 box:w.heap[q]?=some (.cells box 42 (0,0))
 fp:Fp [] w0 w
theorem N0.set{g q:Nat}{w0 w:World}{bx:Array Value}{id o:Nat}{p y z:Int}{c8 c9 c10 d8 d9 d10:Bool}{v:Value}(h:N0 g q w0 bx id p y z c8 c9 c10 w)(hg:w0.heap.size≤g)
  (hs:(Oy id c8 c9 c10 p y z).setIfInBounds o v=Oy id d8 d9 d10 p y z):N0 g q w0 bx id p y z d8 d9 d10 (w.setCell ⟨g,o,none⟩ v):=by
 refine⟨(Bm h.blk _).trans (by rw[hs]),?_,h.fp.trans (Fp.setCell w ⟨g,o,none⟩ v) (by intro i hi;right;simp at hi;omega)⟩
 have hne:q≠g:=by
  rintro rfl;have h1:=h.blk;rw[h.box] at h1;cases h1
 exact(Jf hne _).trans h.box
theorem dY(w:World)(j:Aj)(hj:Gy j):
  Calls Tryz.prog 17 #[Bq j] w fun e w'=>e=.returned (.tuple #[.string (Ba j).1,.int .i64 (Ba j).2])∧Fp [] w w':=by
 obtain⟨id,p,x,inp⟩:=j;obtain⟨hid,hp0,hp1,hx0,hx1,hin⟩:=hj;simp only at hid hp0 hp1 hx0 hx1 hin;have HF1:Hid (Fp [] w (w.alloc (.cells #[.int .u64 id,.int .i64 p,.int .i64 x,.string inp] 42))):=a0x (Fp.alloc _ _);unfold Bq Bo;simp only
 by_cases c1:p<1
 ·have HE:Hid (Ba ⟨id,p,x,inp⟩=(⟨#[]⟩,1)):=by unfold Hid Ba Ea;rw[if_pos (by simp[c1])]
  go_enter Tryz.func17,Tryz.ntmps17;go_wp2_with (fail);go_ret2;rw[HE.out];exact⟨rfl,HF1.out⟩
 by_cases c2:5<p
 ·have HE:Hid (Ba ⟨id,p,x,inp⟩=(⟨#[]⟩,1)):=by unfold Hid Ba Ea;rw[if_pos (by simp[c2])]
  go_enter Tryz.func17,Tryz.ntmps17;go_wp2_with (fail);go_ret2;rw[HE.out];exact⟨rfl,HF1.out⟩
 by_cases c3:x<0
 ·have HE:Hid (Ba ⟨id,p,x,inp⟩=(⟨#[]⟩,1)):=by unfold Hid Ba Ea;rw[if_pos (by simp[c3])]
  go_enter Tryz.func17,Tryz.ntmps17;go_wp2_with (fail);go_ret2;rw[HE.out];exact⟨rfl,HF1.out⟩
 by_cases c4:65535<x
 ·have HE:Hid (Ba ⟨id,p,x,inp⟩=(⟨#[]⟩,1)):=by unfold Hid Ba Ea;rw[if_pos (by simp[c4])]
  go_enter Tryz.func17,Tryz.ntmps17;go_wp2_with (fail);go_ret2;rw[HE.out];exact⟨rfl,HF1.out⟩
 have hbj:Ea ⟨id,p,x,inp⟩=false:=by unfold Ea;simp only[Bool.or_eq_false_iff,decide_eq_false_iff_not];exact⟨⟨⟨c1,c2⟩,c3⟩,c4⟩
 by_cases c5:60000<inp.size
 ·have HE:Hid (Ba ⟨id,p,x,inp⟩=(⟨#[]⟩,71)):=by unfold Hid Ba;rw[hbj,if_neg (by simp),if_pos c5]
  have z5:(60000:Int)<(inp.size:Int):=by omega
  clear hbj;go_enter Tryz.func17,Tryz.ntmps17;go_wp2_with (fail);go_ret2;rw[HE.out];exact⟨rfl,HF1.out⟩
 have HE:Hid (Ba ⟨id,p,x,inp⟩=(Aw ⟨id,p,x,inp⟩,0)):=by unfold Hid Ba;rw[hbj,if_neg (by simp),if_neg c5]
 have z5:¬(60000:Int)<(inp.size:Int):=by omega
 obtain⟨pn,rfl⟩:∃n:Nat,p=n:=⟨p.toNat,by omega⟩
 obtain⟨xn,rfl⟩:∃n:Nat,x=n:=⟨x.toNat,by omega⟩
 have hms:∀W:World,(Instr.makeSlice 113 (.int .i64 11) (.int .i64 11)).run Tryz.prog W=.ok (.slice (some ⟨W.heap.size,0,none⟩) 11 11) (W.alloc (.cells (Ox id 0) 5)):=fun W=>by
  have h:=run_makeSlice (P:=Tryz.prog) W 113 5 Tryz.t5 (.int .u8 0) Tryz.underlying113 (by kernel_rfl) (by kernel_rfl) .i64 .i64 11 11 (by omega) (Int.le_refl _) (by decide) (by decide) (by decide);exact h.trans (congrArg (fun c=>Result.ok _ (W.alloc (.cells c 5))) (show madeCells (Value.int .u8 0).cells 11=Ox id 0 by kernel_rfl))
 have u1:IntKind.u8.wrap (pn:Int)=(pn:Int):=by rw[a4z];omega
 have u2:IntKind.u8.wrap (xn:Int)=((xn%256:Nat):Int):=by rw[a4z];omega
 have u3:IntKind.u8.wrap ((xn:Int)/256)=((xn/256:Nat):Int):=by rw[a4z];omega
 have HEQ:Hid (bl (H6 id pn xn)++inp=Aw ⟨id,pn,xn,inp⟩):=by unfold Hid Aw;simp only[Int.toNat_natCast]
 have hp1:1≤pn:=by omega
 have hp5:pn≤5:=by omega
 have hxn:xn≤65535:=by omega
 have HB1:Hid (∀o,((w.alloc (.cells #[.int .u64 id,.int .i64 pn,.int .i64 xn,.string inp] 42)).alloc o).heap[w.heap.size]?=some (.cells #[.int .u64 id,.int .i64 pn,.int .i64 xn,.string inp] 42 (0,0))):=a0x (fun o=>Cb (Ai rfl _));have HB2:Hid (∀o o2,((w.alloc o2).alloc o).heap[w.heap.size+1]?=some o):=a0x (fun o o2=>Ai (by simp) _);have HF2:Hid (∀o o2,Fp [] w ((w.alloc o2).alloc o)):=a0x (fun o o2=>(Fp.alloc _ _).alloc' _);have hbv:=Xc id;clear hbj hid hp0 hx0 hx1;go_enter Tryz.func17,Tryz.ntmps17;go_wp2_with (fail)
 go_loopg [31] 8 (fun g vi W=>∃k:Nat,g+k=8∧vi=.int .i64 k∧W.heap[w.heap.size+1]?=some (.cells (Ox id k) 5 (0,0))∧W.heap[w.heap.size]?=some (.cells #[.int .u64 id,.int .i64 pn,.int .i64 xn,.string inp] 42 (0,0))∧Fp [] w W)
 case atStart=>exact⟨0,rfl,rfl,HB2.out _ _,HB1.out _,HF2.out _ _⟩
 case round=>
  obtain⟨k,hg,rfl,hblk,hbox,hf⟩:=hrel;have HBLK:=a0x hblk;have HBOX:=a0x hbox;have HF:=a0x hf;have r0:wr.cell? ⟨w.heap.size,0,none⟩=some (.int .u64 id):=Aa hbox 0;have r3:wr.cell? ⟨w.heap.size,3,none⟩=some (.string inp):=Aa hbox 3;clear hblk hbox hf
  by_cases hk:k<8
  ·have q0:wr.cell? ⟨w.heap.size+1,k,none⟩=some (.int .u8 0):=(Aa HBLK.out k).trans (rO id k hk);have f0:wr.frozen? ⟨w.heap.size+1,k,none⟩=false:=Ar HBLK.out k;have HSET:=a0x (rN id k hk);have HBV:=a0x (hbv k);clear hbv;go_wp2_with (fail)
   go_roundg (gk-1)
   case measure=>omega
   case rel=>
    refine⟨k+1,by omega,by go_num,?_,?_,HF.out.trans (Fp.setCell _ ⟨w.heap.size+1,k,none⟩ _) (by intro i hi;right;simp at hi;omega)⟩
    ·rw[←HSET.out,HBV.out];exact(Bm HBLK.out _).trans rfl
    ·exact(Jf (by omega) _).trans HBOX.out
  ·obtain rfl:k=8:=by omega
   have HC0:Hid (N0 (w.heap.size+1) w.heap.size w #[.int .u64 id,.int .i64 pn,.int .i64 xn,.string inp] id pn (xn%256:Nat) (xn/256:Nat) false false false wr):=a0x ⟨by rw[←rP];exact HBLK.out,HBOX.out,HF.out⟩;clear hbv;go_wp2_with (fail);refine F9 (fun bb w'=>N0 (w.heap.size+1) w.heap.size w #[.int .u64 id,.int .i64 pn,.int .i64 xn,.string inp] id pn (xn%256:Nat) (xn/256:Nat) (bb 14) (bb 16) (bb 18) w') (fun _ _=>True) (by kernel_rfl) (by kernel_rfl) ⟨((Fp.drew wr).block _ (Ab HC0.out.blk) (by simp)).trans HC0.out.blk,((Fp.drew wr).block _ (Ab HC0.out.box) (by simp)).trans HC0.out.box,HC0.out.fp.drew'⟩ ?_
   iterate 14
    apply Bi (fun _ _ h=>h) rfl rfl rfl
    ·intro b a w hC hA K hK
     try have h4:=hA.fr 4 rfl
     try have h1:=hA.fr 1 rfl
     try have h47:=hA.eq 3 47 rfl
     try have h48:=hA.eq 4 48 rfl
     try have h50:=hA.eq 6 50 rfl
     try have h51:=hA.eq 7 51 rfl
     try have h53:=hA.eq 9 53 rfl
     try have h54:=hA.eq 10 54 rfl
     try have h55:=hA.eq 11 55 rfl
     try have h44:=hA.eq 0 44 rfl
     have q1:=Aa hC.box 1;have q2:=Aa hC.box 2;simp only[a0w,a0v,a0z] at q1 q2;simp only[Oper.wp,execOp];go_simp;exact hK _ hC trivial
   apply Gw (fun _=>True) rfl rfl
   ·intro b a w hC hA K hK;have h57:=hA.eq 13 57 rfl;have h49:=hA.eq 5 49 rfl;have hb:=hA.self;rw[hb] at hC;have q0:=Aa hC.blk 8;have f0:=Ar hC.blk 8;simp only[Oy,a0w,a0v,a0z] at q0;simp only[Oper.wp,execOp];go_simp;exact hK undef _ (N0.set hC (Nat.le_succ _) rfl) trivial trivial
   apply Bi (fun _ _ h=>h) rfl rfl rfl
   ·intro b a w hC hA K hK;have h45:=hA.eq 1 45 rfl;have q1:=Aa hC.box 1;have q2:=Aa hC.box 2;simp only[a0w,a0v,a0z] at q1 q2;simp only[Oper.wp,execOp];go_simp;exact hK _ hC trivial
   apply Gw (fun _=>True) rfl rfl
   ·intro b a w hC hA K hK;have h58:=hA.eq 15 58 rfl;have h52:=hA.eq 8 52 rfl;have hb:=hA.self;rw[hb] at hC;have q0:=Aa hC.blk 9;have f0:=Ar hC.blk 9;simp only[Oy,a0w,a0v,a0z] at q0;simp only[Oper.wp,execOp];go_simp;exact hK undef _ (N0.set hC (Nat.le_succ _) rfl) trivial trivial
   apply Bi (fun _ _ h=>h) rfl rfl rfl
   ·intro b a w hC hA K hK;have h46:=hA.eq 2 46 rfl;have q1:=Aa hC.box 1;have q2:=Aa hC.box 2;simp only[a0w,a0v,a0z] at q1 q2;simp only[Oper.wp,execOp];go_simp;exact hK _ hC trivial
   apply Gw (fun _=>True) rfl rfl
   ·intro b a w hC hA K hK;have h59:=hA.eq 17 59 rfl;have h56:=hA.eq 12 56 rfl;have hb:=hA.self;rw[hb] at hC;have q0:=Aa hC.blk 10;have f0:=Ar hC.blk 10;simp only[Oy,a0w,a0v,a0z] at q0;simp only[Oper.wp,execOp];go_simp;exact hK undef _ (N0.set hC (Nat.le_succ _) rfl) trivial trivial
   refine⟨?_,?_⟩
   ·refine⟨fun _ _ _ _ _=>trivial,?_⟩;refine Cc _ ?_;refine⟨fun _ _ _ _ _=>trivial,?_⟩;refine Cc _ ?_;refine⟨fun _ _ _ _ _=>trivial,?_⟩
    iterate 14 refine Cc _ ?_
    exact trivial
   ·intro wa bb hC hbb;simp only[a2z,a2v,a3x,a2u]
    iterate 14 (refine Au ?_)
    refine Az ?_;intro v14 u14
    iterate 1 (refine Au ?_)
    refine Az ?_;intro v16 u16
    iterate 1 (refine Au ?_)
    refine Az ?_;intro v18 u18;refine A6 ?_;simp only[Am,Act.put,a0u,a1v,a1u];have hC2:=hC;rw[hbb 14 (by decide),hbb 16 (by decide),hbb 18 (by decide)] at hC2;have HC:=a0x hC2;have r4:wa.cell? ⟨w.heap.size,3,none⟩=some (.string inp):=Aa hC2.box 3
    have hcv:(convert 113 9 (.slice (some ⟨w.heap.size+1,0,none⟩) 11 11)).run Tryz.prog wa=.ok (.string (bl (H6 id pn xn))) wa:=by
     refine(Nu (cap:=11) (f:=fun t=>(H6 id pn xn).getD t 0) ⟨Ab hC2.blk,fun j hj=>?_,fun j _=>Ar hC2.blk j⟩).trans ?_
     ·rw[Aa hC2.blk]
      have h11:j=0∨j=1∨j=2∨j=3∨j=4∨j=5∨j=6∨j=7∨j=8∨j=9∨j=10:=by omega
      have b8:A4 (a2x pn)=.int .u8 (pn:Int):=by unfold A4;rw[a3v,a3z (by omega)]
      have b9:A4 (a2x xn)=.int .u8 ((xn%256:Nat):Int):=by unfold A4;rw[a3v]
      have b10:A4 (a2x (xn/256))=.int .u8 ((xn/256:Nat):Int):=by unfold A4;rw[a3v,a3z (by omega)]
      rcases h11 with rfl|rfl|rfl|rfl|rfl|rfl|rfl|rfl|rfl|rfl|rfl
      ·rfl
      ·rfl
      ·rfl
      ·rfl
      ·rfl
      ·rfl
      ·rfl
      ·rfl
      ·exact congrArg some b8.symm
      ·exact congrArg some b9.symm
      ·exact congrArg some b10.symm
     ·rfl
    have hsz:(bl (H6 id pn xn)).size=11:=by rw[D1,Xx]
    obtain⟨hs,hhs⟩:∃s,bl (H6 id pn xn)=s:=⟨_,rfl⟩
    rw[hhs] at hcv hsz HEQ
    have zno:¬hs.size+inp.size>9223372036854775807:=by omega
    clear hC hbb hC2 hhs hsz;go_wp2_with (fail);go_ret2;rw[HE.out,←HEQ.out];exact⟨rfl,HC.out.fp⟩
end
section
open Go.RowKit Go.Lib
theorem rQ(n m:Nat)(hn:n<256)(hm:m<256):bits .or .i64 (n:Int) ((m*256:Nat):Int)=((n+m*256:Nat):Int):=by
 have h1:(a3u 64 (n:Int)).toNat=n:=by
  rw[a4x,a4w];exact a3z (by omega)
 have h2:(a3u 64 ((m*256:Nat):Int)).toNat=m*256:=by
  rw[a4x,a4w];exact a3z (by omega)
 show IntKind.i64.wrap ((a3u 64 (n:Int) ||| a3u 64 ((m*256:Nat):Int)).toNat:Int)=_;have h3:=Nat.two_pow_add_eq_or_of_lt (i:=8) (b:=n) (by omega) m;rw[BitVec.toNat_or,h1,h2,Nat.or_comm,show m*256=2^8*m by omega,←h3,a1z];omega
def M6(n:Nat)(c1 c2 c3:Bool)(p x:Int)(s:ByteArray):Array Value:=#[.int .u64 n,.int .i64 (if c1 then p else 0),.int .i64 (if c2 then x else 0),.string (if c3 then s else⟨#[]⟩)]
structure Iz(q:Nat)(w0:World)(cs:Array Value)(w:World):Prop where
 blk:w.heap[q]?=some (.cells cs 42 (0,0))
 fp:Fp [] w0 w
theorem Iz.set{q o:Nat}{w0 w:World}{cs cs':Array Value}{v:Value}(h:Iz q w0 cs w)(hq:w0.heap.size≤q)(hs:cs.setIfInBounds o v=cs'):Iz q w0 cs' (w.setCell ⟨q,o,none⟩ v):=
 ⟨(Bm h.blk _).trans (by rw[hs]),h.fp.trans (Fp.setCell w ⟨q,o,none⟩ v) (by intro i hi;right;simp at hi;omega)⟩
theorem Iz.drew{q:Nat}{w0 w:World}{cs:Array Value}(h:Iz q w0 cs w):Iz q w0 cs w.drew:=⟨h.blk,h.fp.drew'⟩
theorem Xy(w:World)(s:ByteArray)(hs:s.size≤1000000000):
  Calls Tryz.prog 19 #[.string s] w fun e w'=>e=.returned (.tuple #[Bq (D3 s).1,.int .i64 (D3 s).2])∧Fp [] w w':=by
 have hD0:Iz w.heap.size w (M6 0 false false false 0 0 ⟨#[]⟩) (w.alloc (.cells #[.int .u64 0,.int .i64 0,.int .i64 0,.string ⟨#[]⟩] 42)):=⟨Ai rfl _,Fp.alloc _ _⟩
 have HD0:=a0x hD0
 have hset:∀W:World,Fp [] w W→∀o v,Fp [] w (W.setCell ⟨w.heap.size,o,none⟩ v):=fun W h o v=>h.trans (Fp.setCell W ⟨w.heap.size,o,none⟩ v) (by intro i hi;right;simp at hi;omega)
 have HSET:=a0x hset;clear hD0 hset
 by_cases c11:s.size<11
 ·have HE:Hid (D3 s=(Fg,50)):=by unfold Hid D3 Ou;rw[if_pos (by simp[c11])]
  have z:(s.size:Int)<11:=by omega
  clear c11;go_enter Tryz.func19,Tryz.ntmps19;go_wp2_with (fail);refine bodyPost_ret (v:=.tuple #[.agg #[.int .u64 0,.int .i64 0,.int .i64 0,.string ⟨#[]⟩],.int .i64 50]) (by simp[results,Tryz.results19,go_sem, *]) rfl ?_;rw[HE.out];exact⟨rfl,HD0.out.fp⟩
 have z11:¬(s.size:Int)<11:=by omega
 have e8:=L4 s 8 (by omega);have e9:=L4 s 9 (by omega);have e10:=L4 s 10 (by omega)
 have p8:(8:Int)<(s.size:Int):=by omega
 have p9:(9:Int)<(s.size:Int):=by omega
 have p10:(10:Int)<(s.size:Int):=by omega
 have hb8:=(Aq s 8).toNat_lt;have hb9:=(Aq s 9).toNat_lt;have hb10:=(Aq s 10).toNat_lt
 obtain⟨x8,hx8⟩:∃x,(Aq s 8).toNat=x:=⟨_,rfl⟩
 obtain⟨x9,hx9⟩:∃x,(Aq s 9).toNat=x:=⟨_,rfl⟩
 obtain⟨x10,hx10⟩:∃x,(Aq s 10).toNat=x:=⟨_,rfl⟩
 rw[hx8] at hb8;rw[hx9] at hb9;rw[hx10] at hb10
 have HP:Hid (D3 s=if x8<1∨5<x8∨60011<s.size then(Fg,50) else(⟨D7 s 8,(x8:Int),((x9+x10*256:Nat):Int),s.extract 11 s.size⟩,0)):=by
  unfold Hid D3 Ou Gz;rw[hx8,hx9,hx10,show decide (s.size<11)=false by simpa using c11]
  by_cases h:x8<1∨5<x8∨60011<s.size
  ·rw[if_pos h,if_pos]
   rcases h with h|h|h<;>simp[h]
  ·rw[if_neg h,if_neg];simp only[Bool.false_or,Bool.or_eq_true,decide_eq_true_eq];omega
 have hc11:11≤s.size:=by omega
 by_cases c8:x8<1
 ·have HE:Hid (D3 s=(Fg,50)):=HP.out.trans (if_pos (Or.inl c8))
  have z:(x8:Int)<1:=by omega
  clear c8;go_enter Tryz.func19,Tryz.ntmps19;go_wp2_with (fail);refine bodyPost_ret (v:=.tuple #[.agg #[.int .u64 0,.int .i64 0,.int .i64 0,.string ⟨#[]⟩],.int .i64 50]) (by simp[results,Tryz.results19,go_sem, *]) rfl ?_;rw[HE.out];exact⟨rfl,HD0.out.fp⟩
 have z8:¬(x8:Int)<1:=by omega
 by_cases c5:5<x8
 ·have HE:Hid (D3 s=(Fg,50)):=HP.out.trans (if_pos (Or.inr (Or.inl c5)))
  have z:(5:Int)<(x8:Int):=by omega
  clear c5;go_enter Tryz.func19,Tryz.ntmps19;go_wp2_with (fail);refine bodyPost_ret (v:=.tuple #[.agg #[.int .u64 0,.int .i64 0,.int .i64 0,.string ⟨#[]⟩],.int .i64 50]) (by simp[results,Tryz.results19,go_sem, *]) rfl ?_;rw[HE.out];exact⟨rfl,HD0.out.fp⟩
 have z5:¬(5:Int)<(x8:Int):=by omega
 by_cases c6:60011<s.size
 ·have HE:Hid (D3 s=(Fg,50)):=HP.out.trans (if_pos (Or.inr (Or.inr c6)))
  have z:(60011:Int)<(s.size:Int):=by omega
  clear c6;go_enter Tryz.func19,Tryz.ntmps19;go_wp2_with (fail);refine bodyPost_ret (v:=.tuple #[.agg #[.int .u64 0,.int .i64 0,.int .i64 0,.string ⟨#[]⟩],.int .i64 50]) (by simp[results,Tryz.results19,go_sem, *]) rfl ?_;rw[HE.out];exact⟨rfl,HD0.out.fp⟩
 have z6:¬(60011:Int)<(s.size:Int):=by omega
 have HE:Hid (D3 s=(⟨D7 s 8,(x8:Int),((x9+x10*256:Nat):Int),s.extract 11 s.size⟩,0)):=HP.out.trans (if_neg (by omega))
 have k8:IntKind.i64.wrap (x8:Int)=(x8:Int):=by rw[a1z];omega
 have k9:IntKind.i64.wrap (x9:Int)=(x9:Int):=by rw[a1z];omega
 have k10:IntKind.i64.wrap (x10:Int)=(x10:Int):=by rw[a1z];omega
 obtain⟨y,hy⟩:∃y,x10*256=y:=⟨_,rfl⟩
 have ks:IntKind.i64.wrap ((x10:Int)*256)=(y:Int):=by rw[a1z];omega
 have ho:=rQ x9 x10 hb9 hb10;rw[hy] at ho
 obtain⟨z9,hz9⟩:∃z,x9+y=z:=⟨_,rfl⟩
 rw[hz9] at ho
 have HZ9:Hid (x9+x10*256=z9):=by unfold Hid;omega
 clear c8 c5 c6 hy hz9 hb8 hb9 hb10 HP;go_enter Tryz.func19,Tryz.ntmps19;go_wp2_with (fail)
 go_loopg [24] 8 (fun g vi W=>∃k:Nat,g+k=8∧vi=.int .i64 k∧Iz w.heap.size w (M6 (D7 s k) false false false x8 z9 (s.extract 11 s.size)) W)
 case atStart=>exact⟨0,rfl,rfl,HD0.out⟩
 case round=>
  obtain⟨k,hg,rfl,hD⟩:=hrel;have HD:=a0x hD;clear hD
  by_cases hk:k<8
  ·have hks:k<s.size:=by omega
   have zk:(k:Int)<(s.size:Int):=by omega
   have HOR:Hid (bits .or .u64 (D7 s k:Int) (IntKind.u64.wrap (IntKind.u64.wrap (s[k].toNat:Int)*2^(8*(k:Int)).toNat))=(D7 s (k+1):Int)):=a0x (by rw[show(8*(k:Int)).toNat=8*k by omega];exact nL hks hk)
   have w8:IntKind.i64.wrap (8*(k:Int))=8*(k:Int):=by rw[a1z];omega
   go_wp2_with (fail);refine F9 (fun bb w'=>Iz w.heap.size w (M6 (if bb 11 then D7 s (k+1) else D7 s k) false false false x8 z9 (s.extract 11 s.size)) w') (fun _ _=>True) (by kernel_rfl) (by kernel_rfl) HD.out.drew ?_;apply Bi (fun _ _ h=>h) rfl rfl rfl
   ·intro b a w hC hA K hK;have h2:=hA.fr 2 rfl;simp only[Oper.wp,execOp];go_simp;exact hK _ hC trivial
   apply Bi (fun _ _ h=>h) rfl rfl rfl
   ·intro b a w hC hA K hK;have h27:=hA.eq 0 27 rfl;have q0:=Aa hC.blk 0;have h11:=hA.post 11 (by kernel_rfl);rw[h11] at q0;simp only[M6,a0w,a0z,a1x,if_false] at q0;simp only[Oper.wp,execOp];go_simp;exact hK _ hC trivial
   iterate 9
    apply Bi (fun _ _ h=>h) rfl rfl rfl
    ·intro b a w hC hA K hK
     try have h0:=hA.fr 0 rfl
     try have h4:=hA.fr 4 rfl
     try have h29:=hA.eq 2 29 rfl
     try have h30:=hA.eq 3 30 rfl
     try have h31:=hA.eq 4 31 rfl
     try have h33:=hA.eq 6 33 rfl
     try have h32:=hA.eq 5 32 rfl
     try have h34:=hA.eq 7 34 rfl
     try have h28:=hA.eq 1 28 rfl
     try have h35:=hA.eq 8 35 rfl
     try have h2:=hA.fr 2 rfl
     have hor:=HOR.out;simp only[Oper.wp,execOp];go_simp;exact hK _ hC trivial
   apply Gw (fun _=>True) rfl rfl
   ·intro b a w hC hA K hK;have h37:=hA.eq 10 37 rfl;have h36:=hA.eq 9 36 rfl;have h11:=hA.self;rw[h11] at hC;have q0:=Aa hC.blk 0;have f0:=Ar hC.blk 0;simp only[M6,a0w,a0z,a1x,if_false] at q0;simp only[Oper.wp,execOp];go_simp;exact hK undef _ (Iz.set hC (a3w _) (by first|rfl|(rw[HOR.out];rfl))) trivial trivial
   refine⟨?_,?_⟩
   ·refine⟨fun _ _ _ _ _=>trivial,?_⟩
    iterate 11 refine Cc _ ?_
    exact trivial
   ·intro wa bb hC hbb;simp only[a2z,a2v,a3x,a2u]
    iterate 11 (refine Au ?_)
    refine Az ?_;intro v11 u11;refine A6 ?_;simp only[Am,Act.put,a0u,a1v,a1u];have hC2:=hC;rw[hbb 11 (by decide),if_pos rfl] at hC2;have HC:=a0x hC2;clear hC hbb hC2;go_wp2_with (fail)
    go_roundg (gk-1)
    case measure=>omega
    case rel=>exact⟨k+1,by omega,by go_num,HC.out⟩
  ·obtain rfl:k=8:=by omega
   have hex:(s.extract 11 s.size).size≤1000000000:=by rw[ByteArray.size_extract];omega
   go_wp2_with (fail);refine F9 (fun bb w'=>Iz w.heap.size w (M6 (D7 s 8) (bb 14) (bb 16) (bb 18) x8 z9 (s.extract 11 s.size)) w') (fun _ _=>True) (by kernel_rfl) (by kernel_rfl) HD.out.drew ?_
   iterate 14
    apply Bi (fun _ _ h=>h) rfl rfl rfl
    ·intro b a w hC hA K hK
     try have h0:=hA.fr 0 rfl
     try have h39:=hA.eq 0 39 rfl
     try have h40:=hA.eq 1 40 rfl
     try have h42:=hA.eq 3 42 rfl
     try have h43:=hA.eq 4 43 rfl
     try have h45:=hA.eq 6 45 rfl
     try have h46:=hA.eq 7 46 rfl
     try have h47:=hA.eq 8 47 rfl
     try have h44:=hA.eq 5 44 rfl
     try have h48:=hA.eq 9 48 rfl
     try have h50:=hA.eq 11 50 rfl
     try have h2:=hA.fr 2 rfl
     simp only[Oper.wp,execOp];go_simp;exact hK _ hC trivial
   apply Gw (fun _=>True) rfl rfl
   ·intro b a w hC hA K hK;have h52:=hA.eq 13 52 rfl;have h41:=hA.eq 2 41 rfl;have h1:=hA.self;rw[h1] at hC;have q0:=Aa hC.blk 1;have f0:=Ar hC.blk 1;simp only[M6,a0w,a0v,a0z,a1x,if_false] at q0;simp only[Oper.wp,execOp];go_simp;exact hK undef _ (Iz.set hC (a3w _) rfl) trivial trivial
   apply Bi (fun _ _ h=>h) rfl rfl rfl
   ·intro b a w hC hA K hK;have h2:=hA.fr 2 rfl;simp only[Oper.wp,execOp];go_simp;exact hK _ hC trivial
   apply Gw (fun _=>True) rfl rfl
   ·intro b a w hC hA K hK;have h53:=hA.eq 15 53 rfl;have h49:=hA.eq 10 49 rfl;have h1:=hA.self;rw[h1] at hC;have q0:=Aa hC.blk 2;have f0:=Ar hC.blk 2;simp only[M6,a0w,a0v,a0z,a1x,if_false] at q0;simp only[Oper.wp,execOp];go_simp;exact hK undef _ (Iz.set hC (a3w _) rfl) trivial trivial
   apply Bi (fun _ _ h=>h) rfl rfl rfl
   ·intro b a w hC hA K hK;have h2:=hA.fr 2 rfl;simp only[Oper.wp,execOp];go_simp;exact hK _ hC trivial
   apply Gw (fun _=>True) rfl rfl
   ·intro b a w hC hA K hK;have h54:=hA.eq 17 54 rfl;have h51:=hA.eq 12 51 rfl;have h1:=hA.self;rw[h1] at hC;have q0:=Aa hC.blk 3;have f0:=Ar hC.blk 3;simp only[M6,a0w,a0v,a0z,a1x,if_false] at q0;simp only[Oper.wp,execOp];go_simp;exact hK undef _ (Iz.set hC (a3w _) rfl) trivial trivial
   refine⟨?_,?_⟩
   ·refine⟨fun _ _ _ _ _=>trivial,?_⟩;refine Cc _ ?_;refine⟨fun _ _ _ _ _=>trivial,?_⟩;refine Cc _ ?_;refine⟨fun _ _ _ _ _=>trivial,?_⟩
    iterate 14 refine Cc _ ?_
    exact trivial
   ·intro wa bb hC hbb;simp only[a2z,a2v,a3x,a2u]
    iterate 14 (refine Au ?_)
    refine Az ?_;intro v14 u14
    iterate 1 (refine Au ?_)
    refine Az ?_;intro v16 u16
    iterate 1 (refine Au ?_)
    refine Az ?_;intro v18 u18;refine A6 ?_;simp only[Am,Act.put,a0u,a1v,a1u];have hC2:=hC;rw[hbb 14 (by decide),hbb 16 (by decide),hbb 18 (by decide)] at hC2;have HC:=a0x hC2;have r0:wa.cell? ⟨w.heap.size,0,none⟩=some (.int .u64 (D7 s 8)):=Aa hC2.blk 0;have r1:wa.cell? ⟨w.heap.size,1,none⟩=some (.int .i64 x8):=Aa hC2.blk 1;have r2:wa.cell? ⟨w.heap.size,2,none⟩=some (.int .i64 z9):=Aa hC2.blk 2;have r3:wa.cell? ⟨w.heap.size,3,none⟩=some (.string (s.extract 11 s.size)):=Aa hC2.blk 3;have f0:wa.frozen? ⟨w.heap.size,0,none⟩=false:=Ar hC2.blk 0;have f1:wa.frozen? ⟨w.heap.size,1,none⟩=false:=Ar hC2.blk 1;have f2:wa.frozen? ⟨w.heap.size,2,none⟩=false:=Ar hC2.blk 2;have f3:wa.frozen? ⟨w.heap.size,3,none⟩=false:=Ar hC2.blk 3;clear hC hbb hC2;go_wp2_with (fail);refine bodyPost_ret (v:=.tuple #[.agg #[.int .u64 (D7 s 8),.int .i64 x8,.int .i64 z9,.string (s.extract 11 s.size)],.int .i64 0]) (by simp[results,Tryz.results19,go_sem, *]) rfl ?_;rw[HE.out,HZ9.out];exact⟨rfl,HSET.out _ (HSET.out _ (HSET.out _ (HSET.out _ HC.out.fp _ _) _ _) _ _) _ _⟩
end
section
open Go.RowKit Go.Lib Go.Maps Go.MapKept Go.ChangeMaps
structure rR(w0:World)(b bm:Nat)(f:Nat × Array Value)(g:Dk→Dk × Int):Prop where
 enters:∀w,(callFunc f.1 f.2).run Tryz.prog w=.ok (.enter f.1 f.2) w
 calls:∀d W,Ah W b bm d→Ak d→Fp [b,bm] w0 W→Calls Tryz.prog f.1 f.2 W fun e w'=>e=.returned (.int .i64 (g d).2)∧Ah w' b bm (g d).1∧Fp [b,bm] W w'
def Xz(f:Nat × Array Value):Value:=.func (.func f.1) #[] f.2
structure X1(w:World)(b bm:Nat)(fs:List (Nat × Array Value))(gs:List (Dk→Dk × Int)):Prop where
 len:fs.length=gs.length
 step:∀i (h:i<fs.length) (h2:i<gs.length),rR w b bm fs[i] gs[i]
 ok:∀g∈gs,∀d,Ak d→Ak (g d).1
theorem rS{gs:List (Dk→Dk × Int)}{k:Nat}(h:k<gs.length)(d:Dk):F3 (gs.drop k) d=if(gs[k] d).2=0 then F3 (gs.drop (k+1)) (gs[k] d).1 else gs[k] d:=by
 rw[List.drop_eq_getElem_cons h];rfl
theorem dZ(w:World)(b bm sb:Nat)(d:Dk)(fs:List (Nat × Array Value))(gs:List (Dk→Dk × Int))(hd:Ah w b bm d)(hok:Ak d)
  (hs:w.heap[sb]?=some (.cells (fs.map Xz).toArray 254 (0,0)))(hn:fs.length≤1000)(hst:X1 w b bm fs gs):
  Calls Tryz.prog 176 #[.slice (some ⟨sb,0,none⟩) fs.length fs.length] w fun e w'=>e=.returned (.int .i64 (F3 gs d).2)∧Ah w' b bm (F3 gs d).1∧Fp [b,bm] w w':=by
 have hsb:sb∉[b,bm]:=by
  intro h;simp only[a2w,a1w,or_false] at h
  rcases h with rfl|rfl
  ·have h2:=hd.cells;rw[hs] at h2
   injection Option.some.inj h2 with _ h3
   exact absurd h3 (by decide)
  ·obtain⟨es,clock,h1,_⟩:=hd.files;rw[hs] at h1;cases h1
 have HD:=a0x hd;have HOK:=a0x hok;have HS:=a0x hs;have HST:=a0x hst;clear hd hok hs hst;go_enter Tryz.func176,Tryz.ntmps176;go_wp2_with (fail)
 go_loopg [8] fs.length (fun g vi W=>∃(k:Nat) (d2:Dk),g+k=fs.length∧vi=.int .i64 k∧F3 gs d=F3 (gs.drop k) d2∧Ah W b bm d2∧Ak d2∧Fp [b,bm] w W)
 case atStart=>exact⟨0,d,by omega,rfl,rfl,HD.out,HOK.out,Fp.refl _ _⟩
 case round=>
  obtain⟨k,d2,hg,rfl,hp,hd2,hok2,hf⟩:=hrel;have HP:=a0x hp;have HD2:=a0x hd2;have HOK2:=a0x hok2;have HF:=a0x hf;clear hp hd2 hok2 hf
  by_cases hk:k<fs.length
  ·have zk:(k:Int)<(fs.length:Int):=by omega
   have hkg:k<gs.length:=by rw[←HST.out.len];exact hk
   have hstp:=HST.out.step k hk hkg;have hdrop:=rS hkg d2
   have hcell:wr.cell? ⟨sb,k,none⟩=some (Xz fs[k]):=by
    rw[Aa ((HF.out.block sb (Ab HS.out) hsb).trans HS.out)];simp[hk]
   obtain⟨⟨F,cap⟩,hfk⟩:∃f,fs[k]=f:=⟨_,rfl⟩
   obtain⟨gk2,hgk⟩:∃g,gs[k]=g:=⟨_,rfl⟩
   have hokg:Ak (gk2 d2).1:=HST.out.ok gk2 (by rw[←hgk];exact List.getElem_mem hkg) d2 HOK2.out;rw[hfk,hgk] at hstp;rw[hfk] at hcell;rw[hgk] at hdrop;unfold Xz at hcell;have hen:=hstp.enters;have HC:=a0x (hstp.calls d2 wr HD2.out HOK2.out HF.out);have HOKG:=a0x hokg
   obtain⟨⟨d3,x⟩,hx⟩:∃r,gk2 d2=r:=⟨_,rfl⟩
   rw[hx] at HC hdrop HOKG;have HDR:=a0x hdrop;simp only at hen hcell;clear hstp hdrop hfk hgk hokg hx;go_wp2_with (fail);(with_reducible refine HC.out.mono ?_);rintro e w2 ⟨rfl,hd3,hf3⟩;have HD3:=a0x hd3;have HF3:=a0x (HF.out.trans hf3 (by intro i hi;exact Or.inl hi));clear hd3 hf3
   by_cases h0:x=0
   ·subst h0
    have HE:Hid (F3 gs d=F3 (gs.drop (k+1)) d3):=by
     have:=HDR.out;rw[if_pos rfl] at this;exact HP.out.trans this
    go_wp2_with (fail)
    go_roundg (gk-1)
    case measure=>omega
    case rel=>exact⟨k+1,d3,by omega,by go_num,HE.out,HD3.out,HOKG.out,HF3.out⟩
   ·have HE:Hid (F3 gs d=(d3,x)):=by
     have:=HDR.out;rw[if_neg h0] at this;exact HP.out.trans this
    have hb:((x:Int)!=0)=true:=by simpa using h0
    clear h0;go_wp2_with (fail);go_ret;rw[HE.out];exact⟨rfl,HD3.out,HF3.out⟩
  ·have zk:¬(k:Int)<(fs.length:Int):=by omega
   have HE:Hid (F3 gs d=(d2,0)):=by
    refine HP.out.trans ?_;rw[List.drop_of_length_le (by rw[←HST.out.len];omega)];rfl
   go_wp2_with (fail);go_ret;rw[HE.out];exact⟨rfl,HD2.out,HF.out⟩
def E8(b:Nat)(lg:Lg):Array Value:=#[.pointer (some ⟨b,0,none⟩),.string lg.name,.int .i64 lg.many,.bool lg.off]
def B5(w:World)(L b:Nat)(lg:Lg):Prop:=w.heap[L]?=some (.cells (E8 b lg) 185 (0,0))
theorem B5.fp{w w':World}{S:List Nat}{L b:Nat}{lg:Lg}(h:B5 w L b lg)(hf:Fp S w w')(hS:L∉S):B5 w' L b lg:=(hf.block L (Ab h) hS).trans h
theorem B5.ne{w:World}{L b bm:Nat}{lg:Lg}{d:Dk}(h:B5 w L b lg)(hd:Ah w b bm d):L∉[b,bm]:=by
 intro hm;simp only[a2w,a1w,or_false] at hm
 rcases hm with rfl|rfl
 ·have:=hd.cells;rw[h] at this;cases this
 ·obtain⟨es,clock,h1,_⟩:=hd.files;rw[h] at h1;cases h1
theorem Fh{w:World}{q b bm:Nat}{d:Dk}{c:Array Value}{T:TypeId}{fr:Nat × Nat}(h:w.heap[q]?=some (.cells c T fr))(hT:T≠118)(hd:Ah w b bm d):q∉[b,bm]:=by
 intro hm;simp only[a2w,a1w,or_false] at hm
 rcases hm with rfl|rfl
 ·have:=hd.cells;rw[h] at this;cases this;exact hT rfl
 ·obtain⟨es,clock,h1,_⟩:=hd.files;rw[h] at h1;cases h1
structure G5(b bm:Nat)(w0:World)(d d2:Dk)(done:Bool)(w:World):Prop where
 disk:Ah w b bm (if done then d2 else d)
 fp:Fp [b,bm] w0 w
theorem G5.first{b bm:Nat}{w0:World}{d d2:Dk}{done:Bool}{w:World}(h:G5 b bm w0 d d2 done w)(hb:done=false):Ah w b bm d:=by
 have:=h.disk;rw[hb] at this;exact this
theorem G5.start{b bm:Nat}{w0:World}{d d2:Dk}(h:Ah w0 b bm d):G5 b bm w0 d d2 false w0.drew:=⟨h.of_fp (Fp.drew w0) (by simp) (by simp),(Fp.drew w0).mono (by simp)⟩
theorem rT(w:World)(b bm L ql qo:Nat)(lg:Lg)(d:Dk)(other:ByteArray)(hd:Ah w b bm d)(hok:Ak d)(hname:other.size≤maxLen)
  (hl:B5 w L b lg)(h1:w.heap[ql]?=some (.cells #[.pointer (some ⟨L,0,none⟩)] 119 (0,0)))(h2:w.heap[qo]?=some (.cells #[.string other] 9 (0,0))):
  Calls Tryz.prog 177 #[.pointer (some ⟨ql,0,none⟩),.pointer (some ⟨qo,0,none⟩)] w fun e w'=>e=.returned (.int .i64 (if d.thereE other=3 then 0 else d.thereE other))∧Ah w' b bm (d.delete other)∧Fp [b,bm] w w':=by
 have n1:=hl.ne hd;have n2:=Fh h1 (by decide) hd;have n3:=Fh h2 (by decide) hd;have HD:=a0x hd;have HL:=a0x hl;have H1:=a0x h1;have H2:=a0x h2;have HC:=a0x (fun W (h:Ah W b bm d)=>Aaf W b bm d other h hok hname);clear hd hl h1 h2
 obtain⟨x,hx⟩:∃x,d.thereE other=x:=⟨_,rfl⟩
 obtain⟨d2,hd2⟩:∃x,d.delete other=x:=⟨_,rfl⟩
 rw[hx,hd2] at HC ⊢;clear hx hd2;go_enter Tryz.func177,Tryz.ntmps177;go_wp2_with (fail);refine F9 (fun bb w'=>G5 b bm w d d2 (bb 5) w') (fun _ _=>True) (by kernel_rfl) (by kernel_rfl) (G5.start HD.out) ?_
 iterate 5
  apply Bi (fun _ _ h=>h) rfl rfl rfl
  ·intro b a w hC hA K hK
   try have h0:=hA.fr 0 rfl
   try have h4:=hA.eq 0 4 rfl
   try have h5:=hA.eq 1 5 rfl
   try have h6:=hA.eq 2 6 rfl
   try have h1:=hA.fr 1 rfl
   have q0:=Aa ((hC.fp.block _ (Ab H1.out) n2).trans H1.out) 0;have q1:=Aa ((hC.fp.block _ (Ab H2.out) n3).trans H2.out) 0;have q2:=Aa (HL.out.fp hC.fp n1) 0;simp only[E8,a0w,a0z] at q0 q1 q2;simp only[Oper.wp,execOp];go_simp;exact hK _ hC trivial
 apply He (B0 (.int .i64 x)) rfl rfl rfl
 ·intro b a w hC hA K hK;have h7:=hA.eq 3 7 rfl;have h8:=hA.eq 4 8 rfl;simp only[Oper.wp,execOp];go_simp;(with_reducible refine(HC.out _ (hC.first hA.self)).mono ?_);rintro e w2 ⟨rfl,hd2,hf2⟩;exact hK _ _ ⟨hd2,hC.fp.trans hf2 (by intro i hi;exact Or.inl hi)⟩ trivial rfl
 apply Bi (fun _ _ h=>h) rfl rfl rfl
 ·intro b a w hC hA K hK;have h9:=hA.eq 5 9 rfl;simp only[Oper.wp,execOp];go_simp;exact hK _ hC trivial
 refine⟨?_,?_⟩
 ·refine Cc _ ?_;refine⟨fun _ _ _ _ h=>h,?_⟩
  iterate 5 refine Cc _ ?_
  exact trivial
 ·intro w' bb hC hbb;simp only[a2z,a2v,a3x,a2u]
  iterate 5 (refine Au ?_)
  refine Az ?_;intro v5 u5;obtain rfl:=u5
  iterate 1 (refine Au ?_)
  refine A6 ?_;simp only[Am,Act.put,a0u,a1v,a1u];have hb5:bb 5=true:=hbb 5 (by decide);have hCd:=hC.disk;rw[hb5] at hCd;have HDD:Hid (Ah w' b bm d2):=a0x hCd;have HFF:=a0x hC.fp;clear hC hbb hCd
  by_cases h3:x=3
  ·subst h3;go_wp2_with (fail);go_ret;exact⟨rfl,HDD.out,HFF.out⟩
  ·have hb:((x:Int)!=3)=true:=by simpa using h3
   go_wp2_with (fail);go_ret;exact⟨rfl,HDD.out,HFF.out⟩
end
end Go.Proofs.YtkagolpnaicdoaaGreatDoor
