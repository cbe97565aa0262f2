/-
 job.Make, walked. job.hex: strings.Repeat of "0". strconv.FormatUint at base sixteen. job.hex, job.Name. layer 20's small case (plain).
-/
import Derived.Test.YtkagolpnaicdoaaGreatDoorMJobD
import Derived.Test.YtkagolpnaicdoaaGreatDoorMMaps
import Derived.Test.YtkagolpnaicdoaaGreatDoorRows
import Derived.Test.YtkagolpnaicdoaaGreatDoorMShelf
import Derived.Deep.CutRange
import Derived.WalkKit
import Derived.WalkSmall
import Derived.Test.YtkagolpnaicdoaaGreatDoorMRegion
import Derived.Lib.SmallJoins
import Derived.Test.YtkagolpnaicdoaaGreatDoorMWalQ
set_option maxRecDepth 100000
set_option maxHeartbeats 8000000
open Go.Lib renaming hid→a0z
open Nat renaming lt_of_lt_of_le→a0x
open Go.IntKind renaming u64→a0w,wrap_u64→a1z,wrap_i64→a1x
open List renaming not_mem_nil→a0v,mem_cons→a0u,length_replicate→a1v,getElem?_toArray→a1u
open Array renaming replicate→a1w
namespace Go.Proofs.YtkagolpnaicdoaaGreatDoor
section
open Go.RowKit Go.Lib
theorem mS(w:World)(s:ByteArray)(m wid mo:Int)(ep:Int)(a2:Option Addr)(n2 cap2:Nat)(borders:List ByteArray)
  (hs:s.size≤100000000)(hf20:(D5 s).1.length<20)(hst:Fj w a2 n2 borders)(hn2:n2≤900000)(hm:m<2^63)(hwid:wid<2^63)(hmo:mo<2^63)(hpar:Jt w)(htab:B0 w):
  Calls Tryz.prog 11 #[.string s,.slice a2 n2 cap2,.int .u64 ep,.int .i64 m,.int .i64 wid,.int .i64 mo] w fun e w'=>Fp [] w w'∧
   ((∃files vF vS,e=.returned (.tuple #[.agg #[.int .u32 (D1 0 s),.int .u64 ep,vF,vS],.int .i64 0])∧Gm s borders m wid mo 0 files∧Bg 9 w' w.heap.size vF (files.map Value.string)∧Bg 26 w' w.heap.size vS (files.map M8))∨
    ∃x:Nat,x≠0∧e=.returned (.tuple #[.agg #[.int .u32 0,.int .u64 0,.slice none 0 0,.slice none 0 0],.int .i64 x])∧Gm s borders m wid mo x []):=by
 have hmf:∀(fn:Fn) (first cap:Array Value) (w:World),(Instr.makeFunc fn first cap).run Tryz.prog w=.ok (.func fn first cap) w:=fun _ _ _ _=>rfl
 have HPS:=a0z (fun w h=>rM s w hs h);have HST:=a0z hst;have HPAR:=a0z hpar;have HTAB:=a0z htab;clear hst hpar htab;go_enter Tryz.func11,Tryz.ntmps11;go_wp2_with (fail)
 obtain⟨w0,hw0⟩:∃x,((((((w.alloc (.cells #[.string s] 9)).alloc (.cells #[.slice a2 n2 cap2] 22)).alloc (.cells #[.int .i64 m] 3)).alloc (.cells #[.int .i64 wid] 3)).alloc (.cells #[.int .i64 mo] 3)).alloc (.cells #[.int .u32 0,.int .u64 0,.slice none 0 0,.slice none 0 0] 29))=x:=⟨_,rfl⟩
 have hf0:Fp [] w w0:=by rw[←hw0];exact(((((Fp.alloc _ _).alloc' _).alloc' _).alloc' _).alloc' _).alloc' _
 have hb0:w0.heap[w.heap.size]?=some (.cells #[.string s] 9 (0,0)):=by rw[←hw0];exact C7 (C7 (C7 (C7 (C7 (Aj rfl _)))))
 have hb1:w0.heap[w.heap.size+1]?=some (.cells #[.slice a2 n2 cap2] 22 (0,0)):=by rw[←hw0];exact C7 (C7 (C7 (C7 (Aj (by simp) _))))
 have hb2:w0.heap[w.heap.size+1+1]?=some (.cells #[.int .i64 m] 3 (0,0)):=by rw[←hw0];exact C7 (C7 (C7 (Aj (by simp) _)))
 have hb3:w0.heap[w.heap.size+1+1+1]?=some (.cells #[.int .i64 wid] 3 (0,0)):=by rw[←hw0];exact C7 (C7 (Aj (by simp) _))
 have hb4:w0.heap[w.heap.size+1+1+1+1]?=some (.cells #[.int .i64 mo] 3 (0,0)):=by rw[←hw0];exact C7 (Aj (by simp) _)
 have hb5:w0.heap[w.heap.size+1+1+1+1+1]?=some (.cells #[.int .u32 0,.int .u64 0,.slice none 0 0,.slice none 0 0] 29 (0,0)):=by rw[←hw0];exact Aj (by simp) _
 rw[hw0];have HF0:=a0z hf0;have HB0:=a0z hb0;have HB1:=a0z hb1;have HB2:=a0z hb2;have HB3:=a0z hb3;have HB4:=a0z hb4;have HB5:=a0z hb5;clear hw0 hf0 hb0 hb1 hb2 hb3 hb4 hb5;(with_reducible refine(HPS.out _ (HTAB.out.fp HF0.out (by simp))).mono ?_);rintro e w1 ⟨rfl,hf1⟩;have HF1:=a0z hf1;clear hf1;go_wp2_with (fail)
 obtain⟨w2,hw2⟩:∃x,w1.alloc (.cells #[.int .u32 (D1 0 s),.int .u64 ep,.slice none 0 0,.slice none 0 0] 29)=x:=⟨_,rfl⟩
 have hfa:Fp [] w1 w2:=by rw[←hw2];exact Fp.alloc _ _
 have hp2:w2.heap[w1.heap.size]?=some (.cells #[.int .u32 (D1 0 s),.int .u64 ep,.slice none 0 0,.slice none 0 0] 29 (0,0)):=by rw[←hw2];exact Aj rfl _
 rw[hw2];have HFT:=a0z (HF1.out.trans hfa (by simp));have HF2:=a0z (HF0.out.trans HFT.out (by simp));have HP2:=a0z hp2;have hpw:w.heap.size+1+1+1+1+1<w1.heap.size:=a0x (Ab HB5.out) HF1.out.size;have hp2s:w1.heap.size<w2.heap.size:=Ab hp2;clear hw2 hfa hp2;have hb5:w2.heap[w.heap.size+1+1+1+1+1]?=some (.cells #[.int .u32 0,.int .u64 0,.slice none 0 0,.slice none 0 0] 29 (0,0)):=(HFT.out.block _ (Ab HB5.out) (by simp)).trans HB5.out;have HB52:=a0z hb5;clear hb5
 refine(aH w2 46 _ (enters_of Tryz.func46 (by kernel_rfl) rfl)
  (fun A=>Fp [w1.heap.size] w2 A∧∃files vF vS,Gm s borders m wid mo 0 files∧A.heap[w1.heap.size]?=some (.cells #[.int .u32 (D1 0 s),.int .u64 ep,vF,vS] 29 (0,0))∧Bg 9 A (w2.heap.size+1) vF (files.map Value.string)∧Bg 26 A (w2.heap.size+1) vS (files.map M8))
  (fun x A=>Fp [w1.heap.size] w2 A∧∃k:Nat,x=k∧Gm s borders m wid mo k []) ?_ ?_ ?_).mono ?_
 ·intro W hf hsz hcell;have hfw:=HF2.out.trans hf (by simp);have hft:=HFT.out.trans hf (by simp);have hg1:0<w.heap.size:=World.block_lt_of_cell? _ _ (HTAB.out 0 (by decide))
  have hg2:2<w.heap.size:=by
   obtain⟨mx,hmx⟩:=HPAR.out.mx;exact World.block_lt_of_cell? _ _ hmx
  refine(mR W (w.heap.size) (w.heap.size+1+1) (w.heap.size+1+1+1) (w.heap.size+1) (w.heap.size+1+1+1+1) (w1.heap.size) s m wid mo a2 n2 cap2 borders (.int .u32 (D1 0 s)) (.int .u64 ep)
   ((hft.block _ (Ab HB0.out) (by simp)).trans HB0.out) ((hft.block _ (Ab HB2.out) (by simp)).trans HB2.out) ((hft.block _ (Ab HB3.out) (by simp)).trans HB3.out) ((hft.block _ (Ab HB1.out) (by simp)).trans HB1.out) ((hft.block _ (Ab HB4.out) (by simp)).trans HB4.out) ((hf.block _ (Ab HP2.out) (by simp)).trans HP2.out)
   hs hf20 (HST.out.of_fp hfw) hn2 hm hwid hmo ⟨HPAR.out.mx.fp hfw (by simp),HPAR.out.er.fp hfw (by simp) (by simp)⟩ (HTAB.out.fp hfw (by simp)) (by omega) (by omega)).mono ?_
  rintro e W' ⟨hf3,hr⟩;refine⟨(hf3.block _ (Ab hcell) (by simp;omega)).trans hcell,?_⟩;have hf4:Fp [w1.heap.size] w2 W':=(hf.mono (by simp):Fp [w1.heap.size] w2 W).trans hf3 (by simp)
  rcases hr with⟨⟨v,rfl⟩,files,vF,vS,h1,h2,h3,h4⟩|⟨x,hx,rfl,h1⟩
  ·exact Or.inl ⟨⟨v,rfl⟩,hf4,files,vF,vS,h1,h2,h3.mono hsz,h4.mono hsz⟩
  ·exact Or.inr ⟨(x:Int),by omega,rfl,hf4,x,rfl,h1⟩
 ·rintro A B ⟨h0,files,vF,vS,h1,h2,h3,h4⟩ hf;exact⟨h0.trans hf (by simp),files,vF,vS,h1,(hf.block _ (Ab h2) (by simp;omega)).trans h2,h3.fp hf (by simp),h4.fp hf (by simp)⟩
 ·rintro x A B ⟨h0,k,h1,h2⟩ hf;exact⟨h0.trans hf (by simp),k,h1,h2⟩
 rintro e w3 (⟨rfl,hf3,files,vF,vS,h1,h2,h3,h4⟩|⟨x,hx,rfl,hf3,k,rfl,h1⟩)
 ·obtain⟨fa,fn,fc,rfl⟩:=h3.sl;obtain⟨sa,sn,sc,rfl⟩:=h4.sl;have hb5:w3.heap[w.heap.size+1+1+1+1+1]?=some (.cells #[.int .u32 0,.int .u64 0,.slice none 0 0,.slice none 0 0] 29 (0,0)):=(hf3.block _ (Ab HB52.out) (by simp;omega)).trans HB52.out;have q0:w3.cell? ⟨w1.heap.size,0,none⟩=some (.int .u32 (D1 0 s)):=Aa h2 0;have q1:w3.cell? ⟨w1.heap.size,1,none⟩=some (.int .u64 ep):=Aa h2 1;have q2:w3.cell? ⟨w1.heap.size,2,none⟩=some (.slice fa fn fc):=Aa h2 2;have q3:w3.cell? ⟨w1.heap.size,3,none⟩=some (.slice sa sn sc):=Aa h2 3;have r0:w3.cell? ⟨w.heap.size+1+1+1+1+1,0,none⟩=some (.int .u32 0):=Aa hb5 0;have r1:w3.cell? ⟨w.heap.size+1+1+1+1+1,1,none⟩=some (.int .u64 0):=Aa hb5 1;have r2:w3.cell? ⟨w.heap.size+1+1+1+1+1,2,none⟩=some (.slice none 0 0):=Aa hb5 2;have r3:w3.cell? ⟨w.heap.size+1+1+1+1+1,3,none⟩=some (.slice none 0 0):=Aa hb5 3;have f0:w3.frozen? ⟨w.heap.size+1+1+1+1+1,0,none⟩=false:=Aw hb5 0;have f1:w3.frozen? ⟨w.heap.size+1+1+1+1+1,1,none⟩=false:=Aw hb5 1;have f2:w3.frozen? ⟨w.heap.size+1+1+1+1+1,2,none⟩=false:=Aw hb5 2;have f3:w3.frozen? ⟨w.heap.size+1+1+1+1+1,3,none⟩=false:=Aw hb5 3;have HB6:=a0z hb5;have HM:=a0z h1;have H3:=a0z h3;have H4:=a0z h4;have HF3:=a0z hf3;clear hb5 h1 h2 h3 h4 hf3;go_wp2_with (fail);have hfz:Fp [] w w3:=HF2.out.trans HF3.out (by intro i hi;right;simp at hi;omega)
  have hz:∀(A:World) (o:Nat) (v:Value),Fp [] w A→Fp [] w (A.setCell ⟨w.heap.size+1+1+1+1+1,o,none⟩ v):=fun A o v h=>h.trans (Fp.setCell A ⟨w.heap.size+1+1+1+1+1,o,none⟩ v) (by intro i hi;right;simp at hi;omega)
  have ho:∀(e:TypeId) (x:Value) (l:List Value) (A:World) (o:Nat) (v:Value),Bg e A (w2.heap.size+1) x l→Bg e (A.setCell ⟨w.heap.size+1+1+1+1+1,o,none⟩ v) (w2.heap.size+1) x l:=fun e x l A o v h=>h.fp (Fp.setCell A ⟨w.heap.size+1+1+1+1+1,o,none⟩ v) (by simp;omega)
  refine bodyPost_ret (v:=.tuple #[.agg #[.int .u32 (D1 0 s),.int .u64 ep,.slice fa fn fc,.slice sa sn sc],.int .i64 0]) (by simp[results,Tryz.results11,go_sem, *]) rfl ?_;exact⟨hz _ _ _ (hz _ _ _ (hz _ _ _ (hz _ _ _ hfz))),Or.inl ⟨files,_,_,rfl,HM.out,(ho _ _ _ _ _ _ (ho _ _ _ _ _ _ (ho _ _ _ _ _ _ (ho _ _ _ _ _ _ H3.out)))).mono (by omega),(ho _ _ _ _ _ _ (ho _ _ _ _ _ _ (ho _ _ _ _ _ _ (ho _ _ _ _ _ _ H4.out)))).mono (by omega)⟩⟩
 ·have hb5:w3.heap[w.heap.size+1+1+1+1+1]?=some (.cells #[.int .u32 0,.int .u64 0,.slice none 0 0,.slice none 0 0] 29 (0,0)):=(hf3.block _ (Ab HB52.out) (by simp;omega)).trans HB52.out;have r0:w3.cell? ⟨w.heap.size+1+1+1+1+1,0,none⟩=some (.int .u32 0):=Aa hb5 0;have r1:w3.cell? ⟨w.heap.size+1+1+1+1+1,1,none⟩=some (.int .u64 0):=Aa hb5 1;have r2:w3.cell? ⟨w.heap.size+1+1+1+1+1,2,none⟩=some (.slice none 0 0):=Aa hb5 2;have r3:w3.cell? ⟨w.heap.size+1+1+1+1+1,3,none⟩=some (.slice none 0 0):=Aa hb5 3;have f0:w3.frozen? ⟨w.heap.size+1+1+1+1+1,0,none⟩=false:=Aw hb5 0;have f1:w3.frozen? ⟨w.heap.size+1+1+1+1+1,1,none⟩=false:=Aw hb5 1;have f2:w3.frozen? ⟨w.heap.size+1+1+1+1+1,2,none⟩=false:=Aw hb5 2;have f3:w3.frozen? ⟨w.heap.size+1+1+1+1+1,3,none⟩=false:=Aw hb5 3
  have hk0:k≠0:=by omega
  have hkb:(((k:Nat):Int)!=0)=true:=bne_iff_ne.2 (by omega);have HM:=a0z h1;have HF3:=a0z hf3;clear hb5 h1 hf3 hx;go_wp2_with (fail);have hfz:Fp [] w w3:=HF2.out.trans HF3.out (by intro i hi;right;simp at hi;omega)
  have hz:∀(A:World) (o:Nat) (v:Value),Fp [] w A→Fp [] w (A.setCell ⟨w.heap.size+1+1+1+1+1,o,none⟩ v):=fun A o v h=>h.trans (Fp.setCell A ⟨w.heap.size+1+1+1+1+1,o,none⟩ v) (by intro i hi;right;simp at hi;omega)
  refine bodyPost_ret (v:=.tuple #[.agg #[.int .u32 0,.int .u64 0,.slice none 0 0,.slice none 0 0],.int .i64 k]) (by simp[results,Tryz.results11,go_sem, *]) rfl ?_;exact⟨hz _ _ _ (hz _ _ _ (hz _ _ _ (hz _ _ _ hfz))),Or.inr ⟨k,hk0,rfl,HM.out⟩⟩
end
section
open Go.RowKit Go.Lib
theorem mT(w:World)(k:Nat)(hk:k≤16):Calls Tryz.prog 173 #[.int .u64 1,.int .u64 k] w fun e w'=>e=.returned (.tuple #[.int .u64 0,.int .u64 k])∧w'=w:=by
 have z1:bits BinOp.and a0w 1 4294967295=1:=by decide
 have z0:bits BinOp.and a0w 0 4294967295=0:=by decide
 have z2:bits BinOp.and a0w (k:Int) 4294967295=(k:Int):=by
  have h:∀k:Nat,k<17→bits BinOp.and a0w (k:Int) 4294967295=(k:Int):=by decide
  exact h k (by omega)
 have z3:IntKind.u64.wrap (k:Int)=(k:Int):=by rw[a1z];omega
 have z4:(k:Int)/4294967296=0:=by omega
 have z5:IntKind.u64.wrap 0=0:=rfl;go_enter Tryz.func173,Tryz.ntmps173;go_wp2;refine bodyPost_ret (v:=.tuple #[.int .u64 0,.int .u64 k]) (by simp[results,Tryz.results173,go_sem]) rfl ?_;exact⟨rfl,rfl⟩
theorem mU(w:World)(s:ByteArray)(b:Bool)(h0:(decide (1≤s.size))=true)(hb:((s.extract 0 1).toList==[48])=b):Calls Tryz.prog 174 #[.string s,.string ⟨#[48]⟩] w fun e w'=>e=.returned (.bool b)∧w'=w:=by
 have h1:1≤s.size:=of_decide_eq_true h0
 have z0:(1:Int)≤(s.size:Int):=by omega
 go_enter Tryz.func174,Tryz.ntmps174;go_wp2;refine bodyPost_ret (v:=.bool b) (by simp[results,Tryz.results174,go_sem]) rfl ?_;exact⟨rfl,rfl⟩
def Jk(k:Nat):ByteArray:=⟨a1w k 48⟩
theorem mV(k:Nat)(hk:k<17):(⟨a1w 64 48⟩:ByteArray).extract 0 k=Jk k:=by
 have h:∀k:Nat,k<17→((⟨a1w 64 48⟩:ByteArray).extract 0 k).data.toList=(Jk k).data.toList:=by decide+kernel
 have:=h k hk;exact ByteArray.ext (Array.toList_inj.1 this)
theorem mW(w:World)(k:Nat)(hk:k≤16):Calls Tryz.prog 112 #[.string ⟨#[48]⟩,.int .i64 k] w fun e w'=>e=.returned (.string (Jk k))∧w'=w:=by
 have HM:=a0z (fun w=>mT w k hk);have HPX:=a0z mU
 by_cases h0:k=0
 ·subst h0;go_enter Tryz.func112,Tryz.ntmps112;go_wp2_with (fail);refine bodyPost_ret (v:=.string ⟨#[]⟩) (by simp[results,Tryz.results112,go_sem]) rfl ?_;exact⟨rfl,rfl⟩
 ·by_cases h1:k=1
  ·subst h1;go_enter Tryz.func112,Tryz.ntmps112;go_wp2_with (fail);refine bodyPost_ret (v:=.string ⟨#[48]⟩) (by simp[results,Tryz.results112,go_sem]) rfl ?_;exact⟨rfl,rfl⟩
  ·have z0:((k:Int)==0)=false:=beq_eq_false_iff_ne.2 (by omega);have z1:((k:Int)==1)=false:=beq_eq_false_iff_ne.2 (by omega)
   have z2:¬(k:Int)<0:=by omega
   have z3:¬(9223372036854775807:Int)<k:=by omega
   have z4:(k:Int)≤64:=by omega
   have z5:(k:Int)≤128:=by omega
   have z6:IntKind.u64.wrap (k:Int)=(k:Int):=by rw[a1z];omega
   have z7:IntKind.i64.wrap (k:Int)=(k:Int):=by rw[a1x];omega
   go_enter Tryz.func112,Tryz.ntmps112;go_wp2_with (fail);(with_reducible refine(HM.out _).mono ?_);rintro e w1 ⟨rfl,rfl⟩;go_wp2_with (fail);(with_reducible refine(HPX.out _ _ false (by kernel_rfl) (by kernel_rfl)).mono ?_);rintro e w2 ⟨rfl,rfl⟩;go_wp2_with (fail);(with_reducible refine(HPX.out _ _ false (by kernel_rfl) (by kernel_rfl)).mono ?_);rintro e w3 ⟨rfl,rfl⟩;go_wp2_with (fail);(with_reducible refine(HPX.out _ _ true (by kernel_rfl) (by kernel_rfl)).mono ?_);rintro e w4 ⟨rfl,rfl⟩;go_wp2_with (fail);refine bodyPost_ret (by simp[results,Tryz.results112,go_sem];rfl) rfl ?_;refine⟨?_,rfl⟩;congr 2;exact mV k (by omega)
end
section
open Go.RowKit Go.Lib
def Cm(d:Nat):UInt8:=if d<10 then UInt8.ofNat (48+d) else UInt8.ofNat (87+d)
def C5(n:Nat):List UInt8:=if n<16 then[Cm n] else C5 (n/16)++[Cm (n%16)]
 termination_by n
 decreasing_by omega
theorem Pm{n:Nat}(h:n<16):C5 n=[Cm n]:=by rw[C5,if_pos h]
theorem Tm{n:Nat}(h:¬n<16):C5 n=C5 (n/16)++[Cm (n%16)]:=by rw[C5,if_neg h]
def Gw(w:World):Prop:=w.cell? ⟨6,15,none⟩=some (.int .u8 4)
theorem Gw.fp{w w':World}{S:List Nat}(h:Gw w)(hf:Fp S w w')(hs:6∉S):Gw w':=
 (hf.cell (p:=⟨6,15,none⟩) (World.block_lt_of_cell? _ _ h) hs).trans h
theorem mX(w:World)(h:Gw w):Calls Tryz.prog 248 #[.int .u64 16] w fun e w'=>e=.returned (.int .i64 4)∧w'=w:=by
 have z1:bits BinOp.and a0w 16 (IntKind.u64.wrap (-16))=16:=by decide
 have z2:IntKind.u64.wrap (16*285870213051353865)/288230376151711744=15:=by decide
 have q0:w.cell? ⟨6,15,none⟩=some (.int .u8 4):=h;go_enter Tryz.func248,Tryz.ntmps248;go_wp2;refine bodyPost_ret (v:=.int .i64 4) (by simp[results,Tryz.results248,go_sem]) rfl ?_;exact⟨rfl,rfl⟩
theorem mY(w:World):Calls Tryz.prog 247 #[.int .i64 16] w fun e w'=>e=.returned (.bool true)∧w'=w:=by
 have z1:bits BinOp.and IntKind.i64 16 15=0:=by decide
 go_enter Tryz.func247,Tryz.ntmps247;go_wp2;refine bodyPost_ret (v:=.bool true) (by simp[results,Tryz.results247,go_sem]) rfl ?_;exact⟨rfl,rfl⟩
def bB(b:UInt8):Value:=.int .u8 (b.toNat:Int)
def mZ:ByteArray:=⟨#[48,49,50,51,52,53,54,55,56,57,97,98,99,100,101,102,103,104,105,106,107,108,109,110,111,112,113,114,115,116,117,118,119,120,121,122]⟩
def M9(i:Nat)(ds:List UInt8):Array Value:=(List.replicate i (Value.int .u8 0)++ds.map bB).toArray
theorem bC{i:Nat}{ds:List UInt8}(d:UInt8):(M9 (i+1) ds).setIfInBounds i (bB d)=M9 i (d::ds):=by
 unfold M9;rw[List.setIfInBounds_toArray,List.replicate_succ',List.append_assoc,List.set_append,if_neg (by simp),a1v,Nat.sub_self];rfl
theorem bD{i k:Nat}{ds:List UInt8}(h:k<i):(M9 i ds)[k]?=some (.int .u8 0):=by
 unfold M9;rw[a1u,List.getElem?_append_left (by simpa using h),List.getElem?_replicate,if_pos h]
theorem nA(u:Nat)(hu:u<18446744073709551616)(w:World)(htz:Gw w):
  Calls Tryz.prog 197 #[.slice none 0 0,.int .u64 u,.int .i64 16,.bool false,.bool false] w fun e w'=>e=.returned (.tuple #[.slice none 0 0,.string ⟨(C5 u).toArray⟩])∧Fp [] w w':=by
 have HT:=a0z mX;have HPW:=a0z mY;have HTZ:=a0z htz;clear htz;go_enter Tryz.func197,Tryz.ntmps197;go_wp2_with (fail);(with_reducible refine(HPW.out _).mono ?_);rintro e w1 ⟨rfl,rfl⟩;go_wp2_with (fail);(with_reducible refine(HT.out _ (HTZ.out.fp (Fp.alloc _ _) (by simp))).mono ?_);rintro e w2 ⟨rfl,rfl⟩;go_wp2_with (fail)
 go_loopg [1,13] u (fun g vu vi W=>∃(n i:Nat) (ds:List UInt8),g=n∧vu=.int .u64 n∧vi=.int .i64 i∧n<18446744073709551616∧C5 u=C5 n++ds∧ds.length+i=65∧49≤i∧n<16^(i-49)∧W.heap[w.heap.size]?=some (.cells (M9 i ds) 306 (0,0))∧Fp [] w W)
 case atStart=>exact⟨u,65,[],rfl,rfl,rfl,hu,by rw[List.append_nil],rfl,by decide,by simpa using hu,by rw[Aj rfl _];rfl,Fp.alloc _ _⟩
 case round=>
  obtain⟨n,i,ds,hg,rfl,rfl,hn,hx,hl,hi,hb,hc,hf⟩:=hrel;have HX:=a0z hx;have HC:=a0z hc;have HF:=a0z hf;have HG:=a0z hg;have HL:=a0z hl;have HB:=a0z hb;clear hx hc hf hg hl hb
  by_cases hbig:16≤n
  ·have z0:(16:Int)≤(n:Int):=by omega
   obtain⟨k,rfl⟩:∃k,i=k+1:=⟨i-1,by omega⟩
   have hk64:k≤64:=by have:=HL.out;omega
   have z1:IntKind.i64.wrap (k:Int)=(k:Int):=by rw[a1x];omega
   have z3:wrap64 (k:Int)=(k:Int):=by unfold wrap64;omega
   have z2:bits BinOp.and a0w (n:Int) 15=((n%16:Nat):Int):=by
    have h:=bits_and_u64_nat n 15 (by omega) (by omega);rw[show n &&& 15=n%16 from Nat.and_two_pow_sub_one_eq_mod n 4] at h;exact h
   have q0:wr.cell? ⟨w.heap.size,k,none⟩=some (.int .u8 0):=(Aa HC.out k).trans (bD (Nat.lt_succ_self k));have f0:wr.frozen? ⟨w.heap.size,k,none⟩=false:=Aw HC.out k
   have hdg:∀d (h:d<16),mZ[d]'(a0x h (by decide))=Cm d:=by decide
   go_wp2_with (fail)
   go_roundg (n/16)
   case measure=>have:=HG.out;omega
   case rel=>
    refine⟨n/16,k,Cm (n%16)::ds,rfl,rfl,rfl,by omega,?_,by have:=HL.out;simp;omega,?_,?_,?_,HF.out.trans (Fp.setCell _ ⟨w.heap.size,k,none⟩ _) (by intro i hi;right;simp at hi;omega)⟩
    ·rw[HX.out,Tm (by omega),List.append_assoc];rfl
    ·by_cases h49:k+1-49=0
     ·have:=HB.out;rw[h49] at this;omega
     ·omega
    ·have h1:=HB.out
     have h49:k+1-49≠0:=by
      intro h49;rw[h49] at h1;omega
     rw[show k+1-49=(k-49)+1 by omega,Nat.pow_succ] at h1;omega
    ·rw[←bC,←hdg (n%16) (by omega)];exact(Bt HC.out _).trans rfl
  ·have z0:¬(16:Int)≤(n:Int):=by omega
   obtain⟨k,rfl⟩:∃k,i=k+1:=⟨i-1,by omega⟩
   have hk64:k≤64:=by have:=HL.out;omega
   have z1:IntKind.i64.wrap (k:Int)=(k:Int):=by rw[a1x];omega
   have z3:wrap64 (k:Int)=(k:Int):=by unfold wrap64;omega
   have q0:wr.cell? ⟨w.heap.size,k,none⟩=some (.int .u8 0):=(Aa HC.out k).trans (bD (Nat.lt_succ_self k));have f0:wr.frozen? ⟨w.heap.size,k,none⟩=false:=Aw HC.out k
   have hal:Tryz.prog.arrayLen 306=65:=by simp[Program.arrayLen,Tryz.underlying306]
   have hsl:∀W,(Instr.sliceAt 306 (.pointer (some ⟨w.heap.size,0,none⟩)) (some (.int .i64 (k:Int))) none none).run Tryz.prog W=.ok (.slice (some ⟨w.heap.size,k,none⟩) (65-k) (65-k)) W:=fun W=>by
    rw[run_sliceAt_array_l W 306 ⟨w.heap.size,0,none⟩ (by simp[Program.arrayLen,Program.elem,Tryz.underlying306]) .i64 (k:Int) (by omega) (by rw[hal];omega)];go_simp;omega
   have hn16:n<16:=by omega
   have hdg:∀d (h:d<16),(⟨#[48,49,50,51,52,53,54,55,56,57,97,98,99,100,101,102,103,104,105,106,107,108,109,110,111,112,113,114,115,116,117,118,119,120,121,122]⟩:ByteArray)[d]'(a0x h (by decide))=Cm d:=by decide
   have hdn:(⟨#[48,49,50,51,52,53,54,55,56,57,97,98,99,100,101,102,103,104,105,106,107,108,109,110,111,112,113,114,115,116,117,118,119,120,121,122]⟩:ByteArray)[n]'(a0x hn16 (by decide))=Cm n:=hdg n hn16
   have hblk:(wr.setCell ⟨w.heap.size,k,none⟩ (.int .u8 ((Cm n).toNat:Int))).heap[w.heap.size]?=some (.cells (M9 k (Cm n::ds)) 306 (0,0)):=by
    rw[←bC];exact(Bt HC.out _).trans rfl
   have hxl:C5 u=Cm n::ds:=by rw[HX.out,Pm hn16];rfl
   have hlen:65-k=(C5 u).length:=by rw[hxl];have:=HL.out;simp;omega
   have hcv:(convert 113 9 (.slice (some ⟨w.heap.size,k,none⟩) (65-k) (65-k))).run Tryz.prog (wr.setCell ⟨w.heap.size,k,none⟩ (.int .u8 ((Cm n).toNat:Int)))=.ok (.string ⟨(C5 u).toArray⟩) (wr.setCell ⟨w.heap.size,k,none⟩ (.int .u8 ((Cm n).toNat:Int))):=by
    rw[hlen]
    refine run_convert_bytes_back _ 113 9 5 ⟨w.heap.size,k,none⟩ _ (C5 u) Tryz.underlying113 Tryz.underlying5 Tryz.underlying9 fun j hj=>?_
    rw[Lib.add_plain,Aa hblk];unfold M9;rw[a1u,List.getElem?_append_right (by simp)];simp only[a1v,Nat.add_sub_cancel_left];rw[←hxl,List.getElem?_map,List.getElem?_eq_getElem hj];rfl
   have HXL:=a0z hxl;clear hal hdg hblk hxl hlen;go_wp2_with (fail);refine bodyPost_ret (v:=.tuple #[.slice none 0 0,.string ⟨(C5 u).toArray⟩]) (by simp[results,Tryz.results197,go_sem]) rfl ?_;exact⟨rfl,HF.out.trans (Fp.setCell _ ⟨w.heap.size,k,none⟩ _) (by intro i hi;right;simp at hi;omega)⟩
end
section
open Go.RowKit Go.Lib
theorem nB(u:Nat)(hu:u<18446744073709551616)(w:World)(htz:Gw w):
  Calls Tryz.prog 121 #[.int .u64 u,.int .i64 16] w fun e w'=>e=.returned (.string ⟨(C5 u).toArray⟩)∧Fp [] w w':=by
 have H:=a0z (nA u hu w htz);clear htz;go_enter Tryz.func121,Tryz.ntmps121;go_wp2_with (fail);(with_reducible refine H.out.mono ?_);rintro e w1 ⟨rfl,hf⟩;have HF:=a0z hf;clear hf;go_wp2_with (fail);go_ret;exact⟨rfl,HF.out⟩
theorem nC(u:Nat)(hu:u<18446744073709551616)(w:World)(htz:Gw w):
  Calls Tryz.prog 69 #[.int .u64 u,.int .i64 16] w fun e w'=>e=.returned (.string ⟨(C5 u).toArray⟩)∧Fp [] w w':=by
 have H:=a0z (nB u hu w htz);clear htz;go_enter Tryz.func69,Tryz.ntmps69;go_wp2_with (fail);(with_reducible refine H.out.mono ?_);rintro e w1 ⟨rfl,hf⟩;have HF:=a0z hf;clear hf;go_wp2_with (fail);go_ret;exact⟨rfl,HF.out⟩
theorem Wg:∀(k u:Nat),1≤k→u<16^k→(C5 u).length≤k
 |0,_,h,_=>absurd h (by decide)
 |k+1,u,_,hu=>by
  by_cases h:u<16
  ·rw[Pm h];exact Nat.succ_le_succ (Nat.zero_le _)
  ·rw[Tm h,List.length_append,List.length_singleton];rw[Nat.pow_succ] at hu
   have hk:1≤k:=by
    rcases Nat.eq_zero_or_pos k with rfl|h1
    ·simp at hu;omega
    ·exact h1
   have:=Wg k (u/16) hk (by omega);omega
def Hr(u many:Nat):ByteArray:=Jk (many-(C5 u).length)++⟨(C5 u).toArray⟩
theorem Wh(u many:Nat)(hm:many≤16)(h1:1≤many)(hu:u<16^many)(w:World)(htz:Gw w):
  Calls Tryz.prog 58 #[.int .u64 u,.int .i64 many] w fun e w'=>e=.returned (.string (Hr u many))∧Fp [] w w':=by
 have hu64:u<18446744073709551616:=a0x hu (Nat.pow_le_pow_right (by decide) hm);have hlen:=Wg many u h1 hu
 obtain⟨n,hn⟩:∃n,(C5 u).length=n:=⟨_,rfl⟩
 have hsz:(⟨(C5 u).toArray⟩:ByteArray).size=n:=by rw[←hn];rfl
 have H:=a0z (nC u hu64 w htz);have HZ:=a0z (fun w=>mW w (many-n) (by omega))
 have HN:Hid (Hr u many=Jk (many-n)++⟨(C5 u).toArray⟩):=by rw[←hn];exact a0z rfl
 rw[HN.out]
 have z1:(many:Int)-(n:Int)=((many-n:Nat):Int):=by omega
 obtain⟨r,hr⟩:∃r:ByteArray,(⟨(C5 u).toArray⟩:ByteArray)=r:=⟨_,rfl⟩
 rw[hr] at H hsz ⊢
 have hzs:(Jk (many-n)).size=many-n:=by unfold Jk;exact Array.size_replicate ..
 have hno:(Jk (many-n)).size+r.size≤9223372036854775807:=by omega
 have HZS:=a0z hzs;clear htz hn hlen hr hzs
 have hno2:¬9223372036854775807<(Jk (many-n)).size+r.size:=by omega
 go_enter Tryz.func58,Tryz.ntmps58;go_wp2_with (fail);(with_reducible refine H.out.mono ?_);rintro e w1 ⟨rfl,hf⟩;have HF:=a0z hf;clear hf;go_wp2_with (fail);(with_reducible refine(HZ.out _).mono ?_);rintro e w2 ⟨rfl,rfl⟩;go_wp2_with (fail);go_ret;exact⟨rfl,HF.out⟩
theorem Wi(u many:Nat)(h1:1≤many)(hu:u<16^many):(Hr u many).size=many:=by
 have h:=Wg many u h1 hu;unfold Hr;rw[ByteArray.size_append]
 have e1:(Jk (many-(C5 u).length)).size=many-(C5 u).length:=by unfold Jk;exact Array.size_replicate ..
 have e2:(⟨(C5 u).toArray⟩:ByteArray).size=(C5 u).length:=rfl;omega
def K6(id ep k:Nat):ByteArray:=((((⟨#[115]⟩:ByteArray)++Hr id 16)++⟨#[45]⟩)++Hr ep 16)++⟨#[45]⟩++Hr k 4
theorem Wj(id ep k:Nat)(hid:id<18446744073709551616)(hep:ep<18446744073709551616)(hk:k<65536)(w:World)(htz:Gw w):
  Calls Tryz.prog 15 #[.int .u64 id,.int .u64 ep,.int .u16 k] w fun e w'=>e=.returned (.string (K6 id ep k))∧Fp [] w w':=by
 have H1:Hid (∀w,Gw w→Calls Tryz.prog 58 #[.int .u64 id,.int .i64 16] w fun e w'=>e=.returned (.string (Hr id 16))∧Fp [] w w'):=a0z (fun w h=>Wh id 16 (by decide) (by decide) (by simpa using hid) w h);have H2:Hid (∀w,Gw w→Calls Tryz.prog 58 #[.int .u64 ep,.int .i64 16] w fun e w'=>e=.returned (.string (Hr ep 16))∧Fp [] w w'):=a0z (fun w h=>Wh ep 16 (by decide) (by decide) (by simpa using hep) w h);have H3:Hid (∀w,Gw w→Calls Tryz.prog 58 #[.int .u64 k,.int .i64 4] w fun e w'=>e=.returned (.string (Hr k 4))∧Fp [] w w'):=a0z (fun w h=>Wh k 4 (by decide) (by decide) (by simpa using hk) w h);have s1:=Wi id 16 (by decide) (by simpa using hid);have s2:=Wi ep 16 (by decide) (by simpa using hep);have s3:=Wi k 4 (by decide) (by simpa using hk);have HT:=a0z htz;unfold K6
 obtain⟨x1,e1⟩:∃x,Hr id 16=x:=⟨_,rfl⟩
 obtain⟨x2,e2⟩:∃x,Hr ep 16=x:=⟨_,rfl⟩
 obtain⟨x3,e3⟩:∃x,Hr k 4=x:=⟨_,rfl⟩
 rw[e1] at H1 s1;rw[e2] at H2 s2;rw[e3] at H3 s3;rw[e1,e2,e3];clear htz e1 e2 e3;go_enter Tryz.func15,Tryz.ntmps15;go_wp2_with (fail);(with_reducible refine(H1.out _ HT.out).mono ?_);rintro e w1 ⟨rfl,hf1⟩;have HF1:=a0z hf1;clear hf1
 have z16:IntKind.u64.wrap (k:Int)=(k:Int):=by rw[a1z];omega
 go_wp2_with (fail);(with_reducible refine(H2.out _ (HT.out.fp HF1.out (by simp))).mono ?_);rintro e w2 ⟨rfl,hf2⟩;have HF2:=a0z (HF1.out.trans hf2 (by simp));clear hf2;go_wp2_with (fail);(with_reducible refine(H3.out _ (HT.out.fp HF2.out (by simp))).mono ?_);rintro e w3 ⟨rfl,hf3⟩;have HF3:=a0z (HF2.out.trans hf3 (by simp));clear hf3;go_wp2_with (fail);go_ret;exact⟨rfl,HF3.out⟩
end
section
open Go.RowKit
def Nz:ByteArray:=⟨#[122,32,99,32,49,32,61,118,10,97,32,99,32,49,32,61,119,10]⟩
def Na:ByteArray:=⟨#[109]⟩
def Eq:Ac:=⟨⟨#[122]⟩,⟨#[99]⟩,1,0,false,⟨#[118]⟩⟩
def Ek:Ac:=⟨⟨#[97]⟩,⟨#[99]⟩,1,0,false,⟨#[119]⟩⟩
theorem bE:D5 Nz=([Eq,Ek],0,0):=by kernel_rfl
theorem nD:Dm Eq:=⟨by decide,by decide,by decide,by decide,by decide⟩
theorem nE:Dm Ek:=⟨by decide,by decide,by decide,by decide,by decide⟩
theorem nF:B7 (Dp [Eq,Ek]) [⟨Ek,1⟩,⟨Eq,0⟩]:=by
 have hi:Dp [Eq,Ek]=[⟨Eq,0⟩,⟨Ek,1⟩]:=rfl
 have n1:Bj ⟨Ek,1⟩ ⟨Eq,0⟩=false:=by kernel_rfl
 have n2:Bj ⟨Eq,0⟩ ⟨Ek,1⟩=false:=by kernel_rfl
 have y1:Bj ⟨Ek,1⟩ ⟨Ek,1⟩=true:=by kernel_rfl
 have y2:Bj ⟨Eq,0⟩ ⟨Eq,0⟩=true:=by kernel_rfl
 rw[hi];refine⟨?_,?_,?_,?_⟩
 ·refine List.Pairwise.cons ?_ (List.Pairwise.cons (by simp) List.Pairwise.nil);intro y hy;rw[List.mem_singleton.1 hy];exact of_decide_eq_true (by kernel_rfl)
 ·intro x hx;simp only[a0u,a0v,or_false] at hx ⊢
  rcases hx with rfl|rfl
  ·exact Or.inr rfl
  ·exact Or.inl rfl
 ·intro x hx y hy h;simp only[a0u,a0v,or_false] at hx hy
  rcases hx with rfl|rfl<;>rcases hy with rfl|rfl
  ·rw[n1] at h;cases h
  ·exact Nat.le_refl _
  ·exact Nat.le_refl _
  ·rw[n2] at h;cases h
 ·intro y hy;simp only[a0u,a0v,or_false] at hy
  rcases hy with rfl|rfl
  ·exact⟨_,by simp,y2⟩
  ·exact⟨⟨Ek,1⟩,by simp,y1⟩
theorem nG(l:List Ac):Wb (Dp l):=by
 intro x hx y hy _ h;have hl:(Dp l).length=l.length:=Oj l _;obtain⟨i,hi,e⟩:=List.mem_iff_getElem.1 hx;obtain⟨j,hj,e2⟩:=List.mem_iff_getElem.1 hy;rw[show(Dp l)[i]=⟨l.getD i Bo,i⟩ from U0 l l.length i hi] at e;rw[show(Dp l)[j]=⟨l.getD j Bo,j⟩ from U0 l l.length j hj] at e2;subst e;subst e2;simp only at h;subst h;rfl
theorem nH{out:List (List Ac)}(h:E9 [Ek,Eq] [Na] out):out=[[Ek],[Eq]]:=by
 cases h with
 |cons _ _ _ out2 h hle h1 h2 h3=>
  have hz:Iq Eq.row Na=false:=by kernel_rfl
  have ha:Iq Ek.row Na=true:=by kernel_rfl
  have hc:h=0∨h=1∨h=2:=by simp at hle;omega
  rcases hc with rfl|rfl|rfl
  ·have:=h1 (by decide);rw[show([Ek,Eq].getD 0 Bo)=Ek from rfl,ha] at this;cases this
  ·cases h3;rfl
  ·have:=h2 (by decide);rw[show([Ek,Eq].getD (2-1) Bo)=Eq from rfl,hz] at this;cases this
theorem bF(c:Ac):K7 [c] 9=[[c]]:=by
 have h1:I0 [c] 0=true:=by
  unfold I0;simp
 have h2:D3 [c] 0 0=[(0,1)]:=by
  rw[Qu (by simp) h1,O7 (by simp)]
 unfold K7;rw[h2];rfl
theorem bG:K2 9 [[Ek],[Eq]]=[(0,[Ek]),(1,[Eq])]:=by
 unfold K2;rw[show[[Ek],[Eq]].length=0+1+1 from rfl,Qw,Qw];rw[show([[Ek],[Eq]].getD 0 [])=[Ek] from rfl,show([[Ek],[Eq]].getD (0+1) [])=[Eq] from rfl,bF,bF];rfl
theorem nI:Jq [(0,[Ek]),(1,[Eq])]=[0,0]:=by kernel_rfl
theorem bH{k:Nat}{files:List ByteArray}(h:Gm Nz [Na] 9 2 9 k files):k=0∧files.length=2:=by
 have hp:=bE
 have hout:∀{r:List Ad} {out:List (List Ac)} {most:Nat},(9:Int)=(most:Int)→B7 (Dp (D5 Nz).1) r→E9 (r.map (·.c)) [Na] out→most=9∧out=[[Ek],[Eq]]:=by
  intro r out most h1 h2 h3;rw[hp] at h2;have hr:=B7.unique (U1 (l:=[Eq,Ek]) (by intro c hc;simp only[a0u,a0v,or_false] at hc;rcases hc with rfl|rfl;exact nD;exact nE) (by decide)) (nG _) h2 nF;subst hr;exact⟨by omega,nH h3⟩
 cases h with
 |parse h1=>rw[hp] at h1;exact absurd rfl h1
 |none _ h1=>rw[hp] at h1;cases h1
 |sort _ _ h1=>omega
 |cut _ _ _ _ h1=>
  rcases h1 with h1|h1
  ·rw[show G1 [Na]=true by kernel_rfl] at h1;cases h1
  ·omega
 |build r out most _ _ _ _ _ _ h1 h2 h3 h4=>
  obtain⟨rfl,rfl⟩:=hout h1 h2 h3;rw[bG,nI] at h4;exact absurd rfl h4
 |ok r out most _ _ _ _ _ _ h1 h2 h3 h4=>
  obtain⟨rfl,rfl⟩:=hout h1 h2 h3;rw[bG];exact⟨rfl,rfl⟩
theorem nJ:K6 255 1 2=⟨#[115,48,48,48,48,48,48,48,48,48,48,48,48,48,48,102,102,45,48,48,48,48,48,48,48,48,48,48,48,48,48,48,48,49,45,48,48,48,50]⟩:=by
 have h1:C5 255=[102,102]:=by rw[Tm (by decide),Pm (by decide)];rfl
 have h2:C5 1=[49]:=by rw[Pm (by decide)];rfl
 have h3:C5 2=[50]:=by rw[Pm (by decide)];rfl
 unfold K6 Hr;rw[h1,h2,h3]
 decide+kernel
end
end Go.Proofs.YtkagolpnaicdoaaGreatDoor
