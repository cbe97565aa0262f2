/-
 job: Decode. wal: steps; write.
-/
import Derived.Test.YtkagolpnaicdoaaGreatDoorMQOwn
import Derived.Test.YtkagolpnaicdoaaGreatDoorMTabL
import Derived.Test.YtkagolpnaicdoaaGreatDoorMRegionG
set_option maxRecDepth 100000
set_option maxHeartbeats 8000000
open Go.Lib renaming hid→a0z
open List renaming getElem?_cons_zero→a0x,getElem?_toArray→a0w,setIfInBounds_toArray→a1z,getElem?_cons_succ→a1x,set_cons_succ→a1w,set_cons_zero→a1v,reverse_cons→a1u,reverse_nil→a2x,cons_append→a2w,not_mem_nil→a2v,nil_append→a2u,mem_cons→a3w
open Go.IntKind renaming wrap_i64→a0v
open Bool renaming false_eq_true→a0u
open BitVec renaming ofInt→a2z,ofInt_natCast→a3x,toNat_ofNat→a3v
open Nat renaming le_refl→a3z
namespace Go.Proofs.YtkagolpnaicdoaaGreatDoor
section
open Go.RowKit Go.Lib
theorem nK(n m:Nat)(hn:n<256)(hm:m<256):bits .or .i64 (n:Int) ((m*256:Nat):Int)=((n+m*256:Nat):Int):=by
 have h1:(a2z 64 (n:Int)).toNat=n:=by
  rw[a3x,a3v];exact Nat.mod_eq_of_lt (by omega)
 have h2:(a2z 64 ((m*256:Nat):Int)).toNat=m*256:=by
  rw[a3x,a3v];exact Nat.mod_eq_of_lt (by omega)
 show IntKind.i64.wrap ((a2z 64 (n:Int) ||| a2z 64 ((m*256:Nat):Int)).toNat:Int)=_;have h3:=Nat.two_pow_add_eq_or_of_lt (i:=8) (b:=n) (by omega) m;rw[BitVec.toNat_or,h1,h2,Nat.or_comm,show m*256=2^8*m by omega,←h3,a0v];omega
def Lt(n:Nat)(c1 c2 c3:Bool)(p x:Int)(s:ByteArray):Array Value:=#[.int .u64 n,.int .i64 (if c1 then p else 0),.int .i64 (if c2 then x else 0),.string (if c3 then s else⟨#[]⟩)]
structure Ip(q:Nat)(w0:World)(cs:Array Value)(w:World):Prop where
 blk:w.heap[q]?=some (.cells cs 42 (0,0))
 fp:Fp [] w0 w
theorem Ip.set{q o:Nat}{w0 w:World}{cs cs':Array Value}{v:Value}(h:Ip q w0 cs w)(hq:w0.heap.size≤q)(hs:cs.setIfInBounds o v=cs'):Ip q w0 cs' (w.setCell ⟨q,o,none⟩ v):=
 ⟨(Bt h.blk _).trans (by rw[hs]),h.fp.trans (Fp.setCell w ⟨q,o,none⟩ v) (by intro i hi;right;simp at hi;omega)⟩
theorem Ip.drew{q:Nat}{w0 w:World}{cs:Array Value}(h:Ip q w0 cs w):Ip q w0 cs w.drew:=⟨h.blk,h.fp.drew'⟩
theorem nL(w:World)(s:ByteArray)(hs:s.size≤1000000000):
  Calls Tryz.prog 19 #[.string s] w fun e w'=>e=.returned (.tuple #[Gf (Gg s).1,.int .i64 (Gg s).2])∧Fp [] w w':=by
 have hD0:Ip w.heap.size w (Lt 0 false false false 0 0 ⟨#[]⟩) (w.alloc (.cells #[.int .u64 0,.int .i64 0,.int .i64 0,.string ⟨#[]⟩] 42)):=⟨Aj rfl _,Fp.alloc _ _⟩
 have HD0:=a0z hD0
 have hset:∀W:World,Fp [] w W→∀o v,Fp [] w (W.setCell ⟨w.heap.size,o,none⟩ v):=fun W h o v=>h.trans (Fp.setCell W ⟨w.heap.size,o,none⟩ v) (by intro i hi;right;simp at hi;omega)
 have HSET:=a0z hset;clear hD0 hset
 by_cases c11:s.size<11
 ·have HE:Hid (Gg s=(Kq,50)):=by unfold Hid Gg Ui;rw[if_pos (by simp[c11])]
  have z:(s.size:Int)<11:=by omega
  clear c11;go_enter Tryz.func19,Tryz.ntmps19;go_wp2_with (fail);refine bodyPost_ret (v:=.tuple #[.agg #[.int .u64 0,.int .i64 0,.int .i64 0,.string ⟨#[]⟩],.int .i64 50]) (by simp[results,Tryz.results19,go_sem, *]) rfl ?_;rw[HE.out];exact⟨rfl,HD0.out.fp⟩
 have z11:¬(s.size:Int)<11:=by omega
 have e8:=Lh s 8 (by omega);have e9:=Lh s 9 (by omega);have e10:=Lh s 10 (by omega)
 have p8:(8:Int)<(s.size:Int):=by omega
 have p9:(9:Int)<(s.size:Int):=by omega
 have p10:(10:Int)<(s.size:Int):=by omega
 have hb8:=(A1 s 8).toNat_lt;have hb9:=(A1 s 9).toNat_lt;have hb10:=(A1 s 10).toNat_lt
 obtain⟨x8,hx8⟩:∃x,(A1 s 8).toNat=x:=⟨_,rfl⟩
 obtain⟨x9,hx9⟩:∃x,(A1 s 9).toNat=x:=⟨_,rfl⟩
 obtain⟨x10,hx10⟩:∃x,(A1 s 10).toNat=x:=⟨_,rfl⟩
 rw[hx8] at hb8;rw[hx9] at hb9;rw[hx10] at hb10
 have HP:Hid (Gg s=if x8<1∨5<x8∨60011<s.size then(Kq,50) else(⟨Eo s 8,(x8:Int),((x9+x10*256:Nat):Int),s.extract 11 s.size⟩,0)):=by
  unfold Hid Gg Ui Xn;rw[hx8,hx9,hx10,show decide (s.size<11)=false by simpa using c11]
  by_cases h:x8<1∨5<x8∨60011<s.size
  ·rw[if_pos h,if_pos]
   rcases h with h|h|h<;>simp[h]
  ·rw[if_neg h,if_neg];simp only[Bool.false_or,Bool.or_eq_true,decide_eq_true_eq];omega
 have hc11:11≤s.size:=by omega
 by_cases c8:x8<1
 ·have HE:Hid (Gg s=(Kq,50)):=HP.out.trans (if_pos (Or.inl c8))
  have z:(x8:Int)<1:=by omega
  clear c8;go_enter Tryz.func19,Tryz.ntmps19;go_wp2_with (fail);refine bodyPost_ret (v:=.tuple #[.agg #[.int .u64 0,.int .i64 0,.int .i64 0,.string ⟨#[]⟩],.int .i64 50]) (by simp[results,Tryz.results19,go_sem, *]) rfl ?_;rw[HE.out];exact⟨rfl,HD0.out.fp⟩
 have z8:¬(x8:Int)<1:=by omega
 by_cases c5:5<x8
 ·have HE:Hid (Gg s=(Kq,50)):=HP.out.trans (if_pos (Or.inr (Or.inl c5)))
  have z:(5:Int)<(x8:Int):=by omega
  clear c5;go_enter Tryz.func19,Tryz.ntmps19;go_wp2_with (fail);refine bodyPost_ret (v:=.tuple #[.agg #[.int .u64 0,.int .i64 0,.int .i64 0,.string ⟨#[]⟩],.int .i64 50]) (by simp[results,Tryz.results19,go_sem, *]) rfl ?_;rw[HE.out];exact⟨rfl,HD0.out.fp⟩
 have z5:¬(5:Int)<(x8:Int):=by omega
 by_cases c6:60011<s.size
 ·have HE:Hid (Gg s=(Kq,50)):=HP.out.trans (if_pos (Or.inr (Or.inr c6)))
  have z:(60011:Int)<(s.size:Int):=by omega
  clear c6;go_enter Tryz.func19,Tryz.ntmps19;go_wp2_with (fail);refine bodyPost_ret (v:=.tuple #[.agg #[.int .u64 0,.int .i64 0,.int .i64 0,.string ⟨#[]⟩],.int .i64 50]) (by simp[results,Tryz.results19,go_sem, *]) rfl ?_;rw[HE.out];exact⟨rfl,HD0.out.fp⟩
 have z6:¬(60011:Int)<(s.size:Int):=by omega
 have HE:Hid (Gg s=(⟨Eo s 8,(x8:Int),((x9+x10*256:Nat):Int),s.extract 11 s.size⟩,0)):=HP.out.trans (if_neg (by omega))
 have k8:IntKind.i64.wrap (x8:Int)=(x8:Int):=by rw[a0v];omega
 have k9:IntKind.i64.wrap (x9:Int)=(x9:Int):=by rw[a0v];omega
 have k10:IntKind.i64.wrap (x10:Int)=(x10:Int):=by rw[a0v];omega
 obtain⟨y,hy⟩:∃y,x10*256=y:=⟨_,rfl⟩
 have ks:IntKind.i64.wrap ((x10:Int)*256)=(y:Int):=by rw[a0v];omega
 have ho:=nK x9 x10 hb9 hb10;rw[hy] at ho
 obtain⟨z9,hz9⟩:∃z,x9+y=z:=⟨_,rfl⟩
 rw[hz9] at ho
 have HZ9:Hid (x9+x10*256=z9):=by unfold Hid;omega
 clear c8 c5 c6 hy hz9 hb8 hb9 hb10 HP;go_enter Tryz.func19,Tryz.ntmps19;go_wp2_with (fail)
 go_loopg [24] 8 (fun g vi W=>∃k:Nat,g+k=8∧vi=.int .i64 k∧Ip w.heap.size w (Lt (Eo s k) false false false x8 z9 (s.extract 11 s.size)) W)
 case atStart=>exact⟨0,rfl,rfl,HD0.out⟩
 case round=>
  obtain⟨k,hg,rfl,hD⟩:=hrel;have HD:=a0z hD;clear hD
  by_cases hk:k<8
  ·have hks:k<s.size:=by omega
   have zk:(k:Int)<(s.size:Int):=by omega
   have HOR:Hid (bits .or .u64 (Eo s k:Int) (IntKind.u64.wrap (IntKind.u64.wrap (s[k].toNat:Int)*2^(8*(k:Int)).toNat))=(Eo s (k+1):Int)):=a0z (by rw[show(8*(k:Int)).toNat=8*k by omega];exact kO hks hk)
   have w8:IntKind.i64.wrap (8*(k:Int))=8*(k:Int):=by rw[a0v];omega
   go_wp2_with (fail);refine Gj (fun bb w'=>Ip w.heap.size w (Lt (if bb 11 then Eo s (k+1) else Eo s k) false false false x8 z9 (s.extract 11 s.size)) w') (fun _ _=>True) (by kernel_rfl) (by kernel_rfl) HD.out.drew ?_;apply Bm (fun _ _ h=>h) rfl rfl rfl
   ·intro b a w hC hA K hK;have h2:=hA.fr 2 rfl;simp only[Oper.wp,execOp];go_simp;exact hK _ hC trivial
   apply Bm (fun _ _ h=>h) rfl rfl rfl
   ·intro b a w hC hA K hK;have h27:=hA.eq 0 27 rfl;have q0:=Aa hC.blk 0;have h11:=hA.post 11 (by kernel_rfl);rw[h11] at q0;simp only[Lt,a0w,a0x,a0u,if_false] at q0;simp only[Oper.wp,execOp];go_simp;exact hK _ hC trivial
   iterate 9
    apply Bm (fun _ _ h=>h) rfl rfl rfl
    ·intro b a w hC hA K hK
     try have h0:=hA.fr 0 rfl
     try have h4:=hA.fr 4 rfl
     try have h29:=hA.eq 2 29 rfl
     try have h30:=hA.eq 3 30 rfl
     try have h31:=hA.eq 4 31 rfl
     try have h33:=hA.eq 6 33 rfl
     try have h32:=hA.eq 5 32 rfl
     try have h34:=hA.eq 7 34 rfl
     try have h28:=hA.eq 1 28 rfl
     try have h35:=hA.eq 8 35 rfl
     try have h2:=hA.fr 2 rfl
     have hor:=HOR.out;simp only[Oper.wp,execOp];go_simp;exact hK _ hC trivial
   apply Gn (fun _=>True) rfl rfl
   ·intro b a w hC hA K hK;have h37:=hA.eq 10 37 rfl;have h36:=hA.eq 9 36 rfl;have h11:=hA.self;rw[h11] at hC;have q0:=Aa hC.blk 0;have f0:=Aw hC.blk 0;simp only[Lt,a0w,a0x,a0u,if_false] at q0;simp only[Oper.wp,execOp];go_simp;exact hK undef _ (Ip.set hC (a3z _) (by first|rfl|(rw[HOR.out];rfl))) trivial trivial
   refine⟨?_,?_⟩
   ·refine⟨fun _ _ _ _ _=>trivial,?_⟩
    iterate 11 refine B6 _ ?_
    exact trivial
   ·intro wa bb hC hbb;simp only[a1u,a2x,a2u,a2w]
    iterate 11 (refine Aq ?_)
    refine Av ?_;intro v11 u11;refine A8 ?_;simp only[Am,Act.put,a1z,a1w,a1v];have hC2:=hC;rw[hbb 11 (by decide),if_pos rfl] at hC2;have HC:=a0z hC2;clear hC hbb hC2;go_wp2_with (fail)
    go_roundg (gk-1)
    case measure=>omega
    case rel=>exact⟨k+1,by omega,by go_num,HC.out⟩
  ·obtain rfl:k=8:=by omega
   have hex:(s.extract 11 s.size).size≤1000000000:=by rw[ByteArray.size_extract];omega
   go_wp2_with (fail);refine Gj (fun bb w'=>Ip w.heap.size w (Lt (Eo s 8) (bb 14) (bb 16) (bb 18) x8 z9 (s.extract 11 s.size)) w') (fun _ _=>True) (by kernel_rfl) (by kernel_rfl) HD.out.drew ?_
   iterate 14
    apply Bm (fun _ _ h=>h) rfl rfl rfl
    ·intro b a w hC hA K hK
     try have h0:=hA.fr 0 rfl
     try have h39:=hA.eq 0 39 rfl
     try have h40:=hA.eq 1 40 rfl
     try have h42:=hA.eq 3 42 rfl
     try have h43:=hA.eq 4 43 rfl
     try have h45:=hA.eq 6 45 rfl
     try have h46:=hA.eq 7 46 rfl
     try have h47:=hA.eq 8 47 rfl
     try have h44:=hA.eq 5 44 rfl
     try have h48:=hA.eq 9 48 rfl
     try have h50:=hA.eq 11 50 rfl
     try have h2:=hA.fr 2 rfl
     simp only[Oper.wp,execOp];go_simp;exact hK _ hC trivial
   apply Gn (fun _=>True) rfl rfl
   ·intro b a w hC hA K hK;have h52:=hA.eq 13 52 rfl;have h41:=hA.eq 2 41 rfl;have h1:=hA.self;rw[h1] at hC;have q0:=Aa hC.blk 1;have f0:=Aw hC.blk 1;simp only[Lt,a0w,a1x,a0x,a0u,if_false] at q0;simp only[Oper.wp,execOp];go_simp;exact hK undef _ (Ip.set hC (a3z _) rfl) trivial trivial
   apply Bm (fun _ _ h=>h) rfl rfl rfl
   ·intro b a w hC hA K hK;have h2:=hA.fr 2 rfl;simp only[Oper.wp,execOp];go_simp;exact hK _ hC trivial
   apply Gn (fun _=>True) rfl rfl
   ·intro b a w hC hA K hK;have h53:=hA.eq 15 53 rfl;have h49:=hA.eq 10 49 rfl;have h1:=hA.self;rw[h1] at hC;have q0:=Aa hC.blk 2;have f0:=Aw hC.blk 2;simp only[Lt,a0w,a1x,a0x,a0u,if_false] at q0;simp only[Oper.wp,execOp];go_simp;exact hK undef _ (Ip.set hC (a3z _) rfl) trivial trivial
   apply Bm (fun _ _ h=>h) rfl rfl rfl
   ·intro b a w hC hA K hK;have h2:=hA.fr 2 rfl;simp only[Oper.wp,execOp];go_simp;exact hK _ hC trivial
   apply Gn (fun _=>True) rfl rfl
   ·intro b a w hC hA K hK;have h54:=hA.eq 17 54 rfl;have h51:=hA.eq 12 51 rfl;have h1:=hA.self;rw[h1] at hC;have q0:=Aa hC.blk 3;have f0:=Aw hC.blk 3;simp only[Lt,a0w,a1x,a0x,a0u,if_false] at q0;simp only[Oper.wp,execOp];go_simp;exact hK undef _ (Ip.set hC (a3z _) rfl) trivial trivial
   refine⟨?_,?_⟩
   ·refine⟨fun _ _ _ _ _=>trivial,?_⟩;refine B6 _ ?_;refine⟨fun _ _ _ _ _=>trivial,?_⟩;refine B6 _ ?_;refine⟨fun _ _ _ _ _=>trivial,?_⟩
    iterate 14 refine B6 _ ?_
    exact trivial
   ·intro wa bb hC hbb;simp only[a1u,a2x,a2u,a2w]
    iterate 14 (refine Aq ?_)
    refine Av ?_;intro v14 u14
    iterate 1 (refine Aq ?_)
    refine Av ?_;intro v16 u16
    iterate 1 (refine Aq ?_)
    refine Av ?_;intro v18 u18;refine A8 ?_;simp only[Am,Act.put,a1z,a1w,a1v];have hC2:=hC;rw[hbb 14 (by decide),hbb 16 (by decide),hbb 18 (by decide)] at hC2;have HC:=a0z hC2;have r0:wa.cell? ⟨w.heap.size,0,none⟩=some (.int .u64 (Eo s 8)):=Aa hC2.blk 0;have r1:wa.cell? ⟨w.heap.size,1,none⟩=some (.int .i64 x8):=Aa hC2.blk 1;have r2:wa.cell? ⟨w.heap.size,2,none⟩=some (.int .i64 z9):=Aa hC2.blk 2;have r3:wa.cell? ⟨w.heap.size,3,none⟩=some (.string (s.extract 11 s.size)):=Aa hC2.blk 3;have f0:wa.frozen? ⟨w.heap.size,0,none⟩=false:=Aw hC2.blk 0;have f1:wa.frozen? ⟨w.heap.size,1,none⟩=false:=Aw hC2.blk 1;have f2:wa.frozen? ⟨w.heap.size,2,none⟩=false:=Aw hC2.blk 2;have f3:wa.frozen? ⟨w.heap.size,3,none⟩=false:=Aw hC2.blk 3;clear hC hbb hC2;go_wp2_with (fail);refine bodyPost_ret (v:=.tuple #[.agg #[.int .u64 (Eo s 8),.int .i64 x8,.int .i64 z9,.string (s.extract 11 s.size)],.int .i64 0]) (by simp[results,Tryz.results19,go_sem, *]) rfl ?_;rw[HE.out,HZ9.out];exact⟨rfl,HSET.out _ (HSET.out _ (HSET.out _ (HSET.out _ HC.out.fp _ _) _ _) _ _) _ _⟩
end
section
open Go.RowKit Go.Lib Go.Maps Go.MapKept Go.ChangeMaps
structure nM(w0:World)(b bm:Nat)(f:Nat × Array Value)(g:Dk→Dk × Int):Prop where
 enters:∀w,(callFunc f.1 f.2).run Tryz.prog w=.ok (.enter f.1 f.2) w
 calls:∀d W,Ah W b bm d→Ap d→Fp [b,bm] w0 W→Calls Tryz.prog f.1 f.2 W fun e w'=>e=.returned (.int .i64 (g d).2)∧Ah w' b bm (g d).1∧Fp [b,bm] W w'
def Wl(f:Nat × Array Value):Value:=.func (.func f.1) #[] f.2
structure Wm(w:World)(b bm:Nat)(fs:List (Nat × Array Value))(gs:List (Dk→Dk × Int)):Prop where
 len:fs.length=gs.length
 step:∀i (h:i<fs.length) (h2:i<gs.length),nM w b bm fs[i] gs[i]
 ok:∀g∈gs,∀d,Ap d→Ap (g d).1
theorem nN{gs:List (Dk→Dk × Int)}{k:Nat}(h:k<gs.length)(d:Dk):Gk (gs.drop k) d=if(gs[k] d).2=0 then Gk (gs.drop (k+1)) (gs[k] d).1 else gs[k] d:=by
 rw[List.drop_eq_getElem_cons h];rfl
theorem bI(w:World)(b bm sb:Nat)(d:Dk)(fs:List (Nat × Array Value))(gs:List (Dk→Dk × Int))(hd:Ah w b bm d)(hok:Ap d)
  (hs:w.heap[sb]?=some (.cells (fs.map Wl).toArray 254 (0,0)))(hn:fs.length≤1000)(hst:Wm w b bm fs gs):
  Calls Tryz.prog 176 #[.slice (some ⟨sb,0,none⟩) fs.length fs.length] w fun e w'=>e=.returned (.int .i64 (Gk gs d).2)∧Ah w' b bm (Gk gs d).1∧Fp [b,bm] w w':=by
 have hsb:sb∉[b,bm]:=by
  intro h;simp only[a3w,a2v,or_false] at h
  rcases h with rfl|rfl
  ·have h2:=hd.cells;rw[hs] at h2
   injection Option.some.inj h2 with _ h3
   exact absurd h3 (by decide)
  ·obtain⟨es,clock,h1,_⟩:=hd.files;rw[hs] at h1;cases h1
 have HD:=a0z hd;have HOK:=a0z hok;have HS:=a0z hs;have HST:=a0z hst;clear hd hok hs hst;go_enter Tryz.func176,Tryz.ntmps176;go_wp2_with (fail)
 go_loopg [8] fs.length (fun g vi W=>∃(k:Nat) (d2:Dk),g+k=fs.length∧vi=.int .i64 k∧Gk gs d=Gk (gs.drop k) d2∧Ah W b bm d2∧Ap d2∧Fp [b,bm] w W)
 case atStart=>exact⟨0,d,by omega,rfl,rfl,HD.out,HOK.out,Fp.refl _ _⟩
 case round=>
  obtain⟨k,d2,hg,rfl,hp,hd2,hok2,hf⟩:=hrel;have HP:=a0z hp;have HD2:=a0z hd2;have HOK2:=a0z hok2;have HF:=a0z hf;clear hp hd2 hok2 hf
  by_cases hk:k<fs.length
  ·have zk:(k:Int)<(fs.length:Int):=by omega
   have hkg:k<gs.length:=by rw[←HST.out.len];exact hk
   have hstp:=HST.out.step k hk hkg;have hdrop:=nN hkg d2
   have hcell:wr.cell? ⟨sb,k,none⟩=some (Wl fs[k]):=by
    rw[Aa ((HF.out.block sb (Ab HS.out) hsb).trans HS.out)];simp[hk]
   obtain⟨⟨F,cap⟩,hfk⟩:∃f,fs[k]=f:=⟨_,rfl⟩
   obtain⟨gk2,hgk⟩:∃g,gs[k]=g:=⟨_,rfl⟩
   have hokg:Ap (gk2 d2).1:=HST.out.ok gk2 (by rw[←hgk];exact List.getElem_mem hkg) d2 HOK2.out;rw[hfk,hgk] at hstp;rw[hfk] at hcell;rw[hgk] at hdrop;unfold Wl at hcell;have hen:=hstp.enters;have HC:=a0z (hstp.calls d2 wr HD2.out HOK2.out HF.out);have HOKG:=a0z hokg
   obtain⟨⟨d3,x⟩,hx⟩:∃r,gk2 d2=r:=⟨_,rfl⟩
   rw[hx] at HC hdrop HOKG;have HDR:=a0z hdrop;simp only at hen hcell;clear hstp hdrop hfk hgk hokg hx;go_wp2_with (fail);(with_reducible refine HC.out.mono ?_);rintro e w2 ⟨rfl,hd3,hf3⟩;have HD3:=a0z hd3;have HF3:=a0z (HF.out.trans hf3 (by intro i hi;exact Or.inl hi));clear hd3 hf3
   by_cases h0:x=0
   ·subst h0
    have HE:Hid (Gk gs d=Gk (gs.drop (k+1)) d3):=by
     have:=HDR.out;rw[if_pos rfl] at this;exact HP.out.trans this
    go_wp2_with (fail)
    go_roundg (gk-1)
    case measure=>omega
    case rel=>exact⟨k+1,d3,by omega,by go_num,HE.out,HD3.out,HOKG.out,HF3.out⟩
   ·have HE:Hid (Gk gs d=(d3,x)):=by
     have:=HDR.out;rw[if_neg h0] at this;exact HP.out.trans this
    have hb:((x:Int)!=0)=true:=by simpa using h0
    clear h0;go_wp2_with (fail);go_ret;rw[HE.out];exact⟨rfl,HD3.out,HF3.out⟩
  ·have zk:¬(k:Int)<(fs.length:Int):=by omega
   have HE:Hid (Gk gs d=(d2,0)):=by
    refine HP.out.trans ?_;rw[List.drop_of_length_le (by rw[←HST.out.len];omega)];rfl
   go_wp2_with (fail);go_ret;rw[HE.out];exact⟨rfl,HD2.out,HF.out⟩
def E0(b:Nat)(lg:Lg):Array Value:=#[.pointer (some ⟨b,0,none⟩),.string lg.name,.int .i64 lg.many,.bool lg.off]
def B3(w:World)(L b:Nat)(lg:Lg):Prop:=w.heap[L]?=some (.cells (E0 b lg) 185 (0,0))
theorem B3.fp{w w':World}{S:List Nat}{L b:Nat}{lg:Lg}(h:B3 w L b lg)(hf:Fp S w w')(hS:L∉S):B3 w' L b lg:=(hf.block L (Ab h) hS).trans h
theorem B3.ne{w:World}{L b bm:Nat}{lg:Lg}{d:Dk}(h:B3 w L b lg)(hd:Ah w b bm d):L∉[b,bm]:=by
 intro hm;simp only[a3w,a2v,or_false] at hm
 rcases hm with rfl|rfl
 ·have:=hd.cells;rw[h] at this;cases this
 ·obtain⟨es,clock,h1,_⟩:=hd.files;rw[h] at h1;cases h1
theorem E6{w:World}{q b bm:Nat}{d:Dk}{c:Array Value}{T:TypeId}{fr:Nat × Nat}(h:w.heap[q]?=some (.cells c T fr))(hT:T≠118)(hd:Ah w b bm d):q∉[b,bm]:=by
 intro hm;simp only[a3w,a2v,or_false] at hm
 rcases hm with rfl|rfl
 ·have:=hd.cells;rw[h] at this;cases this;exact hT rfl
 ·obtain⟨es,clock,h1,_⟩:=hd.files;rw[h] at h1;cases h1
structure Gx(b bm:Nat)(w0:World)(d d2:Dk)(done:Bool)(w:World):Prop where
 disk:Ah w b bm (if done then d2 else d)
 fp:Fp [b,bm] w0 w
theorem Gx.first{b bm:Nat}{w0:World}{d d2:Dk}{done:Bool}{w:World}(h:Gx b bm w0 d d2 done w)(hb:done=false):Ah w b bm d:=by
 have:=h.disk;rw[hb] at this;exact this
theorem Gx.start{b bm:Nat}{w0:World}{d d2:Dk}(h:Ah w0 b bm d):Gx b bm w0 d d2 false w0.drew:=⟨h.of_fp (Fp.drew w0) (by simp) (by simp),(Fp.drew w0).mono (by simp)⟩
theorem nO(w:World)(b bm L ql qo:Nat)(lg:Lg)(d:Dk)(other:ByteArray)(hd:Ah w b bm d)(hok:Ap d)(hname:other.size≤maxLen)
  (hl:B3 w L b lg)(h1:w.heap[ql]?=some (.cells #[.pointer (some ⟨L,0,none⟩)] 119 (0,0)))(h2:w.heap[qo]?=some (.cells #[.string other] 9 (0,0))):
  Calls Tryz.prog 177 #[.pointer (some ⟨ql,0,none⟩),.pointer (some ⟨qo,0,none⟩)] w fun e w'=>e=.returned (.int .i64 (if d.thereE other=3 then 0 else d.thereE other))∧Ah w' b bm (d.delete other)∧Fp [b,bm] w w':=by
 have n1:=hl.ne hd;have n2:=E6 h1 (by decide) hd;have n3:=E6 h2 (by decide) hd;have HD:=a0z hd;have HL:=a0z hl;have H1:=a0z h1;have H2:=a0z h2;have HC:=a0z (fun W (h:Ah W b bm d)=>xB W b bm d other h hok hname);clear hd hl h1 h2
 obtain⟨x,hx⟩:∃x,d.thereE other=x:=⟨_,rfl⟩
 obtain⟨d2,hd2⟩:∃x,d.delete other=x:=⟨_,rfl⟩
 rw[hx,hd2] at HC ⊢;clear hx hd2;go_enter Tryz.func177,Tryz.ntmps177;go_wp2_with (fail);refine Gj (fun bb w'=>Gx b bm w d d2 (bb 5) w') (fun _ _=>True) (by kernel_rfl) (by kernel_rfl) (Gx.start HD.out) ?_
 iterate 5
  apply Bm (fun _ _ h=>h) rfl rfl rfl
  ·intro b a w hC hA K hK
   try have h0:=hA.fr 0 rfl
   try have h4:=hA.eq 0 4 rfl
   try have h5:=hA.eq 1 5 rfl
   try have h6:=hA.eq 2 6 rfl
   try have h1:=hA.fr 1 rfl
   have q0:=Aa ((hC.fp.block _ (Ab H1.out) n2).trans H1.out) 0;have q1:=Aa ((hC.fp.block _ (Ab H2.out) n3).trans H2.out) 0;have q2:=Aa (HL.out.fp hC.fp n1) 0;simp only[E0,a0w,a0x] at q0 q1 q2;simp only[Oper.wp,execOp];go_simp;exact hK _ hC trivial
 apply Hk (Br (.int .i64 x)) rfl rfl rfl
 ·intro b a w hC hA K hK;have h7:=hA.eq 3 7 rfl;have h8:=hA.eq 4 8 rfl;simp only[Oper.wp,execOp];go_simp;(with_reducible refine(HC.out _ (hC.first hA.self)).mono ?_);rintro e w2 ⟨rfl,hd2,hf2⟩;exact hK _ _ ⟨hd2,hC.fp.trans hf2 (by intro i hi;exact Or.inl hi)⟩ trivial rfl
 apply Bm (fun _ _ h=>h) rfl rfl rfl
 ·intro b a w hC hA K hK;have h9:=hA.eq 5 9 rfl;simp only[Oper.wp,execOp];go_simp;exact hK _ hC trivial
 refine⟨?_,?_⟩
 ·refine B6 _ ?_;refine⟨fun _ _ _ _ h=>h,?_⟩
  iterate 5 refine B6 _ ?_
  exact trivial
 ·intro w' bb hC hbb;simp only[a1u,a2x,a2u,a2w]
  iterate 5 (refine Aq ?_)
  refine Av ?_;intro v5 u5;obtain rfl:=u5
  iterate 1 (refine Aq ?_)
  refine A8 ?_;simp only[Am,Act.put,a1z,a1w,a1v];have hb5:bb 5=true:=hbb 5 (by decide);have hCd:=hC.disk;rw[hb5] at hCd;have HDD:Hid (Ah w' b bm d2):=a0z hCd;have HFF:=a0z hC.fp;clear hC hbb hCd
  by_cases h3:x=3
  ·subst h3;go_wp2_with (fail);go_ret;exact⟨rfl,HDD.out,HFF.out⟩
  ·have hb:((x:Int)!=3)=true:=by simpa using h3
   go_wp2_with (fail);go_ret;exact⟨rfl,HDD.out,HFF.out⟩
end
end Go.Proofs.YtkagolpnaicdoaaGreatDoor
