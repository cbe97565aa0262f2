/-
 runs.Make, walked. merge: runs as they lie; sorted, of runs that are in order.
-/
import Derived.Test.YtkagolpnaicdoaaGreatDoorMRunD
import Derived.Test.YtkagolpnaicdoaaGreatDoorMMrgD
set_option maxRecDepth 100000
set_option maxHeartbeats 8000000
open Go.Lib renaming hid→a0z
open Nat renaming lt_of_lt_of_le→a0x
open List renaming getElem?_eq_getElem→a0w
namespace Go.Proofs.YtkagolpnaicdoaaGreatDoor
section
open Go.RowKit Go.Lib
theorem E3.mono{W:World}{base base':Nat}{v:Value}{rs:List (List Ad)}(h:E3 W base v rs)(hb:base'≤base):E3 W base' v rs:=by
 obtain⟨vals,h1,h2⟩:=h;exact⟨vals,h1.mono hb,Ks (fun _ _ h=>Ag.mono h hb) h2⟩
theorem X0(sz len i:Nat):∀x∈C3 sz len i,x.1+x.2≤len∧x.2≤sz∧0<x.2:=by
 intro x hx;rw[C3] at hx;split at hx
 ·rename_i h
  rcases List.mem_cons.1 hx with rfl|hx
  ·simp only;omega
  ·exact X0 sz len (i+sz) x hx
 ·cases hx
 termination_by len-i
def Ju(l:List Ad)(x:Nat × Nat):List Ad:=(l.drop x.1).take x.2
theorem Bz.keptT{α:Type}{R:G3 α}{T:TypeId}{base:Nat}{S:List Nat}{W W':World}{b o n:Nat}{l:List α}(h:Bz R W (some ⟨b,o,none⟩) n l)(hk:An T base S W W')(hb:b<base)(hS:b∉S):Bz R W' (some ⟨b,o,none⟩) n l:=by
 refine⟨h.len,?_⟩
 rcases h.cells with h0|⟨b',o',e,hb',hc⟩
 ·exact Or.inl h0
 ·cases e;exact Or.inr ⟨b,o,rfl,a0x hb' hk.size,fun i hi j u hu=>(World.cell?_of_block (w:=W) (hk.low b hb hb' hS)).trans (hc i hi j u hu)⟩
theorem Bz.fpS{α:Type}{R:G3 α}{S:List Nat}{W W':World}{b o n:Nat}{l:List α}(h:Bz R W (some ⟨b,o,none⟩) n l)(hf:Fp S W W')(hS:b∉S):Bz R W' (some ⟨b,o,none⟩) n l:=by
 refine⟨h.len,?_⟩
 rcases h.cells with h0|⟨b',o',e,hb',hc⟩
 ·exact Or.inl h0
 ·cases e;exact Or.inr ⟨b,o,rfl,a0x hb' hf.size,fun i hi=>(hc i hi).fp hf hb' hS⟩
theorem U0(l:List Ac)(k i:Nat)(hi:i<(Jw l k).length):(Jw l k)[i]=⟨l.getD i Bo,i⟩:=by
 unfold Jw;simp
theorem U1{l:List Ac}(h:∀c∈l,Dm c)(hn:l.length≤1000000):B8 (Dp l):=by
 intro x hx;obtain⟨i,hi,e⟩:=List.mem_iff_getElem.1 hx;have hl:(Dp l).length=l.length:=Oj l _;rw[←e,show(Dp l)[i]=⟨l.getD i Bo,i⟩ from U0 l l.length i hi];refine⟨?_,by show i<_;omega⟩;show Dm (l.getD i Bo);rw[List.getD_eq_getElem?_getD,a0w (by omega)];exact h _ (List.getElem_mem _)
theorem tZ(l:List Ac):(Dp l).map (·.pos)=List.range l.length:=by
 unfold Dp Jw;rw[List.map_map];exact List.map_id' _
theorem eU{l:List Ad}(h:B8 l)(x:Nat × Nat):B8 (Ju l x):=fun y hy=>h y (List.mem_of_mem_drop (List.mem_of_mem_take hy))
theorem uA{l:List Ad}(h:(l.map (·.pos)).Nodup)(x:Nat × Nat):((Ju l x).map (·.pos)).Nodup:=by
 unfold Ju;rw[List.map_take,List.map_drop];exact List.Sublist.nodup ((List.take_sublist _ _).trans (List.drop_sublist _ _)) h
structure U2(w:World)(base b o n lim:Nat)(l:List Ad)(pre:List (Nat × Nat))(W:World):Prop where
 ex:∃v rs,W.heap[w.heap.size]?=some (.cells #[v] 159 (0,0))∧E3 W base v rs∧C9 (fun x r=>B7 (Ju l x) r) pre rs
 fp:Fp [] w W
 q:Bz Bq W (some ⟨b,o,none⟩) n l
 bl:w.heap.size<b∧b<lim
theorem U2.on{w A B:World}{base b o n lim:Nat}{l:List Ad}{pre:List (Nat × Nat)}{S:List Nat}(h:U2 w base b o n lim l pre A)(hf:Fp S A B)(hS:∀k∈S,lim≤k∧k<base):U2 w base b o n lim l pre B:=by
 obtain⟨v,rs,hv,ho,ha⟩:=h.ex;have hb:=h.bl;refine⟨⟨v,rs,(hf.block _ (Ab hv) fun hm=>by have:=hS _ hm;omega).trans hv,ho.fp hf fun k hk=>(hS k hk).2,ha⟩,h.fp.trans hf fun k hk=>Or.inr (by have:=hS k hk;omega),h.q.fpS hf (fun hm=>by have:=hS _ hm;omega),h.bl⟩
def eV(a:Option Addr)(b o n cap cap1 m c1 c2:Nat)(x:Nat × Nat):Act:={tmps:=#[.slice a n cap,.int .i64 m,undef,undef,.pointer (some ⟨c1,0,none⟩),.int .i64 0,Ru b o x,.int .i64 m,.bool false,.slice a n cap,.slice (some ⟨b,o,none⟩) n cap1,.int .i64 m,.func (.func 215) #[] #[.pointer (some ⟨c2,0,none⟩),.pointer (some ⟨c2+1,0,none⟩)],Ru b o x,undef,undef,undef,undef,undef,undef],defers:=[]}
attribute [local go_sem] Oper.semAt_some
theorem eW(w:World)(a:Option Addr)(n cap m:Nat)(l:List Ac)(hl:Bn w a n l)(hn:n<20)(hm0:0<m)(hm:m<2^63)(h0:0<n):
  Calls Tryz.prog 85 #[.slice a n cap,.int .i64 m] w fun e w'=>∃v rs,e=.returned (.tuple #[v,.int .i64 0])∧E3 w' w.heap.size v rs∧C9 (fun x r=>B7 (Ju (Dp l) x) r) (C3 m n 0) rs∧Fp [] w w':=by
 have HFN:=a0z (fun w v a len cap (hv:v=.slice a len cap)=>tY w m hm0 v a len cap hv);have HIT:=a0z (fun w (hl:Bn w a n l)=>uK w a n cap l hl (by omega));have HIO:=a0z (U1 hl.ok (by have:=hl.len;omega))
 have HIP:Hid (((Dp l).map (·.pos)).Nodup):=by rw[tZ];exact List.nodup_range
 have HL:=a0z hl;clear hl
 have z1:¬(m:Int)<1:=by omega
 rw[←callsIn_wide (n:=5)];refine callsIn_of_wp_marks Tryz.func85 rfl trivial ?_ rfl;simp only[Tryz.ntmps85,List.size_toArray,List.length_cons,List.length_nil,Nat.reduceAdd,Nat.reduceSub,Array.replicate_succ,Array.replicate_zero,List.push_toArray,List.append_toArray,List.nil_append,List.cons_append]
 gi_wp2_with (fail)
 refine⟨trivial,?_⟩;(with_reducible refine((callsIn_wide (n:=4)).2 (HIT.out _ (HL.out.fp (Fp.alloc _ _)))).mono ?_);rintro e w1 ⟨v1,rfl,ho1,hf1⟩;obtain⟨a1,cap1,rfl,_,hlc,hq1⟩:=ho1.at;have hil:(Dp l).length=n:=(Oj l _).trans HL.out.len.symm
 obtain⟨b,o,rfl,hb1,hb0⟩:∃b o,a1=some ⟨b,o,none⟩∧b<w1.heap.size∧w.heap.size<b:=by
  rcases hq1.cells with h|⟨b,o,h1,h2,_⟩
  ·rw[h] at hil;simp at hil;omega
  ·exact⟨b,o,h1,h2,by have:=ho1.lt b (by rw[h1];rfl);simp at this;omega⟩
 rw[hil] at hlc hq1 ⊢;have HL0:=a0z ((hf1.block _ (by simp) (by simp)).trans (Aj rfl _):w1.heap[w.heap.size]?=some (.cells #[.slice none 0 0] 159 (0,0)));have HQ1:=a0z hq1;have HF1:Hid (Fp [] w w1):=(Fp.alloc _ _).trans hf1 (by simp);have HIL:=a0z hil;have HLC:=a0z hlc;clear hq1 hf1 hil hlc ho1
 gi_wp2_with (fail)
 refine⟨trivial,?_⟩;(with_reducible refine((callsIn_wide (n:=4)).2 (HFN.out _ _ _ _ _ rfl)).mono ?_);rintro e w2 ⟨rfl,hbs,hbn,hf2⟩;have HBS:=a0z hbs;have HBN:=a0z hbn;have HF2:=a0z hf2;clear hbs hbn hf2
 gi_wp2_with (fail)
 have hz1:w.heap.size<w1.heap.size:=Ab HL0.out;have hz2:w1.heap.size+1<w2.heap.size:=Ab HBN.out
 refine Rq (α:=Nat × Nat) (encs:=Uy b o) rfl (enters_of Tryz.func215 (by kernel_rfl) rfl) (fun _=>rfl) 221 [w.heap.size] [] (by simp;omega) (by simp) (w1.heap.size) (by omega) 0
  (fun pre x=>∃post,C3 m n 0=pre++x::post) (U2 w (w2.heap.size+2) b o n w1.heap.size (Dp l)) (fun _ _=>False) (fun xs _=>xs=C3 m n 0)
  (fun _=>True) (fun s A B k h hf hk=>h.on hf (by simp;omega)) (fun s A B h hf _=>h.on hf (by simp;omega)) (fun _ _ _ h _=>h) (fun _ _ _ h _=>h) ?_ ?_ (fun x a' _=>a'=eV a b o n cap cap1 m w.heap.size w1.heap.size x) (fun _ _ _ _ h _=>h) ?_ ?_ ?_ (fun _ _ h=>h.elim)
 ·intro J Jx W1 hf1 hsz1 hJ hY hJ0;exact tX (w2.heap.size+2) (w2.heap.size+1) (5-1) w1.heap.size (w1.heap.size+1) m hm0 hm W1 b o n cap1 (by decide) ((hf1.block _ (by omega) (by simp)).trans HBS.out) ((hf1.block _ (by omega) (by simp)).trans HBN.out) HLC.out (by omega) (by omega) (by omega) (by omega) (by omega) [w.heap.size] (by intro k hk;simp only[List.mem_cons,List.not_mem_nil,or_false] at hk;omega) J Jx (fun s A B h hf=>hJ s A B h (hf.mono (by simp)) trivial) hY hJ0
 ·exact⟨⟨.slice none 0 0,[],(HF2.out.block _ hz1 (by simp)).trans HL0.out,E3.nil _ _,.nil⟩,HF1.out.trans HF2.out (by simp),HQ1.out.fp HF2.out,hb0,hb1⟩
 ·intro l x W K hW hK;simp only[Uy]
  gi_wp2_with (fail)
  exact hK _ _ (Fp.refl _ _) rfl
 ·rintro l' pre ⟨xi,xm⟩ a' W ⟨post,hpost⟩ hI hW rfl;have hx:=X0 m n 0 (xi,xm) (by rw[hpost];simp);obtain⟨hx1,hx2,hx3⟩:=hx;simp only at hx1 hx2 hx3;obtain⟨v,rs,hv,ho,ha⟩:=hI.ex;have hrl:rs.length=pre.length:=ha.length_eq.symm
  have hpl:pre.length+1≤1000000000:=by
   have h1:=Ux m n 0;rw[hpost,List.length_append,List.length_cons] at h1;omega
  have hqp:Bz Bq W (some ⟨b,o+xi*7,none⟩) xm (Ju (Dp l) (xi,xm)):=(hI.q.drop xi (n-xi) (by omega)).take xm (by omega);have hcl:(Ju (Dp l) (xi,xm)).length=xm:=hqp.len.symm;have HRE:=a0z (fun w2' (h:An 221 (w2.heap.size+2) [w.heap.size] W w2')=>qD w2' _ _ xm _ (hqp.keptT h (by omega) (by simp;omega)) (by simp) (eU HIO.out _) (uA HIP.out _) (by omega) (by omega));have HI:=a0z hI;have HV:=a0z hv;have HO:=a0z ho;have HA:=a0z ha;have hW:w2.heap.size+2≤W.heap.size:=hW;clear hI hv ho ha hqp hpost;unfold eV Ru;simp only
  gi_wp2_with (fail)
  refine Rt (Et (fun r=>B7 (Ju (Dp l) (xi,xm)) r) w W (w2.heap.size+2) w.heap.size v rs) (fun _ _=>True) (by kernel_rfl) (by kernel_rfl) (by kernel_rfl) (fun _=>Et.start HO.out HV.out HI.out.fp hW (by omega)) ?_;apply Cc (fun _ _ _ h _=>h.plain (by decide)) rfl rfl rfl
  ·intro b a w hC hA K hK;have h4:=hA.fr 4 rfl;have q0:=Aa (hC.first (hA.post 4 (by kernel_rfl))) 0;simp only[List.getElem?_toArray,List.getElem?_cons_zero] at q0;simp only[Oper.wp,execOp];go_simp;exact hK _ hC trivial
  apply Cc (fun _ _ _ h _=>h.plain (by decide)) rfl rfl rfl
  ·intro b a w hC hA K hK;have h6:=hA.fr 6 rfl;simp only[Oper.wp,execOp];go_simp;exact hK _ hC trivial
  apply Dv (fun _ _=>True) rfl rfl rfl
  ·intro b a w hC hA K hK;have h15:=hA.eq 1 15 rfl;simp only[Oper.wp,execOp];go_simp;(with_reducible refine(HRE.out _ hC.kept).mono ?_);rintro e w3 ⟨vr,r,rfl,hr,ho3,hf3⟩;exact hK _ _ (hC.call hA.self hf3 hr ho3) trivial trivial
  apply Dv (fun _ _=>True) rfl rfl rfl
  ·intro b a w hC hA K hK;have h16:=hA.dep 2 16 _ (by kernel_rfl) rfl;obtain⟨r,hg,hr⟩:=hC.res (hA.pre 2 (by kernel_rfl)) (hA.post 4 (by kernel_rfl));obtain⟨a2,c2,e2,-,-⟩:=hr.len;have hv:=hA.val 2 16 (by kernel_rfl);rw[e2] at hv;have hst:=hC.build (hA.pre 2 (by kernel_rfl)) hA.self;rw[e2] at hst;simp only[Oper.wp,execOp];go_simp;exact hK _ _ hst trivial trivial
  apply Dv (fun _ _=>True) rfl rfl rfl
  ·intro b a w hC hA K hK;have h14:=hA.eq 0 14 rfl;have h17:=hA.dep 3 17 _ (by kernel_rfl) rfl;obtain⟨g,hg1,hg2⟩:=hC.bld (hA.pre 3 (by kernel_rfl)) hA.self;obtain⟨r,hg,hr⟩:=hC.res (hC.o32 (hA.pre 3 (by kernel_rfl))) hA.self;obtain⟨a2,c2,e2,-,-⟩:=hr.len;refine eT (.tmp 14) (.tmp 17) rfl _ v rs (F5 h14) (hC.own0 hA.self) g _ r (by rw[e2];rfl) hr (F5 ((hA.val 3 17 (by kernel_rfl)).trans hg1)) hg2 (by omega) hC.sz ?_;intro v' w' h1 h2 h3;exact hK _ _ (hC.append (hA.pre 3 (by kernel_rfl)) hA.self hg h1 h2 h3 (by omega) (by omega)) trivial trivial
  apply I8 (fun _=>True) rfl rfl rfl
  ·intro b a w hC hA K hK;have h4:=hA.fr 4 rfl;have h18:=hA.dep 4 18 _ (by kernel_rfl) rfl;obtain⟨a2,n2,c2,e2⟩:=hC.slice (hA.pre 4 (by kernel_rfl));have hv:=(hA.val 4 18 (by kernel_rfl)).trans e2;have hst:=hC.store (hA.pre 4 (by kernel_rfl)) (by omega) (Nat.le_refl _);rw[e2] at hst;have f0:=Aw hC.cel 0;have q0:=Aa hC.cel 0;simp only[Oper.wp,execOp];go_simp;exact hK undef _ hst trivial trivial
  refine⟨?_,?_⟩
  ·refine⟨fun _ _ _ _ _=>trivial,?_⟩;refine⟨fun _ _ _ _ _=>trivial,?_⟩;refine⟨fun _ _ _ _ _=>trivial,?_⟩;refine⟨fun _ _ _ _ _=>trivial,?_⟩;refine E2 _ ?_;refine E2 _ ?_;exact trivial
  ·intro w' bb hbb;simp only[List.reverse_cons,List.reverse_nil,List.nil_append,List.cons_append]
   iterate 2 (refine Aq ?_)
   refine Av ?_;intro v2 u2;refine Av ?_;intro v3 u3;refine Av ?_;intro v4 u4;refine Av ?_;intro v5 u5;refine A8 ?_;intro hC;simp only[Am,Act.put,List.setIfInBounds_toArray,List.set_cons_succ,List.set_cons_zero]
   gi_wp2_with (fail)
   have hcel:=hC.cel;rw[hbb 5 (by simp)] at hcel;obtain⟨r,hr,ho5⟩:=hC.own1 (hbb 4 (by simp));exact⟨hC.kept,⟨⟨_,_,hcel,ho5,Rw HA.out hr⟩,hC.fp,HI.out.q.keptT hC.kept (by omega) (by simp;omega),HI.out.bl⟩⟩
 ·rintro xs W rfl hI hK;obtain⟨v,rs,hv,ho,ha⟩:=hI.ex;obtain⟨va,vn,vc,rfl⟩:=ho.slice;have HI:=a0z hI;have HK:=a0z hK;have HA:=a0z ha;have q0:W.cell? ⟨w.heap.size,0,none⟩=some (.slice va vn vc):=Aa hv 0;have f0:W.frozen? ⟨w.heap.size,0,none⟩=false:=Aw hv 0;have HV:=a0z hv;have HO:=a0z ho;clear hI hK hv ho ha
  gi_wp2_with (fail)
  have hf5:Fp [w.heap.size] W (W.setCell ⟨w.heap.size,0,none⟩ (.slice va vn vc)):=Fp.setCell W ⟨w.heap.size,0,none⟩ (.slice va vn vc);have h4:(W.setCell ⟨w.heap.size,0,none⟩ (.slice va vn vc)).heap[w.heap.size]?=some (.cells #[.slice va vn vc] 159 (0,0)):=(Bt HV.out _).trans rfl
  obtain⟨wa,hwa⟩:∃wa,W.setCell ⟨w.heap.size,0,none⟩ (.slice va vn vc)=wa:=⟨_,rfl⟩
  rw[hwa] at hf5 h4 ⊢;have hk2:wa.heap[w2.heap.size]?=some (.deferred (some [])):=(hf5.block _ (Ab HK.out) (by simp;omega)).trans HK.out;have hp:=Fp.putObj wa w2.heap.size (.deferred none);refine⟨by simp,.inl ⟨_,_,rfl,run_takeDeferred hk2,?_⟩⟩;have c0:(wa.putObj w2.heap.size (.deferred none)).cell? ⟨w.heap.size,0,none⟩=some (.slice va vn vc):=Aa ((hp.block _ (Ab h4) (by simp;omega)).trans h4) 0;have hoo:=(HO.out.fp hf5 (by simp;omega)).fp hp (by simp);refine⟨.tuple #[.slice va vn vc,.int .i64 0],by simp[results,Tryz.results85,go_sem,c0],.slice va vn vc,rs,rfl,?_,HA.out,((HI.out.fp.trans hf5 (by intro i hi;right;simp at hi;omega)).trans hp (by intro i hi;right;simp at hi;omega))⟩;exact hoo.mono (by omega)
end
section
open Go.RowKit Go.Lib
def Oi(W:World)(v:Value)(r:List Ad):Prop:=∃a n cap,v=.slice a n cap∧n≤cap∧(a=none→cap=0)∧Bz Bq W a n r
theorem Oi.fp{W W':World}{v:Value}{r:List Ad}(h:Oi W v r)(hf:Fp [] W W'):Oi W' v r:=by
 obtain⟨a,n,cap,h1,h2,h3,h4⟩:=h;exact⟨a,n,cap,h1,h2,h3,h4.fp hf⟩
theorem Ag.runV{W:World}{base:Nat}{v:Value}{r:List Ad}(h:Ag Bq W base v r):Oi W v r:=by
 obtain⟨a,cap,h1,h2,h3,h4⟩:=h.at;exact⟨a,_,cap,h1,h3,h2,h4⟩
structure Gt(W:World)(a:Option Addr)(n:Nat)(rs:List (List Ad)):Prop where
 len:n=rs.length
 cells:rs=[]∨∃b o,a=some ⟨b,o,none⟩∧b<W.heap.size∧∀i (h:i<rs.length),∃v,W.cell? ⟨b,o+i,none⟩=some v∧Oi W v rs[i]
theorem Gt.fp{W W':World}{a:Option Addr}{n:Nat}{rs:List (List Ad)}(h:Gt W a n rs)(hf:Fp [] W W'):Gt W' a n rs:=by
 refine⟨h.len,?_⟩
 rcases h.cells with h0|⟨b,o,e,hb,hc⟩
 ·exact Or.inl h0
 ·refine Or.inr ⟨b,o,e,a0x hb hf.size,fun i hi=>?_⟩;obtain⟨v,h1,h2⟩:=hc i hi;exact⟨v,(hf.cell (p:=⟨b,o+i,none⟩) hb (by simp)).trans h1,h2.fp hf⟩
theorem Gt.get{W:World}{a:Option Addr}{n i:Nat}{rs:List (List Ad)}(h:Gt W a n rs)(hi:i<rs.length):∃b o v,a=some ⟨b,o,none⟩∧(∀W',Fp [] W W'→W'.cell? ⟨b,o+i,none⟩=some v∧Oi W' v rs[i]):=by
 rcases h.cells with h0|⟨b,o,e,hb,hc⟩
 ·rw[h0] at hi;exact absurd hi (Nat.not_lt_zero _)
 ·obtain⟨v,h1,h2⟩:=hc i hi;exact⟨b,o,v,e,fun W' hf=>⟨(hf.cell (p:=⟨b,o+i,none⟩) hb (by simp)).trans h1,h2.fp hf⟩⟩
theorem Gt.take{W:World}{a:Option Addr}{n:Nat}{rs:List (List Ad)}(h:Gt W a n rs)(m:Nat)(hm:m≤n):Gt W a m (rs.take m):=by
 have hl:=h.len;refine⟨by rw[List.length_take];omega,?_⟩
 rcases h.cells with h0|⟨b,o,e,hb,hc⟩
 ·left;rw[h0];simp
 ·refine Or.inr ⟨b,o,e,hb,fun i hi=>?_⟩;rw[List.getElem_take];exact hc i (by rw[List.length_take] at hi;omega)
theorem Gt.drop{W:World}{b o n:Nat}{rs:List (List Ad)}(h:Gt W (some ⟨b,o,none⟩) n rs)(m r:Nat)(hm:m+r=n):Gt W (some ⟨b,o+m,none⟩) r (rs.drop m):=by
 have hl:=h.len;refine⟨by rw[List.length_drop];omega,?_⟩
 rcases h.cells with h0|⟨b',o',e,hb,hc⟩
 ·left;rw[h0];simp
 ·cases e;refine Or.inr ⟨b,o+m,rfl,hb,fun i hi=>?_⟩;rw[List.length_drop] at hi;obtain⟨v,h1,h2⟩:=hc (m+i) (by omega);refine⟨v,by rw[Nat.add_assoc];exact h1,?_⟩;rw[List.getElem_drop];exact h2
theorem C9.at{α β:Type}{P:α→β→Prop}{l:List α}{m:List β}(h:C9 P l m):∀i (h1:i<l.length) (h2:i<m.length),P l[i] m[i]:=by
 induction h with
 |nil=>intro i h1;exact absurd h1 (Nat.not_lt_zero _)
 |cons hp _ ih=>
  intro i h1 h2
  cases i with
  |zero=>exact hp
  |succ i=>exact ih i (by simpa using h1) (by simpa using h2)
theorem Bg.cell{e:TypeId}{W:World}{base:Nat}{v:Value}{vals:List Value}(h:Bg e W base v vals){i:Nat}(hi:i<vals.length):∃g cap,v=.slice (some ⟨g,0,none⟩) vals.length cap∧vals.length≤cap∧g<W.heap.size∧base≤g∧∀j (hj:j<vals.length),W.cell? ⟨g,j,none⟩=some vals[j]:=by
 rcases h.2 with⟨_,h1⟩|⟨g,cap,cur,hv,hg,hh,hc,_,_,ht⟩
 ·omega
 ·refine⟨g,cap,hv,hc,Ab hh,hg,fun j hj=>?_⟩
  have h2:(cur.toList.take (vals.length*1))[j]?=vals[j]?:=by rw[ht]
  rw[Nat.mul_one,List.getElem?_take,if_pos hj,Array.getElem?_toList,a0w hj] at h2;rw[Aa hh];exact h2
theorem E3.at{W:World}{base:Nat}{v:Value}{rs:List (List Ad)}(h:E3 W base v rs):∃a cap,v=.slice a rs.length cap∧rs.length≤cap∧(a=none→cap=0)∧Gt W a rs.length rs:=by
 obtain⟨vals,h1,h2⟩:=h;have hl:vals.length=rs.length:=h2.length_eq
 by_cases h0:0<vals.length
 ·obtain⟨g,cap,rfl,hc,hg,_,hcell⟩:=h1.cell h0;refine⟨some ⟨g,0,none⟩,cap,by rw[hl],by omega,(fun e=>by cases e),rfl,Or.inr ⟨g,0,rfl,hg,fun i hi=>⟨vals[i]'(by omega),?_,(h2.at i (by omega) hi).runV⟩⟩⟩;rw[Nat.zero_add];exact hcell i (by omega)
 ·obtain⟨⟨a,cap,e⟩,_⟩:=h1.at;have hr:rs=[]:=List.eq_nil_of_length_eq_zero (by omega)
  rcases h1.2 with⟨e2,_⟩|⟨g,cap2,cur,e2,_,_,hcc,_⟩
  ·subst hr;exact⟨none,0,e2,Nat.le_refl _,fun _=>rfl,rfl,Or.inl rfl⟩
  ·subst hr;exact⟨some ⟨g,0,none⟩,cap2,by rw[e2,hl],Nat.zero_le _,(fun e=>by cases e),rfl,Or.inl rfl⟩
theorem uB(W:World)(v:Value)(r:List Ad)(h:Oi W v r)(hr:Ds r∧B8 r∧r.length≤1000000):
  Calls Tryz.prog 267 #[v] W fun e W'=>e=.returned (.bool false)∧Fp [] W W':=by
 obtain⟨a,n,cap,rfl,h2,h3,h4⟩:=h;have HC:=a0z (tW W a n cap r h4 hr.1 hr.2.1 (by rw[h4.len];exact hr.2.2));clear h2 h3 h4 hr;go_enter Tryz.func267,Tryz.ntmps267;go_wp2_with (fail);(with_reducible refine HC.out.mono ?_);rintro e w1 ⟨rfl,hf⟩;have HF:=a0z hf;clear hf;go_wp2_with (fail);go_ret;exact⟨rfl,HF.out⟩
theorem uC(W:World)(a:Option Addr)(n cap:Nat)(rs:List (List Ad))(h:Gt W a n rs)(hr:∀r∈rs,Ds r∧B8 r∧r.length≤1000000)(hn:n≤1000000):
  Calls Tryz.prog 291 #[.slice a n cap,.func (.func 267) #[] #[]] W fun e W'=>e=.returned (.int .i64 (-1))∧Fp [] W W':=by
 have HR:=a0z h;have HO:=a0z hr;have HLN:=a0z h.len;clear h hr;go_enter Tryz.func291,Tryz.ntmps291;go_wp2_with (fail)
 go_loopg [8] n (fun gg vi wr=>∃k:Nat,vi=.int .i64 k∧gg+k=n∧Fp [] W wr)
 case atStart=>exact⟨0,rfl,by omega,Fp.refl _ _⟩
 case round=>
  obtain⟨k,rfl,hg,hf⟩:=hrel;have HF:=a0z hf;clear hf
  by_cases hk:k<n
  ·have zk:(k:Int)<(n:Int):=by omega
   have n1:IntKind.i64.wrap ((k:Int)+1)=((k+1:Nat):Int):=by rw[IntKind.wrap_i64];omega
   have hkl:k<rs.length:=by have:=HLN.out;omega
   obtain⟨b,o,v,e,hc⟩:=HR.out.get hkl;subst e;obtain⟨q,hv⟩:=hc wr HF.out;have HC:=a0z (uB wr v _ hv (HO.out _ (List.getElem_mem hkl)));clear hc hv;go_wp2_with (fail);(with_reducible refine HC.out.mono ?_);rintro e w1 ⟨rfl,hf⟩;have HF2:=a0z (HF.out.trans hf (by simp));clear hf;go_wp2_with (fail)
   go_roundg (gk-1)
   case measure=>omega
   case rel=>exact⟨k+1,by simp,by omega,HF2.out⟩
  ·have zk:¬(k:Int)<(n:Int):=by omega
   go_wp2_with (fail);go_ret;exact⟨rfl,HF.out⟩
theorem eX(W:World)(a:Option Addr)(n cap:Nat)(rs:List (List Ad))(h:Gt W a n rs)(hr:∀r∈rs,Ds r∧B8 r∧r.length≤1000000)(hn:n≤1000000):
  Calls Tryz.prog 220 #[.slice a n cap] W fun e W'=>e=.returned (.bool true)∧Fp [] W W':=by
 have HI:=a0z (uC W a n cap rs h hr hn)
 have HC:Hid (Calls Tryz.prog 266 #[.slice a n cap,.func (.func 267) #[] #[]] W fun e W'=>e=.returned (.bool false)∧Fp [] W W'):=by
  go_enter Tryz.func266,Tryz.ntmps266;go_wp2_with (fail);(with_reducible refine HI.out.mono ?_);rintro e w1 ⟨rfl,hf⟩;have HF:=a0z hf;clear hf;go_wp2_with (fail);go_ret;exact⟨rfl,HF.out⟩
 clear h hr;go_enter Tryz.func220,Tryz.ntmps220;go_wp2_with (fail);(with_reducible refine HC.out.mono ?_);rintro e w1 ⟨rfl,hf⟩;have HF:=a0z hf;clear hf;go_wp2_with (fail);go_ret;exact⟨rfl,HF.out⟩
end
end Go.Proofs.YtkagolpnaicdoaaGreatDoor
