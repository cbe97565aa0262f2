/-
 wal: change; Append; Off. wal: Open. Frames by type: what may be turned are the blocks of some types, from a base on, and a few others.
-/
import Derived.Test.YtkagolpnaicdoaaGreatDoorMWalB
import Derived.Test.YtkagolpnaicdoaaGreatDoorMQOwn
set_option maxRecDepth 100000
set_option maxHeartbeats 8000000
open Go.Lib renaming hid→a0z
open List renaming not_mem_nil→a0x,getElem?_cons_zero→a0w,mem_cons→a0v,getElem?_toArray→a0u
open Nat renaming le_trans→a1z,lt_of_lt_of_le→a1x
namespace Go.Proofs.YtkagolpnaicdoaaGreatDoor
section
open Go.RowKit Go.Lib Go.Maps Go.MapKept Go.ChangeMaps
theorem zC{w:World}{b bm L ql qs:Nat}{lg:Lg}{d0:Dk}{s:ByteArray}(hd:Ah w b bm d0)(hto:lg.name.size≤maxLen)(hs:s.size≤1000000000)(hl:B3 w L b lg)
  (h1:w.heap[ql]?=some (.cells #[.pointer (some ⟨L,0,none⟩)] 119 (0,0)))(h3:w.heap[qs]?=some (.cells #[.string s] 9 (0,0))):
  Wm w b bm [(191,#[.pointer (some ⟨ql,0,none⟩),.pointer (some ⟨qs,0,none⟩)]),(192,#[.pointer (some ⟨ql,0,none⟩)])] (Ox lg.name s):=by
 have n0:=hl.ne hd;have n1:=E6 h1 (by decide) hd;have n3:=E6 h3 (by decide) hd
 have f1:∀W,Fp [b,bm] w W→W.heap[ql]?=some (.cells #[.pointer (some ⟨L,0,none⟩)] 119 (0,0)):=fun W hf=>(hf.block _ (Ab h1) n1).trans h1
 have f3:∀W,Fp [b,bm] w W→W.heap[qs]?=some (.cells #[.string s] 9 (0,0)):=fun W hf=>(hf.block _ (Ab h3) n3).trans h3
 refine⟨rfl,fun i hi hi2=>?_,wU _ _⟩
 have hcase:i=0∨i=1:=by simp at hi;omega
 rcases hcase with rfl|rfl
 ·exact⟨fun w=>by kernel_rfl,fun d W hd hok hf=>yT W b bm L ql qs lg d s hd hok hto hs (hl.fp hf n0) (f1 W hf) (f3 W hf)⟩
 ·exact⟨fun w=>by kernel_rfl,fun d W hd hok hf=>yU W b bm L ql lg d hd hok hto (hl.fp hf n0) (f1 W hf)⟩
theorem zD(w:World)(b bm L ql:Nat)(lg:Lg)(d:Dk)(s:ByteArray)(hd:Ah w b bm d)(hok:Ap d)(hto:lg.name.size≤1000)(hs:s.size≤1000000000)(hl:B3 w L b lg)
  (h1:w.heap[ql]?=some (.cells #[.pointer (some ⟨L,0,none⟩)] 119 (0,0))):
  Calls Tryz.prog 190 #[.string s,.pointer (some ⟨ql,0,none⟩)] w fun e w'=>e=.returned (.int .i64 (d.wAppend lg.name s).2)∧Ah w' b bm (d.wAppend lg.name s).1∧Fp [b,bm] w w':=by
 obtain⟨W,hW⟩:∃W,W=((w.alloc (.cells #[.string s] 9)).alloc (.cells #[.func (.func 191) #[] #[.pointer (some ⟨ql,0,none⟩),.pointer (some ⟨w.heap.size,0,none⟩)],.func (.func 192) #[] #[.pointer (some ⟨ql,0,none⟩)]] 254)):=⟨_,rfl⟩
 have hfW:Fp [] w W:=by rw[hW];exact(Fp.alloc _ _).alloc' _
 have hb2:W.heap[w.heap.size]?=some (.cells #[.string s] 9 (0,0)):=by
  rw[hW,Below.heap_alloc _ _ _ (by simp<;>omega)];exact Aj (by simp) _
 have hdW:=hd.of_fp hfW (by simp) (by simp);have hst:=zC hdW (by unfold maxLen;omega) hs (hl.fp hfW (by simp)) ((hfW.block _ (Ab h1) (by simp)).trans h1) hb2
 have HC:Calls Tryz.prog 176 #[.slice (some ⟨w.heap.size+1,0,none⟩) 2 2] W fun e w'=>e=.returned (.int .i64 (d.wAppend lg.name s).2)∧Ah w' b bm (d.wAppend lg.name s).1∧Fp [b,bm] W w':=by
  have h:=bI W b bm (w.heap.size+1) d _ _ hdW hok (by rw[hW];exact Aj (by simp) _) (by simp) hst;rw[show Gk (Ox lg.name s) d=d.wAppend lg.name s from rfl] at h;exact h
 have HC:=a0z HC;have HF:=a0z hfW;rw[hW] at HC HF
 obtain⟨⟨d2,x⟩,hx⟩:∃r,d.wAppend lg.name s=r:=⟨_,rfl⟩
 rw[hx] at HC ⊢;clear hx hW hst hdW hb2 hfW hd hl h1;go_enter Tryz.func190,Tryz.ntmps190;go_wp2_with (fail);(with_reducible refine HC.out.mono ?_);rintro e w2 ⟨rfl,hd2,hf2⟩;have HD2:=a0z hd2;have HF2:=a0z ((HF.out.mono (S':=[b,bm]) (by simp)).trans hf2 (by intro i hi;exact Or.inl hi));clear hd2 hf2;go_wp2_with (fail);go_ret;exact⟨rfl,HD2.out,HF2.out⟩
theorem zE{lg:Lg}{d:Dk}{l:List ByteArray}{m:Nat}{g:ByteArray→Dk→Dk × Int}(h:lg.off=true):Jd lg d l m g=(lg,d,6):=by
 unfold Jd;rw[h];rfl
theorem zF{lg:Lg}{d:Dk}{l:List ByteArray}{m:Nat}{g:ByteArray→Dk→Dk × Int}{s:ByteArray}{x:Int}(h:lg.off=false)(hb:Il l=(s,x))(hx:x≠0):Jd lg d l m g=(lg,d,x):=by
 unfold Jd;rw[h,hb,if_neg (by decide),if_pos hx]
theorem zG{lg:Lg}{d d2:Dk}{l:List ByteArray}{m:Nat}{g:ByteArray→Dk→Dk × Int}{s:ByteArray}{x:Int}(h:lg.off=false)(hb:Il l=(s,0))(hg:g s d=(d2,x)):Jd lg d l m g=(if x=0 then{lg with many:=m} else if x=2 then lg else{lg with off:=true},d2,x):=by
 unfold Jd;rw[h,hb,if_neg (by decide),if_neg (by simp)];simp only[hg]
theorem B3.put{w:World}{L b:Nat}{lg:Lg}(h:B3 w L b lg):B3 (w.setCell ⟨L,3,none⟩ (.bool true)) L b {lg with off:=true}:=(Bt h _).trans rfl
theorem B3.putMany{w:World}{L b m:Nat}{lg:Lg}(h:B3 w L b lg):B3 (w.setCell ⟨L,2,none⟩ (.int .i64 m)) L b {lg with many:=m}:=(Bt h _).trans rfl
theorem zH(w:World)(b bm L:Nat)(lg:Lg)(d:Dk)(a:Option Addr)(n cap:Nat)(l:List ByteArray)(m F:Nat)(caps:Array Value)(g:ByteArray→Dk→Dk × Int)
  (hd:Ah w b bm d)(hl:B3 w L b lg)(hat:Fj w a n l)(ht:B0 w)(hsz:Bd l≤100000000)
  (hen:∀s w,(callFunc F (#[.string s]++caps)).run Tryz.prog w=.ok (.enter F (#[.string s]++caps)) w)
  (hdo:∀s W,(Bl l).length=s.size→Fp [] w W→Ah W b bm d→Calls Tryz.prog F (#[.string s]++caps) W fun e w'=>e=.returned (.int .i64 (g s d).2)∧Ah w' b bm (g s d).1∧Fp [b,bm] W w'):
  Calls Tryz.prog 189 #[.pointer (some ⟨L,0,none⟩),.slice a n cap,.int .i64 m,.func (.func F) #[] caps] w fun e w'=>e=.returned (.int .i64 (Jd lg d l m g).2.2)∧Ah w' b bm (Jd lg d l m g).2.1∧B3 w' L b (Jd lg d l m g).1∧Fp [b,bm,L] w w':=by
 have n0:=hl.ne hd;have hlt:=Ab hl;have c3:w.cell? ⟨L,3,none⟩=some (.bool lg.off):=Aa hl 3;have HBY:=a0z (zB w a n cap l hat ht hsz);have HD:=a0z hd;have HL:=a0z hl;have HDO:=a0z hdo;have HN0:=a0z n0;clear hd hl hat ht hsz hdo n0;cases ho:lg.off
 case true=>
  rw[ho] at c3;have HE:=a0z (zE (d:=d) (l:=l) (m:=m) (g:=g) ho);clear ho;go_enter Tryz.func189,Tryz.ntmps189;go_wp2_with (fail);go_ret;rw[HE.out];exact⟨rfl,HD.out,HL.out,Fp.refl _ _⟩
 case false=>
  rw[ho] at c3
  obtain⟨⟨s,x⟩,hx⟩:∃r,Il l=r:=⟨_,rfl⟩
  rw[hx] at HBY
  by_cases h0:x=0
  ·subst h0
   have hslen:(Bl l).length=s.size:=by
    unfold Il at hx;split at hx
    ·cases hx;rw[Ef]
    ·cases hx
   obtain⟨⟨d2,y⟩,hy⟩:∃r,g s d=r:=⟨_,rfl⟩
   have HGO:Hid (∀W,Fp [] w W→Calls Tryz.prog F (#[.string s]++caps) W fun e w'=>e=.returned (.int .i64 y)∧Ah w' b bm d2∧Fp [b,bm] W w'):=a0z (fun W hf=>by
    have h:=HDO.out s W hslen hf (HD.out.of_fp hf (by simp) (by simp));rw[hy] at h
    exact h)
   have HE:=a0z (zG (m:=m) ho hx hy);have hens:=hen s;clear ho hx hy hslen hen;go_enter Tryz.func189,Tryz.ntmps189;go_wp2_with (fail);(with_reducible refine HBY.out.mono ?_);rintro e w1 ⟨rfl,hf1⟩;have HF1:=a0z hf1;clear hf1;go_wp2_with (fail);(with_reducible refine(HGO.out _ HF1.out).mono ?_);rintro e w2 ⟨rfl,hd2,hf2⟩;have HD2:=a0z hd2;have HF2:Hid (Fp [b,bm] w w2):=a0z ((HF1.out.mono (by simp)).trans hf2 (by intro i hi;exact Or.inl hi));have HL2:=a0z (HL.out.fp HF2.out HN0.out);have hlt2:=Ab HL2.out;have e2:w2.cell? ⟨L,2,none⟩=some (.int .i64 lg.many):=Aa HL2.out 2;have e3:w2.cell? ⟨L,3,none⟩=some (.bool lg.off):=Aa HL2.out 3;have f2:w2.frozen? ⟨L,2,none⟩=false:=Aw HL2.out 2;have f3:w2.frozen? ⟨L,3,none⟩=false:=Aw HL2.out 3;have HNE:Hid (b≠L∧bm≠L):=a0z (by have:=HN0.out;simp only[a0v,a0x,or_false,not_or] at this;exact⟨Ne.symm this.1,Ne.symm this.2⟩)
   have HST:Hid (∀p u,p=L→Fp [b,bm,L] w (w2.setCell ⟨p,3,none⟩ u)∧Fp [b,bm,L] w (w2.setCell ⟨p,2,none⟩ u)):=a0z (fun p u hp=>by
    subst hp
    exact⟨(HF2.out.mono (S':=[b,bm,p]) (by intro i hi;simp only[a0v,a0x,or_false] at hi ⊢;omega)).setCell' (Or.inl (by simp)) u,(HF2.out.mono (S':=[b,bm,p]) (by intro i hi;simp only[a0v,a0x,or_false] at hi ⊢;omega)).setCell' (Or.inl (by simp)) u⟩)
   clear hd2 hf2
   by_cases y0:y=0
   ·subst y0;go_wp2_with (fail);go_ret;rw[HE.out];refine⟨rfl,HD2.out.of_fp (S:=[L]) (Fp.setCell _ ⟨L,2,none⟩ _) (by simpa using HNE.out.1) (by simpa using HNE.out.2),HL2.out.putMany,(HST.out L _ rfl).2⟩
   ·by_cases y2:y=2
    ·subst y2;go_wp2_with (fail);go_ret;rw[HE.out];exact⟨rfl,HD2.out,HL2.out,HF2.out.mono (by intro i hi;simp only[a0v,a0x,or_false] at hi ⊢;omega)⟩
    ·have b0:((y:Int)==0)=false:=by simpa using y0
     have b2:((y:Int)==2)=false:=by simpa using y2
     have HEY:Hid (Jd lg d l m g=({lg with off:=true},d2,y)):=by
      have:=HE.out;rw[if_neg y0,if_neg y2] at this;exact this
     clear y0 y2;go_wp2_with (fail);go_ret;rw[HEY.out];exact⟨rfl,HD2.out.of_fp (S:=[L]) (Fp.setCell _ ⟨L,3,none⟩ _) (by simpa using HNE.out.1) (by simpa using HNE.out.2),HL2.out.put,(HST.out L _ rfl).1⟩
  ·have hb:((x:Int)!=0)=true:=by simpa using h0
   have HE:=a0z (zF (d:=d) (m:=m) (g:=g) ho hx h0);clear ho hx h0 hen;go_enter Tryz.func189,Tryz.ntmps189;go_wp2_with (fail);(with_reducible refine HBY.out.mono ?_);rintro e w1 ⟨rfl,hf1⟩;have HF1:=a0z hf1;clear hf1;go_wp2_with (fail);go_ret;rw[HE.out];exact⟨rfl,HD.out.of_fp HF1.out (by simp) (by simp),HL.out.fp HF1.out (by simp),HF1.out.mono (by simp)⟩
structure Oz(S:List Nat)(w0:World)(Post:World→Prop)(done:Bool)(w:World):Prop where
 pre:done=false→Fp [] w0 w
 post:done=true→Post w
 fp:Fp S w0 w
theorem Oz.start{S:List Nat}{w0:World}{Post:World→Prop}:Oz S w0 Post false w0.drew:=⟨fun _=>Fp.drew w0,(fun h=>by cases h),(Fp.drew w0).mono (by simp)⟩
theorem Oz.did{S S':List Nat}{w0 w w2:World}{Post:World→Prop}(h:Fp [] w0 w)(hf:Fp S' w w2)(hS:∀i∈S',i∈S∨w0.heap.size≤i)(hp:Post w2):Oz S w0 Post true w2:=⟨(fun h=>by cases h),fun _=>hp,(h.mono (S':=S) (by simp)).trans hf hS⟩
theorem iH{a c:Bool}(h:a=true→c=true)(hc:c=false):a=false:=by cases a<;>cases c<;>simp_all
structure R3(S:List Nat)(w0:World)(Post:World→Prop)(b5 b8 done:Bool)(w:World):Prop where
 t:Oz S w0 Post done w
 o1:b8=true→b5=true
 o2:done=true→b8=true
theorem R3.early{S:List Nat}{w0:World}{Post:World→Prop}{b5 b8 done:Bool}{w:World}(h:R3 S w0 Post b5 b8 done w)(h5:b5=false):Fp [] w0 w:=h.t.pre (iH h.o2 (iH h.o1 h5))
theorem zI(w:World)(db bm L:Nat)(lg:Lg)(d:Dk)(a:Option Addr)(n cap:Nat)(l:List ByteArray)
  (hd:Ah w db bm d)(hok:Ap d)(hto:lg.name.size≤1000)(hl:B3 w L db lg)(hat:Fj w a n l)(ht:B0 w)(hsz:Bd l≤100000000)(hm:lg.many≤1000000000):
  Calls Tryz.prog 117 #[.pointer (some ⟨L,0,none⟩),.slice a n cap] w fun e w'=>e=.returned (.int .i64 (Gq lg d l).2.2)∧Ah w' db bm (Gq lg d l).2.1∧B3 w' L db (Gq lg d l).1∧Fp [db,bm,L] w w':=by
 have hll:=Yv l;have hln:=hat.len;have hfa:=Fp.alloc w (.cells #[.pointer (some ⟨L,0,none⟩)] 119)
 obtain⟨w0,hw0⟩:∃w0,w.alloc (.cells #[.pointer (some ⟨L,0,none⟩)] 119)=w0:=⟨_,rfl⟩
 have hbx:w0.heap[w.heap.size]?=some (.cells #[.pointer (some ⟨L,0,none⟩)] 119 (0,0)):=by rw[←hw0];exact Aj rfl _
 rw[hw0] at hfa;have hd0:=hd.of_fp hfa (by simp) (by simp);have hl0:=hl.fp hfa (by simp);have hat0:=hat.of_fp hfa;have ht0:=ht.fp hfa (by simp);have nq:=E6 hbx (by decide) hd0
 have nqL:w.heap.size≠L:=by have:=Ab hl;omega
 obtain⟨mn,hmn⟩:∃mn,lg.many+n=mn:=⟨_,rfl⟩
 have HC:Hid (∀W,Ah W db bm d→B3 W L db lg→Fp [db,bm,L] w0 W→Fj W a n l→B0 W→W.heap[w.heap.size]?=some (.cells #[.pointer (some ⟨L,0,none⟩)] 119 (0,0))→Calls Tryz.prog 189 #[.pointer (some ⟨L,0,none⟩),.slice a n cap,.int .i64 ((mn:Nat):Int),.func (.func 190) #[] #[.pointer (some ⟨w.heap.size,0,none⟩)]] W fun e w'=>e=.returned (.int .i64 (Gq lg d l).2.2)∧Ah w' db bm (Gq lg d l).2.1∧B3 w' L db (Gq lg d l).1∧Fp [db,bm,L] W w'):=a0z (fun W h1 h2 h3 h4 h5 h6=>by
  have h:=zH W db bm L lg d a n cap l (lg.many+n) 190 #[.pointer (some ⟨w.heap.size,0,none⟩)] (fun s d=>d.wAppend lg.name s) h1 h2 h4 h5 hsz (fun s w=>by kernel_rfl)
   (fun s W' hs hf hdW=>zD W' db bm L w.heap.size lg d s hdW hok hto (by rw[←hs,Ky];omega) (h2.fp hf (by simp)) ((hf.block _ (Ab h6) (by simp)).trans h6))
  have e1:Gq lg d l=Jd lg d l (lg.many+n) (fun s d=>d.wAppend lg.name s):=by unfold Gq;rw[hln]
  rw[e1,hmn];rw[hmn] at h
  exact h)
 obtain⟨⟨lg2,d2,x⟩,hx⟩:∃r,Gq lg d l=r:=⟨_,rfl⟩
 rw[hx] at HC ⊢;have HD0:=a0z hd0;have HL0:=a0z hl0;have HAT:=a0z hat0;have HT:=a0z ht0;have HBX:=a0z hbx;have HF0:=a0z hfa
 have nql:w.heap.size∉[db,bm,L]:=by
  intro hm;simp only[a0v,a0x,or_false] at hm nq
  rcases hm with h|h|h
  ·exact nq (Or.inl h)
  ·exact nq (Or.inr h)
  ·exact nqL h
 have hmf:∀(fn:Fn) (first cap:Array Value) (w:World),(Instr.makeFunc fn first cap).run Tryz.prog w=.ok (.func fn first cap) w:=fun _ _ _ _=>rfl
 have zn:IntKind.i64.wrap ((lg.many:Int)+(n:Int))=(mn:Int):=by rw[IntKind.wrap_i64];omega
 clear hx hd hl hat ht hd0 hl0 hat0 ht0 hbx hfa hln hll hok hto nq hmn;go_enter Tryz.func117,Tryz.ntmps117;go_wp2_with (fail);refine Gj (fun bb w'=>R3 [db,bm,L] w0 (fun W=>Ah W db bm d2∧B3 W L db lg2) (bb 5) (bb 8) (bb 10) w') (fun _ _=>True) (by kernel_rfl) (by kernel_rfl) ⟨Oz.start,(fun h=>by cases h),(fun h=>by cases h)⟩ ?_
 iterate 5
  apply Bm (fun _ _ h=>h) rfl rfl rfl
  ·intro b a w hC hA K hK
   try have h2:=hA.fr 2 rfl
   try have h1:=hA.fr 1 rfl
   try have h7:=hA.eq 2 7 rfl
   try have h8:=hA.eq 3 8 rfl
   have q0:=Aa ((hC.t.fp.block _ (Ab HBX.out) nql).trans HBX.out) 0;simp only[a0u,a0w] at q0;simp only[Oper.wp,execOp];go_simp;exact hK _ hC trivial
 apply Hk (Br (.int .i64 lg.many)) rfl rfl rfl
 ·intro b a w hC hA K hK;have h9:=hA.eq 4 9 rfl;have q0:=Aa ((hC.t.fp.block _ (Ab HBX.out) nql).trans HBX.out) 0;simp only[a0u,a0w] at q0;have hf0:=hC.early hA.self;have q1:=Aa (HL0.out.fp hf0 (by simp)) 2;simp only[E0,a0u,List.getElem?_cons_succ,a0w] at q1
  have hst:R3 [db,bm,L] w0 (fun W=>Ah W db bm d2∧B3 W L db lg2) true (b 8) (b 10) w:=⟨hC.t,(fun _=>rfl),hC.o2⟩
  simp only[Oper.wp,execOp];go_simp;exact hK _ _ hst trivial rfl
 iterate 2
  apply Bm (fun _ _ h=>h) rfl rfl rfl
  ·intro b a w hC hA K hK
   try have h1:=hA.fr 1 rfl
   try have h11:=hA.eq 6 11 rfl
   simp only[Oper.wp,execOp];go_simp;exact hK _ hC trivial
 apply Hk (Br (.int .i64 mn)) rfl rfl rfl
 ·intro b a w hC hA K hK;have h10:=hA.eq 5 10 rfl;have h12:=hA.eq 7 12 rfl;have h5:=hA.pre 5 (by kernel_rfl)
  have hst:R3 [db,bm,L] w0 (fun W=>Ah W db bm d2∧B3 W L db lg2) (b 5) true (b 10) w:=⟨hC.t,(fun _=>h5),(fun _=>rfl)⟩
  simp only[Oper.wp,execOp];go_simp;exact hK _ _ hst trivial rfl
 apply Bm (fun _ _ h=>h) rfl rfl rfl
 ·intro b a w hC hA K hK;have h2:=hA.fr 2 rfl;simp only[Oper.wp,execOp];go_simp;exact hK _ hC trivial
 apply Hk (Br (.int .i64 x)) rfl rfl rfl
 ·intro b a w hC hA K hK;have h5:=hA.eq 0 5 rfl;have h6:=hA.eq 1 6 rfl;have h13:=hA.eq 8 13 rfl;have h14:=hA.eq 9 14 rfl;have h8:=hA.pre 8 (by kernel_rfl);have hf0:=hC.t.pre hA.self;simp only[Oper.wp,execOp];go_simp;(with_reducible refine(HC.out _ (HD0.out.of_fp hf0 (by simp) (by simp)) (HL0.out.fp hf0 (by simp)) (hf0.mono (by simp)) (HAT.out.of_fp hf0) (HT.out.fp hf0 (by simp)) ((hf0.block _ (Ab HBX.out) (by simp)).trans HBX.out)).mono ?_);rintro e w2 ⟨rfl,hd2,hl2,hf2⟩;exact hK _ _ ⟨Oz.did hf0 hf2 (by intro i hi;exact Or.inl hi) ⟨hd2,hl2⟩,hC.o1,(fun _=>h8)⟩ trivial rfl
 apply Bm (fun _ _ h=>h) rfl rfl rfl
 ·intro b a w hC hA K hK;have h15:=hA.eq 10 15 rfl;simp only[Oper.wp,execOp];go_simp;exact hK _ hC trivial
 refine⟨?_,?_⟩
 ·refine B6 _ ?_;refine⟨fun _ _ _ _ h=>h,?_⟩;refine B6 _ ?_;refine⟨fun _ _ _ _ h=>h,?_⟩;refine B6 _ ?_;refine B6 _ ?_;refine⟨fun _ _ _ _ h=>h,?_⟩
  iterate 5 refine B6 _ ?_
  exact trivial
 ·intro w' bb hC hbb;simp only[List.reverse_cons,List.reverse_nil,List.nil_append,List.cons_append]
  iterate 5 (refine Aq ?_)
  refine Av ?_;intro v5 u5;obtain rfl:=u5
  iterate 2 (refine Aq ?_)
  refine Av ?_;intro v8 u8;obtain rfl:=u8
  iterate 1 (refine Aq ?_)
  refine Av ?_;intro v10 u10;obtain rfl:=u10
  iterate 1 (refine Aq ?_)
  refine A8 ?_;simp only[Am,Act.put,List.setIfInBounds_toArray,List.set_cons_succ,List.set_cons_zero];obtain⟨hd2,hl2⟩:=hC.t.post (hbb 10 (by decide));have HD2:=a0z hd2;have HL2:=a0z hl2;have HF2:Hid (Fp [db,bm,L] w w'):=a0z ((HF0.out.mono (S':=[db,bm,L]) (by simp)).trans hC.t.fp (by intro i hi;exact Or.inl hi));clear hC hbb hd2 hl2;go_wp2_with (fail);go_ret;exact⟨rfl,HD2.out,HL2.out,HF2.out⟩
theorem zJ(w:World)(L b:Nat)(lg:Lg)(hl:B3 w L b lg):Calls Tryz.prog 67 #[.pointer (some ⟨L,0,none⟩)] w fun e w'=>e=.returned (.bool lg.off)∧w'=w:=by
 have c3:w.cell? ⟨L,3,none⟩=some (.bool lg.off):=Aa hl 3;clear hl;go_enter Tryz.func67,Tryz.ntmps67;go_wp2;go_ret;exact⟨rfl,rfl⟩
end
section
open Go.RowKit Go.Lib Go.Maps Go.MapKept Go.ChangeMaps
theorem iI:∀(n at_:Nat) (s:ByteArray),∀x∈Jy n at_ s,x.1≤s.size
 |0,_,_,x,h=>by cases h
 |n+1,at_,s,x,h=>by
  obtain⟨⟨t,k,e⟩,ht⟩:∃x,Cd (s.extract at_ s.size)=x:=⟨_,rfl⟩
  by_cases he:e=0
  ·subst he;have hb:=X9 ht;rw[Qa ht] at h
   rcases List.mem_cons.1 h with rfl|h
   ·exact hb.2.1
   ·exact iI n _ s x h
  ·rw[Qb ht he] at h;cases h
theorem zK(s:ByteArray):Ff (D6 s)≤s.size:=by
 unfold Ff
 cases h:(D6 s).getLast? with
 |none=>exact Nat.zero_le _
 |some x=>exact iI _ _ s x (List.mem_of_getLast? h)
theorem iJ{d:Dk}{name:ByteArray}(h:name.size=0∨59<name.size):d.wOpen name=(d,1,[]):=if_pos h
theorem zL{d:Dk}{name s:ByteArray}{x:Int}(h:¬(name.size=0∨59<name.size))(hr:d.read name=(s,x))(h0:x≠0)(h3:x≠3):d.wOpen name=(d,x,[]):=by
 unfold Dk.wOpen;rw[if_neg h,hr,if_pos ⟨h0,h3⟩]
theorem zM{d d2:Dk}{name s:ByteArray}{x y:Int}(h:¬(name.size=0∨59<name.size))(hr:d.read name=(s,x))(hx:¬(x≠0∧x≠3))
  (hg:(if x=3∨Ff (D6 s)<s.size then d.wWrite name (s.extract 0 (Ff (D6 s))) else(d.sync name,d.thereE name))=(d2,y)):d.wOpen name=(d2,y,if y=0 then(D6 s).map (·.2) else[]):=by
 unfold Dk.wOpen;rw[if_neg h,hr,if_neg hx];simp only[hg]
def R4(w:World)(b bm:Nat)(name:ByteArray)(r:Dk × Int × List ByteArray)(e:Ending)(w':World):Prop:=
 Ah w' b bm r.1∧Fp [b,bm] w w'∧((r.2.1≠0∧e=.returned (.tuple #[.pointer none,.slice none 0 0,.int .i64 r.2.1]))∨
  (r.2.1=0∧∃L v,e=.returned (.tuple #[.pointer (some ⟨L,0,none⟩),v,.int .i64 0])∧w.heap.size≤L∧B3 w' L b ⟨name,r.2.2.length,false⟩∧Cf w' w.heap.size v r.2.2))
theorem zN(w:World)(b bm:Nat)(d:Dk)(name:ByteArray)(hd:Ah w b bm d)(hok:Ap d)(hname:name.size≤1000)(ht:B0 w)(hrs:(d.read name).1.size≤100000000):
  Calls Tryz.prog 61 #[.pointer (some ⟨b,0,none⟩),.string name] w fun e w'=>R4 w b bm name (d.wOpen name) e w':=by
 have hlb:=Ab hd.cells;have hlm:=hd.files.lt;have HD:=a0z hd;have HT:=a0z ht;clear hd ht
 by_cases h0:name.size=0
 ·rw[iJ (Or.inl h0)];obtain rfl:name=⟨#[]⟩:=ByteArray.ext (Array.eq_empty_of_size_eq_zero h0);go_enter Tryz.func61,Tryz.ntmps61;go_wp2_with (fail);refine bodyPost_ret (v:=.tuple #[.pointer none,.slice none 0 0,.int .i64 1]) (by simp[results,Tryz.results61,go_sem]) rfl ?_;exact⟨HD.out,Fp.refl _ _,Or.inl ⟨(show(1:Int)≠0 by decide),rfl⟩⟩
 by_cases h59:59<name.size
 ·rw[iJ (Or.inr h59)];have he:=N6 (Nat.pos_of_ne_zero h0)
  have hne:(name.toList==([]:List UInt8))=false:=by
   rw[beq_eq_false_iff_ne];intro e;rw[e] at he;cases he
  have z:(59:Int)<(name.size:Int):=by omega
  clear h0;go_enter Tryz.func61,Tryz.ntmps61;go_wp2_with (fail);refine bodyPost_ret (v:=.tuple #[.pointer none,.slice none 0 0,.int .i64 1]) (by simp[results,Tryz.results61,go_sem]) rfl ?_;exact⟨HD.out,Fp.refl _ _,Or.inl ⟨(show(1:Int)≠0 by decide),rfl⟩⟩
 have hfit:¬(name.size=0∨59<name.size):=by omega
 have he:=N6 (Nat.pos_of_ne_zero h0)
 have hne:(name.toList==([]:List UInt8))=false:=by
  rw[beq_eq_false_iff_ne];intro e;rw[e] at he;cases he
 have z59:¬(59:Int)<(name.size:Int):=by omega
 have HR:=a0z (xZ w b bm d name HD.out (by unfold maxLen;omega))
 obtain⟨⟨s,x⟩,hr⟩:∃r,d.read name=r:=⟨_,rfl⟩
 rw[hr] at HR hrs;simp only at hrs
 by_cases hx:x≠0∧x≠3
 ·rw[zL hfit hr hx.1 hx.2]
  have b0:((x:Int)!=0)=true:=by simpa using hx.1
  have b3:((x:Int)!=3)=true:=by simpa using hx.2
  have HX:=a0z hx.1;clear hx hfit hr h0 h59 he;go_enter Tryz.func61,Tryz.ntmps61;go_wp2_with (fail);(with_reducible refine HR.out.mono ?_);rintro e w1 ⟨rfl,hf1⟩;have HF1:=a0z hf1;clear hf1;go_wp2_with (fail);refine bodyPost_ret (v:=.tuple #[.pointer none,.slice none 0 0,.int .i64 x]) (by simp[results,Tryz.results61,go_sem]) rfl ?_;exact⟨HD.out.of_fp HF1.out (by simp) (by simp),HF1.out.mono (by simp),Or.inl ⟨HX.out,rfl⟩⟩
 ·obtain⟨⟨d2,y⟩,hg⟩:∃r,(if x=3∨Ff (D6 s)<s.size then d.wWrite name (s.extract 0 (Ff (D6 s))) else(d.sync name,d.thereE name))=r:=⟨_,rfl⟩
  rw[zM hfit hr hx hg];have HALL:Hid (∀w,B0 w→_):=a0z (fun w ht=>uV w s hrs ht);have hel:=zK s
  have hx03:x=0∨x=3:=by omega
  have hexs:(s.extract 0 (Ff (D6 s))).size=Ff (D6 s):=by rw[ByteArray.size_extract];omega
  obtain⟨en,hen⟩:∃en,Ff (D6 s)=en:=⟨_,rfl⟩
  obtain⟨l,hl⟩:∃l,(D6 s).map (·.2)=l:=⟨_,rfl⟩
  rw[hen] at hg hel HALL hexs;rw[hl] at HALL ⊢
  obtain⟨tx,htx⟩:∃tx,(if y=0 then l else[])=tx:=⟨_,rfl⟩
  rw[htx];have HTX:=a0z htx;have HG:=a0z hg;have HFIT:=a0z hfit;have HEXS:=a0z hexs;clear hx hfit hr h0 h59 he hg hen hl hexs htx
  have HGO:Hid (∀W L,Fp [] w W→B3 W L b ⟨name,l.length,false⟩→
    ((x=3∨en<s.size)→Calls Tryz.prog 114 #[.pointer (some ⟨L,0,none⟩),.string (s.extract 0 en)] W fun e w'=>e=.returned (.int .i64 y)∧Ah w' b bm d2∧Fp [b,bm] W w')∧
    (¬(x=3∨en<s.size)→Calls Tryz.prog 115 #[.pointer (some ⟨b,0,none⟩),.string name] W fun e w'=>e=.returned (.int .i64 y)∧Ah w' b bm d2∧Fp [b,bm] W w')):=a0z (fun W L hf hlg=>by
   have hdW:=HD.out.of_fp hf (by simp) (by simp);refine⟨fun hc=>?_,fun hc=>?_⟩
   ·have h:=yW W b bm L ⟨name,l.length,false⟩ d (s.extract 0 en) hdW hok hname (by rw[HEXS.out];omega) hlg;have hgg:=HG.out;rw[if_pos hc] at hgg;simp only[hgg] at h;exact h
   ·have h:=Yj W b bm d name hdW hok (by unfold maxLen;omega);have hgg:=HG.out;rw[if_neg hc] at hgg
    injection hgg with g1 g2
    rw[g1,g2] at h
    exact h)
  have HDONE:Hid (∀W w' L v,Fp [] w W→w.heap.size≤L→B3 W L b ⟨name,l.length,false⟩→Cf W w.heap.size v l→Ah w' b bm d2→Fp [b,bm] W w'→
    R4 w b bm name (d2,y,tx) (if y=0 then .returned (.tuple #[.pointer (some ⟨L,0,none⟩),v,.int .i64 0]) else .returned (.tuple #[.pointer none,.slice none 0 0,.int .i64 y])) w'):=a0z (fun W w' L v hf hL hlg ho hd2 hf2=>by
   refine⟨hd2,(hf.mono (S':=[b,bm]) (by simp)).trans hf2 (by intro i hi;exact Or.inl hi),?_⟩
   by_cases hy:y=0
   ·right;rw[if_pos hy,←HTX.out,if_pos hy];exact⟨hy,L,v,rfl,hL,hlg.fp hf2 (by simp;omega),ho.fp hf2 (by simp;omega)⟩
   ·left;rw[if_neg hy]
    exact⟨hy,rfl⟩)
  clear HG HD HEXS hok
  rcases hx03 with rfl|rfl
  ·by_cases hlt:en<s.size
   ·have z:(en:Int)<(s.size:Int):=by omega
    go_enter Tryz.func61,Tryz.ntmps61;go_wp2_with (fail);(with_reducible refine HR.out.mono ?_);rintro e w1 ⟨rfl,hf1⟩;have HF1:=a0z hf1;have HT1:=a0z (HT.out.fp hf1 (by simp));clear hf1;go_wp2_with (fail);(with_reducible refine(HALL.out _ HT1.out).mono ?_);rintro e w2 ⟨v,rfl,ho2,hf2⟩;obtain⟨⟨va,vc,rfl⟩,-⟩:=ho2.at;have hfW:Fp [] w (w2.alloc (.cells (E0 b ⟨name,l.length,false⟩) 185)):=(HF1.out.trans hf2 (by simp)).alloc' _;have hlW:B3 (w2.alloc (.cells (E0 b ⟨name,l.length,false⟩) 185)) w2.heap.size b ⟨name,l.length,false⟩:=Aj rfl _;have hle:w.heap.size≤w1.heap.size:=HF1.out.size;have hle2:w.heap.size≤w2.heap.size:=a1z hle hf2.size;have hoW:Cf (w2.alloc (.cells (E0 b ⟨name,l.length,false⟩) 185)) w.heap.size (.slice va l.length vc) l:=(ho2.mono hle).fp (Fp.alloc _ _) (by simp);have HC:=HGO.out _ w2.heap.size hfW hlW;have HDN:=a0z (fun w' h1 h2=>HDONE.out _ w' w2.heap.size (.slice va l.length vc) hfW hle2 hlW hoW h1 h2);unfold E0 at HC;simp only at HC;clear ho2 hf2 hfW hlW hoW hle hle2;have HC2:=a0z (HC.1 (Or.inr hlt));clear HC hlt;go_wp2_with (fail);(with_reducible refine HC2.out.mono ?_);rintro e w3 ⟨rfl,hd3,hf3⟩;have HDN2:=a0z (HDN.out w3 hd3 (by unfold E0;exact hf3));clear hd3 hf3
    by_cases hy:y=0
    ·subst hy;go_wp2_with (fail);refine bodyPost_ret (v:=.tuple #[.pointer (some ⟨w2.heap.size,0,none⟩),.slice va l.length vc,.int .i64 0]) (by simp[results,Tryz.results61,go_sem]) rfl ?_;exact HDN2.out
    ·have by0:((y:Int)!=0)=true:=by simpa using hy
     have HD4:Hid (R4 w b bm name (d2,y,tx) (.returned (.tuple #[.pointer none,.slice none 0 0,.int .i64 y])) w3):=a0z (by
      have h:=HDN2.out;rw[if_neg hy] at h
      exact h)
     clear hy;go_wp2_with (fail);refine bodyPost_ret (v:=.tuple #[.pointer none,.slice none 0 0,.int .i64 y]) (by simp[results,Tryz.results61,go_sem]) rfl ?_;exact HD4.out
   ·have z:¬(en:Int)<(s.size:Int):=by omega
    go_enter Tryz.func61,Tryz.ntmps61;go_wp2_with (fail);(with_reducible refine HR.out.mono ?_);rintro e w1 ⟨rfl,hf1⟩;have HF1:=a0z hf1;have HT1:=a0z (HT.out.fp hf1 (by simp));clear hf1;go_wp2_with (fail);(with_reducible refine(HALL.out _ HT1.out).mono ?_);rintro e w2 ⟨v,rfl,ho2,hf2⟩;obtain⟨⟨va,vc,rfl⟩,-⟩:=ho2.at;have hfW:Fp [] w (w2.alloc (.cells (E0 b ⟨name,l.length,false⟩) 185)):=(HF1.out.trans hf2 (by simp)).alloc' _;have hlW:B3 (w2.alloc (.cells (E0 b ⟨name,l.length,false⟩) 185)) w2.heap.size b ⟨name,l.length,false⟩:=Aj rfl _;have hle:w.heap.size≤w1.heap.size:=HF1.out.size;have hle2:w.heap.size≤w2.heap.size:=a1z hle hf2.size;have hoW:Cf (w2.alloc (.cells (E0 b ⟨name,l.length,false⟩) 185)) w.heap.size (.slice va l.length vc) l:=(ho2.mono hle).fp (Fp.alloc _ _) (by simp);have HC:=HGO.out _ w2.heap.size hfW hlW;have HDN:=a0z (fun w' h1 h2=>HDONE.out _ w' w2.heap.size (.slice va l.length vc) hfW hle2 hlW hoW h1 h2);unfold E0 at HC;simp only at HC;clear ho2 hf2 hfW hlW hoW hle hle2;have HC2:=a0z (HC.2 (by omega));clear HC hlt;go_wp2_with (fail);(with_reducible refine HC2.out.mono ?_);rintro e w3 ⟨rfl,hd3,hf3⟩;have HDN2:=a0z (HDN.out w3 hd3 (by unfold E0;exact hf3));clear hd3 hf3
    by_cases hy:y=0
    ·subst hy;go_wp2_with (fail);refine bodyPost_ret (v:=.tuple #[.pointer (some ⟨w2.heap.size,0,none⟩),.slice va l.length vc,.int .i64 0]) (by simp[results,Tryz.results61,go_sem]) rfl ?_;exact HDN2.out
    ·have by0:((y:Int)!=0)=true:=by simpa using hy
     have HD4:Hid (R4 w b bm name (d2,y,tx) (.returned (.tuple #[.pointer none,.slice none 0 0,.int .i64 y])) w3):=a0z (by
      have h:=HDN2.out;rw[if_neg hy] at h
      exact h)
     clear hy;go_wp2_with (fail);refine bodyPost_ret (v:=.tuple #[.pointer none,.slice none 0 0,.int .i64 y]) (by simp[results,Tryz.results61,go_sem]) rfl ?_;exact HD4.out
  ·have zel:(en:Int)≤(s.size:Int):=by omega
   go_enter Tryz.func61,Tryz.ntmps61;go_wp2_with (fail);(with_reducible refine HR.out.mono ?_);rintro e w1 ⟨rfl,hf1⟩;have HF1:=a0z hf1;have HT1:=a0z (HT.out.fp hf1 (by simp));clear hf1;go_wp2_with (fail);(with_reducible refine(HALL.out _ HT1.out).mono ?_);rintro e w2 ⟨v,rfl,ho2,hf2⟩;obtain⟨⟨va,vc,rfl⟩,-⟩:=ho2.at;have hfW:Fp [] w (w2.alloc (.cells (E0 b ⟨name,l.length,false⟩) 185)):=(HF1.out.trans hf2 (by simp)).alloc' _;have hlW:B3 (w2.alloc (.cells (E0 b ⟨name,l.length,false⟩) 185)) w2.heap.size b ⟨name,l.length,false⟩:=Aj rfl _;have hle:w.heap.size≤w1.heap.size:=HF1.out.size;have hle2:w.heap.size≤w2.heap.size:=a1z hle hf2.size;have hoW:Cf (w2.alloc (.cells (E0 b ⟨name,l.length,false⟩) 185)) w.heap.size (.slice va l.length vc) l:=(ho2.mono hle).fp (Fp.alloc _ _) (by simp);have HC:=HGO.out _ w2.heap.size hfW hlW;have HDN:=a0z (fun w' h1 h2=>HDONE.out _ w' w2.heap.size (.slice va l.length vc) hfW hle2 hlW hoW h1 h2);unfold E0 at HC;simp only at HC;clear ho2 hf2 hfW hlW hoW hle hle2;have HC2:=a0z (HC.1 (by simp));clear HC;go_wp2_with (fail);(with_reducible refine HC2.out.mono ?_);rintro e w3 ⟨rfl,hd3,hf3⟩;have HDN2:=a0z (HDN.out w3 hd3 (by unfold E0;exact hf3));clear hd3 hf3
   by_cases hy:y=0
   ·subst hy;go_wp2_with (fail);refine bodyPost_ret (v:=.tuple #[.pointer (some ⟨w2.heap.size,0,none⟩),.slice va l.length vc,.int .i64 0]) (by simp[results,Tryz.results61,go_sem]) rfl ?_;exact HDN2.out
   ·have by0:((y:Int)!=0)=true:=by simpa using hy
    have HD4:Hid (R4 w b bm name (d2,y,tx) (.returned (.tuple #[.pointer none,.slice none 0 0,.int .i64 y])) w3):=a0z (by
     have h:=HDN2.out;rw[if_neg hy] at h
     exact h)
    clear hy;go_wp2_with (fail);refine bodyPost_ret (v:=.tuple #[.pointer none,.slice none 0 0,.int .i64 y]) (by simp[results,Tryz.results61,go_sem]) rfl ?_;exact HD4.out
end
section
open Go.RowKit
structure Tf(base:Nat)(D:List TypeId)(S:List Nat)(W W':World):Prop where
 os:W'.os=W.os
 tape:W'.tape=W.tape
 output:W'.output=W.output
 size:W.heap.size≤W'.heap.size
 block:∀k,k<W.heap.size→k∉S→(base≤k→∀c T fz,W.heap[k]?=some (.cells c T fz)→T∉D)→W'.heap[k]?=W.heap[k]?
variable {base : Nat} {D : List TypeId} {S S' : List Nat} {a b c W W' : World}
theorem Tf.of(h:Fp S W W'):Tf base D S W W':=⟨h.os,h.tape,h.output,h.size,fun k h1 h2 _=>h.block k h1 h2⟩
theorem Tf.refl(W:World):Tf base D S W W:=Tf.of (Fp.refl _ _)
theorem Tf.trans(h:Tf base D S a b)(k:Tf base D S' b c)(hs:∀i∈S',i∈S∨a.heap.size≤i):Tf base D S a c:=by
 refine⟨k.os.trans h.os,k.tape.trans h.tape,k.output.trans h.output,a1z h.size k.size,fun i h1 h2 h3=>?_⟩;have e:=h.block i h1 h2 h3;refine(k.block i (a1x h1 h.size) (fun hm=>?_) (fun hb c T fz hc=>h3 hb c T fz (e▸hc))).trans e
 rcases hs i hm with h4|h4
 ·exact h2 h4
 ·omega
theorem Tf.mono(h:Tf base D S a b)(hs:∀i∈S,i∈S'):Tf base D S' a b:=⟨h.os,h.tape,h.output,h.size,fun i h1 h2 h3=>h.block i h1 (fun hm=>h2 (hs i hm)) h3⟩
theorem Tf.low(h:Tf base D S W W'){k:Nat}(hk:k<W.heap.size)(hb:k<base)(hS:k∉S):W'.heap[k]?=W.heap[k]?:=h.block k hk hS fun h1=>by omega
theorem Tf.cells(h:Tf base D S W W'){k:Nat}{c:Array Value}{T:TypeId}{fz:Nat × Nat}(hk:W.heap[k]?=some (.cells c T fz))(hS:k∉S)(hT:T∉D):W'.heap[k]?=some (.cells c T fz):=
 (h.block k (Array.getElem?_eq_some_iff.1 hk).1 hS fun _ c' T' fz' h1=>by rw[hk] at h1;cases h1;exact hT).trans hk
theorem Tf.toFp'(h:Tf base D S W W')(hb:W.heap.size≤base):Fp S W W':=⟨h.os,h.tape,h.output,h.size,fun k h1 h2=>h.block k h1 h2 fun h3=>by omega⟩
theorem Tf.onto(h:Tf base D S b c)(k:Fp S' a b)(hb:a.heap.size≤base)(hs:∀i∈S,i∈S'∨a.heap.size≤i):Fp S' a c:=by
 refine⟨h.os.trans k.os,h.tape.trans k.tape,h.output.trans k.output,a1z k.size h.size,fun i h1 h2=>?_⟩;refine(h.block i (a1x h1 k.size) (fun hm=>?_) (fun h3=>by omega)).trans (k.block i h1 h2)
 rcases hs i hm with h4|h4
 ·exact h2 h4
 ·omega
theorem Tf.grown{e:TypeId}{size n:Nat}{v:Value}{l:List Value}(h:W.ownsRow base e size v n l)(hg:W.grownBy W' v.ownBlock)(he:e∈D):Tf base D S W W':=by
 refine⟨hg.os,hg.tape,hg.output,hg.size,fun k h1 _ h2=>hg.block k h1 fun e1=>?_⟩
 rcases h.2 with⟨rfl,_⟩|⟨g,cap,cur,rfl,hgb,hh,_⟩
 ·cases e1
 ·obtain rfl:k=g:=by simpa [Value.ownBlock] using e1
  exact h2 hgb _ _ _ hh he
section
variable {α : Type} {R : G3 α}
theorem Ag.tf{base':Nat}{v:Value}{l:List α}(h:Ag R W base' v l)(ht:Tf base D S W W')(hR:R.e∉D)(hS:∀k,v.ownBlock=some k→k∉S):Ag R W' base' v l:=by
 refine h.kept fun k hk=>?_
 rcases h.2 with⟨rfl,_⟩|⟨g,cap,cur,rfl,_,hh,_⟩
 ·cases hk
 ·obtain rfl:g=k:=by simpa [Value.ownBlock] using hk
  rw[hh];exact ht.cells hh (hS _ hk) hR
theorem Bz.tf{b o n:Nat}{l:List α}(h:Bz R W (some ⟨b,o,none⟩) n l)(ht:Tf base D S W W')(hb:b<base)(hS:b∉S):Bz R W' (some ⟨b,o,none⟩) n l:=by
 refine⟨h.len,?_⟩
 rcases h.cells with h0|⟨b',o',e,hb',hc⟩
 ·exact Or.inl h0
 ·cases e;exact Or.inr ⟨b,o,rfl,a1x hb' ht.size,fun i hi j u hu=>(World.cell?_of_block (w:=W) (ht.low hb' hb hS)).trans (hc i hi j u hu)⟩
end
end
end Go.Proofs.YtkagolpnaicdoaaGreatDoor
