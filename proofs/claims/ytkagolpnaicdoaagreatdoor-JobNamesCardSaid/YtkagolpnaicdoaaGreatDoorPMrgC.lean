/-
 merge: Push, Pop of sources. container/heap over sources: up, down. container/heap over sources: Push, Pop. runs.Resolve . runs.Sorted, of items that are in order.
-/
import Derived.Test.YtkagolpnaicdoaaGreatDoorPSortC
import Derived.Test.YtkagolpnaicdoaaGreatDoorPAppG
import Derived.Deep.Cut
import Derived.Deep.CutRange
import Derived.Test.YtkagolpnaicdoaaGreatDoorPRunA
set_option maxRecDepth 100000
set_option maxHeartbeats 8000000
open Go.Lib renaming hid→a0z
open List renaming getD_eq_getElem?_getD→a0x,getElem?_eq_getElem→a0v,length_map→a0u,setIfInBounds_toArray→a1z,map_append→a1x,set_cons_succ→a1v,set_cons_zero→a1u,reverse_cons→a2z,getElem?_map→a2x,reverse_nil→a2w,cons_append→a2v,nil_append→a2u
open Go.IntKind renaming wrap_i64→a0w
open Nat renaming le_refl→a1w
namespace Go.Proofs.YtkagolpnaicdoaaGreatDoor
section
open Go.RowKit Go.Lib
theorem Tryz.infoSrc:(Tryz.prog.info? 331).map (fun i=>(i.zero,i.size,i.bytes))=some (some (.agg #[.pointer none,.int .i64 0]),2,16):=by kernel_rfl
theorem sZ(W:World)(base B:Nat)(v:Value)(l:List Is)(x:Is)(hB:W.heap[B]?=some (.cells #[v] 325 (0,0)))(ho:Ae Hf W base v l)(hb:base≤W.heap.size)(hn:l.length≤1000000):
  Calls Tryz.prog 325 #[.pointer (some ⟨B,0,none⟩),.iface 331 (.agg #[.pointer (some ⟨x.q,0,none⟩),.int .i64 x.at_])] W fun e W'=>e=.returned (.tuple #[])∧(∃v',W'.heap[B]?=some (.cells #[v'] 325 (0,0))∧Ae Hf W' base v' (l++[x]))∧Tf base [331] [B] W W':=by
 have HB:=a0z hB;have HO:=a0z ho;have hBw:=Ab hB;obtain⟨va,vc,hv,-,-⟩:=ho.len;obtain⟨xq,xa⟩:=x;clear hB ho;go_enter Tryz.func325,Tryz.ntmps325;go_wp2_with (fail);refine Px (Ew Hf [331] 325 (fun v=>#[v]) base B v l ⟨xq,xa⟩ 6 7 9 W) (fun _ _=>True) (by kernel_rfl) (by kernel_rfl) (fun _=>Ew.start HO.out HB.out hb) ?_
 iterate 3
  apply Cj (fun _ _ _ h _=>h.plain (by decide)) rfl rfl rfl
  ·intro b a w hC hA K hK
   try have h0:=hA.fr 0 rfl
   try have h5:=hA.eq 1 5 rfl
   simp only[Oper.wp,execOp];go_simp;exact hK _ hC trivial
 apply Cj (fun _ _ _ h _=>h.plain (by decide)) rfl rfl rfl
 ·intro b a w hC hA K hK;have h6:=hA.eq 2 6 rfl;have q0:=Aa (hC.first (hA.post 7 (by kernel_rfl))) 0;simp only[List.getElem?_toArray,List.getElem?_cons_zero] at q0;rw[hv] at q0;simp only[Oper.wp,execOp];go_simp;rw[←hv];exact hK _ hC trivial
 iterate 2
  apply Cj (fun _ _ _ h _=>h.plain (by decide)) rfl rfl rfl
  ·intro b a w hC hA K hK
   try have h1:=hA.fr 1 rfl
   try have h8:=hA.eq 4 8 rfl
   simp only[Oper.wp,execOp];go_simp;exact hK _ hC trivial
 apply Dt (fun _ _=>True) rfl rfl rfl
 ·intro b a w hC hA K hK;have h9:=hA.eq 5 9 rfl;have hst:=hC.build hA.self (by decide);simp only[Oper.wp,execOp];go_simp;exact hK _ _ hst trivial trivial
 apply Dt (fun _ _=>True) rfl rfl rfl
 ·intro b a w hC hA K hK;have h7:=hA.eq 3 7 rfl;have h10:=hA.dep 6 10 _ (by kernel_rfl) rfl;obtain⟨g,hg1,hg2⟩:=hC.bld (hA.pre 6 (by kernel_rfl)) hA.self;refine aA (R:=Hf) 325 Tryz.underlying325 Tryz.infoSrc rfl (by decide) (.tmp 7) (.tmp 10) rfl base v l (Gf h7) (hC.own0 hA.self) _ _ _ [⟨xq,xa⟩] (Gf ((hA.val 6 10 (by kernel_rfl)).trans hg1)) hg2 (by simp;omega) hC.sz ?_;intro v' w' h1 h2 h3;exact hK _ _ (hC.append (hA.pre 6 (by kernel_rfl)) hA.self h1 h3 (by simp[Hf]) (by decide) (by decide)) trivial trivial
 apply Cj (fun _ _ _ h _=>h.plain (by decide)) rfl rfl rfl
 ·intro b a w hC hA K hK;have h4:=hA.eq 0 4 rfl;simp only[Oper.wp,execOp];go_simp;exact hK _ hC trivial
 apply I9 (fun _=>True) rfl rfl rfl
 ·intro b a w hC hA K hK;have h12:=hA.eq 8 12 rfl;have h11:=hA.dep 7 11 _ (by kernel_rfl) rfl;obtain⟨a2,n2,c2,e2⟩:=hC.slice (hA.pre 7 (by kernel_rfl));have hvv:=(hA.val 7 11 (by kernel_rfl)).trans e2;have hst:=hC.store (off:=0) (hA.pre 7 (by kernel_rfl)) hA.self (by simp) (by decide) (by decide);rw[e2] at hst;have f0:=Ar hC.cel 0;have q0:=Aa hC.cel 0;simp only[Oper.wp,execOp];go_simp;exact hK undef _ hst trivial trivial
 refine⟨?_,?_⟩
 ·refine⟨fun _ _ _ _ _=>trivial,?_⟩;refine E6 _ ?_;refine⟨fun _ _ _ _ _=>trivial,?_⟩;refine⟨fun _ _ _ _ _=>trivial,?_⟩
  iterate 6 refine E6 _ ?_
  exact trivial
 ·intro w' bb hbb;simp only[a2z,a2w,a2u,a2v]
  iterate 6 (refine Au ?_)
  refine Az ?_;intro v6 u6;refine Az ?_;intro v7 u7
  iterate 1 (refine Au ?_)
  refine Az ?_;intro v9 u9;refine A6 ?_;intro hC;simp only[Am,Act.put,a1z,a1v,a1u];have hcel:=hC.cel;rw[hbb 9 (by simp)] at hcel;have HC1:=a0z hcel;have HC2:=a0z (hC.own1 (hbb 7 (by simp)));have HC3:=a0z hC.tf;clear hC hbb hcel;go_wp2_with (fail);go_end0;exact⟨rfl,⟨_,HC1.out,HC2.out⟩,HC3.out⟩
theorem tA(W:World)(base B:Nat)(v:Value)(l:List Is)(x:Is)(hB:W.heap[B]?=some (.cells #[v] 325 (0,0)))(ho:Ae Hf W base v (l++[x]))(hn:l.length≤1000000):
  Calls Tryz.prog 324 #[.pointer (some ⟨B,0,none⟩)] W fun e W'=>e=.returned (.iface 331 (.agg #[.pointer (some ⟨x.q,0,none⟩),.int .i64 x.at_]))∧(∃v',W'.heap[B]?=some (.cells #[v'] 325 (0,0))∧Ae Hf W' base v' l)∧Fp [B] W W':=by
 obtain⟨g,cap,cur,rfl,hg,hh,hcap,-⟩:=ho.open (by simp)
 have hl1:(l++[x]).length=l.length+1:=by simp
 have hc:=Y1 ho (i:=l.length) (by omega)
 have hlast:(l++[x])[l.length]'(by omega)=x:=by simp
 rw[hlast] at hc;have hless:=ho.less (m:=l.length) (by omega) (by omega);rw[List.take_left] at hless;rw[hl1] at hcap
 obtain⟨n,hn1⟩:∃n,l.length=n:=⟨_,rfl⟩
 rw[hl1] at hB;rw[hn1] at hless hc hB hcap hn;have HC:=a0z hc;have HL:=a0z hless;have HB:=a0z hB;have q0:W.cell? ⟨B,0,none⟩=some (.slice (some ⟨g,0,none⟩) (n+1) cap):=Aa hB 0;have f0:W.frozen? ⟨B,0,none⟩=false:=Ar hB 0;have hBw:=Ab hB
 have hgB:g≠B:=by
  intro e;subst e;rw[hh] at hB;cases hB
 obtain⟨p0,p1⟩:=hc W (Fp.refl _ _);obtain⟨xq,xa⟩:=x;simp only at p0 p1
 have n1:IntKind.i64.wrap (((n+1:Nat):Int)-1)=(n:Int):=by rw[a0w];omega
 obtain⟨m,hm⟩:∃m,n+1=m:=⟨_,rfl⟩
 rw[hm] at n1 q0 hcap
 have z1:(n:Int)<(m:Int):=by omega
 have z2:(n:Int)≤(cap:Int):=by omega
 clear ho hh hc hlast hless hl1 hB hn1 hm;go_enter Tryz.func324,Tryz.ntmps324;go_wp2_with (fail);go_ret;have hf:Fp [B] W (W.setCell ⟨B,0,none⟩ (.slice (some ⟨g,0,none⟩) n cap)):=Fp.setCell W ⟨B,0,none⟩ _;refine⟨rfl,⟨_,Cb ((Bm HB.out _).trans rfl),?_⟩,hf.alloc' _⟩;refine Ae.fp (S:=[]) (HL.out.kept fun k hk=>hf.block k (HL.out.lt k hk).2 ?_) (Fp.alloc _ _) (by simp)
 have:g=k:=by simpa [Value.ownBlock] using hk
 subst this
 simpa using hgB
end
section
open Go.RowKit Go.Lib
theorem tB(w:World)(B:Nat)(n:String)(s:Option Addr)(m c:Nat)(h:w.cell? ⟨B,0,none⟩=some (.slice s m c)):(receiverAt 323 (.val (.pointer (some ⟨B,0,none⟩))) false (some n)).run Tryz.prog w=.ok (.slice s m c) w:=by
 rw[show(receiverAt 323 (.val (.pointer (some ⟨B,0,none⟩))) false (some n)).run Tryz.prog w=(loadVar 325 ⟨B,0,none⟩).run Tryz.prog w by kernel_rfl];go_simp
theorem Ye(K:FuncId)(nm:String)(h0:∀(f:Nat) (w:World) (a:Addr),(method (f+1) 323 (.pointer (some a)) nm).run Tryz.prog w=(do (pure (K,←receiverAt 323 (.val (.pointer (some a))) false (some nm))):Sem _).run Tryz.prog w)(F:Nat)(hF:0<F)(w:World)(B:Nat)(s:Option Addr)(m c:Nat)(h:w.cell? ⟨B,0,none⟩=some (.slice s m c)):(method F 323 (.pointer (some ⟨B,0,none⟩)) nm).run Tryz.prog w=.ok (K,.slice s m c) w:=by
 obtain⟨f,rfl⟩:∃f,F=f+1:=⟨F-1,by omega⟩
 rw[h0,Sem.run_bind,tB w B nm s m c h];rfl
theorem Yf(w:World)(B:Nat)(s:Option Addr)(m c:Nat)(h:w.cell? ⟨B,0,none⟩=some (.slice s m c))(F:Nat)(hF:0<F):(method F 323 (.pointer (some ⟨B,0,none⟩)) "Less").run Tryz.prog w=.ok (323,.slice s m c) w:=Ye _ _ (fun _ _ _=>by kernel_rfl) F hF w B s m c h
theorem eZ(w:World)(B:Nat)(s:Option Addr)(m c:Nat)(h:w.cell? ⟨B,0,none⟩=some (.slice s m c))(F:Nat)(hF:0<F):(method F 323 (.pointer (some ⟨B,0,none⟩)) "Len").run Tryz.prog w=.ok (271,.slice s m c) w:=Ye _ _ (fun _ _ _=>by kernel_rfl) F hF w B s m c h
theorem Yg(w:World)(B:Nat)(s:Option Addr)(m c:Nat)(h:w.cell? ⟨B,0,none⟩=some (.slice s m c))(F:Nat)(hF:0<F):(method F 323 (.pointer (some ⟨B,0,none⟩)) "Swap").run Tryz.prog w=.ok (326,.slice s m c) w:=Ye _ _ (fun _ _ _=>by kernel_rfl) F hF w B s m c h
theorem tC(w:World)(a:Addr)(F:Nat)(hF:0<F):(method F 323 (.pointer (some a)) "Push").run Tryz.prog w=.ok (325,.pointer (some a)) w:=by
 obtain⟨f,rfl⟩:∃f,F=f+1:=⟨F-1,by omega⟩
 kernel_rfl
theorem tD(w:World)(a:Addr)(F:Nat)(hF:0<F):(method F 323 (.pointer (some a)) "Pop").run Tryz.prog w=.ok (324,.pointer (some a)) w:=by
 obtain⟨f,rfl⟩:∃f,F=f+1:=⟨F-1,by omega⟩
 kernel_rfl
def Jg:Ei:=(Nc,[])
theorem fA{α β:Type}(f:α→β)(d:α)(l:List α)(i j:Nat):(Gj d l i j).map f=Gj (f d) (l.map f) i j:=by
 unfold Gj;rw[List.map_set,List.map_set];congr 1
 ·congr 1;rw[a0x,a0x,a2x]
  cases l[j]?<;>rfl
 ·rw[a0x,a0x,a2x]
  cases l[i]?<;>rfl
theorem Vd{α:Type}{d:α}{l:List α}{i j:Nat}(hi:i<l.length)(hj:j<l.length):(Gj d l i j).Perm l:=by
 have h:=Array.swap_perm (xs:=l.toArray) (i:=i) (j:=j) (by simpa using hi) (by simpa using hj);have h2:=Array.perm_iff_toList_perm.1 h
 have e:(l.toArray.swap i j (by simpa using hi) (by simpa using hj)).toList=Gj d l i j:=by
  unfold Gj;rw[a0x,a0x,a0v hi,a0v hj];simp[Array.swap]
 rw[e] at h2;exact h2
theorem tE{α:Type}{d:α}{l:List α}{i j k:Nat}(hi:k≠i)(hj:k≠j):(Gj d l i j).getD k d=l.getD k d:=by
 unfold Gj;rw[a0x,List.getElem?_set_ne (Ne.symm hj),List.getElem?_set_ne (Ne.symm hi),a0x]
def B4(es:List Ei):List Ad:=es.map E2
theorem Yh(es:List Ei)(i j:Nat):B4 (Gj Jg es i j)=I1 (B4 es) i j:=fA E2 Jg es i j
theorem Qf{es:List Ei}{i:Nat}(hi:i<es.length):Ag (B4 es) i=E2 es[i]:=by
 unfold Ag B4;rw[a0x,a2x,a0v hi];rfl
theorem R7(es:List Ei):(B4 es).length=es.length:=a0u ..
structure Dm(W:World)(base B:Nat)(es:List Ei):Prop where
 box:∃v,W.heap[B]?=some (.cells #[v] 325 (0,0))∧Ae Hf W base v (es.map (·.1))
 qs:∀x∈es,Ib W base x.1.q x.2∧0<x.2.length
 ok:∀x∈es,Ci x.2
 bb:base≤B
 nd:(es.map (·.1.q)).Nodup
theorem Dm.keys{W:World}{base B:Nat}{es:List Ei}(h:Dm W base B es):Ci (B4 es):=by
 intro k hk;obtain⟨x,hx,rfl⟩:=List.mem_map.1 hk;obtain⟨r,hr⟩:=Qw (h.qs x hx).2;have:=h.ok x hx;rw[hr] at this;exact this _ List.mem_cons_self
theorem Dm.fp{W W':World}{base B:Nat}{es:List Ei}(h:Dm W base B es)(hf:Fp [] W W'):Dm W' base B es:=by
 obtain⟨v,h1,h2⟩:=h.box;exact⟨⟨v,(hf.block _ (Ab h1) (by simp)).trans h1,h2.fp hf (by simp)⟩,fun x hx=>⟨(h.qs x hx).1.fp hf,(h.qs x hx).2⟩,h.ok,h.bb,h.nd⟩
theorem Tf.ofOwn{α:Type}{R:Gx α}{W W':World}{base g n cap:Nat}{D:List TypeId}{S:List Nat}{l:List α}(h:Ae R W base (.slice (some ⟨g,0,none⟩) n cap) l)(hf:Fp [g] W W')(hD:R.e∈D):Tf base D S W W':=by
 refine⟨hf.os,hf.tape,hf.output,hf.size,fun k h1 _ h2=>hf.block k h1 fun hm=>?_⟩;obtain rfl:=List.mem_singleton.1 hm
 rcases h.2 with⟨e,_⟩|⟨g',cap',cur,e,hg,hh,_⟩
 ·cases e
 ·cases e;exact h2 hg _ _ _ hh hD
theorem Dm.less{W:World}{base B:Nat}{es:List Ei}(h:Dm W base B es)(hn:es.length≤1000000):
  ∃s n c,W.cell? ⟨B,0,none⟩=some (.slice s n c)∧n=es.length∧∀i j,i<es.length→j<es.length→Calls Tryz.prog 323 #[.slice s n c,.int .i64 i,.int .i64 j] W fun e W'=>∃b,e=.returned (.bool b)∧(b=true→A7 (Ag (B4 es) i) (Ag (B4 es) j))∧(b=false→A7 (Ag (B4 es) j) (Ag (B4 es) i))∧Fp [] W W':=by
 obtain⟨v,h1,h2⟩:=h.box;obtain⟨s,c,rfl,-,-⟩:=h2.len;refine⟨s,_,c,Aa h1 0,by rw[a0u],fun i j hi hj=>?_⟩;rw[Qf hi,Qf hj];exact xA W base _ es i j h2 h.qs h.ok hi hj hn
theorem Dm.swap{W:World}{base B:Nat}{es:List Ei}(h:Dm W base B es)(h0:0<es.length):
  ∃s n c,W.cell? ⟨B,0,none⟩=some (.slice s n c)∧n=es.length∧∀i j,i<es.length→j<es.length→Calls Tryz.prog 326 #[.slice s n c,.int .i64 i,.int .i64 j] W fun e W'=>e=.returned (.tuple #[])∧Dm W' base B (Gj Jg es i j)∧Tf base [331] [] W W':=by
 obtain⟨v,h1,h2⟩:=h.box;obtain⟨g,cap,cur,rfl,hg,hh,-⟩:=h2.open (by rw[a0u];exact h0);refine⟨_,_,_,Aa h1 0,by rw[a0u],fun i j hi hj=>?_⟩;refine(xB W base g _ cap i j _ h2 (by rw[a0u];exact hi) (by rw[a0u];exact hj)).mono ?_;rintro e W' ⟨rfl,ho,hf⟩;have ht:Tf base [331] [] W W':=Tf.ofOwn h2 hf (by simp[Hf]);have hp:(Gj Jg es i j).Perm es:=Vd hi hj;refine⟨rfl,⟨⟨_,ht.cells h1 (by simp) (by decide),by rw[fA (fun x:Ei=>x.1)];exact ho⟩,fun x hx=>?_,fun x hx=>h.ok x (hp.mem_iff.1 hx),h.bb,(hp.map _).nodup_iff.2 h.nd⟩,ht⟩;have h3:=h.qs x (hp.mem_iff.1 hx);exact⟨h3.1.tf ht (a1w _) (by decide) (by simp),h3.2⟩
theorem tF(W:World)(base B:Nat)(es:List Ei)(j:Nat)(h:Dm W base B es)(hj:j<es.length)(hup:M8 (B4 es) es.length j)(hn:es.length≤1000000):
  Calls Tryz.prog 292 #[.iface 323 (.pointer (some ⟨B,0,none⟩)),.int .i64 j] W fun e W'=>e=.returned (.tuple #[])∧∃es',es'.Perm es∧Gm (B4 es') es'.length∧Dm W' base B es'∧Tf base [331] [] W W':=by
 have HH:=a0z h;have HU:=a0z hup
 obtain⟨n,hln⟩:∃n,es.length=n:=⟨_,rfl⟩
 rw[hln] at HU hj hn;have HL:=a0z hln;clear h hup hln;go_enter Tryz.func292,Tryz.ntmps292;go_wp2_with (fail)
 go_loopg [1] j (fun gg vj wr=>∃(j:Nat) (es':List Ei),vj=.int .i64 j∧gg=j∧j<n∧es'.Perm es∧M8 (B4 es') n j∧Dm wr base B es'∧Tf base [331] [] W wr)
 case atStart=>exact⟨j,es,rfl,rfl,hj,List.Perm.refl _,HU.out,HH.out,Tf.refl _⟩
 case round=>
  obtain⟨k,es2,rfl,hgg,hk,hp,hu,hh,ht⟩:=hrel;have HP:=a0z hp;have HU2:=a0z hu;have HH2:=a0z hh;have HT2:=a0z ht;have HGG:=a0z hgg;have HL2:Hid (es2.length=n):=hp.length_eq.trans HL.out;clear hp hu hh ht hgg
  by_cases hk0:k=0
  ·subst hk0;rw[show((0:Nat):Int)=0 from rfl];go_wp2_with (fail);go_end0;refine⟨rfl,es2,HP.out,?_,HH2.out,HT2.out⟩;rw[HL2.out];exact HU2.out.done (Or.inl rfl)
  ·have n1:IntKind.i64.wrap ((k:Int)-1)=((k-1:Nat):Int):=by rw[a0w];omega
   obtain⟨k1,hk1⟩:∃k1,k-1=k1:=⟨_,rfl⟩
   obtain⟨p,hp⟩:∃p,k1/2=p:=⟨_,rfl⟩
   have e1:(k1:Int)/2=(p:Int):=by omega
   have hpk:p<k:=by omega
   have zp:((p:Int)==(k:Int))=false:=by simp;omega
   have zp2:¬(p:Int)=(k:Int):=by omega
   have hkp:(k-1)/2=p:=by omega
   rw[hk1] at n1
   have hdone:=fun h=>HU2.out.done (Or.inr h)
   have hstep:=fun h=>HU2.out.step HH2.out.keys (by rw[R7,HL2.out];exact a1w _) (by omega) hk h
   rw[hkp] at hdone hstep;have HD:=a0z hdone;have HST:=a0z hstep;obtain⟨s,m,c,q,hm,hcl⟩:=HH2.out.less (by rw[HL2.out];exact hn);have HCL:=a0z (hcl k p (by rw[HL2.out];exact hk) (by rw[HL2.out];omega));have hme:=Yf wr B s m c q;clear hdone hstep hcl hk1 hp hkp hm;go_wp2_with (fail);(with_reducible refine HCL.out.mono ?_);rintro e w2 ⟨b,rfl,hb1,hb2,hf2⟩;have HB1:=a0z hb1;have HB2:=a0z hb2;have HH3:=a0z (HH2.out.fp hf2);have HT3:Hid (Tf base [331] [] W w2):=HT2.out.trans (Tf.of hf2) (by simp);clear hb1 hb2 hf2 hme q;cases b
   ·go_wp2_with (fail);go_end0;refine⟨rfl,es2,HP.out,?_,HH3.out,HT3.out⟩;rw[HL2.out];exact HD.out (by first|exact HB2.out rfl|exact HB2.out trivial)
   ·obtain⟨s3,m3,c3,q3,hm3,hsw⟩:=HH3.out.swap (by rw[HL2.out];omega);have HSW:=a0z (hsw p k (by rw[HL2.out];omega) (by rw[HL2.out];exact hk));have hme:=Yg w2 B s3 m3 c3 q3;clear hsw hm3;go_wp2_with (fail);(with_reducible refine HSW.out.mono ?_);rintro e w3 ⟨rfl,hh4,ht4⟩;have HH4:=a0z hh4;have HT4:Hid (Tf base [331] [] W w3):=HT3.out.trans ht4 (by simp);clear hh4 ht4 hme q3;go_wp2_with (fail)
    go_roundg p
    case measure=>have:=HGG.out;omega
    case rel=>
     refine⟨p,_,rfl,rfl,by omega,(Vd (by rw[HL2.out];omega) (by rw[HL2.out];exact hk)).trans HP.out,?_,HH4.out,HT4.out⟩;rw[Yh];exact HST.out (by first|exact HB1.out rfl|exact HB1.out trivial)
theorem tG(W:World)(base B:Nat)(es:List Ei)(n:Nat)(h:Dm W base B es)(hnl:n≤es.length)(hdn:Lu (B4 es) n 0)(hn:es.length≤1000000):
  Calls Tryz.prog 293 #[.iface 323 (.pointer (some ⟨B,0,none⟩)),.int .i64 0,.int .i64 n] W fun e W'=>(∃b,e=.returned (.bool b))∧∃es',es'.Perm es∧(∀i,n≤i→es'.getD i Jg=es.getD i Jg)∧Gm (B4 es') n∧Dm W' base B es'∧Tf base [331] [] W W':=by
 have HH:=a0z h;have HU:=a0z hdn
 obtain⟨N,hln⟩:∃N,es.length=N:=⟨_,rfl⟩
 rw[hln] at hnl hn;have HL:=a0z hln;clear h hdn hln;go_enter Tryz.func293,Tryz.ntmps293;go_wp2_with (fail)
 go_loopg [7] n (fun gg vi wr=>∃(i:Nat) (es':List Ei),vi=.int .i64 i∧gg=n-i∧i≤n∧es'.Perm es∧(∀i,n≤i→es'.getD i Jg=es.getD i Jg)∧Lu (B4 es') n i∧Dm wr base B es'∧Tf base [331] [] W wr)
 case atStart=>exact⟨0,es,rfl,rfl,Nat.zero_le _,List.Perm.refl _,fun _ _=>rfl,HU.out,HH.out,Tf.refl _⟩
 case round=>
  obtain⟨i,es2,rfl,hgg,hin,hp,ho,hu,hh,ht⟩:=hrel;have HP:=a0z hp;have HOUT:=a0z ho;have HU2:=a0z hu;have HH2:=a0z hh;have HT2:=a0z ht;have HGG:=a0z hgg;have HL2:Hid (es2.length=N):=hp.length_eq.trans HL.out;clear hp ho hu hh ht hgg
  have n1:IntKind.i64.wrap (2*(i:Int))=((2*i:Nat):Int):=by rw[a0w];omega
  have n2:IntKind.i64.wrap (((2*i:Nat):Int)+1)=((2*i+1:Nat):Int):=by rw[a0w];omega
  obtain⟨d,hd⟩:∃d,2*i=d:=⟨_,rfl⟩
  rw[hd] at n1 n2
  obtain⟨j1,hj1⟩:∃j1,d+1=j1:=⟨_,rfl⟩
  rw[hj1] at n2
  have HJ1:Hid (j1=2*i+1):=by show j1=2*i+1;omega
  clear hd hj1
  by_cases hjn:j1<n
  ·have z1:¬(n:Int)≤(j1:Int):=by omega
   have z2:¬(j1:Int)<0:=by omega
   have n3:IntKind.i64.wrap ((j1:Int)+1)=((j1+1:Nat):Int):=by rw[a0w];omega
   obtain⟨j2,hj2⟩:∃j2,j1+1=j2:=⟨_,rfl⟩
   rw[hj2] at n3;have HJ2:=a0z hj2;clear hj2
   have hj2n:j2<n→j2<N:=fun h=>by omega
   go_upto_region 6 with(fail)
   go_cut [33] from 12 to 44 (fun v wx=>∃bb:Bool,v=.bool bb∧(bb=true→j2<n∧A7 (Ag (B4 es2) j2) (Ag (B4 es2) j1))∧(bb=false→n≤j2∨A7 (Ag (B4 es2) j1) (Ag (B4 es2) j2))∧Dm wx base B es2∧Tf base [331] [] W wx)
   case first=>
    by_cases hb:j2<n
    ·have z3:(j2:Int)<(n:Int):=by omega
     obtain⟨s,m,c,q,hm,hcl⟩:=HH2.out.less (by rw[HL2.out];exact hn);have HCL:=a0z (hcl j2 j1 (by rw[HL2.out];omega) (by rw[HL2.out];omega));have hme:=Yf wr B s m c q;clear hcl hm;go_wp2_with (fail);(with_reducible refine HCL.out.mono ?_);rintro e w2 ⟨b,rfl,hb1,hb2,hf2⟩;have HB1:=a0z hb1;have HB2:=a0z hb2;have HH3:=a0z (HH2.out.fp hf2);have HT3:Hid (Tf base [331] [] W w2):=HT2.out.trans (Tf.of hf2) (by simp);clear hb1 hb2 hf2 hme q;go_wp2_with (fail)
     go_meet
     case rel=>exact⟨b,rfl,fun h=>⟨hb,HB1.out h⟩,fun h=>Or.inr (HB2.out h),HH3.out,HT3.out⟩
    ·have z3:¬(j2:Int)<(n:Int):=by omega
     go_wp2_with (fail)
     go_meet
     case rel=>exact⟨false,rfl,(fun h=>by cases h),fun _=>Or.inl (by omega),HH2.out,HT2.out⟩
   case rest=>
    obtain⟨bb,rfl,hb1,hb2,hh3,ht3⟩:=hcut;have HB1:=a0z hb1;have HB2:=a0z hb2;have HH3:=a0z hh3;have HT3:=a0z ht3;clear hb1 hb2 hh3 ht3 hj2n
    obtain⟨wA,hwA⟩:∃x,x=wc:=⟨_,rfl⟩
    subst hwA
    go_upto_if 33 with(fail)
    go_cut [9] from 12 to 44 (fun v wx=>∃j:Nat,v=.int .i64 j∧0<j∧j<n∧(j-1)/2=i∧(∀c,0<c→c<n→(c-1)/2=i→A7 (Ag (B4 es2) j) (Ag (B4 es2) c))∧wA=wx)
    case first=>
     cases bb
     ·have HMIN:Hid (∀c,0<c→c<n→(c-1)/2=i→A7 (Ag (B4 es2) j1) (Ag (B4 es2) c)):=by
       intro c h1 h2 h3;have h4:=HJ1.out;have h5:=HJ2.out
       by_cases e:c=j1
       ·rw[e];exact Int.le_of_eq (Vh (HH3.out.keys.at _))
       ·have e2:c=j2:=by omega
        rw[e2]
        rcases(by first|exact HB2.out rfl|exact HB2.out trivial:n≤j2∨A7 (Ag (B4 es2) j1) (Ag (B4 es2) j2)) with h|h
        ·omega
        ·exact h
      have HQ:Hid (0<j1∧(j1-1)/2=i):=by have h4:=HJ1.out;show 0<j1∧(j1-1)/2=i;omega
      go_wp2_with (fail)
      go_meet
      case rel=>exact⟨j1,rfl,HQ.out.1,hjn,HQ.out.2,HMIN.out,rfl⟩
     ·have hb:=(by first|exact HB1.out rfl|exact HB1.out trivial:j2<n∧A7 (Ag (B4 es2) j2) (Ag (B4 es2) j1))
      have HB:=a0z hb;clear hb
      have HMIN:Hid (∀c,0<c→c<n→(c-1)/2=i→A7 (Ag (B4 es2) j2) (Ag (B4 es2) c)):=by
       intro c h1 h2 h3;have h4:=HJ1.out;have h5:=HJ2.out
       by_cases e:c=j1
       ·rw[e];exact HB.out.2
       ·have e2:c=j2:=by omega
        rw[e2];exact Int.le_of_eq (Vh (HH3.out.keys.at _))
      have HQ:Hid (0<j2∧(j2-1)/2=i):=by have h4:=HJ1.out;have h5:=HJ2.out;show 0<j2∧(j2-1)/2=i;omega
      go_wp2_with (fail)
      go_meet
      case rel=>exact⟨j2,rfl,HQ.out.1,HB.out.1,HQ.out.2,HMIN.out,rfl⟩
    case rest=>
     obtain⟨j,rfl,hj0,hjn2,hjp,hmin,rfl⟩:=hcut;have HMIN:=a0z hmin;have HJP:=a0z hjp;clear hmin hjp
     have hij:i<j:=by have:=HJP.out;omega
     obtain⟨s,m,c,q,hm,hcl⟩:=HH3.out.less (by rw[HL2.out];exact hn);have HCL:=a0z (hcl j i (by rw[HL2.out];omega) (by rw[HL2.out];omega));have hme:=Yf wA B s m c q;clear hcl hm;go_wp2_with (fail);(with_reducible refine HCL.out.mono ?_);rintro e w2 ⟨b,rfl,hb1,hb2,hf2⟩;have HC1:=a0z hb1;have HC2:=a0z hb2;have HH4:=a0z (HH3.out.fp hf2);have HT4:Hid (Tf base [331] [] W w2):=HT3.out.trans (Tf.of hf2) (by simp);clear hb1 hb2 hf2 hme q;cases b
     ·go_wp2_with (fail);go_ret;refine⟨⟨_,rfl⟩,es2,HP.out,HOUT.out,HU2.out.done fun c h1 h2 h3=>?_,HH4.out,HT4.out⟩
      have h5:A7 (Ag (B4 es2) i) (Ag (B4 es2) j):=by first|exact HC2.out rfl|exact HC2.out trivial
      exact A7.trans (HH4.out.keys.at _) (HH4.out.keys.at _) (HH4.out.keys.at _) h5 (HMIN.out c h1 h2 h3)
     ·have HLT:Hid (A7 (Ag (B4 es2) j) (Ag (B4 es2) i)):=by first|exact HC1.out rfl|exact HC1.out trivial
      have HSTEP:Hid (Lu (I1 (B4 es2) i j) n j):=HU2.out.step (by rw[R7,HL2.out];exact hnl) hj0 hjn2 HJP.out HMIN.out HLT.out;obtain⟨s3,m3,c3,q3,hm3,hsw⟩:=HH4.out.swap (by rw[HL2.out];omega);have HSW:=a0z (hsw i j (by rw[HL2.out];omega) (by rw[HL2.out];omega));have hme:=Yg w2 B s3 m3 c3 q3;clear hsw hm3;go_wp2_with (fail);(with_reducible refine HSW.out.mono ?_);rintro e w3 ⟨rfl,hh5,ht5⟩;have HH5:=a0z hh5;have HT5:Hid (Tf base [331] [] W w3):=HT4.out.trans ht5 (by simp);clear hh5 ht5 hme q3;go_wp2_with (fail)
      go_roundg (n-j)
      case measure=>have:=HGG.out;omega
      case rel=>
       refine⟨j,_,rfl,rfl,by omega,(Vd (by rw[HL2.out];omega) (by rw[HL2.out];omega)).trans HP.out,fun k hk=>?_,?_,HH5.out,HT5.out⟩
       ·rw[tE (by omega) (by omega)];exact HOUT.out k hk
       ·rw[Yh];exact HSTEP.out
  ·have z1:(n:Int)≤(j1:Int):=by omega
   go_wp2_with (fail);go_ret;refine⟨⟨_,rfl⟩,es2,HP.out,HOUT.out,HU2.out.done fun c h1 h2 h3=>?_,HH2.out,HT2.out⟩;have:=HJ1.out;omega
end
section
open Go.RowKit Go.Lib
theorem Dm.noB{W:World}{base B:Nat}{es:List Ei}(h:Dm W base B es){q:Nat}{r:List Ad}(hq:Ib W base q r):q≠B:=by
 intro e;subst e;obtain⟨v,h1,_⟩:=h.box;obtain⟨b,o,n,cap,h2,_⟩:=hq.ex;rw[h1] at h2;cases h2
theorem Dm.tf{W W':World}{base base' B:Nat}{D:List TypeId}{S:List Nat}{es:List Ei}(h:Dm W base B es)(ht:Tf base' D S W W')(hb:base≤base')(h1:331∉D)(h2:325∉D)(h3:329∉D)
  (hS:∀k∈S,base≤k∧k≠B∧(∀x∈es,k≠x.1.q)∧∀c fz,W.heap[k]?≠some (.cells c 331 fz)):Dm W' base B es:=by
 obtain⟨v,hv1,hv2⟩:=h.box;refine⟨⟨v,ht.cells hv1 (fun hm=>(hS _ hm).2.1 rfl) h2,hv2.tf ht h1 fun k hk hm=>?_⟩,fun x hx=>⟨(h.qs x hx).1.tf ht hb h3 fun k hk=>⟨(hS k hk).1,(hS k hk).2.2.1 x hx⟩,(h.qs x hx).2⟩,h.ok,h.bb,h.nd⟩
 rcases hv2.2 with⟨rfl,_⟩|⟨g,cap,cur,rfl,_,hh,_⟩
 ·cases hk
 ·obtain rfl:g=k:=by simpa [Value.ownBlock] using hk
  exact(hS _ hm).2.2.2 _ _ hh
def Qg(x:Ei):Value:=.iface 331 (.agg #[.pointer (some ⟨x.1.q,0,none⟩),.int .i64 x.1.at_])
theorem fB(W:World)(base B:Nat)(es:List Ei)(x:Ei)(h:Dm W base B es)(ho:Gm (B4 es) es.length)(hq:Ib W base x.1.q x.2)(h0:0<x.2.length)(hok:Ci x.2)(hnew:x.1.q∉es.map (·.1.q))(hb:base≤W.heap.size)(hn:es.length≤999999):
  Calls Tryz.prog 270 #[.iface 323 (.pointer (some ⟨B,0,none⟩)),Qg x] W fun e W'=>e=.returned (.tuple #[])∧∃es',es'.Perm (x::es)∧Gm (B4 es') es'.length∧Dm W' base B es'∧Tf base [331] [B] W W':=by
 obtain⟨v,hv1,hv2⟩:=h.box;have HP:=a0z (sZ W base B v (es.map (·.1)) x.1 hv1 hv2 hb (by rw[a0u];omega));have HQ:=a0z hq;have HH:=a0z h;have HO:=a0z ho;have HNB:=a0z (h.noB hq);have HOK:=a0z hok;have HNEW:=a0z hnew;have hme:=tC W ⟨B,0,none⟩;clear hv1 hv2 h ho hq hok hnew;unfold Qg;go_enter Tryz.func270,Tryz.ntmps270;go_wp2_with (fail);(with_reducible refine HP.out.mono ?_);rintro e w1 ⟨rfl,⟨v1,hc1,ho1⟩,ht1⟩
 have hh1:Dm w1 base B (es++[x]):=by
  refine⟨⟨v1,hc1,by rw[a1x];exact ho1⟩,fun y hy=>?_,fun y hy=>?_,HH.out.bb,?_⟩
  ·rcases List.mem_append.1 hy with hy|hy
   ·have h1:=HH.out.qs y hy;refine⟨h1.1.tf ht1 (a1w _) (by decide) fun k hk=>?_,h1.2⟩;rw[List.mem_singleton.1 hk];exact⟨HH.out.bb,Ne.symm (HH.out.noB h1.1)⟩
   ·rw[List.mem_singleton.1 hy];refine⟨HQ.out.tf ht1 (a1w _) (by decide) fun k hk=>?_,h0⟩;rw[List.mem_singleton.1 hk];exact⟨HH.out.bb,Ne.symm HNB.out⟩
  ·rcases List.mem_append.1 hy with hy|hy
   ·exact HH.out.ok y hy
   ·rw[List.mem_singleton.1 hy];exact HOK.out
  ·rw[a1x,List.nodup_append];refine⟨HH.out.nd,by simp,fun a ha b hb e=>?_⟩;rw[List.map_cons,List.map_nil,List.mem_singleton] at hb;rw[e,hb] at ha;exact HNEW.out ha
 have hup:M8 (B4 (es++[x])) (es++[x]).length es.length:=by
  have h1:=HO.out;rw[←R7] at h1;have h2:=h1.push (E2 x);rw[R7] at h2;unfold B4 at h2 ⊢;rw[a1x,List.length_append];exact h2
 have HU:=a0z (tF w1 base B (es++[x]) es.length hh1 (by simp) hup (by simp;omega));obtain⟨va,vc,hva,-,-⟩:=ho1.len;subst hva
 have hlen:(es.map (·.1)++[x.1]).length=es.length+1:=by simp
 rw[hlen] at hc1;have q1:w1.cell? ⟨B,0,none⟩=some (.slice va (es.length+1) vc):=Aa hc1 0;have hme2:=eZ w1 B va (es.length+1) vc q1;have HT1:=a0z ht1
 obtain⟨n,hln⟩:∃n,es.length=n:=⟨_,rfl⟩
 rw[hln] at hme2 hn HU
 have n1:IntKind.i64.wrap (((n+1:Nat):Int)-1)=(n:Int):=by rw[a0w];omega
 obtain⟨m,hm⟩:∃m,n+1=m:=⟨_,rfl⟩
 rw[hm] at n1 hme2;have HLEN:=a0z (Y0 w1 va m vc);clear hc1 ho1 ht1 hh1 hup hme hlen q1 hm hln;go_wp2_with (fail);(with_reducible refine HLEN.out.mono ?_);rintro e w2 ⟨rfl,rfl⟩;go_wp2_with (fail);(with_reducible refine HU.out.mono ?_);rintro e w3 ⟨rfl,es',hp,hon,hh3,ht3⟩;have H1:=a0z hp;have H2:=a0z hon;have H3:=a0z hh3;have H4:=a0z (HT1.out.trans ht3 (by simp));clear hp hon hh3 ht3;go_wp2_with (fail);go_end0;exact⟨rfl,es',H1.out.trans (List.perm_append_singleton x es),H2.out,H3.out,H4.out⟩
theorem tH(W:World)(base B:Nat)(es:List Ei)(h:Dm W base B es)(ho:Gm (B4 es) es.length)(h0:0<es.length)(hn:es.length≤1000000):
  Calls Tryz.prog 272 #[.iface 323 (.pointer (some ⟨B,0,none⟩))] W fun e W'=>∃x es',e=.returned (Qg x)∧(x::es').Perm es∧Gm (B4 es') es'.length∧Dm W' base B es'∧Ib W' base x.1.q x.2∧(∀y∈es,A7 (E2 x) (E2 y))∧Tf base [331] [B] W W':=by
 have HH:=a0z h;have HO:=a0z ho
 obtain⟨n,hln⟩:∃n,es.length=n+1:=⟨es.length-1,by omega⟩
 have HLN:=a0z hln;obtain⟨s,m,c,q,hm,hsw⟩:=h.swap h0;have hme1:=eZ W B s m c q;have hme2:=Yg W B s m c q;have HLEN:=a0z (Y0 W s m c);have HSW:=a0z (hsw 0 n h0 (by omega));rw[hln] at hm hn
 have n1:IntKind.i64.wrap ((m:Int)-1)=(n:Int):=by rw[a0w];omega
 rw[show((0:Nat):Int)=0 from rfl] at HSW;clear h ho hln hsw hm h0;go_enter Tryz.func272,Tryz.ntmps272;go_wp2_with (fail);(with_reducible refine HLEN.out.mono ?_);rintro e w0 ⟨rfl,rfl⟩;go_wp2_with (fail);(with_reducible refine HSW.out.mono ?_);rintro e w1 ⟨rfl,hh1,ht1⟩
 have hl1:(Gj Jg es 0 n).length=n+1:=by rw[lN];exact HLN.out
 have hdn:Lu (B4 (Gj Jg es 0 n)) n 0:=by
  rw[Yh];have h1:=HO.out;rw[HLN.out] at h1;exact h1.pop (by rw[R7];exact HLN.out)
 have HDN:=a0z (tG w1 base B _ n hh1 (by omega) hdn (by omega));have HT1:=a0z ht1;have HL1:=a0z hl1;clear hh1 ht1 hl1 hdn hme1 hme2 q;go_wp2_with (fail);(with_reducible refine HDN.out.mono ?_);rintro e w2 ⟨⟨bz,rfl⟩,es2,hp2,hout2,hon2,hh2,ht2⟩;have hl2:es2.length=n+1:=hp2.length_eq.trans HL1.out
 have hx2:es2=es2.take n++[es2.getD n Jg]:=by
  rw[a0x,a0v (by omega)]
  show es2=es2.take n++[es2[n]]
  rw[List.take_append_getElem (by omega),show n+1=es2.length by omega,List.take_length]
 obtain⟨x,hx⟩:∃x,es2.getD n Jg=x:=⟨_,rfl⟩
 obtain⟨l2,hl⟩:∃l,es2.take n=l:=⟨_,rfl⟩
 have hon3:Gm (B4 l2) l2.length:=by
  have e1:l2.length=n:=by rw[←hl,List.length_take];omega
  rw[e1]
  refine hon2.frame fun i hi=>?_
  rw[Qf (by omega),Qf (by omega)];congr 1;subst hl;rw[List.getElem_take]
 rw[hx,hl] at hx2
 have hxe:x=es.getD 0 Jg:=by
  rw[←hx,hout2 n (a1w _)]
  by_cases e:n=0
  ·subst e;rw[aE]
  ·unfold Gj;rw[a0x,List.getElem?_set_self (by rw[List.length_set,HLN.out];omega)];rfl
 have hmin:∀y∈es,A7 (E2 x) (E2 y):=by
  intro y hy;obtain⟨i,hi,ei⟩:=List.mem_iff_getElem.1 hy;have h1:=Gm.root HH.out.keys HO.out i hi;rw[Qf hi,Qf (by have:=HLN.out;omega),ei] at h1;rw[hxe,a0x,a0v (by have:=HLN.out;omega)];exact h1
 have hpe:(x::l2).Perm es:=by
  have h1:es2.Perm es:=hp2.trans (Vd (by rw[HLN.out];omega) (by rw[HLN.out];omega));rw[hx2] at h1;exact(List.perm_append_singleton x l2).symm.trans h1
 obtain⟨v2,hv21,hv22⟩:=hh2.box;have hv23:=hv22;rw[hx2,a1x] at hv23;have HPOP:=a0z (tA w2 base B v2 (l2.map (·.1)) x.1 hv21 hv23 (by rw[a0u,←hl,List.length_take];omega));have hme:=tD w2 ⟨B,0,none⟩;have HH2:=a0z hh2;have HX2:=a0z hx2;have HON:=a0z hon3;have HMIN:=a0z hmin;have HPE:=a0z hpe;have HT2:=a0z (HT1.out.trans ht2 (by simp));clear hp2 hout2 hon2 hh2 ht2 hx hl hon3 hx2 hxe hmin hpe hv21 hv22 hv23 hl2;go_wp2_with (fail);(with_reducible refine HPOP.out.mono ?_);rintro e w3 ⟨rfl,⟨v3,hc3,ho3⟩,hf3⟩;have H1:=a0z hc3;have H2:=a0z ho3;have H3:=a0z hf3;clear hc3 ho3 hf3 hme;go_wp2_with (fail);go_ret;have ht3:Tf base [331] [B] w2 w3:=Tf.of H3.out
 have hmem:∀y,y∈l2∨y=x→y∈es2:=fun y hy=>by rw[HX2.out];rcases hy with h|h<;>simp[h]
 have hq:∀y,y∈l2∨y=x→Ib w3 base y.1.q y.2∧0<y.2.length:=fun y hy=>by
  have h1:=HH2.out.qs y (hmem y hy);refine⟨h1.1.tf ht3 (a1w _) (by decide) fun k hk=>?_,h1.2⟩;rw[List.mem_singleton.1 hk];exact⟨HH2.out.bb,Ne.symm (HH2.out.noB h1.1)⟩
 refine⟨x,l2,rfl,HPE.out,HON.out,⟨⟨v3,H1.out,H2.out⟩,fun y hy=>hq y (Or.inl hy),fun y hy=>HH2.out.ok y (hmem y (Or.inl hy)),HH2.out.bb,?_⟩,(hq x (Or.inr rfl)).1,HMIN.out,(HT2.out.mono (by simp)).trans ht3 (by simp)⟩;have:=HH2.out.nd;rw[HX2.out,a1x] at this;exact(List.nodup_append.1 this).1
end
section
open Go.RowKit Go.Lib
theorem tI(w:World)(a:Option Addr)(n cap:Nat)(l:List Ad)(hl:Bf Bz w a n l)(hnone:a=none→cap=0)(hok:Ci l)(hpos:(l.map (·.pos)).Nodup)(h0:¬l.length=0)(hn:n<20):
  Calls Tryz.prog 142 #[.slice a n cap] w fun e w'=>∃v' r,e=.returned v'∧B7 l r∧Ae Bz w' w.heap.size v' r∧Fp [] w w':=by
 have HLN:=a0z hl.len;have HCL:=a0z (iK w a n cap l hl hnone (by omega));have HOK:=a0z hok;have HPO:=a0z hpos;clear hl hnone hok hpos;go_enter Tryz.func142,Tryz.ntmps142;go_wp2_with (fail);(with_reducible refine HCL.out.mono ?_);rintro e w1 ⟨v1,rfl,ho1,hf1⟩;have HF1:=a0z hf1;have HO1:=a0z ho1;clear hf1 ho1;obtain⟨a1,c1,e1,-,-⟩:=HO1.out.len;subst e1;obtain⟨g,cap1,cur,e2,hg1,hh1,-⟩:=HO1.out.open (by omega);cases e2;have HSO:=a0z (wO w1 w.heap.size g l.length c1 l HO1.out HOK.out (by have:=HLN.out;omega))
 obtain⟨m,hm⟩:∃m,l.length=m:=⟨_,rfl⟩
 rw[hm] at HSO;rw[hm];have HM:=a0z hm;clear hm hh1;go_wp2_with (fail);(with_reducible refine HSO.out.mono ?_);rintro e w2 ⟨rfl,⟨l2,ht,hs,ho2⟩,hf2⟩;have hl2:=ht.len;have HRI:Hid (Qp l2):=Hq.rising (by rw[hl2,HM.out];exact hs) ((ht.perm.map _).nodup_iff.2 HPO.out);have HOK2:=a0z (ht.ok HOK.out);have HCO:=a0z (wW w2 w.heap.size (.slice (some ⟨g,0,none⟩) m c1) l2 ho2 (by have:=HM.out;have:=HLN.out;omega))
 have HRES:Hid (B7 l (Ko l2 l2.length)):=by
  have h:=vK HOK2.out HRI.out;exact⟨h.ris,fun x hx=>ht.perm.mem_iff.1 (h.sub x hx),fun x hx y hy hs=>h.last x hx y (ht.perm.mem_iff.2 hy) hs,fun y hy=>h.cov y (ht.perm.mem_iff.2 hy)⟩
 have HF2:=a0z (HF1.out.trans hf2 (by intro i hi;right;simp at hi;omega))
 have hm0:¬l2.length=0:=by rw[hl2,HM.out];have:=HM.out;omega
 clear ht hs ho2 hl2 hf2;go_wp2_with (fail);(with_reducible refine HCO.out.mono ?_);rintro e w3 ⟨⟨v3,rfl,ho3⟩,g3,hg3,hf3⟩
 have hg3':g3=g:=by
  rcases hg3 with h|h
  ·simpa [Value.ownBlock] using h.symm
  ·exact absurd h hm0
 subst hg3';have HF3:=a0z (HF2.out.trans hf3 (by intro i hi;right;simp at hi;omega));have HO3:=a0z ho3;clear hf3 ho3 hg3;go_wp2_with (fail);go_ret;exact⟨_,_,rfl,HRES.out,HO3.out,HF3.out⟩
end
section
open Go.RowKit Go.Lib
theorem Dx.next{l:List Ad}(h:Dx l){k:Nat}(hk:k+1<l.length):D6 (Ag l k) (Ag l (k+1))<0∧Bl (Ag l k) (Ag l (k+1))=false:=by
 have h1:=List.pairwise_iff_getElem.1 h k (k+1) (by omega) hk (by omega);rw[K4 (by omega),K4 hk];refine⟨?_,?_⟩
 ·rcases Qk l[k] l[k+1] with⟨_,h2⟩|⟨h2,_⟩<;>omega
 ·rw[Ym];omega
theorem tJ(w:World)(a:Option Addr)(n cap:Nat)(l:List Ad)(hl:Bf Bz w a n l)(hr:Dx l)(hok:Ci l)(hn:n≤1000000):
  Calls Tryz.prog 268 #[.slice a n cap] w fun e w'=>e=.returned (.bool true)∧Fp [] w w':=by
 have HL:=a0z hl;have HLN:=a0z hl.len;have HR:=a0z hr;have HCMP:=a0z Yv;have HSA:=a0z iD;clear hl hr;go_enter Tryz.func268,Tryz.ntmps268;go_wp2_with (fail)
 go_loopg [6] n (fun g vi wr=>∃k:Nat,g+k=n∧vi=.int .i64 k∧Fp [] w wr)
 case atStart=>exact⟨0,by omega,rfl,Fp.refl _ _⟩
 case round=>
  obtain⟨k,hg,rfl,hf⟩:=hrel;have HF:=a0z hf;clear hf
  by_cases hk:k<n
  ·have zk:(k:Int)<(n:Int):=by omega
   have n1:IntKind.i64.wrap ((k:Int)+1)=((k+1:Nat):Int):=by rw[a0w];omega
   by_cases hk0:k=0
   ·subst hk0;rw[show((0:Nat):Int)=0 from rfl];rw[show((0:Nat):Int)=0 from rfl] at zk;go_wp2_with (fail);refine Df (by kernel_rfl) (by kernel_rfl) ?_
    iterate 3
     apply A9 rfl rfl rfl
     ·intro a w hC hA K hK
      try have h3:=hA.fr 3 rfl
      try have h9:=hA.eq 0 9 rfl
      try have h10:=hA.eq 1 10 rfl
      simp only[Oper.wp,execOp];go_simp;exact hK _ hC (Fp.refl _ _)
    apply A1 2 11 rfl rfl rfl rfl (by kernel_rfl) rfl rfl;apply A1 2 11 rfl rfl rfl rfl (by kernel_rfl) rfl rfl;apply A1 2 11 rfl rfl rfl rfl (by kernel_rfl) rfl rfl;apply A1 2 11 rfl rfl rfl rfl (by kernel_rfl) rfl rfl;apply A1 2 11 rfl rfl rfl rfl (by kernel_rfl) rfl rfl;apply A1 2 11 rfl rfl rfl rfl (by kernel_rfl) rfl rfl;apply A1 2 11 rfl rfl rfl rfl (by kernel_rfl) rfl rfl;apply A1 2 11 rfl rfl rfl rfl (by kernel_rfl) rfl rfl;apply A1 2 11 rfl rfl rfl rfl (by kernel_rfl) rfl rfl;apply A1 2 11 rfl rfl rfl rfl (by kernel_rfl) rfl rfl;apply A1 2 11 rfl rfl rfl rfl (by kernel_rfl) rfl rfl;apply A1 2 11 rfl rfl rfl rfl (by kernel_rfl) rfl rfl;apply Gp 14 23 rfl rfl rfl rfl (by kernel_rfl) rfl;apply Gp 14 23 rfl rfl rfl rfl (by kernel_rfl) rfl;apply Gp 14 23 rfl rfl rfl rfl (by kernel_rfl) rfl;apply Gp 14 23 rfl rfl rfl rfl (by kernel_rfl) rfl;apply Gp 14 23 rfl rfl rfl rfl (by kernel_rfl) rfl;apply Gp 14 23 rfl rfl rfl rfl (by kernel_rfl) rfl;apply Gp 14 23 rfl rfl rfl rfl (by kernel_rfl) rfl;apply Gp 14 23 rfl rfl rfl rfl (by kernel_rfl) rfl;apply Gp 14 23 rfl rfl rfl rfl (by kernel_rfl) rfl;apply Gp 14 23 rfl rfl rfl rfl (by kernel_rfl) rfl;apply A1 2 11 rfl rfl rfl rfl (by kernel_rfl) rfl rfl;apply A9 rfl rfl rfl
    ·intro a w hC hA K hK;have h11:=hA.eq 2 11 rfl;have h34:=hA.eq 25 34 rfl;simp only[Oper.wp,execOp];go_simp;exact hK _ hC (Fp.refl _ _)
    refine⟨?_,?_⟩
    ·repeat(first|exact trivial|refine C3 _ ?_ |refine⟨fun w1 w2 v _ hf ⟨g,h1,h2⟩=>⟨g,h1,(hf.block g (Ab h2) (by simp)).trans h2⟩,?_⟩)
    ·intro w' hC;simp only[a2z,a2w,a2u,a2v]
     iterate 27 (refine Au ?_)
     refine A6 ?_;simp only[Am,Act.put,a1z,a1v,a1u];have HF3:=a0z (HF.out.trans hC (by simp));clear hC;go_wp2_with (fail)
     go_roundg (gk-1)
     case measure=>omega
     case rel=>exact⟨0+1,by omega,by simp,HF3.out⟩
   ·have zk0:0<k:=by omega
    have n2:IntKind.i64.wrap ((k:Int)-1)=((k-1:Nat):Int):=by rw[a0w];omega
    obtain⟨p,hp⟩:∃p,k-1=p:=⟨_,rfl⟩
    rw[hp] at n2
    have hkp:p+1=k:=by omega
    have zp:(p:Int)<(n:Int):=by omega
    have hkl:k<l.length:=by rw[←HLN.out];exact hk
    have hpl:p<l.length:=by omega
    obtain⟨b0,o0,e0,_,hck⟩:=HL.out.get hkl;obtain⟨b1,o1,e1,_,hcp⟩:=HL.out.get hpl;subst e0;cases e1;obtain⟨hc1,hs1⟩:=HR.out.next (k:=p) (by omega);rw[hkp] at hc1 hs1
    have hm1:D6 (Ag l p) (Ag l k)= -1:=by
     rcases vH (hok.at p) (hok.at k) with h|h|h<;>omega
    have HCK:Hid (∀w',Fp [] wr w'→Jl w' b0 (o0+k*7) (Ag l k)):=fun w' hf=>by
     rw[K4 hkl];exact S7 (hck w' (HF.out.trans hf (by simp)))
    have HCP:Hid (∀w',Fp [] wr w'→Jl w' b0 (o0+p*7) (Ag l p)):=fun w' hf=>by
     rw[K4 hpl];exact S7 (hcp w' (HF.out.trans hf (by simp)))
    have HC1:=a0z (fun w=>HCMP.out (Ag l p) (Ag l k) w);have HC2:=a0z (fun w=>HSA.out (Ag l p) (Ag l k) w);rw[hs1] at HC2;rw[hm1] at HC1
    obtain⟨x,hx⟩:∃x,Ag l k=x:=⟨_,rfl⟩
    obtain⟨y,hy⟩:∃y,Ag l p=y:=⟨_,rfl⟩
    rw[hx] at HCK HC1 HC2;rw[hy] at HCP HC1 HC2;obtain⟨⟨xr,xc,xt,xs,xd,xv⟩,xp⟩:=x;obtain⟨⟨yr,yc,yt,ys,yd,yv⟩,yp⟩:=y;have HC1':Hid (∀w,Calls Tryz.prog 217 #[.agg #[.string yr,.string yc,.int .u64 yt,.int .u64 ys,.bool yd,.string yv,.int .i64 yp],.agg #[.string xr,.string xc,.int .u64 xt,.int .u64 xs,.bool xd,.string xv,.int .i64 xp]] w fun e w'=>e=.returned (.int .i64 (-1))∧Fp [] w w'):=HC1;have HC2':Hid (∀w,Calls Tryz.prog 219 #[.agg #[.string yr,.string yc,.int .u64 yt,.int .u64 ys,.bool yd,.string yv,.int .i64 yp],.agg #[.string xr,.string xc,.int .u64 xt,.int .u64 xs,.bool xd,.string xv,.int .i64 xp]] w fun e w'=>e=.returned (.bool false)∧Fp [] w w'):=HC2;clear hx hy hm1 hs1 hc1 hck hcp hp hkp HC1 HC2;go_wp2_with (fail);refine Df (by kernel_rfl) (by kernel_rfl) ?_
    iterate 27
     first|apply A9 rfl rfl rfl|apply Jj 2 11 rfl rfl rfl rfl (by kernel_rfl) rfl rfl|apply Jj 14 23 rfl rfl rfl rfl (by kernel_rfl) rfl rfl
     ·intro a w hC hA K hK
      try have h3:=hA.fr 3 rfl
      try have h9:=hA.eq 0 9 rfl
      try have h10:=hA.eq 1 10 rfl
      try have h0:=hA.fr 0 rfl
      try have h13:=hA.eq 4 13 rfl
      try have h12:=hA.eq 3 12 rfl
      try have h14:=hA.eq 5 14 rfl
      try have h15:=hA.eq 6 15 rfl
      try have h17:=hA.eq 8 17 rfl
      try have h18:=hA.eq 9 18 rfl
      try have h19:=hA.eq 10 19 rfl
      try have h16:=hA.eq 7 16 rfl
      try have h20:=hA.eq 11 20 rfl
      try have h21:=hA.eq 12 21 rfl
      try have h22:=hA.eq 13 22 rfl
      try have h25:=hA.eq 16 25 rfl
      try have h24:=hA.eq 15 24 rfl
      try have h26:=hA.eq 17 26 rfl
      try have h27:=hA.eq 18 27 rfl
      try have h29:=hA.eq 20 29 rfl
      try have h30:=hA.eq 21 30 rfl
      try have h31:=hA.eq 22 31 rfl
      try have h28:=hA.eq 19 28 rfl
      try have h32:=hA.eq 23 32 rfl
      try have h23:=hA.eq 14 23 rfl
      try have h33:=hA.eq 24 33 rfl
      try have h11:=hA.eq 2 11 rfl
      try have h34:=hA.eq 25 34 rfl
      obtain⟨a0,a1,a2,a3,a4,a5,a6⟩:=HCK.out _ hC;obtain⟨b0,b1,b2,b3,b4,b5,b6⟩:=HCP.out _ hC;simp only at a0 a1 a2 a3 a4 a5 a6 b0 b1 b2 b3 b4 b5 b6;simp only[Oper.wp,execOp];go_simp
      first
      |exact hK _ hC (Fp.refl _ _)
      |first
        |((with_reducible refine(HC1'.out _).mono ?_);rintro e w2 ⟨rfl,hf⟩;exact hK _ (hC.trans hf (by simp)) hf)
        |((with_reducible refine(HC2'.out _).mono ?_);rintro e w2 ⟨rfl,hf⟩;exact hK _ (hC.trans hf (by simp)) hf)
    refine⟨?_,?_⟩
    ·repeat(first|exact trivial|refine C3 _ ?_ |refine⟨fun w1 w2 v _ hf ⟨g,h1,h2⟩=>⟨g,h1,(hf.block g (Ab h2) (by simp)).trans h2⟩,?_⟩)
    ·intro w' hC;simp only[a2z,a2w,a2u,a2v]
     iterate 27 (refine Au ?_)
     refine A6 ?_;simp only[Am,Act.put,a1z,a1v,a1u];have HF3:=a0z (HF.out.trans hC (by simp));clear hC;go_wp2_with (fail)
     go_roundg (gk-1)
     case measure=>omega
     case rel=>exact⟨k+1,by omega,by simp,HF3.out⟩
  ·have zk:¬(k:Int)<(n:Int):=by omega
   go_wp2_with (fail);go_ret;exact⟨rfl,HF.out⟩
end
end Go.Proofs.YtkagolpnaicdoaaGreatDoor
