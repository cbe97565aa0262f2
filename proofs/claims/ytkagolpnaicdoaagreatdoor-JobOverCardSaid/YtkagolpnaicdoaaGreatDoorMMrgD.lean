/-
 container/heap over sources: up, down. container/heap over sources: Push, Pop. runs.Resolve .
-/
import Derived.Test.YtkagolpnaicdoaaGreatDoorMMrgA
import Derived.Deep.Cut
import Derived.Deep.CutRange
import Derived.Test.YtkagolpnaicdoaaGreatDoorMSortC
import Derived.Test.YtkagolpnaicdoaaGreatDoorMSortA
set_option maxRecDepth 100000
set_option maxHeartbeats 8000000
open Go.Lib renaming hid→a0z
open List renaming getD_eq_getElem?_getD→a0x,getElem?_eq_getElem→a0w,length_map→a0v,map_append→a1z,getElem?_map→a1w
open Go.IntKind renaming wrap_i64→a0u
open Nat renaming le_refl→a1x
namespace Go.Proofs.YtkagolpnaicdoaaGreatDoor
section
open Go.RowKit Go.Lib
theorem pW(w:World)(B:Nat)(n:String)(s:Option Addr)(m c:Nat)(h:w.cell? ⟨B,0,none⟩=some (.slice s m c)):(receiverAt 323 (.val (.pointer (some ⟨B,0,none⟩))) false (some n)).run Tryz.prog w=.ok (.slice s m c) w:=by
 rw[show(receiverAt 323 (.val (.pointer (some ⟨B,0,none⟩))) false (some n)).run Tryz.prog w=(loadVar 325 ⟨B,0,none⟩).run Tryz.prog w by kernel_rfl];go_simp
theorem Xc(K:FuncId)(nm:String)(h0:∀(f:Nat) (w:World) (a:Addr),(method (f+1) 323 (.pointer (some a)) nm).run Tryz.prog w=(do (pure (K,←receiverAt 323 (.val (.pointer (some a))) false (some nm))):Sem _).run Tryz.prog w)(F:Nat)(hF:0<F)(w:World)(B:Nat)(s:Option Addr)(m c:Nat)(h:w.cell? ⟨B,0,none⟩=some (.slice s m c)):(method F 323 (.pointer (some ⟨B,0,none⟩)) nm).run Tryz.prog w=.ok (K,.slice s m c) w:=by
 obtain⟨f,rfl⟩:∃f,F=f+1:=⟨F-1,by omega⟩
 rw[h0,Sem.run_bind,pW w B nm s m c h];rfl
theorem Xd(w:World)(B:Nat)(s:Option Addr)(m c:Nat)(h:w.cell? ⟨B,0,none⟩=some (.slice s m c))(F:Nat)(hF:0<F):(method F 323 (.pointer (some ⟨B,0,none⟩)) "Less").run Tryz.prog w=.ok (323,.slice s m c) w:=Xc _ _ (fun _ _ _=>by kernel_rfl) F hF w B s m c h
theorem cN(w:World)(B:Nat)(s:Option Addr)(m c:Nat)(h:w.cell? ⟨B,0,none⟩=some (.slice s m c))(F:Nat)(hF:0<F):(method F 323 (.pointer (some ⟨B,0,none⟩)) "Len").run Tryz.prog w=.ok (271,.slice s m c) w:=Xc _ _ (fun _ _ _=>by kernel_rfl) F hF w B s m c h
theorem Xe(w:World)(B:Nat)(s:Option Addr)(m c:Nat)(h:w.cell? ⟨B,0,none⟩=some (.slice s m c))(F:Nat)(hF:0<F):(method F 323 (.pointer (some ⟨B,0,none⟩)) "Swap").run Tryz.prog w=.ok (326,.slice s m c) w:=Xc _ _ (fun _ _ _=>by kernel_rfl) F hF w B s m c h
theorem pX(w:World)(a:Addr)(F:Nat)(hF:0<F):(method F 323 (.pointer (some a)) "Push").run Tryz.prog w=.ok (325,.pointer (some a)) w:=by
 obtain⟨f,rfl⟩:∃f,F=f+1:=⟨F-1,by omega⟩
 kernel_rfl
theorem pY(w:World)(a:Addr)(F:Nat)(hF:0<F):(method F 323 (.pointer (some a)) "Pop").run Tryz.prog w=.ok (324,.pointer (some a)) w:=by
 obtain⟨f,rfl⟩:∃f,F=f+1:=⟨F-1,by omega⟩
 kernel_rfl
def I3:Ea:=(Lx,[])
theorem cO{α β:Type}(f:α→β)(d:α)(l:List α)(i j:Nat):(F7 d l i j).map f=F7 (f d) (l.map f) i j:=by
 unfold F7;rw[List.map_set,List.map_set];congr 1
 ·congr 1;rw[a0x,a0x,a1w]
  cases l[j]?<;>rfl
 ·rw[a0x,a0x,a1w]
  cases l[i]?<;>rfl
theorem Uc{α:Type}{d:α}{l:List α}{i j:Nat}(hi:i<l.length)(hj:j<l.length):(F7 d l i j).Perm l:=by
 have h:=Array.swap_perm (xs:=l.toArray) (i:=i) (j:=j) (by simpa using hi) (by simpa using hj);have h2:=Array.perm_iff_toList_perm.1 h
 have e:(l.toArray.swap i j (by simpa using hi) (by simpa using hj)).toList=F7 d l i j:=by
  unfold F7;rw[a0x,a0x,a0w hi,a0w hj];simp[Array.swap]
 rw[e] at h2;exact h2
theorem pZ{α:Type}{d:α}{l:List α}{i j k:Nat}(hi:k≠i)(hj:k≠j):(F7 d l i j).getD k d=l.getD k d:=by
 unfold F7;rw[a0x,List.getElem?_set_ne (Ne.symm hj),List.getElem?_set_ne (Ne.symm hi),a0x]
def Bw(es:List Ea):List Ad:=es.map Es
theorem Xf(es:List Ea)(i j:Nat):Bw (F7 I3 es i j)=Im (Bw es) i j:=cO Es I3 es i j
theorem Pv{es:List Ea}{i:Nat}(hi:i<es.length):Ae (Bw es) i=Es es[i]:=by
 unfold Ae Bw;rw[a0x,a1w,a0w hi];rfl
theorem Q5(es:List Ea):(Bw es).length=es.length:=a0v ..
structure Dh(W:World)(base B:Nat)(es:List Ea):Prop where
 box:∃v,W.heap[B]?=some (.cells #[v] 325 (0,0))∧Ag G0 W base v (es.map (·.1))
 qs:∀x∈es,Ht W base x.1.q x.2∧0<x.2.length
 ok:∀x∈es,B8 x.2
 bb:base≤B
 nd:(es.map (·.1.q)).Nodup
theorem Dh.keys{W:World}{base B:Nat}{es:List Ea}(h:Dh W base B es):B8 (Bw es):=by
 intro k hk;obtain⟨x,hx,rfl⟩:=List.mem_map.1 hk;obtain⟨r,hr⟩:=Pq (h.qs x hx).2;have:=h.ok x hx;rw[hr] at this;exact this _ List.mem_cons_self
theorem Dh.fp{W W':World}{base B:Nat}{es:List Ea}(h:Dh W base B es)(hf:Fp [] W W'):Dh W' base B es:=by
 obtain⟨v,h1,h2⟩:=h.box;exact⟨⟨v,(hf.block _ (Ab h1) (by simp)).trans h1,h2.fp hf (by simp)⟩,fun x hx=>⟨(h.qs x hx).1.fp hf,(h.qs x hx).2⟩,h.ok,h.bb,h.nd⟩
theorem Tf.ofOwn{α:Type}{R:G3 α}{W W':World}{base g n cap:Nat}{D:List TypeId}{S:List Nat}{l:List α}(h:Ag R W base (.slice (some ⟨g,0,none⟩) n cap) l)(hf:Fp [g] W W')(hD:R.e∈D):Tf base D S W W':=by
 refine⟨hf.os,hf.tape,hf.output,hf.size,fun k h1 _ h2=>hf.block k h1 fun hm=>?_⟩;obtain rfl:=List.mem_singleton.1 hm
 rcases h.2 with⟨e,_⟩|⟨g',cap',cur,e,hg,hh,_⟩
 ·cases e
 ·cases e;exact h2 hg _ _ _ hh hD
theorem Dh.less{W:World}{base B:Nat}{es:List Ea}(h:Dh W base B es)(hn:es.length≤1000000):
  ∃s n c,W.cell? ⟨B,0,none⟩=some (.slice s n c)∧n=es.length∧∀i j,i<es.length→j<es.length→Calls Tryz.prog 323 #[.slice s n c,.int .i64 i,.int .i64 j] W fun e W'=>∃b,e=.returned (.bool b)∧(b=true→A7 (Ae (Bw es) i) (Ae (Bw es) j))∧(b=false→A7 (Ae (Bw es) j) (Ae (Bw es) i))∧Fp [] W W':=by
 obtain⟨v,h1,h2⟩:=h.box;obtain⟨s,c,rfl,-,-⟩:=h2.len;refine⟨s,_,c,Aa h1 0,by rw[a0v],fun i j hi hj=>?_⟩;rw[Pv hi,Pv hj];exact pS W base _ es i j h2 h.qs h.ok hi hj hn
theorem Dh.swap{W:World}{base B:Nat}{es:List Ea}(h:Dh W base B es)(h0:0<es.length):
  ∃s n c,W.cell? ⟨B,0,none⟩=some (.slice s n c)∧n=es.length∧∀i j,i<es.length→j<es.length→Calls Tryz.prog 326 #[.slice s n c,.int .i64 i,.int .i64 j] W fun e W'=>e=.returned (.tuple #[])∧Dh W' base B (F7 I3 es i j)∧Tf base [331] [] W W':=by
 obtain⟨v,h1,h2⟩:=h.box;obtain⟨g,cap,cur,rfl,hg,hh,-⟩:=h2.open (by rw[a0v];exact h0);refine⟨_,_,_,Aa h1 0,by rw[a0v],fun i j hi hj=>?_⟩;refine(pT W base g _ cap i j _ h2 (by rw[a0v];exact hi) (by rw[a0v];exact hj)).mono ?_;rintro e W' ⟨rfl,ho,hf⟩;have ht:Tf base [331] [] W W':=Tf.ofOwn h2 hf (by simp[G0]);have hp:(F7 I3 es i j).Perm es:=Uc hi hj;refine⟨rfl,⟨⟨_,ht.cells h1 (by simp) (by decide),by rw[cO (fun x:Ea=>x.1)];exact ho⟩,fun x hx=>?_,fun x hx=>h.ok x (hp.mem_iff.1 hx),h.bb,(hp.map _).nodup_iff.2 h.nd⟩,ht⟩;have h3:=h.qs x (hp.mem_iff.1 hx);exact⟨h3.1.tf ht (a1x _) (by decide) (by simp),h3.2⟩
theorem qA(W:World)(base B:Nat)(es:List Ea)(j:Nat)(h:Dh W base B es)(hj:j<es.length)(hup:Ls (Bw es) es.length j)(hn:es.length≤1000000):
  Calls Tryz.prog 292 #[.iface 323 (.pointer (some ⟨B,0,none⟩)),.int .i64 j] W fun e W'=>e=.returned (.tuple #[])∧∃es',es'.Perm es∧F9 (Bw es') es'.length∧Dh W' base B es'∧Tf base [331] [] W W':=by
 have HH:=a0z h;have HU:=a0z hup
 obtain⟨n,hln⟩:∃n,es.length=n:=⟨_,rfl⟩
 rw[hln] at HU hj hn;have HL:=a0z hln;clear h hup hln;go_enter Tryz.func292,Tryz.ntmps292;go_wp2_with (fail)
 go_loopg [1] j (fun gg vj wr=>∃(j:Nat) (es':List Ea),vj=.int .i64 j∧gg=j∧j<n∧es'.Perm es∧Ls (Bw es') n j∧Dh wr base B es'∧Tf base [331] [] W wr)
 case atStart=>exact⟨j,es,rfl,rfl,hj,List.Perm.refl _,HU.out,HH.out,Tf.refl _⟩
 case round=>
  obtain⟨k,es2,rfl,hgg,hk,hp,hu,hh,ht⟩:=hrel;have HP:=a0z hp;have HU2:=a0z hu;have HH2:=a0z hh;have HT2:=a0z ht;have HGG:=a0z hgg;have HL2:Hid (es2.length=n):=hp.length_eq.trans HL.out;clear hp hu hh ht hgg
  by_cases hk0:k=0
  ·subst hk0;rw[show((0:Nat):Int)=0 from rfl];go_wp2_with (fail);go_end0;refine⟨rfl,es2,HP.out,?_,HH2.out,HT2.out⟩;rw[HL2.out];exact HU2.out.done (Or.inl rfl)
  ·have n1:IntKind.i64.wrap ((k:Int)-1)=((k-1:Nat):Int):=by rw[a0u];omega
   obtain⟨k1,hk1⟩:∃k1,k-1=k1:=⟨_,rfl⟩
   obtain⟨p,hp⟩:∃p,k1/2=p:=⟨_,rfl⟩
   have e1:(k1:Int)/2=(p:Int):=by omega
   have hpk:p<k:=by omega
   have zp:((p:Int)==(k:Int))=false:=by simp;omega
   have zp2:¬(p:Int)=(k:Int):=by omega
   have hkp:(k-1)/2=p:=by omega
   rw[hk1] at n1
   have hdone:=fun h=>HU2.out.done (Or.inr h)
   have hstep:=fun h=>HU2.out.step HH2.out.keys (by rw[Q5,HL2.out];exact a1x _) (by omega) hk h
   rw[hkp] at hdone hstep;have HD:=a0z hdone;have HST:=a0z hstep;obtain⟨s,m,c,q,hm,hcl⟩:=HH2.out.less (by rw[HL2.out];exact hn);have HCL:=a0z (hcl k p (by rw[HL2.out];exact hk) (by rw[HL2.out];omega));have hme:=Xd wr B s m c q;clear hdone hstep hcl hk1 hp hkp hm;go_wp2_with (fail);(with_reducible refine HCL.out.mono ?_);rintro e w2 ⟨b,rfl,hb1,hb2,hf2⟩;have HB1:=a0z hb1;have HB2:=a0z hb2;have HH3:=a0z (HH2.out.fp hf2);have HT3:Hid (Tf base [331] [] W w2):=HT2.out.trans (Tf.of hf2) (by simp);clear hb1 hb2 hf2 hme q;cases b
   ·go_wp2_with (fail);go_end0;refine⟨rfl,es2,HP.out,?_,HH3.out,HT3.out⟩;rw[HL2.out];exact HD.out (by first|exact HB2.out rfl|exact HB2.out trivial)
   ·obtain⟨s3,m3,c3,q3,hm3,hsw⟩:=HH3.out.swap (by rw[HL2.out];omega);have HSW:=a0z (hsw p k (by rw[HL2.out];omega) (by rw[HL2.out];exact hk));have hme:=Xe w2 B s3 m3 c3 q3;clear hsw hm3;go_wp2_with (fail);(with_reducible refine HSW.out.mono ?_);rintro e w3 ⟨rfl,hh4,ht4⟩;have HH4:=a0z hh4;have HT4:Hid (Tf base [331] [] W w3):=HT3.out.trans ht4 (by simp);clear hh4 ht4 hme q3;go_wp2_with (fail)
    go_roundg p
    case measure=>have:=HGG.out;omega
    case rel=>
     refine⟨p,_,rfl,rfl,by omega,(Uc (by rw[HL2.out];omega) (by rw[HL2.out];exact hk)).trans HP.out,?_,HH4.out,HT4.out⟩;rw[Xf];exact HST.out (by first|exact HB1.out rfl|exact HB1.out trivial)
theorem qB(W:World)(base B:Nat)(es:List Ea)(n:Nat)(h:Dh W base B es)(hnl:n≤es.length)(hdn:K5 (Bw es) n 0)(hn:es.length≤1000000):
  Calls Tryz.prog 293 #[.iface 323 (.pointer (some ⟨B,0,none⟩)),.int .i64 0,.int .i64 n] W fun e W'=>(∃b,e=.returned (.bool b))∧∃es',es'.Perm es∧(∀i,n≤i→es'.getD i I3=es.getD i I3)∧F9 (Bw es') n∧Dh W' base B es'∧Tf base [331] [] W W':=by
 have HH:=a0z h;have HU:=a0z hdn
 obtain⟨N,hln⟩:∃N,es.length=N:=⟨_,rfl⟩
 rw[hln] at hnl hn;have HL:=a0z hln;clear h hdn hln;go_enter Tryz.func293,Tryz.ntmps293;go_wp2_with (fail)
 go_loopg [7] n (fun gg vi wr=>∃(i:Nat) (es':List Ea),vi=.int .i64 i∧gg=n-i∧i≤n∧es'.Perm es∧(∀i,n≤i→es'.getD i I3=es.getD i I3)∧K5 (Bw es') n i∧Dh wr base B es'∧Tf base [331] [] W wr)
 case atStart=>exact⟨0,es,rfl,rfl,Nat.zero_le _,List.Perm.refl _,fun _ _=>rfl,HU.out,HH.out,Tf.refl _⟩
 case round=>
  obtain⟨i,es2,rfl,hgg,hin,hp,ho,hu,hh,ht⟩:=hrel;have HP:=a0z hp;have HOUT:=a0z ho;have HU2:=a0z hu;have HH2:=a0z hh;have HT2:=a0z ht;have HGG:=a0z hgg;have HL2:Hid (es2.length=N):=hp.length_eq.trans HL.out;clear hp ho hu hh ht hgg
  have n1:IntKind.i64.wrap (2*(i:Int))=((2*i:Nat):Int):=by rw[a0u];omega
  have n2:IntKind.i64.wrap (((2*i:Nat):Int)+1)=((2*i+1:Nat):Int):=by rw[a0u];omega
  obtain⟨d,hd⟩:∃d,2*i=d:=⟨_,rfl⟩
  rw[hd] at n1 n2
  obtain⟨j1,hj1⟩:∃j1,d+1=j1:=⟨_,rfl⟩
  rw[hj1] at n2
  have HJ1:Hid (j1=2*i+1):=by show j1=2*i+1;omega
  clear hd hj1
  by_cases hjn:j1<n
  ·have z1:¬(n:Int)≤(j1:Int):=by omega
   have z2:¬(j1:Int)<0:=by omega
   have n3:IntKind.i64.wrap ((j1:Int)+1)=((j1+1:Nat):Int):=by rw[a0u];omega
   obtain⟨j2,hj2⟩:∃j2,j1+1=j2:=⟨_,rfl⟩
   rw[hj2] at n3;have HJ2:=a0z hj2;clear hj2
   have hj2n:j2<n→j2<N:=fun h=>by omega
   go_upto_region 6 with(fail)
   go_cut [33] from 12 to 44 (fun v wx=>∃bb:Bool,v=.bool bb∧(bb=true→j2<n∧A7 (Ae (Bw es2) j2) (Ae (Bw es2) j1))∧(bb=false→n≤j2∨A7 (Ae (Bw es2) j1) (Ae (Bw es2) j2))∧Dh wx base B es2∧Tf base [331] [] W wx)
   case first=>
    by_cases hb:j2<n
    ·have z3:(j2:Int)<(n:Int):=by omega
     obtain⟨s,m,c,q,hm,hcl⟩:=HH2.out.less (by rw[HL2.out];exact hn);have HCL:=a0z (hcl j2 j1 (by rw[HL2.out];omega) (by rw[HL2.out];omega));have hme:=Xd wr B s m c q;clear hcl hm;go_wp2_with (fail);(with_reducible refine HCL.out.mono ?_);rintro e w2 ⟨b,rfl,hb1,hb2,hf2⟩;have HB1:=a0z hb1;have HB2:=a0z hb2;have HH3:=a0z (HH2.out.fp hf2);have HT3:Hid (Tf base [331] [] W w2):=HT2.out.trans (Tf.of hf2) (by simp);clear hb1 hb2 hf2 hme q;go_wp2_with (fail)
     go_meet
     case rel=>exact⟨b,rfl,fun h=>⟨hb,HB1.out h⟩,fun h=>Or.inr (HB2.out h),HH3.out,HT3.out⟩
    ·have z3:¬(j2:Int)<(n:Int):=by omega
     go_wp2_with (fail)
     go_meet
     case rel=>exact⟨false,rfl,(fun h=>by cases h),fun _=>Or.inl (by omega),HH2.out,HT2.out⟩
   case rest=>
    obtain⟨bb,rfl,hb1,hb2,hh3,ht3⟩:=hcut;have HB1:=a0z hb1;have HB2:=a0z hb2;have HH3:=a0z hh3;have HT3:=a0z ht3;clear hb1 hb2 hh3 ht3 hj2n
    obtain⟨wA,hwA⟩:∃x,x=wc:=⟨_,rfl⟩
    subst hwA
    go_upto_if 33 with(fail)
    go_cut [9] from 12 to 44 (fun v wx=>∃j:Nat,v=.int .i64 j∧0<j∧j<n∧(j-1)/2=i∧(∀c,0<c→c<n→(c-1)/2=i→A7 (Ae (Bw es2) j) (Ae (Bw es2) c))∧wA=wx)
    case first=>
     cases bb
     ·have HMIN:Hid (∀c,0<c→c<n→(c-1)/2=i→A7 (Ae (Bw es2) j1) (Ae (Bw es2) c)):=by
       intro c h1 h2 h3;have h4:=HJ1.out;have h5:=HJ2.out
       by_cases e:c=j1
       ·rw[e];exact Int.le_of_eq (Ta (HH3.out.keys.at _))
       ·have e2:c=j2:=by omega
        rw[e2]
        rcases(by first|exact HB2.out rfl|exact HB2.out trivial:n≤j2∨A7 (Ae (Bw es2) j1) (Ae (Bw es2) j2)) with h|h
        ·omega
        ·exact h
      have HQ:Hid (0<j1∧(j1-1)/2=i):=by have h4:=HJ1.out;show 0<j1∧(j1-1)/2=i;omega
      go_wp2_with (fail)
      go_meet
      case rel=>exact⟨j1,rfl,HQ.out.1,hjn,HQ.out.2,HMIN.out,rfl⟩
     ·have hb:=(by first|exact HB1.out rfl|exact HB1.out trivial:j2<n∧A7 (Ae (Bw es2) j2) (Ae (Bw es2) j1))
      have HB:=a0z hb;clear hb
      have HMIN:Hid (∀c,0<c→c<n→(c-1)/2=i→A7 (Ae (Bw es2) j2) (Ae (Bw es2) c)):=by
       intro c h1 h2 h3;have h4:=HJ1.out;have h5:=HJ2.out
       by_cases e:c=j1
       ·rw[e];exact HB.out.2
       ·have e2:c=j2:=by omega
        rw[e2];exact Int.le_of_eq (Ta (HH3.out.keys.at _))
      have HQ:Hid (0<j2∧(j2-1)/2=i):=by have h4:=HJ1.out;have h5:=HJ2.out;show 0<j2∧(j2-1)/2=i;omega
      go_wp2_with (fail)
      go_meet
      case rel=>exact⟨j2,rfl,HQ.out.1,HB.out.1,HQ.out.2,HMIN.out,rfl⟩
    case rest=>
     obtain⟨j,rfl,hj0,hjn2,hjp,hmin,rfl⟩:=hcut;have HMIN:=a0z hmin;have HJP:=a0z hjp;clear hmin hjp
     have hij:i<j:=by have:=HJP.out;omega
     obtain⟨s,m,c,q,hm,hcl⟩:=HH3.out.less (by rw[HL2.out];exact hn);have HCL:=a0z (hcl j i (by rw[HL2.out];omega) (by rw[HL2.out];omega));have hme:=Xd wA B s m c q;clear hcl hm;go_wp2_with (fail);(with_reducible refine HCL.out.mono ?_);rintro e w2 ⟨b,rfl,hb1,hb2,hf2⟩;have HC1:=a0z hb1;have HC2:=a0z hb2;have HH4:=a0z (HH3.out.fp hf2);have HT4:Hid (Tf base [331] [] W w2):=HT3.out.trans (Tf.of hf2) (by simp);clear hb1 hb2 hf2 hme q;cases b
     ·go_wp2_with (fail);go_ret;refine⟨⟨_,rfl⟩,es2,HP.out,HOUT.out,HU2.out.done fun c h1 h2 h3=>?_,HH4.out,HT4.out⟩
      have h5:A7 (Ae (Bw es2) i) (Ae (Bw es2) j):=by first|exact HC2.out rfl|exact HC2.out trivial
      exact A7.trans (HH4.out.keys.at _) (HH4.out.keys.at _) (HH4.out.keys.at _) h5 (HMIN.out c h1 h2 h3)
     ·have HLT:Hid (A7 (Ae (Bw es2) j) (Ae (Bw es2) i)):=by first|exact HC1.out rfl|exact HC1.out trivial
      have HSTEP:Hid (K5 (Im (Bw es2) i j) n j):=HU2.out.step (by rw[Q5,HL2.out];exact hnl) hj0 hjn2 HJP.out HMIN.out HLT.out;obtain⟨s3,m3,c3,q3,hm3,hsw⟩:=HH4.out.swap (by rw[HL2.out];omega);have HSW:=a0z (hsw i j (by rw[HL2.out];omega) (by rw[HL2.out];omega));have hme:=Xe w2 B s3 m3 c3 q3;clear hsw hm3;go_wp2_with (fail);(with_reducible refine HSW.out.mono ?_);rintro e w3 ⟨rfl,hh5,ht5⟩;have HH5:=a0z hh5;have HT5:Hid (Tf base [331] [] W w3):=HT4.out.trans ht5 (by simp);clear hh5 ht5 hme q3;go_wp2_with (fail)
      go_roundg (n-j)
      case measure=>have:=HGG.out;omega
      case rel=>
       refine⟨j,_,rfl,rfl,by omega,(Uc (by rw[HL2.out];omega) (by rw[HL2.out];omega)).trans HP.out,fun k hk=>?_,?_,HH5.out,HT5.out⟩
       ·rw[pZ (by omega) (by omega)];exact HOUT.out k hk
       ·rw[Xf];exact HSTEP.out
  ·have z1:(n:Int)≤(j1:Int):=by omega
   go_wp2_with (fail);go_ret;refine⟨⟨_,rfl⟩,es2,HP.out,HOUT.out,HU2.out.done fun c h1 h2 h3=>?_,HH2.out,HT2.out⟩;have:=HJ1.out;omega
end
section
open Go.RowKit Go.Lib
theorem Dh.noB{W:World}{base B:Nat}{es:List Ea}(h:Dh W base B es){q:Nat}{r:List Ad}(hq:Ht W base q r):q≠B:=by
 intro e;subst e;obtain⟨v,h1,_⟩:=h.box;obtain⟨b,o,n,cap,h2,_⟩:=hq.ex;rw[h1] at h2;cases h2
theorem Dh.tf{W W':World}{base base' B:Nat}{D:List TypeId}{S:List Nat}{es:List Ea}(h:Dh W base B es)(ht:Tf base' D S W W')(hb:base≤base')(h1:331∉D)(h2:325∉D)(h3:329∉D)
  (hS:∀k∈S,base≤k∧k≠B∧(∀x∈es,k≠x.1.q)∧∀c fz,W.heap[k]?≠some (.cells c 331 fz)):Dh W' base B es:=by
 obtain⟨v,hv1,hv2⟩:=h.box;refine⟨⟨v,ht.cells hv1 (fun hm=>(hS _ hm).2.1 rfl) h2,hv2.tf ht h1 fun k hk hm=>?_⟩,fun x hx=>⟨(h.qs x hx).1.tf ht hb h3 fun k hk=>⟨(hS k hk).1,(hS k hk).2.2.1 x hx⟩,(h.qs x hx).2⟩,h.ok,h.bb,h.nd⟩
 rcases hv2.2 with⟨rfl,_⟩|⟨g,cap,cur,rfl,_,hh,_⟩
 ·cases hk
 ·obtain rfl:g=k:=by simpa [Value.ownBlock] using hk
  exact(hS _ hm).2.2.2 _ _ hh
def Px(x:Ea):Value:=.iface 331 (.agg #[.pointer (some ⟨x.1.q,0,none⟩),.int .i64 x.1.at_])
theorem cP(W:World)(base B:Nat)(es:List Ea)(x:Ea)(h:Dh W base B es)(ho:F9 (Bw es) es.length)(hq:Ht W base x.1.q x.2)(h0:0<x.2.length)(hok:B8 x.2)(hnew:x.1.q∉es.map (·.1.q))(hb:base≤W.heap.size)(hn:es.length≤999999):
  Calls Tryz.prog 270 #[.iface 323 (.pointer (some ⟨B,0,none⟩)),Px x] W fun e W'=>e=.returned (.tuple #[])∧∃es',es'.Perm (x::es)∧F9 (Bw es') es'.length∧Dh W' base B es'∧Tf base [331] [B] W W':=by
 obtain⟨v,hv1,hv2⟩:=h.box;have HP:=a0z (pU W base B v (es.map (·.1)) x.1 hv1 hv2 hb (by rw[a0v];omega));have HQ:=a0z hq;have HH:=a0z h;have HO:=a0z ho;have HNB:=a0z (h.noB hq);have HOK:=a0z hok;have HNEW:=a0z hnew;have hme:=pX W ⟨B,0,none⟩;clear hv1 hv2 h ho hq hok hnew;unfold Px;go_enter Tryz.func270,Tryz.ntmps270;go_wp2_with (fail);(with_reducible refine HP.out.mono ?_);rintro e w1 ⟨rfl,⟨v1,hc1,ho1⟩,ht1⟩
 have hh1:Dh w1 base B (es++[x]):=by
  refine⟨⟨v1,hc1,by rw[a1z];exact ho1⟩,fun y hy=>?_,fun y hy=>?_,HH.out.bb,?_⟩
  ·rcases List.mem_append.1 hy with hy|hy
   ·have h1:=HH.out.qs y hy;refine⟨h1.1.tf ht1 (a1x _) (by decide) fun k hk=>?_,h1.2⟩;rw[List.mem_singleton.1 hk];exact⟨HH.out.bb,Ne.symm (HH.out.noB h1.1)⟩
   ·rw[List.mem_singleton.1 hy];refine⟨HQ.out.tf ht1 (a1x _) (by decide) fun k hk=>?_,h0⟩;rw[List.mem_singleton.1 hk];exact⟨HH.out.bb,Ne.symm HNB.out⟩
  ·rcases List.mem_append.1 hy with hy|hy
   ·exact HH.out.ok y hy
   ·rw[List.mem_singleton.1 hy];exact HOK.out
  ·rw[a1z,List.nodup_append];refine⟨HH.out.nd,by simp,fun a ha b hb e=>?_⟩;rw[List.map_cons,List.map_nil,List.mem_singleton] at hb;rw[e,hb] at ha;exact HNEW.out ha
 have hup:Ls (Bw (es++[x])) (es++[x]).length es.length:=by
  have h1:=HO.out;rw[←Q5] at h1;have h2:=h1.push (Es x);rw[Q5] at h2;unfold Bw at h2 ⊢;rw[a1z,List.length_append];exact h2
 have HU:=a0z (qA w1 base B (es++[x]) es.length hh1 (by simp) hup (by simp;omega));obtain⟨va,vc,hva,-,-⟩:=ho1.len;subst hva
 have hlen:(es.map (·.1)++[x.1]).length=es.length+1:=by simp
 rw[hlen] at hc1;have q1:w1.cell? ⟨B,0,none⟩=some (.slice va (es.length+1) vc):=Aa hc1 0;have hme2:=cN w1 B va (es.length+1) vc q1;have HT1:=a0z ht1
 obtain⟨n,hln⟩:∃n,es.length=n:=⟨_,rfl⟩
 rw[hln] at hme2 hn HU
 have n1:IntKind.i64.wrap (((n+1:Nat):Int)-1)=(n:Int):=by rw[a0u];omega
 obtain⟨m,hm⟩:∃m,n+1=m:=⟨_,rfl⟩
 rw[hm] at n1 hme2;have HLEN:=a0z (W9 w1 va m vc);clear hc1 ho1 ht1 hh1 hup hme hlen q1 hm hln;go_wp2_with (fail);(with_reducible refine HLEN.out.mono ?_);rintro e w2 ⟨rfl,rfl⟩;go_wp2_with (fail);(with_reducible refine HU.out.mono ?_);rintro e w3 ⟨rfl,es',hp,hon,hh3,ht3⟩;have H1:=a0z hp;have H2:=a0z hon;have H3:=a0z hh3;have H4:=a0z (HT1.out.trans ht3 (by simp));clear hp hon hh3 ht3;go_wp2_with (fail);go_end0;exact⟨rfl,es',H1.out.trans (List.perm_append_singleton x es),H2.out,H3.out,H4.out⟩
theorem qC(W:World)(base B:Nat)(es:List Ea)(h:Dh W base B es)(ho:F9 (Bw es) es.length)(h0:0<es.length)(hn:es.length≤1000000):
  Calls Tryz.prog 272 #[.iface 323 (.pointer (some ⟨B,0,none⟩))] W fun e W'=>∃x es',e=.returned (Px x)∧(x::es').Perm es∧F9 (Bw es') es'.length∧Dh W' base B es'∧Ht W' base x.1.q x.2∧(∀y∈es,A7 (Es x) (Es y))∧Tf base [331] [B] W W':=by
 have HH:=a0z h;have HO:=a0z ho
 obtain⟨n,hln⟩:∃n,es.length=n+1:=⟨es.length-1,by omega⟩
 have HLN:=a0z hln;obtain⟨s,m,c,q,hm,hsw⟩:=h.swap h0;have hme1:=cN W B s m c q;have hme2:=Xe W B s m c q;have HLEN:=a0z (W9 W s m c);have HSW:=a0z (hsw 0 n h0 (by omega));rw[hln] at hm hn
 have n1:IntKind.i64.wrap ((m:Int)-1)=(n:Int):=by rw[a0u];omega
 rw[show((0:Nat):Int)=0 from rfl] at HSW;clear h ho hln hsw hm h0;go_enter Tryz.func272,Tryz.ntmps272;go_wp2_with (fail);(with_reducible refine HLEN.out.mono ?_);rintro e w0 ⟨rfl,rfl⟩;go_wp2_with (fail);(with_reducible refine HSW.out.mono ?_);rintro e w1 ⟨rfl,hh1,ht1⟩
 have hl1:(F7 I3 es 0 n).length=n+1:=by rw[mA];exact HLN.out
 have hdn:K5 (Bw (F7 I3 es 0 n)) n 0:=by
  rw[Xf];have h1:=HO.out;rw[HLN.out] at h1;exact h1.pop (by rw[Q5];exact HLN.out)
 have HDN:=a0z (qB w1 base B _ n hh1 (by omega) hdn (by omega));have HT1:=a0z ht1;have HL1:=a0z hl1;clear hh1 ht1 hl1 hdn hme1 hme2 q;go_wp2_with (fail);(with_reducible refine HDN.out.mono ?_);rintro e w2 ⟨⟨bz,rfl⟩,es2,hp2,hout2,hon2,hh2,ht2⟩;have hl2:es2.length=n+1:=hp2.length_eq.trans HL1.out
 have hx2:es2=es2.take n++[es2.getD n I3]:=by
  rw[a0x,a0w (by omega)]
  show es2=es2.take n++[es2[n]]
  rw[List.take_append_getElem (by omega),show n+1=es2.length by omega,List.take_length]
 obtain⟨x,hx⟩:∃x,es2.getD n I3=x:=⟨_,rfl⟩
 obtain⟨l2,hl⟩:∃l,es2.take n=l:=⟨_,rfl⟩
 have hon3:F9 (Bw l2) l2.length:=by
  have e1:l2.length=n:=by rw[←hl,List.length_take];omega
  rw[e1]
  refine hon2.frame fun i hi=>?_
  rw[Pv (by omega),Pv (by omega)];congr 1;subst hl;rw[List.getElem_take]
 rw[hx,hl] at hx2
 have hxe:x=es.getD 0 I3:=by
  rw[←hx,hout2 n (a1x _)]
  by_cases e:n=0
  ·subst e;rw[aD]
  ·unfold F7;rw[a0x,List.getElem?_set_self (by rw[List.length_set,HLN.out];omega)];rfl
 have hmin:∀y∈es,A7 (Es x) (Es y):=by
  intro y hy;obtain⟨i,hi,ei⟩:=List.mem_iff_getElem.1 hy;have h1:=F9.root HH.out.keys HO.out i hi;rw[Pv hi,Pv (by have:=HLN.out;omega),ei] at h1;rw[hxe,a0x,a0w (by have:=HLN.out;omega)];exact h1
 have hpe:(x::l2).Perm es:=by
  have h1:es2.Perm es:=hp2.trans (Uc (by rw[HLN.out];omega) (by rw[HLN.out];omega));rw[hx2] at h1;exact(List.perm_append_singleton x l2).symm.trans h1
 obtain⟨v2,hv21,hv22⟩:=hh2.box;have hv23:=hv22;rw[hx2,a1z] at hv23;have HPOP:=a0z (pV w2 base B v2 (l2.map (·.1)) x.1 hv21 hv23 (by rw[a0v,←hl,List.length_take];omega));have hme:=pY w2 ⟨B,0,none⟩;have HH2:=a0z hh2;have HX2:=a0z hx2;have HON:=a0z hon3;have HMIN:=a0z hmin;have HPE:=a0z hpe;have HT2:=a0z (HT1.out.trans ht2 (by simp));clear hp2 hout2 hon2 hh2 ht2 hx hl hon3 hx2 hxe hmin hpe hv21 hv22 hv23 hl2;go_wp2_with (fail);(with_reducible refine HPOP.out.mono ?_);rintro e w3 ⟨rfl,⟨v3,hc3,ho3⟩,hf3⟩;have H1:=a0z hc3;have H2:=a0z ho3;have H3:=a0z hf3;clear hc3 ho3 hf3 hme;go_wp2_with (fail);go_ret;have ht3:Tf base [331] [B] w2 w3:=Tf.of H3.out
 have hmem:∀y,y∈l2∨y=x→y∈es2:=fun y hy=>by rw[HX2.out];rcases hy with h|h<;>simp[h]
 have hq:∀y,y∈l2∨y=x→Ht w3 base y.1.q y.2∧0<y.2.length:=fun y hy=>by
  have h1:=HH2.out.qs y (hmem y hy);refine⟨h1.1.tf ht3 (a1x _) (by decide) fun k hk=>?_,h1.2⟩;rw[List.mem_singleton.1 hk];exact⟨HH2.out.bb,Ne.symm (HH2.out.noB h1.1)⟩
 refine⟨x,l2,rfl,HPE.out,HON.out,⟨⟨v3,H1.out,H2.out⟩,fun y hy=>hq y (Or.inl hy),fun y hy=>HH2.out.ok y (hmem y (Or.inl hy)),HH2.out.bb,?_⟩,(hq x (Or.inr rfl)).1,HMIN.out,(HT2.out.mono (by simp)).trans ht3 (by simp)⟩;have:=HH2.out.nd;rw[HX2.out,a1z] at this;exact(List.nodup_append.1 this).1
end
section
open Go.RowKit Go.Lib
theorem qD(w:World)(a:Option Addr)(n cap:Nat)(l:List Ad)(hl:Bz Bq w a n l)(hnone:a=none→cap=0)(hok:B8 l)(hpos:(l.map (·.pos)).Nodup)(h0:¬l.length=0)(hn:n<20):
  Calls Tryz.prog 142 #[.slice a n cap] w fun e w'=>∃v' r,e=.returned v'∧B7 l r∧Ag Bq w' w.heap.size v' r∧Fp [] w w':=by
 have HLN:=a0z hl.len;have HCL:=a0z (eZ w a n cap l hl hnone (by omega));have HOK:=a0z hok;have HPO:=a0z hpos;clear hl hnone hok hpos;go_enter Tryz.func142,Tryz.ntmps142;go_wp2_with (fail);(with_reducible refine HCL.out.mono ?_);rintro e w1 ⟨v1,rfl,ho1,hf1⟩;have HF1:=a0z hf1;have HO1:=a0z ho1;clear hf1 ho1;obtain⟨a1,c1,e1,-,-⟩:=HO1.out.len;subst e1;obtain⟨g,cap1,cur,e2,hg1,hh1,-⟩:=HO1.out.open (by omega);cases e2;have HSO:=a0z (uG w1 w.heap.size g l.length c1 l HO1.out HOK.out (by have:=HLN.out;omega))
 obtain⟨m,hm⟩:∃m,l.length=m:=⟨_,rfl⟩
 rw[hm] at HSO;rw[hm];have HM:=a0z hm;clear hm hh1;go_wp2_with (fail);(with_reducible refine HSO.out.mono ?_);rintro e w2 ⟨rfl,⟨l2,ht,hs,ho2⟩,hf2⟩;have hl2:=ht.len;have HRI:Hid (Pl l2):=G8.rising (by rw[hl2,HM.out];exact hs) ((ht.perm.map _).nodup_iff.2 HPO.out);have HOK2:=a0z (ht.ok HOK.out);have HCO:=a0z (uI w2 w.heap.size (.slice (some ⟨g,0,none⟩) m c1) l2 ho2 (by have:=HM.out;have:=HLN.out;omega))
 have HRES:Hid (B7 l (Jh l2 l2.length)):=by
  have h:=mN HOK2.out HRI.out;exact⟨h.ris,fun x hx=>ht.perm.mem_iff.1 (h.sub x hx),fun x hx y hy hs=>h.last x hx y (ht.perm.mem_iff.2 hy) hs,fun y hy=>h.cov y (ht.perm.mem_iff.2 hy)⟩
 have HF2:=a0z (HF1.out.trans hf2 (by intro i hi;right;simp at hi;omega))
 have hm0:¬l2.length=0:=by rw[hl2,HM.out];have:=HM.out;omega
 clear ht hs ho2 hl2 hf2;go_wp2_with (fail);(with_reducible refine HCO.out.mono ?_);rintro e w3 ⟨⟨v3,rfl,ho3⟩,g3,hg3,hf3⟩
 have hg3':g3=g:=by
  rcases hg3 with h|h
  ·simpa [Value.ownBlock] using h.symm
  ·exact absurd h hm0
 subst hg3';have HF3:=a0z (HF2.out.trans hf3 (by intro i hi;right;simp at hi;omega));have HO3:=a0z ho3;clear hf3 ho3 hg3;go_wp2_with (fail);go_ret;exact⟨_,_,rfl,HRES.out,HO3.out,HF3.out⟩
end
end Go.Proofs.YtkagolpnaicdoaaGreatDoor
