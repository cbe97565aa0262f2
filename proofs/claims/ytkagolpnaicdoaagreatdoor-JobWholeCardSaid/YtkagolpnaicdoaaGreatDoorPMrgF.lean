/-
 slices.Chunk of runs: a list's parts of so many, as the iterator hands them out. merge.Pass, of runs that are in order. merge.All, Cells, Sort. merge.Sort. What every law's frame needs: integers' bounds. What every card's frame needs at this seat: cells that came in; the world's shape handed on. Slices of strings that came in. cut: Borders.
-/
import Derived.Test.YtkagolpnaicdoaaGreatDoorPMrgH
import Derived.ProofKit
import Derived.OpenShut
import Derived.ShutString
import Derived.Test.YtkagolpnaicdoaaGreatDoorTie
import Derived.Test.YtkagolpnaicdoaaGreatDoorCards
import Derived.LaidMore
import Derived.Lay
set_option maxRecDepth 100000
set_option maxHeartbeats 8000000
open Go.Lib renaming hid->a0z
open List renaming mem_cons_of_mem->a0x,mem_cons_self->a0u,length_take->a1z,getElem?_eq_getElem->a1x,take_of_length_le->a1w,length_cons->a1v,length_drop->a1u,take_append_drop->a2z,sum_append->a2x,mem_of_mem_take->a2w,setIfInBounds_toArray->a2v,map_cons->a2u,sum_cons->a3z,getD_eq_getElem?_getD->a3x,getElem_take->a3w,cons_append->a3v,getElem?_cons_zero->a3u,nil_append->a4z,map_append->a4x,getElem?_toArray->a4u,mem_of_mem_drop->a5z
open Go.IntKind renaming wrap_i64->a0w
open Nat renaming le_trans->a0v,le_refl->a4w,zero_le->a4v
namespace Go.Proofs.YtkagolpnaicdoaaGreatDoor
section
open Go.RowKit Go.Lib
def V5(b o:Nat)(x:Nat × Nat):Value:=.slice (some ⟨b,o+x.1,none⟩) x.2 x.2
def Yh(b o:Nat)(x:Nat × Nat):Array Value:=#[V5 b o x]
theorem Abf(base L n bs I p:Nat)(S:0<p)(an:p<2^63)(w:World)(b o len cap:Nat)(hn:1≤n)(ab:w.heap[bs]?=some (.cells #[.slice (some ⟨b,o,none⟩) len cap] 159 (0,0)))(ac:w.heap[I]?=some (.cells #[.int .i64 p] 3 (0,0)))
  (aq:len<=cap)(av:len<=1000000000)(aa:bs<base)(D:I<base)(ah:bs≠L)(U:I≠L)
  (S0:List Nat)(ad:∀k∈S0,k<base/\k≠bs/\k≠I)(J Jx:List (Nat × Nat)->World->Prop)
  (hJ:∀s A B,J s A->Fp [] A B->J s B)
  (hy:∀f x W,(∃Q,Dv p len 0=f++x::Q)->J f W->YieldAt Fence.wide (n-1) Tryz.prog L (Yh b o x) W fun e W'=>(e=.returned (.bool true)/\J (f++[x]) W'/\Aq 221 base (L::S0) W W')∨(e=.returned (.bool false)/\Jx (f++[x]) W'))
  (h0:J [] w):
  CallsIn Fence.wide n Tryz.prog 269 #[.func (.yield L) #[] #[],.pointer (some ⟨bs,0,none⟩),.pointer (some ⟨I,0,none⟩)] w fun e w'=>(∃v,e=.returned v)/\((∃xs,xs=Dv p len 0/\J xs w')∨∃f,Jx f w'):=by
 rw[callsIn_wide];have HY:=a0z hy;have HJ:=a0z hJ;have M:=a0z ad;have ag:=a0z ab;have z:=a0z ac;clear hy hJ ad ab ac;go_enter Tryz.func269,Tryz.ntmps269;go_wp2_with (fail)
 go_loopg [4] len (fun g vi wr=>∃(i:Nat) (f:List (Nat × Nat)),g=len-i/\(i=0∨p<=i)/\vi=.int .i64 i/\Dv p len 0=f++Dv p len i/\J f wr/\Aq 221 base (L::S0) w wr)
 case atStart=>exact⟨0,[],rfl,.inl rfl,rfl,rfl,h0,Aq.of (Fp.refl [] _) (by simp) |>.mono (by simp)⟩
 case round=>
  obtain⟨i,f,hg,Y,rfl,l,hj,hf⟩:=hrel;have O:=a0z hf;have af:=a0z hj;clear hf hj;have t:wr.heap[bs]?=some (.cells #[.slice (some ⟨b,o,none⟩) len cap] 159 (0,0)):=(O.out.low _ aa (Ac ag.out) (by intro h;rcases List.mem_cons.1 h with h|h;exact ah h;exact(M.out _ h).2.1 rfl)).trans ag.out;have E:wr.heap[I]?=some (.cells #[.int .i64 p] 3 (0,0)):=(O.out.low _ D (Ac z.out) (by intro h;rcases List.mem_cons.1 h with h|h;exact U h;exact(M.out _ h).2.2 rfl)).trans z.out;have q0:wr.cell? ⟨bs,0,none⟩=some (.slice (some ⟨b,o,none⟩) len cap):=Ab t 0;have q:=a0z t;have r:=a0z E;clear t E
  by_cases X:i<len
  ·have z0:(i:Int)<(len:Int):=by omega
   have z1:(i:Int)<=(len:Int):=by omega
   have z2:(len:Int)<=(cap:Int):=by omega
   have aw:¬cap=i:=by omega
   rw[P1 X S] at l
   obtain⟨m,hm⟩:∃m,min p (len-i)=m:=⟨_,rfl⟩
   have V:min (p:Int) ((len-i:Nat):Int)=(m:Int):=by omega
   have ap:0<m:=by omega
   rw[hm] at l;have ae:=a0z l
   obtain⟨d,hd⟩:∃d,len-i=d:=⟨_,rfl⟩
   rw[hd] at V
   obtain⟨e2,Z⟩:∃e2,i+m=e2:=⟨_,rfl⟩
   have n1:IntKind.i64.wrap ((i:Int)+(m:Int))=(e2:Int):=by rw[a0w];omega
   have z3:(e2:Int)<=(cap:Int):=by omega
   have z4:(i:Int)<=(e2:Int):=by omega
   have au:e2-i=m:=by omega
   have ar:¬e2=i:=by omega
   have n2:IntKind.i64.wrap ((i:Int)+(p:Int))=((i+p:Nat):Int):=by rw[a0w];omega
   obtain⟨j,G⟩:∃j,i+p=j:=⟨_,rfl⟩
   rw[G] at n2;have HG:=a0z hg;have a2:=a0z Z;have N:=a0z G;clear hg Y l hm Z G;go_wp2_with (fail);refine C9 (by kernel_rfl) (by kernel_rfl) ?_
   iterate 7
    apply Aw rfl rfl rfl
    ·intro a w u y K hK
     try have P:=y.fr 2 rfl
     try have h1:=y.fr 1 rfl
     try have h4:=y.fr 4 rfl
     try have aS:=y.eq 1 14 rfl
     try have aF:=y.eq 2 15 rfl
     try have az:=y.eq 3 16 rfl
     try have a0:=y.eq 0 13 rfl
     try have ay:=y.eq 4 17 rfl
     try have ax:=y.eq 5 18 rfl
     have r0:=Ab ((u.block _ (Ac q.out) (by simp)).trans q.out) 0;have r1:=Ab ((u.block _ (Ac r.out) (by simp)).trans r.out) 0;simp only[a4u,a3u] at r0 r1;simp only[Oper.wp,execOp];go_simp;exact hK _ u (Fp.refl _ _)
   refine⟨?_,?_⟩
   ·repeat(first|exact trivial|refine B7 _ ?_ |refine⟨fun w1 w2 v _ hf ⟨g,h1,P⟩=>⟨g,h1,(hf.block g (Ac P) (by simp)).trans P⟩,?_⟩)
   ·intro w' u;simp only[List.reverse_cons,List.reverse_nil,a4z,a3v]
    iterate 7 (refine Am ?_)
    refine A0 ?_;simp only[Aj,Act.put,a2v,List.set_cons_succ,List.set_cons_zero];have am:=a0z (O.out.trans (Aq.of (u.mono (by simp):Fp [] wr w') (by simp)) (by simp));have al:=a0z (HJ.out _ _ _ af.out u);have C:=(u.block _ (Ac q.out) (by simp)).trans q.out;have q1:w'.cell? ⟨bs,0,none⟩=some (.slice (some ⟨b,o,none⟩) len cap):=Ab C 0;have ao:=a0z ((u.block _ (Ac r.out) (by simp)).trans r.out);clear u C;obtain⟨fn,tm,a1,bd,R,T⟩:=HY.out f (i,m) w' ⟨_,ae.out⟩ al.out;have ai:=a0z T;clear T;unfold Yh V5 at R;simp only at R
    go_upto_region 4 with(fail)
    refine(wpIn_wide (n:=n)).1 ?_
    gi_wp2_with (fail)
    (with_reducible refine ai.out.mono ?_);rintro e W1 (⟨rfl,hj1,hf1⟩|⟨rfl,hjx⟩)
    ·have ak:=a0z hj1;have F:=a0z (am.out.trans hf1 (by intro i hi;exact hi));have r2:W1.cell? ⟨I,0,none⟩=some (.int .i64 p):=Ab ((F.out.low _ D (Ac z.out) (by intro h;rcases List.mem_cons.1 h with h|h;exact U h;exact(M.out _ h).2.2 rfl)).trans z.out) 0;clear hj1 hf1
     gi_wp2_with (fail)
     go_wp2_with (fail)
     go_roundg (len-j)
     case measure=>have:=HG.out;have:=N.out;omega
     case rel=>
      refine⟨j,f++[(i,m)],rfl,.inr (by have:=N.out;omega),rfl,?_,ak.out,F.out⟩;have P:=ae.out;rw[N.out] at P;rw[P,List.append_assoc];rfl
    ·have aj:=a0z hjx;clear hjx
     gi_wp2_with (fail)
     go_wp2_with (fail);refine bodyPost_ret (results_none rfl _ _ _) rfl ?_;exact⟨⟨_,rfl⟩,Or.inr ⟨_,aj.out⟩⟩
  ·have z0:¬(i:Int)<(len:Int):=by omega
   rw[Xe X,List.append_nil] at l;have HP:=a0z l;have HG:=a0z hg;clear l hg Y;go_wp2_with (fail);go_end0;refine⟨⟨_,rfl⟩,Or.inl ?_⟩;rw[HP.out];exact af.out
theorem Abg(w:World)(b:Nat)(d:0<b)(v:Value)(a:Option Addr)(len cap:Nat)(f:v=.slice a len cap):Calls Tryz.prog 221 #[v,.int .i64 b] w fun e w'=>e=.returned (.func (.func 269) #[] #[.pointer (some ⟨w.heap.size,0,none⟩),.pointer (some ⟨w.heap.size+1,0,none⟩)])∧
  w'.heap[w.heap.size]?=some (.cells #[v] 159 (0,0))/\w'.heap[w.heap.size+1]?=some (.cells #[.int .i64 b] 3 (0,0))/\Fp [] w w':=by
 subst f
 have z1:¬(b:Int)<1:=by omega
 have q:((w.alloc (.cells #[.slice a len cap] 159)).alloc (.cells #[.int .i64 b] 3)).cell? ⟨w.heap.size+1,0,none⟩=some (.int .i64 b):=Ab (Ai (by simp) _) 0;go_enter Tryz.func221,Tryz.ntmps221;go_wp2_with (fail);go_ret;exact⟨rfl,Bw (Ai rfl _),Ai (by simp) _,(Fp.alloc _ _).alloc' _⟩
end
section
open Go.RowKit Go.Lib
def Jj(rs:List (List Ad))(x:Nat × Nat):List (List Ad):=(rs.drop x.1).take x.2
structure Yi(w:World)(base:Nat)(rs:List (List Ad))(pre:List (Nat × Nat))(W:World):Prop where
 ex:∃v out,W.heap[w.heap.size]?=some (.cells #[v] 159 (0,0))/\Fz W base v out/\Dx (fun x r=>Bv (Jj rs x).flatten r) pre out
 fp:Fp [] w W
theorem Yi.on{w A B:World}{base:Nat}{i:List (List Ad)}{a:List (Nat × Nat)}{S:List Nat}(h:Yi w base i a A)(f:Fp S A B)(g:∀k∈S,w.heap.size<k/\k<base):Yi w base i a B:=by
 obtain⟨v,b,j,l,n⟩:=h.ex;exact⟨⟨v,b,(f.block _ (Ac j) fun m=>by have:=g _ m;omega).trans j,l.fp f fun k d=>(g k d).2,n⟩,h.fp.trans f fun k d=>Or.inr (by have:=g k d;omega)⟩
theorem Abh(l:List Nat)(k:Nat):(l.take k).sum<=l.sum:=by
 have h:(l.take k++l.drop k).sum=l.sum:=by rw[a2z]
 rw[a2x] at h;omega
theorem Abi(l:List Nat)(k:Nat):(l.drop k).sum<=l.sum:=by
 have h:(l.take k++l.drop k).sum=l.sum:=by rw[a2z]
 rw[a2x] at h;omega
theorem Abj(a:List (List Ad))(x:Nat × Nat):((Jj a x).map (·.length)).sum<=(a.map (·.length)).sum:=by
 unfold Jj;rw[List.map_take,List.map_drop];exact a0v (Abh _ _) (Abi _ _)
theorem mG{rs:List (List Ad)}{x:Nat × Nat}{r:List Ad}(h:r∈Jj rs x):r∈rs:=a5z (a2w h)
def mH(a:Option Addr)(b o n cap m c1 c2:Nat)(x:Nat × Nat):Act:={tmps:=#[.slice a n cap,.int .i64 m,undef,undef,.pointer (some ⟨c1,0,none⟩),.int .i64 0,V5 b o x,.bool false,.int .i64 m,.bool false,.bool false,.slice a n cap,.bool true,.bool false,.slice a n cap,.int .i64 m,.func (.func 269) #[] #[.pointer (some ⟨c2,0,none⟩),.pointer (some ⟨c2+1,0,none⟩)],V5 b o x,undef,undef,undef,undef,undef,undef],defers:=[]}
attribute [local go_sem] Oper.semAt_some
theorem Abk(w:World)(a:Option Addr)(n cap m:Nat)(j:List (List Ad))(h:Ht w a n j)(t:∀r∈j,D3 r∧Ce r∧r.length≤1000000)(hn:n≤900000)(O:(j.map (·.length)).sum≤1000000)(Y:n≤cap)(a8:2≤m)(hm:m<2^63)(h0:0<n):
  Calls Tryz.prog 143 #[.slice a n cap,.int .i64 m] w fun e w'=>∃v M,e=.returned (.tuple #[v,.int .i64 0])/\Fz w' w.heap.size v M/\Dx (fun x r=>Bv (Jj j x).flatten r) (Dv m n 0) M/\Fp [] w w':=by
 have a0:=a0z (fun w v a len cap (y:v=.slice a len cap)=>Abg w m (by omega) v a len cap y);have ay:=a0z (fun w (h:Ht w a n j)=>pF w a n cap j h t (by omega));have HL:=a0z h;have az:=a0z t;have ax:=a0z O;have G:n=j.length:=h.len
 obtain⟨b,o,rfl,a9,au⟩:∃b o,a=some ⟨b,o,none⟩/\b<w.heap.size/\True:=by
  rcases h.cells with h|⟨b,o,h1,h2,_⟩
  ·rw[h] at G;simp at G;omega
  ·exact⟨b,o,h1,h2,trivial⟩
 have bf:=a0z G;have aS:=a0z Y;clear h t O G Y au
 have z1:¬(m:Int)<2:=by omega
 rw[<-callsIn_wide (n:=5)];refine callsIn_of_wp_marks Tryz.func143 rfl trivial ?_ rfl;simp only[Tryz.ntmps143,List.size_toArray,a1v,List.length_nil,Nat.reduceAdd,Nat.reduceSub,Array.replicate_succ,Array.replicate_zero,List.push_toArray,List.append_toArray,a4z,a3v]
 gi_wp2_with (fail)
 refine⟨trivial,?_⟩;(with_reducible refine((callsIn_wide (n:=4)).2 (ay.out _ (HL.out.fp (Fp.alloc _ _)))).mono ?_);rintro e L ⟨rfl,u⟩;have ad:=a0z ((u.block _ (by simp) (by simp)).trans (Ai rfl _):L.heap[w.heap.size]?=some (.cells #[.slice none 0 0] 159 (0,0)));have a1:Hid (Fp [] w L):=(Fp.alloc _ _).trans u (by simp);clear u
 gi_wp2_with (fail)
 refine⟨trivial,?_⟩;(with_reducible refine((callsIn_wide (n:=4)).2 (a0.out _ _ _ _ _ rfl)).mono ?_);rintro e w2 ⟨rfl,aa,ab,Z⟩;have a3:=a0z aa;have af:=a0z ab;have ae:=a0z Z;clear aa ab Z
 gi_wp2_with (fail)
 have ag:w.heap.size<L.heap.size:=Ac ad.out;have a5:L.heap.size+1<w2.heap.size:=Ac af.out
 refine Sm (α:=Nat × Nat) (encs:=Yh b o) rfl (enters_of Tryz.func269 (by kernel_rfl) rfl) (fun _=>rfl) 221 [w.heap.size] [] (by simp;omega) (by simp) (L.heap.size) (by omega) 0
  (fun F x=>∃N,Dv m n 0=F++x::N) (Yi w (w2.heap.size+2) j) (fun _ _=>False) (fun xs _=>xs=Dv m n 0)
  (fun _=>True) (fun s A B k h hf hk=>h.on hf (by simp;omega)) (fun s A B h hf _=>h.on hf (by simp;omega)) (fun _ _ _ h _=>h) (fun _ _ _ h _=>h) ?_ ?_ (fun x a' _=>a'=mH (some ⟨b,o,none⟩) b o n cap m w.heap.size L.heap.size x) (fun _ _ _ _ h _=>h) ?_ ?_ ?_ (fun _ _ h=>h.elim)
 ·intro J Jx W1 u a4 hJ hY av;exact Abf (w2.heap.size+2) (w2.heap.size+1) (5-1) L.heap.size (L.heap.size+1) m (by omega) hm W1 b o n cap (by decide) ((u.block _ (by omega) (by simp)).trans a3.out) ((u.block _ (by omega) (by simp)).trans af.out) aS.out (by omega) (by omega) (by omega) (by omega) (by omega) [w.heap.size] (by intro k hk;simp only[List.mem_cons,List.not_mem_nil,or_false] at hk;omega) J Jx (fun s A B h hf=>hJ s A B h (hf.mono (by simp)) trivial) hY av
 ·exact⟨⟨.slice none 0 0,[],(ae.out.block _ ag (by simp)).trans ad.out,Fz.nil _ _,.nil⟩,a1.out.trans ae.out (by simp)⟩
 ·intro l x W K hW p;simp only[Yh]
  gi_wp2_with (fail)
  exact p _ _ (Fp.refl _ _) rfl
 ·rintro l' F ⟨T,S⟩ a' W ⟨N,q⟩ Q hW rfl;have hx:=dS m n 0 (T,S) (by rw[q];simp);obtain⟨aj,ai,ah⟩:=hx;simp only at aj ai ah;obtain⟨v,M,y,U,V⟩:=Q.ex;have a6:M.length=F.length:=V.length_eq.symm
  have a7:F.length+1<=1000000000:=by
   have h1:=Xf m n 0;rw[q,List.length_append,a1v] at h1;omega
  have aF:=a0z (fun X (h:Fp [] w X)=>Ab6 X (some ⟨b,o+T,none⟩) S S (Jj j (T,S)) (((HL.out.fp h).drop T (n-T) (by omega)).take S (by omega)) (fun r t=>az.out r (mG t)) (by omega) (a0v (Abj _ _) ax.out));have HI:=a0z Q;have HV:=a0z y;have HO:=a0z U;have HA:=a0z V;have hW:w2.heap.size+2<=W.heap.size:=hW;clear Q y U V q;unfold mH V5;simp only
  gi_wp2_with (fail)
  refine Wl (Ge (fun r=>Bv (Jj j (T,S)).flatten r) w W (w2.heap.size+2) w.heap.size v M) (fun _ _=>True) (by kernel_rfl) (by kernel_rfl) (by kernel_rfl) (fun _=>Ge.start HO.out HV.out HI.out.fp hW (by omega)) ?_;apply Dn (fun _ _ _ h _=>h.plain (by decide)) rfl rfl rfl
  ·intro b a w f d K p;have h4:=d.fr 4 rfl;have q0:=Ab (f.first (d.post 4 (by kernel_rfl))) 0;simp only[a4u,a3u] at q0;simp only[Oper.wp,execOp];go_simp;exact p _ f trivial
  apply Dn (fun _ _ _ h _=>h.plain (by decide)) rfl rfl rfl
  ·intro b a w f d K p;have h6:=d.fr 6 rfl;simp only[Oper.wp,execOp];go_simp;exact p _ f trivial
  apply Ee (fun _ _=>True) rfl rfl rfl
  ·intro b a w f d K p;have be:=d.eq 1 19 rfl;simp only[Oper.wp,execOp];go_simp;(with_reducible refine(aF.out _ f.fp).mono ?_);rintro e w3 ⟨vr,r,rfl,t,an,ar⟩;exact p _ _ (f.call d.self ar t an) trivial trivial
  apply Ee (fun _ _=>True) rfl rfl rfl
  ·intro b a w f d K p;have bd:=d.dep 2 20 _ (by kernel_rfl) rfl;obtain⟨r,hg,t⟩:=f.res (d.pre 2 (by kernel_rfl)) (d.post 4 (by kernel_rfl));obtain⟨a2,c2,R,-,-⟩:=t.len;have y:=d.val 2 20 (by kernel_rfl);rw[R] at y;have z:=f.build (d.pre 2 (by kernel_rfl)) d.self;rw[R] at z;simp only[Oper.wp,execOp];go_simp;exact p _ _ z trivial trivial
  apply Ee (fun _ _=>True) rfl rfl rfl
  ·intro b a w f d K p;have aw:=d.eq 0 18 rfl;have bc:=d.dep 3 21 _ (by kernel_rfl) rfl;obtain⟨g,aq,ap⟩:=f.bld (d.pre 3 (by kernel_rfl)) d.self;obtain⟨r,hg,t⟩:=f.res (f.o32 (d.pre 3 (by kernel_rfl))) d.self;obtain⟨a2,c2,R,-,-⟩:=t.len;refine pB (.tmp 18) (.tmp 21) rfl _ v M (E0 aw) (f.own0 d.self) g _ r (by rw[R];rfl) t (E0 ((d.val 3 21 (by kernel_rfl)).trans aq)) ap (by omega) f.sz ?_;intro v' w' h1 h2 h3;exact p _ _ (f.append (d.pre 3 (by kernel_rfl)) d.self hg h1 h2 h3 (by omega) (by omega)) trivial trivial
  apply Kv (fun _=>True) rfl rfl rfl
  ·intro b a w f d K p;have h4:=d.fr 4 rfl;have ba:=d.dep 4 22 _ (by kernel_rfl) rfl;obtain⟨a2,n2,c2,R⟩:=f.slice (d.pre 4 (by kernel_rfl));have y:=(d.val 4 22 (by kernel_rfl)).trans R;have z:=f.store (d.pre 4 (by kernel_rfl)) (by omega) (a4w _);rw[R] at z;have f0:=Ar f.cel 0;have q0:=Ab f.cel 0;simp only[Oper.wp,execOp];go_simp;exact p undef _ z trivial trivial
  refine⟨?_,?_⟩
  ·refine⟨fun _ _ _ _ _=>trivial,?_⟩;refine⟨fun _ _ _ _ _=>trivial,?_⟩;refine⟨fun _ _ _ _ _=>trivial,?_⟩;refine⟨fun _ _ _ _ _=>trivial,?_⟩;refine Gl _ ?_;refine Gl _ ?_;exact trivial
  ·intro w' bb ac;simp only[List.reverse_cons,List.reverse_nil,a4z,a3v]
   iterate 2 (refine Am ?_)
   refine Ap ?_;intro v2 u2;refine Ap ?_;intro v3 u3;refine Ap ?_;intro v4 u4;refine Ap ?_;intro v5 u5;refine A0 ?_;intro f;simp only[Aj,Act.put,a2v,List.set_cons_succ,List.set_cons_zero]
   gi_wp2_with (fail)
   have P:=f.cel;rw[ac 5 (by simp)] at P;obtain⟨r,t,am⟩:=f.own1 (ac 4 (by simp));exact⟨f.kept,⟨⟨_,_,P,am,Uk HA.out t⟩,f.fp⟩⟩
 ·rintro xs W rfl Q p;obtain⟨v,M,y,U,V⟩:=Q.ex;obtain⟨E,C,D,rfl⟩:=U.slice;have HI:=a0z Q;have HK:=a0z p;have HA:=a0z V;have q0:W.cell? ⟨w.heap.size,0,none⟩=some (.slice E C D):=Ab y 0;have f0:W.frozen? ⟨w.heap.size,0,none⟩=false:=Ar y 0;have HV:=a0z y;have HO:=a0z U;clear Q p y U V
  gi_wp2_with (fail)
  have I:Fp [w.heap.size] W (W.setCell ⟨w.heap.size,0,none⟩ (.slice E C D)):=Fp.setCell W ⟨w.heap.size,0,none⟩ (.slice E C D);have h4:(W.setCell ⟨w.heap.size,0,none⟩ (.slice E C D)).heap[w.heap.size]?=some (.cells #[.slice E C D] 159 (0,0)):=(Bd HV.out _).trans rfl
  obtain⟨wa,ak⟩:∃wa,W.setCell ⟨w.heap.size,0,none⟩ (.slice E C D)=wa:=⟨_,rfl⟩
  rw[ak] at I h4 ⊢;have ao:wa.heap[w2.heap.size]?=some (.deferred (some [])):=(I.block _ (Ac HK.out) (by simp;omega)).trans HK.out;have hp:=Fp.putObj wa w2.heap.size (.deferred none);refine⟨by simp,.inl ⟨_,_,rfl,run_takeDeferred ao,?_⟩⟩;have c0:(wa.putObj w2.heap.size (.deferred none)).cell? ⟨w.heap.size,0,none⟩=some (.slice E C D):=Ab ((hp.block _ (Ac h4) (by simp;omega)).trans h4) 0;have al:=(HO.out.fp I (by simp;omega)).fp hp (by simp);refine⟨.tuple #[.slice E C D,.int .i64 0],by simp[results,Tryz.results143,go_sem,c0],.slice E C D,M,rfl,?_,HA.out,((HI.out.fp.trans I (by intro i hi;right;simp at hi;omega)).trans hp (by intro i hi;right;simp at hi;omega))⟩;exact al.mono (by omega)
end
section
open Go.RowKit Go.Lib
theorem cL(a len s:Nat)(b:0<a)(i:Nat)(j:s<=i)(g:i<len):∃x∈Dv a len s,x.1<=i/\i<x.1+x.2:=by
 rw[P1 (show s<len by omega) b]
 by_cases h:i<s+a
 ·exact⟨_,a0u,j,by show i<s+min a (len-s);omega⟩
 ·obtain⟨x,d,f⟩:=cL a len (s+a) b i (by omega) g;exact⟨x,a0x _ d,f⟩
 termination_by len-s
theorem mI(a len s:Nat)(b:2<=a):(Dv a len s).length<=(len-s+1)/2:=by
 by_cases h:s<len
 ·rw[P1 h (by omega),a1v];have:=mI a len (s+a) b;omega
 ·rw[Xe h];simp
 termination_by len-s
theorem mJ{α:Type}{x:α}{l:List α}(h:x∈l):∃s t,l=s++x::t:=List.append_of_mem h
theorem mK{α:Type}:∀{r l:List α},r.Nodup→(∀x∈r,x∈l)→r.length≤l.length
 |[],_,_,_=>a4v _
 |x::r,l,hn,hs=>by
  obtain⟨s,t,rfl⟩:=mJ (hs x a0u);have d:=List.nodup_cons.1 hn
  have:=mK (r:=r) (l:=s++t) d.2 fun y b=>by
   have a:=hs y (a0x _ b);rw[List.mem_append,List.mem_cons] at a;rw[List.mem_append]
   rcases a with a|a|a
   ·exact Or.inl a
   ·exact absurd (a▸b) d.1
   ·exact Or.inr a
  simp at this ⊢;omega
theorem D3.nodup{r:List Ad}(a:Ce r)(h:D3 r):r.Nodup:=by
 induction r with
 |nil=>exact List.nodup_nil
 |cons x r ih=>exact List.nodup_cons.2 ⟨h.irr (a x a0u),ih (fun y b=>a y (a0x _ b)) (List.pairwise_cons.1 h).2⟩
theorem Bv.len{all r:List Ad}(a:Ce all)(h:Bv all r):r.length<=all.length:=mK (h.ris.nodup fun x b=>a x (h.sub x b)) h.sub
theorem Abl(a:List (List Ad)):a.flatten.length=(a.map (·.length)).sum:=by
 induction a with
 |nil=>rfl
 |cons x r ih=>rw[List.flatten_cons,List.length_append,ih];rfl
theorem mL(a:List (List Ad))(sz:Nat):∀(b s:Nat),a.length-s≤b→((Dv sz a.length s).map fun x=>((Jj a x).map (·.length)).sum).sum≤((a.drop s).map (·.length)).sum
 |0,s,h=>by rw[Xe (by omega)];simp
 |b+1,s,h=>by
  by_cases f:s<a.length/\0<sz
  ·rw[P1 f.1 f.2,a2u,a3z];have i:=mL a sz b (s+sz) (by omega)
   have e:((a.drop s).map (·.length)).sum=(((a.drop s).take sz).map (·.length)).sum+((a.drop (s+sz)).map (·.length)).sum:=by
    rw[<-a2x,<-a4x];congr 2;rw[<-List.drop_drop,a2z]
   have g:Jj a (s,min sz (a.length-s))=(a.drop s).take sz:=by
    unfold Jj;simp only
    rcases Nat.le_total sz (a.length-s) with d|d
    ·rw[Nat.min_eq_left d]
    ·rw[Nat.min_eq_right d,a1w (by rw[a1u];exact a4w _),a1w (by rw[a1u];exact d)]
   rw[g,e];omega
  ·rw[Dv,if_neg f];simp
theorem mM{P:Nat × Nat→List Ad→Prop}{f:Nat × Nat→Nat}{l:List (Nat × Nat)}{m:List (List Ad)}(h:Dx P l m)(a:∀x r,P x r→r.length≤f x):(m.map (·.length)).sum≤(l.map f).sum:=by
 induction h with
 |nil=>exact a4w _
 |cons h _ ih=>
  simp only[a2u,a3z];have:=a _ _ h;omega
theorem Dx.memR{α β:Type}{P:α→β→Prop}{l:List α}{m:List β}(h:Dx P l m){r:β}(a:r∈m):∃x∈l,P x r:=by
 induction h with
 |nil=>cases a
 |cons hp _ ih=>
  rcases List.mem_cons.1 a with e|e
  ·rw[e];exact⟨_,a0u,hp⟩
  ·obtain⟨x,d,b⟩:=ih e;exact⟨x,a0x _ d,b⟩
theorem Dx.memL{α β:Type}{P:α→β→Prop}{l:List α}{m:List β}(h:Dx P l m){x:α}(a:x∈l):∃r∈m,P x r:=by
 induction h with
 |nil=>cases a
 |cons hp _ ih=>
  rcases List.mem_cons.1 a with e|e
  ·rw[e];exact⟨_,a0u,hp⟩
  ·obtain⟨r,d,b⟩:=ih e;exact⟨r,a0x _ d,b⟩
theorem J0.ok{all:List Ad}{a:List (List Ad)}(h:J0 all a)(f:Ce all):∀r∈a,Ce r:=fun r d x b=>f x (h.sub r d x b)
theorem J0.pass{all:List Ad}{a g:List (List Ad)}{m:Nat}(D:Ce all)(h:J0 all a)(E:0<m)(n:Dx (fun x r=>Bv (Jj a x).flatten r) (Dv m a.length 0) g):
  J0 all g/\(g.map (·.length)).sum<=(a.map (·.length)).sum:=by
 have b:∀x z,z∈(Jj a x).flatten->z∈all:=fun x z j=>by
  obtain⟨o,G,d⟩:=List.mem_flatten.1 j;exact h.sub o (mG G) z d
 refine⟨⟨fun r k=>?_,fun r k z j=>?_,fun y w=>?_⟩,?_⟩
 ·obtain⟨x,_,d⟩:=n.memR k;exact d.ris
 ·obtain⟨x,_,d⟩:=n.memR k;exact b x z (d.sub z j)
 ·obtain⟨o,t,z,j,B,C⟩:=h.cov y w;obtain⟨i,F,e⟩:=List.mem_iff_getElem.1 t;obtain⟨x,A,d,v⟩:=cL m a.length 0 E i (a4v _) F;obtain⟨r,k,l⟩:=n.memL A
  have p:z∈(Jj a x).flatten:=by
   refine List.mem_flatten.2 ⟨o,?_,j⟩;unfold Jj;refine List.mem_iff_getElem.2 ⟨i-x.1,?_,?_⟩
   ·rw[a1z,a1u];omega
   ·rw[a3w,List.getElem_drop]
    have:x.1+(i-x.1)=i:=by omega
    simp only[this];exact e
  obtain⟨z2,q,s,u⟩:=l.cover z p;exact⟨r,k,z2,q,Nr s B,a0v C u⟩
 ·have d:=mM (f:=fun x=>((Jj a x).map (·.length)).sum) n fun x r k=>by
   have:=k.len fun z j=>D z (b x z j)
   rw[Abl] at this;exact this
  have v:=mL a m a.length 0 (by omega);rw[List.drop_zero] at v;exact a0v d v
theorem Abm{a:List (List Ad)}{r:List Ad}(h:r∈a):r.length<=(a.map (·.length)).sum:=by
 obtain⟨s,t,rfl⟩:=mJ h;rw[a4x,a2x,a2u,a3z];omega
theorem Bh.one{W:World}{g:Nat}{c:Aa}(h:W.heap[g]?=some (.cells #[.string c.row,.string c.col,.int .u64 c.ts,.int .u64 c.seq,.bool c.del,.string c.val] 80 (0,0)))(a:B3 c):Bh W (some ⟨g,0,none⟩) 1 [c]:=by
 refine⟨rfl,Or.inr ⟨g,0,rfl,Ac h,fun i d=>?_⟩,by intro x b;rw[List.mem_singleton.1 b];exact a⟩
 have:i=0:=by simpa using d
 subst this;exact⟨Ab h 0,Ab h 1,Ab h 2,Ab h 3,Ab h 4,Ab h 5⟩
structure Abn(w:World)(all:List Ad)(n0:Nat)(v:Value)(g k:Nat)(W:World):Prop where
 ex:∃a n cap rs,v=.slice a n cap/\g=n/\n<=cap/\Ht W a n rs/\J0 all rs/\0<n/\k+n<=n0/\(rs.map (·.length)).sum<=1000000
 fp:Fp [] w W
theorem J0.form{all:List Ad}{a:List (List Ad)}(h:J0 all a)(f:Ce all)(d:(a.map (·.length)).sum<=1000000):∀r∈a,D3 r/\Ce r/\r.length<=1000000:=fun r b=>⟨h.ris r b,h.ok f r b,a0v (Abm b) d⟩
theorem Abo(w:World)(a:Option Addr)(n cap m:Nat)(all:List Ad)(D:List (List Ad))(h:Ht w a n D)(F:J0 all D)(ho:Ce all)(hn:n≤900000)(d:(D.map (·.length)).sum≤1000000)(x:n≤cap)(O:2≤m)(hm:m<2^63)(Y:0<n):
  Calls Tryz.prog 86 #[.slice a n cap,.int .i64 m] w fun e w'=>∃v r k,e=.returned (.tuple #[v,.int .i64 k,.int .i64 0])/\Bv all r/\Ae Bz w' w.heap.size v r/\Fp [] w w':=by
 have HP:=a0z (fun w a n cap D h hr hn d x Y=>Abk w a n cap m D h hr hn d x O hm Y);have HR:=a0z h;have ah:=a0z F;have I:=a0z ho;have ag:=a0z d;have aj:=a0z x;have W:=a0z (HP.out w a n cap D h (F.form ho d) hn d x Y);clear h F ho d x;go_enter Tryz.func86,Tryz.ntmps86;go_wp2_with (fail);(with_reducible refine W.out.mono ?_);rintro e w1 ⟨v1,al,rfl,-,-,Q⟩;have X:=a0z Q;clear Q W;go_wp2_with (fail)
 go_loopg [0,5] n (fun g v vk wr=>∃k:Nat,vk=.int .i64 k/\Abn w all n v g k wr)
 case atStart=>exact⟨0,rfl,⟨a,n,cap,D,rfl,rfl,aj.out,HR.out.fp X.out,ah.out,Y,by omega,ag.out⟩,X.out⟩
 case round=>
  obtain⟨k,rfl,hrel⟩:=hrel;obtain⟨a2,E,S,j,rfl,hg,ae,G,C,af,hk,l⟩:=hrel.ex;have J:=a0z hrel.fp;have V:=a0z G;have z:=a0z C;have HG:=a0z hg;have P:E=j.length:=G.len;have B:=a0z P;have T:=a0z l;clear hrel G C hg P
  by_cases h1:1<E
  ·have z1:(E:Int)>1:=by omega
   have ai:=a0z (HP.out wr a2 E S j V.out (z.out.form I.out l) (by omega) l ae af)
   have n1:IntKind.i64.wrap ((k:Int)+1)=((k+1:Nat):Int):=by rw[a0w];omega
   clear l;go_wp2_with (fail);(with_reducible refine ai.out.mono ?_);rintro e w3 ⟨v3,f,rfl,s,A,y⟩;rw[B.out] at A;obtain⟨a3,c3,rfl,R,N,L⟩:=s.at;have p:=z.out.pass I.out (by omega) A;have ad:f.length=(Dv m j.length 0).length:=A.length_eq.symm;have hh:=mI m j.length 0 O
   have M:0<(Dv m j.length 0).length:=by
    have:=B.out;rw[P1 (by omega) (by omega)];simp
   have Z:=a0z p;have H2:=a0z L;have H3:=a0z y;have H4:=a0z R
   have H5:Hid (0<f.length/\f.length<E):=by
    have:=B.out;show 0<f.length/\f.length<E;omega
   clear p L y R A s ad hh M N;go_wp2_with (fail)
   go_roundg f.length
   case measure=>have:=HG.out;have:=H5.out;omega
   case rel=>exact⟨k+1,by simp,⟨a3,_,c3,f,rfl,rfl,H4.out,H2.out,Z.out.1,H5.out.1,by have:=H5.out;omega,a0v Z.out.2 T.out⟩,J.out.trans H3.out (by simp)⟩
  ·obtain rfl:E=1:=by omega
   have aa:∃r,j=[r]:=by
    have:=B.out
    cases j with
    |nil=>simp at this
    |cons r t=>cases t with
     |nil=>exact⟨r,rfl⟩
     |cons r2 t=>simp at this
   obtain⟨r,rfl⟩:=aa;obtain⟨b,o,v,e,hc⟩:=V.out.get (i:=0) (by simp);subst e;obtain⟨q,hv⟩:=hc wr (Fp.refl _ _);obtain⟨av,nv,cv,rfl,ac,u,hq⟩:=hv;rw[Nat.add_zero] at q;have K:=z.out.one I.out;have ab:nv=r.length:=hq.len
   have am:r.length<=1000000:=by have:=T.out;simp at this;omega
   have U:=a0z K;have ak:=a0z (pI wr av nv cv r hq u (by omega));clear hc hq u K l ac ab h1;go_wp2_with (fail);(with_reducible refine ak.out.mono ?_);rintro e w3 ⟨v3,rfl,s,y⟩;have Z:=a0z s;have H2:=a0z y;clear s y;go_wp2_with (fail);refine bodyPost_ret (v:=.tuple #[v3,.int .i64 k,.int .i64 0]) (by simp[results,Tryz.results86,go_sem]) rfl ?_;exact⟨v3,r,k,rfl,U.out,Z.out.mono J.out.size,J.out.trans H2.out (by simp)⟩
theorem mN(w:World)(a:Option Addr)(n cap:Nat)(l:List Ad)(h:Cf Bz w a n l)(q:Ce l)(hn:n≤1000000):
  Calls Tryz.prog 87 #[.slice a n cap] w fun e w'=>∃v,e=.returned v/\Ao w' w.heap.size v (l.map (·.c))/\Fp [] w w':=by
 have X:=a0z h;have t:=a0z h.len;have A:=a0z q;clear h q;go_enter Tryz.func87,Tryz.ntmps87;go_wp2_with (fail)
 go_loopg [2,7] n (fun g D Q wr=>∃(k:Nat) (v:Value),g+k=n/\v=D/\Q=.int .i64 k/\Ao wr w.heap.size v ((l.take k).map (·.c))/\Fp [] w wr)
 case atStart=>exact⟨0,_,by omega,rfl,rfl,Ao.nil _ _,Fp.refl _ _⟩
 case round=>
  obtain⟨k,D,hg,rfl,rfl,F,G⟩:=hrel;have J:=a0z F;have u:=a0z G;clear F G;have W:w.heap.size<=wr.heap.size:=u.out.size
  by_cases hk:k<n
  ·have K:(k:Int)<(n:Int):=by omega
   have n1:IntKind.i64.wrap ((k:Int)+1)=((k+1:Nat):Int):=by rw[a0w];omega
   have j:k<l.length:=by have:=t.out;omega
   obtain⟨b,o,e,_,I⟩:=X.out.get j;subst e;have E:Kw wr b (o+k*7) l[k]:=Wm (I wr u.out);have i:=A.out _ (List.getElem_mem j)
   have f:(l.take (k+1)).map (·.c)=(l.take k).map (·.c)++[l[k].c]:=by
    rw[List.take_add_one,a1x j,a4x];rfl
   obtain⟨x,p⟩:∃x,l[k]=x:=⟨_,rfl⟩
   rw[p] at E i f;obtain⟨⟨N,P,M,xs,O,L⟩,Y⟩:=x;obtain⟨q0,q1,V,U,T,S,R⟩:=E;simp only at q0 q1 V U T S R;have y:=a0z f;have z:=a0z i.c
   have r:((l.take k).map (·.c)).length<=1000000:=by simp;omega
   have B:=a0z r;clear I p f i r;go_wp2_with (at_builtin;(refine Rr rfl _ _ rfl w.heap.size _ ((l.take k).map (·.c)) rfl (J.out.fp ((Fp.alloc _ _).alloc' _) (by simp)) _ _ _ [⟨N,P,M,xs,O,L⟩] rfl (Bh.one (Ai (by simp) _) z.out) (fun h=>by cases h) (by have:=B.out;simp only[a1v,List.length_nil];omega) (by simp;omega) ?_);intro Z w2 d s;have m:=a0z d;have C:=a0z s;clear d s)
   go_roundg (gk-1)
   case measure=>omega
   case rel=>exact⟨k+1,_,by omega,rfl,by simp,by rw[y.out];exact m.out,(u.out.trans ((Fp.alloc _ _).alloc' _) (by simp)).belowTrans C.out⟩
  ·have K:¬(k:Int)<(n:Int):=by omega
   have d:=J.out;rw[a1w (by have:=t.out;omega)] at d;have m:=a0z d;clear d;go_wp2_with (fail);go_ret;exact⟨_,rfl,m.out,u.out⟩
end
section
open Go.RowKit Go.Lib
theorem mO(a len s:Nat):((Dv a len s).map (·.2)).sum<=len-s:=by
 by_cases h:s<len/\0<a
 ·rw[P1 h.1 h.2,a2u,a3z];have:=mO a len (s+a);simp only;omega
 ·rw[Dv,if_neg h];simp
 termination_by len-s
theorem Abp{l:List Ad}{h:List (List Ad)}{m:Nat}(t:Ce l)(u:0<m)(g:Dx (fun x r=>Bv (Ln l x) r) (Dv m l.length 0) h):J0 l h∧(h.map (·.length)).sum≤l.length:=by
 refine⟨⟨fun r a=>?_,fun r a z p=>?_,fun y q=>?_⟩,?_⟩
 ·obtain⟨x,_,b⟩:=g.memR a;exact b.ris
 ·obtain⟨x,_,b⟩:=g.memR a;exact a5z (a2w (b.sub z p))
 ·obtain⟨i,v,e⟩:=List.mem_iff_getElem.1 q;obtain⟨x,s,b,w⟩:=cL m l.length 0 u i (a4v _) v;obtain⟨r,a,d⟩:=g.memL s
  have j:y∈Ln l x:=by
   unfold Ln;refine List.mem_iff_getElem.2 ⟨i-x.1,?_,?_⟩
   ·rw[a1z,a1u];omega
   ·rw[a3w,List.getElem_drop]
    have:x.1+(i-x.1)=i:=by omega
    simp only[this];exact e
  obtain⟨z2,k,n,o⟩:=d.cover y j;exact⟨r,a,z2,k,n,o⟩
 ·have b:=mM (f:=fun x=>x.2) g fun x r a=>by
   have:=a.len (pC t x);unfold Ln at this;rw[a1z] at this;exact a0v this (Nat.min_le_left _ _)
  exact a0v b (mO m l.length 0)
theorem Yj(l:List Aa):(Dj l).length=l.length:=Qq l _
theorem Abq(w:World)(a:Option Addr)(n cap m wid:Nat)(l:List Aa)(z:Bh w a n l)(hn:n≤900000)(X:0<n)(i:0<m)(V:m≤20)(L:2≤wid)(U:wid<2^63):
  Calls Tryz.prog 49 #[.slice a n cap,.int .i64 m,.int .i64 wid] w fun e w'=>∃v r k,e=.returned (.tuple #[v,.int .i64 k,.int .i64 0])/\Bv (Dj l) r/\Ao w' w.heap.size v (r.map (·.c))/\Fp [] w w':=by
 have O:=a0z (pE w a n cap m l z (by omega) i V X);have G:=a0z z.len;have h:=a0z (Ul z.ok (by have:=z.len;omega));clear z;go_enter Tryz.func49,Tryz.ntmps49;go_wp2_with (fail);(with_reducible refine O.out.mono ?_);rintro e S ⟨v1,K,rfl,t,g,D⟩;obtain⟨a1,Z,rfl,E,y,j⟩:=t.at
 have A:n=(Dj l).length:=by rw[Yj];exact G.out
 rw[A] at g;have d:=Abp h.out i g;have f:K.length=(Dv m (Dj l).length 0).length:=g.length_eq.symm;have W:=Xf m (Dj l).length 0
 have p:0<(Dv m (Dj l).length 0).length:=by rw[P1 (by omega) i];simp
 have J:=a0z (Abo S a1 K.length Z wid (Dj l) K j d.1 h.out (by omega) (by omega) E L U (by omega));have Q:=a0z D;clear t g E y j A d f W p D;go_wp2_with (fail);(with_reducible refine J.out.mono ?_);rintro e w2 ⟨v2,r,k,rfl,b,s,C⟩;obtain⟨a2,Y,rfl,u,M,o⟩:=s.at;have f:=b.len h.out;rw[Yj] at f;have HC:=a0z (mN w2 a2 r.length Y r o (fun x T=>h.out x (b.sub x T)) (by have:=G.out;omega));have F:=a0z b;have I:=a0z (Q.out.trans C (by simp));clear s u M o f b C;go_wp2_with (fail);(with_reducible refine HC.out.mono ?_);rintro e w3 ⟨R,rfl,q,B⟩;have N:=a0z q;have P:=a0z (I.out.trans B (by simp));clear q B;go_wp2_with (fail);refine bodyPost_ret (v:=.tuple #[R,.int .i64 k,.int .i64 0]) (by simp[results,Tryz.results49,go_sem]) rfl ?_;exact⟨R,r,k,rfl,F.out,N.out.mono I.out.size,P.out⟩
theorem Abr(w:World)(v:Value)(m:Int)(b:m<1):Calls Tryz.prog 85 #[v,.int .i64 m] w fun e w'=>e=.returned (.tuple #[.slice none 0 0,.int .i64 1])/\Fp [] w w':=by
 go_enter Tryz.func85,Tryz.ntmps85;go_wp2_with (fail);have a:(w.alloc (.cells #[.slice none 0 0] 159)).cell? ⟨w.heap.size,0,none⟩=some (.slice none 0 0):=Ab (Ai rfl _) 0;exact bodyPost_ret (v:=.tuple #[.slice none 0 0,.int .i64 1]) (by simp[results,Tryz.results85,go_sem,a]) rfl ⟨rfl,Fp.alloc _ _⟩
theorem Abs(w:World)(v:Value)(m:Int)(b:m<2):Calls Tryz.prog 143 #[v,.int .i64 m] w fun e w'=>e=.returned (.tuple #[.slice none 0 0,.int .i64 1])/\Fp [] w w':=by
 go_enter Tryz.func143,Tryz.ntmps143;go_wp2_with (fail);have a:(w.alloc (.cells #[.slice none 0 0] 159)).cell? ⟨w.heap.size,0,none⟩=some (.slice none 0 0):=Ab (Ai rfl _) 0;exact bodyPost_ret (v:=.tuple #[.slice none 0 0,.int .i64 1]) (by simp[results,Tryz.results143,go_sem,a]) rfl ⟨rfl,Fp.alloc _ _⟩
theorem Abt(w:World)(v:Value)(m:Int)(a:m<2):Calls Tryz.prog 86 #[v,.int .i64 m] w fun e w'=>e=.returned (.tuple #[.slice none 0 0,.int .i64 0,.int .i64 1])/\Fp [] w w':=by
 have d:=a0z (Abs w v m a);clear a;go_enter Tryz.func86,Tryz.ntmps86;go_wp2_with (fail);(with_reducible refine d.out.mono ?_);rintro e g ⟨rfl,b⟩;have f:=a0z b;clear b;go_wp2_with (fail);exact bodyPost_ret (v:=.tuple #[.slice none 0 0,.int .i64 0,.int .i64 1]) (by simp[results,Tryz.results86,go_sem]) rfl ⟨rfl,f.out⟩
theorem Abu(w:World)(v:Value)(m wid:Int)(a:m<1):Calls Tryz.prog 49 #[v,.int .i64 m,.int .i64 wid] w fun e w'=>e=.returned (.tuple #[.slice none 0 0,.int .i64 0,.int .i64 1])/\Fp [] w w':=by
 have d:=a0z (Abr w v m a);clear a;go_enter Tryz.func49,Tryz.ntmps49;go_wp2_with (fail);(with_reducible refine d.out.mono ?_);rintro e g ⟨rfl,b⟩;have f:=a0z b;clear b;go_wp2_with (fail);exact bodyPost_ret (v:=.tuple #[.slice none 0 0,.int .i64 0,.int .i64 1]) (by simp[results,Tryz.results49,go_sem]) rfl ⟨rfl,f.out⟩
theorem Abv(w:World)(a:Option Addr)(n cap m:Nat)(wid:Int)(l:List Aa)(u:Bh w a n l)(I:n≤900000)(C:0<n)(j:0<m)(B:m≤20)(t:wid<2):
  Calls Tryz.prog 49 #[.slice a n cap,.int .i64 m,.int .i64 wid] w fun e w'=>∃v,e=.returned (.tuple #[v,.int .i64 0,.int .i64 1])/\Fp [] w w':=by
 have o:=a0z (pE w a n cap m l u (by omega) j B C);have D:=a0z t;clear u t;go_enter Tryz.func49,Tryz.ntmps49;go_wp2_with (fail);(with_reducible refine o.out.mono ?_);rintro e y ⟨z,G,rfl,i,k,f⟩;have g:=a0z (Abt y z wid D.out);have r:=a0z f;clear i k f;go_wp2_with (fail);(with_reducible refine g.out.mono ?_);rintro e w2 ⟨rfl,d⟩;have E:=a0z (mN w2 none 0 0 [] (Cf.nil _ _) (fun x A=>by cases A) (by omega));have q:=a0z (r.out.trans d (by simp));clear d;go_wp2_with (fail);(with_reducible refine E.out.mono ?_);rintro e F ⟨s,rfl,h,b⟩;have p:=a0z (q.out.trans b (by simp));clear h b;go_wp2_with (fail);refine bodyPost_ret (v:=.tuple #[s,.int .i64 0,.int .i64 1]) (by simp[results,Tryz.results49,go_sem]) rfl ?_;exact⟨s,rfl,p.out⟩
end
section
section
open Go.ChangeShapes Go.WideShapes Go.ChangeAt Go.RowKit
open Go.ChangeMaps (open_string shut_string)
theorem Tu{a:Int}(h:(Lit.int .u8 a).wf=true):0<=a/\a<=255:=by simp only[Lit.wf,Bool.and_eq_true,decide_eq_true_eq] at h;exact h
theorem mP{a:Int}(h:(Lit.int .u64 a).wf=true):0<=a/\a<=18446744073709551615:=by simp only[Lit.wf,Bool.and_eq_true,decide_eq_true_eq] at h;exact h
theorem own:ownKnob Tryz.prog.godebug=none:=by kernel_rfl
theorem mQ:laidOutB Tryz.prog=true:=by kernel_rfl
theorem Fp.toBelow{w w':World}(h:Fp [] w w'):Below w.heap.size w w':=h.below (a4w _) (by simp)
end
section
open Go.ChangeShapes Go.WideShapes Go.ChangeAt Go.RowKit
theorem Abw{w:World}(h:w.ShapedOpen Tryz.prog):Ia w:=
 cell_of_shapedOpen_int (P:=Tryz.prog) (g:=2) (t:=3) (zero:=#[.int .i64 0]) h (of_decide_eq_true (by kernel_rfl)) (by kernel_rfl) (by kernel_rfl) (by kernel_rfl) (by kernel_rfl) Tryz.underlying3
section
variable {H : Type} {enc : TypeId × Value -> H}
end
theorem Abx:Tryz.prog.cellsOf 9=1:=by kernel_rfl
theorem Aby:Tryz.prog.cellsOf 23=1:=by kernel_rfl
theorem Abz:Tryz.prog.cellsOf 4=1:=by kernel_rfl
theorem Ab0:Tryz.prog.cellsOf 80=6:=by kernel_rfl
theorem Ab1{H:Type}{enc:TypeId × Value→H}{W:World}{f:Nat}{l:List Value}(F:l.length=6){x:DataW H × List MemPlace}
  (h:DataW.trod enc Tryz.prog W 0 (fun _=>true) true f 80 l=some x):∃c:Aa,l=[.string c.row,.string c.col,.int .u64 c.ts,.int .u64 c.seq,.bool c.del,.string c.val]/\B3 c/\c.row.size<=maxLen/\c.col.size<=maxLen/\c.val.size<=maxLen:=by
 obtain⟨ys,a,E,G,i,g,b⟩:=DataW.trod_struct Tryz.underlying80 h;have d:ys.length=6:=g
 match l,F,ys,d with
 |[v0,v1,v2,v3,v4,v5],_,[y0,y1,y2,y3,y4,y5],_=>
  have v:DataW.trod enc Tryz.prog W 0 (fun _=>true) true a 9 (List.take (Tryz.prog.cellsOf 9) [v0,v1,v2,v3,v4,v5])=some y0:=b 0 _ rfl;have u:DataW.trod enc Tryz.prog W 0 (fun _=>true) true a 9 (List.take (Tryz.prog.cellsOf 9) [v1,v2,v3,v4,v5])=some y1:=b 1 _ rfl;have t:DataW.trod enc Tryz.prog W 0 (fun _=>true) true a 23 (List.take (Tryz.prog.cellsOf 23) [v2,v3,v4,v5])=some y2:=b 2 _ rfl;have s:DataW.trod enc Tryz.prog W 0 (fun _=>true) true a 23 (List.take (Tryz.prog.cellsOf 23) [v3,v4,v5])=some y3:=b 3 _ rfl;have r:DataW.trod enc Tryz.prog W 0 (fun _=>true) true a 4 (List.take (Tryz.prog.cellsOf 4) [v4,v5])=some y4:=b 4 _ rfl;have q:DataW.trod enc Tryz.prog W 0 (fun _=>true) true a 9 (List.take (Tryz.prog.cellsOf 9) [v5])=some y5:=b 5 _ rfl;rw[Abx] at v u q;rw[Aby] at t s;rw[Abz] at r;obtain⟨z0,p,_,D⟩:=DataW.trod_string Tryz.underlying9 v;obtain⟨z1,o,_,C⟩:=DataW.trod_string Tryz.underlying9 u;obtain⟨z2,n,_,w2⟩:=DataW.trod_int Tryz.underlying23 t;obtain⟨z,m,_,B⟩:=DataW.trod_int Tryz.underlying23 s;obtain⟨y,k,_⟩:=DataW.trod_bool Tryz.underlying4 r;obtain⟨w,j,_,A⟩:=DataW.trod_string Tryz.underlying9 q;simp only[List.take_succ_cons,List.take_zero,List.cons.injEq,and_true] at p o n m k j;subst p o n m k j;have J:=mP w2;have I:=mP B;unfold maxLen at D C A;refine⟨⟨z0,z1,z2.toNat,z.toNat,y,w⟩,?_,⟨?_,?_,?_,?_,?_⟩,?_,?_,?_⟩
  ·simp only[List.cons.injEq,Value.int.injEq,true_and,and_true];omega
  all_goals(try unfold maxLen);simp only;omega
end
end
section
open Go.ChangeShapes Go.WideShapes Go.ChangeAt Go.RowKit
structure Eq(w:World)(a:Option Addr)(len:Nat)(l:List ByteArray):Prop where
 len:len=l.length
 cells:l=[]∨∃b o,a=some ⟨b,o,none⟩/\∀i (h:i<l.length),w.cell? ⟨b,o+i,none⟩=some (.string l[i])
 small:∀s∈l,s.size<=maxLen
theorem Eq.of_fp{w w':World}{a:Option Addr}{len:Nat}{l:List ByteArray}(h:Eq w a len l)(g:Fp [] w w'):Eq w' a len l:=by
 refine⟨h.len,?_,h.small⟩
 rcases h.cells with j|⟨b,o,rfl,f⟩
 ·exact Or.inl j
 ·exact Or.inr ⟨b,o,rfl,fun i d=>by rw[g.cell (World.block_lt_of_cell? _ _ (f i d)) (by simp)];exact f i d⟩
theorem Ab2{H:Type}{enc:TypeId × Value→H}{W:World}{o:Nat}{a:Option Addr}{len cap:Nat}{x:DataW H × List MemPlace}
  (h:DataW.trod enc Tryz.prog W 0 (fun _=>true) true o 22 [.slice a len cap]=some x):∃l,Eq W a len l/\len<=maxLen:=by
 rcases open_strings Tryz.underlying22 Tryz.underlying9 (by kernel_rfl) h with⟨d,_⟩|⟨y,t,v,p,d,_,C,B,m,_,f,q⟩
 ·simp only[List.cons.injEq,Value.slice.injEq,and_true] at d;obtain⟨rfl,rfl,rfl⟩:=d;exact⟨[],⟨rfl,Or.inl rfl,by simp⟩,a4v _⟩
 ·simp only[List.cons.injEq,Value.slice.injEq,and_true] at d;obtain⟨rfl,rfl,rfl⟩:=d;simp only[if_true] at m;refine⟨p.take len,⟨?_,?_,fun s w=>q s (a2w w)⟩,by omega⟩
  ·rw[a1z];omega
  ·by_cases u:p=[]
   ·left;rw[u];simp
   ·right;have k:=List.length_pos_iff.2 u;have r:=f 0 k;obtain⟨b,off,j⟩:=y
    have g:j=none:=by simpa [Addr.add] using World.cell?_spot r
    subst g;refine⟨b,off,rfl,fun i z=>?_⟩
    have n:i<p.length:=by rw[a1z] at z;omega
    have:=f i n
    have A:(⟨b,off,none⟩:Addr).add i=⟨b,off+i,none⟩:=by unfold Addr.add;split<;>simp_all
    rw[A] at this;rw[this,a3w,a3x,a1x n];rfl
end
section
open Go.RowKit Go.Lib
def Es(l:List ByteArray)(k:Nat):ByteArray:=l.getD k ⟨#[]⟩
theorem Qj{l:List ByteArray}{k:Nat}(h:k<l.length):Es l k=l[k]:=by unfold Es;rw[a3x,a1x h];rfl
theorem V6{w:World}{a:Option Addr}{n k:Nat}{l:List ByteArray}(h:Eq w a n l)(d:k<l.length):∃b o,a=some ⟨b,o,none⟩/\(∀j,j<l.length->∀w',Fp [] w w'->w'.cell? ⟨b,o+j,none⟩=some (.string (Es l j))):=by
 rcases h.cells with p|⟨b,o,e,m⟩
 ·rw[p] at d;exact absurd d (Nat.not_lt_zero _)
 ·refine⟨b,o,e,fun j f w' i=>?_⟩;have g:=m j f;rw[Qj f,i.cell (World.block_lt_of_cell? _ _ g) (by simp)];exact g
def Ic(a b:ByteArray):Bool:=Op.bytesLess a.toList b.toList
def Jk(l:List ByteArray)(k:Nat):Bool:=((Es l k).toList.isEmpty||decide (40<((Es l k).size:Int)))||(decide (0<k)&&!(Ic (Es l (k-1)) (Es l k)))
def G8(l:List ByteArray):Bool:=(List.range l.length).all fun k=>!(Jk l k)
theorem Ab3{l:List ByteArray}(h:∀j,j<l.length->Jk l j=false):G8 l=true:=by
 unfold G8;rw[List.all_eq_true];intro j a;rw[h j (List.mem_range.1 a)];rfl
theorem mR{l:List ByteArray}{k:Nat}(a:k<l.length)(h:Jk l k=true):G8 l=false:=by
 cases e:G8 l with
 |false=>rfl
 |true=>
  unfold G8 at e;have:=List.all_eq_true.1 e k (List.mem_range.2 a);rw[h] at this;cases this
theorem cM(w:World)(a:Option Addr)(n cap:Nat)(l:List ByteArray)(h:Eq w a n l)(Y:n≤1000000):
  Calls Tryz.prog 35 #[.slice a n cap] w fun e w'=>e=.returned (.bool (G8 l))/\Fp [] w w':=by
 have V:=a0z h;have z:=a0z h.len
 obtain⟨R,F⟩:∃R,G8 l=R:=⟨_,rfl⟩
 rw[F];have t:=a0z F;clear h F;go_enter Tryz.func35,Tryz.ntmps35;go_wp2_with (fail)
 go_loopg [7] n (fun T P wr=>∃k:Nat,P=.int .i64 k/\T+k=n/\(∀j,j<k->Jk l j=false)/\Fp [] w wr)
 case atStart=>exact⟨0,rfl,by omega,(fun j h=>absurd h (Nat.not_lt_zero _)),Fp.refl _ _⟩
 case round=>
  obtain⟨k,rfl,hg,L,A⟩:=hrel;have u:=a0z A;have M:=a0z L;clear A L
  by_cases Z:k<n
  ·have I:(k:Int)<(n:Int):=by omega
   have X:IntKind.i64.wrap ((k:Int)+1)=((k+1:Nat):Int):=by rw[a0w];omega
   have v:k<l.length:=by have:=z.out;omega
   obtain⟨b,o,e,B⟩:=V6 V.out v;subst e;have q0:=B k v wr u.out;have d:Hid (Jk l k=(((Es l k).toList.isEmpty||decide (40<((Es l k).size:Int)))||(decide (0<k)&&!(Ic (Es l (k-1)) (Es l k))))):=rfl
   have i:0<k->wr.cell? ⟨b,o+(k-1),none⟩=some (.string (Es l (k-1))):=fun h=>B (k-1) (by omega) wr u.out
   have G:=a0z i
   obtain⟨s,J⟩:∃s,Es l k=s:=⟨_,rfl⟩
   rw[J] at q0 d
   obtain⟨be,E⟩:∃be,s.toList.isEmpty=be:=⟨_,rfl⟩
   obtain⟨bz,C⟩:∃bz,decide (40<(s.size:Int))=bz:=⟨_,rfl⟩
   rw[E,C] at d;clear B J i
   have m:Hid (Jk l k=false->∀j,j<k+1->Jk l j=false):=fun h j S=>by
    by_cases e:j=k
    ·rw[e];exact h
    ·exact M.out j (by omega)
   have g:Hid (Jk l k=true->R=false):=fun h=>t.out.symm.trans (mR v h)
   cases be
   ·cases bz
    ·by_cases y:k=0
     ·subst y;rw[show((0:Nat):Int)=0 from rfl];rw[show((0:Nat):Int)=0 from rfl] at I;simp only[Nat.add_zero] at q0;have f:Hid (Jk l 0=false):=d.out.trans rfl;go_wp2_with (fail)
      go_roundg (gk-1)
      case measure=>omega
      case rel=>exact⟨0+1,by simp,by omega,m.out f.out,u.out⟩
     ·have O:(k:Int)>0:=by omega
      have x:0<k:=by omega
      have Q:IntKind.i64.wrap ((k:Int)-1)=((k-1:Nat):Int):=by rw[a0w];omega
      have q1:=G.out x
      obtain⟨p,K⟩:∃p,Es l (k-1)=p:=⟨_,rfl⟩
      rw[K] at q1 d
      obtain⟨k1,q⟩:∃k1,k-1=k1:=⟨_,rfl⟩
      rw[q] at q1 Q
      have N:(k1:Int)<(n:Int):=by omega
      obtain⟨bl,D⟩:∃bl,Op.bytesLess p.toList s.toList=bl:=⟨_,rfl⟩
      have r:Ic p s=bl:=D;rw[r,decide_eq_true x] at d
      have W:Hid (∀w',Fp [] wr w'->w'.cell? ⟨b,o+k1,none⟩=some (.string p)):=fun w' A=>by rw[A.cell (World.block_lt_of_cell? _ _ q1) (by simp)];exact q1
      clear K q r y;cases bl
      ·have f:Hid (Jk l k=true):=d.out.trans rfl;go_wp2_with (fail);go_ret;exact⟨by rw[g.out f.out];rfl,u.out⟩
      ·have f:Hid (Jk l k=false):=d.out.trans rfl;go_wp2_with (fail)
       go_roundg (gk-1)
       case measure=>omega
       case rel=>exact⟨k+1,by simp,by omega,m.out f.out,u.out⟩
    ·have f:Hid (Jk l k=true):=d.out.trans (by simp);go_wp2_with (fail);go_ret;exact⟨by rw[g.out f.out];rfl,u.out⟩
   ·have f:Hid (Jk l k=true):=d.out.trans (by simp);go_wp2_with (fail);go_ret;exact⟨by rw[g.out f.out];rfl,u.out⟩
  ·have I:¬(k:Int)<(n:Int):=by omega
   have U:Hid (R=true):=t.out.symm.trans (Ab3 fun j S=>M.out j (by have:=z.out;omega));go_wp2_with (fail);go_ret;exact⟨by rw[U.out];rfl,u.out⟩
end
end Go.Proofs.YtkagolpnaicdoaaGreatDoor
