/-
 'x.f = append(x.f, e)': the class of worlds on the way (for XRegionV), for elements of any type, x.f a place of a block known whole. merge: Push, Pop of sources. container/heap over sources: up, down. container/heap over sources: Push, Pop. slices.SortStableFunc of at most 20 items. runs.Resolve .
-/
import Derived.Test.YtkagolpnaicdoaaGreatDoorPMrgA
set_option maxRecDepth 100000
set_option maxHeartbeats 8000000
open Go.Lib renaming hid->a0z
open List renaming getD_eq_getElem?_getD->a0x,getElem?_eq_getElem->a0w,length_map->a0v,map_append->a1x,getElem?_map->a1v
open Go.IntKind renaming wrap_i64->a0u
open Nat renaming le_refl->a1z,le_trans->a1w
namespace Go.Proofs.YtkagolpnaicdoaaGreatDoor
section
open Go.RowKit
section
variable {α : Type} {R : Ho α}
theorem U0(T:TypeId){z:Value}{d:Nat}(Y:Tryz.prog.underlying T=some (.slice R.e))(q:(Tryz.prog.info? R.e).map (fun i=>(i.zero,i.size,i.bytes))=some (some z,R.k,d))(A:z.cells.size=R.k)(J:d≤100000)
  {w:World}{o:Oper}{a:Act}{K:Act->World->Prop}{Q:Exit->Act->World->Prop}(s x:Operand)
  (ho:o.op=.call {callee:=.builtin .append,args:=#[s,x],argTypes:=#[T,T]})(base:Nat)(v:Value)(l:List α)(Z:a.eval s=v)(n:Ae R w base v l)
  (M:Addr)(m c:Nat)(p:List α)(X:a.eval x=.slice (some M) m c)(S:Cf R w (some M) m p)(O:l.length+p.length<=1000000000)(f:base<=w.heap.size)
  (h:∀r w',Ae R w' base r (l++p)->Below base w w'->w.grownBy w' v.ownBlock->K (a.put o.dst r) w'):o.wp Tryz.prog a w K Q:=by
 obtain⟨V,hi,G,F,E⟩:=info_parts q;have N:=S.len;refine wp_append_own (P:=Tryz.prog) w s x T ho base R.e V _ R.k d Y hi G F E A R.pos v l.length (l.flatMap R.enc) Z n M m c (p.flatMap R.enc) X (by rw[Rn,N]) ?_ (mZ p) (by unfold maxLen;omega) (a1w (Nat.mul_le_mul (show l.length+m<=1000000000 by omega) J) (by decide)) f ?_
 ·intro j u g
  rcases S.cells with L|⟨b,o,L,_,hc⟩
  ·subst L;simp at g
  ·obtain rfl:=Option.some.inj L
   have e1:(⟨b,o,none⟩:Addr).add j=⟨b,o+j,none⟩:=by unfold Addr.add;split<;>simp_all
   rw[e1]
   have I:j<p.length*R.k:=by rw[<-Rn (R:=R)];exact(List.getElem?_eq_some_iff.1 g).1
   obtain⟨y,t,U⟩:=cQ I R.pos;rw[U,V8 p _ _ t y] at g;have:=hc (j/R.k) y (j%R.k) u g;rw[Nat.add_assoc,<-U] at this;exact this
 ·intro r w' y t _;refine h r w' ?_ ((Below.refl base w).grown t f (fun k hk=>(n.lt k hk).1)) t;unfold Ae;rw[List.length_append,List.flatMap_append,<-N];exact y
structure F5(R:Ho α)(D:List TypeId)(T:TypeId)(C:Value->Array Value)(base B:Nat)(v:Value)(l:List α)(x:α)(ib ia is:Nat)(W0:World)(b:Nat->Bool)(vs:Nat->Value)(W:World):Prop where
 own0:b ia=false->Ae R W base v l
 own1:b ia=true->Ae R W base (vs ia) (l++[x])
 bld:b ib=true->b ia=false->∃g,vs ib=.slice (some ⟨g,0,none⟩) 1 1/\Cf R W (some ⟨g,0,none⟩) 1 [x]
 cel:W.heap[B]?=some (.cells (C (if b is=true then vs ia else v)) T (0,0))
 tf:Tf base D [B] W0 W
 oa:b is=true->b ia=true
 ob:b ia=true->b ib=true
 sz:base<=W.heap.size
variable {D : List TypeId} {T : TypeId} {C : Value -> Array Value} {base B : Nat} {v : Value} {l : List α} {x : α} {ib ia is : Nat} {W0 W W2 : World} {b : Nat -> Bool} {vs : Nat -> Value}
theorem W5{a c:Bool}(h:a=true->c=true)(d:c=false):a=false:=by cases a<;>cases c<;>simp_all
theorem F5.start{vs:Nat->Value}(a:Ae R W0 base v l)(d:W0.heap[B]?=some (.cells (C v) T (0,0)))(f:base<=W0.heap.size):F5 R D T C base B v l x ib ia is W0 (fun _=>false) vs {W0 with drawn:=W0.drawn+1}:=
 ⟨fun _=>a.fp (Fp.drew W0) (by simp),(fun h=>by cases h),(fun h=>by cases h),d,(Tf.of (Fp.drew W0)).mono (by simp),(fun h=>by cases h),(fun h=>by cases h),f⟩
theorem F5.plain{k:Nat}{y:Value}(h:F5 R D T C base B v l x ib ia is W0 b vs W)(g:k≠ib/\k≠ia/\k≠is):F5 R D T C base B v l x ib ia is W0 (Ah b k) (C0 vs k y) W:=by
 obtain⟨d,a,f⟩:=g;refine⟨?_,?_,?_,?_,h.tf,?_,?_,h.sz⟩
 ·rw[Ag a.symm];exact h.own0
 ·rw[Ag a.symm,Bi a.symm];exact h.own1
 ·rw[Ag a.symm,Ag d.symm,Bi d.symm];exact h.bld
 ·rw[Ag f.symm,Bi a.symm];exact h.cel
 ·rw[Ag f.symm,Ag a.symm];exact h.oa
 ·rw[Ag a.symm,Ag d.symm];exact h.ob
theorem F5.first(h:F5 R D T C base B v l x ib ia is W0 b vs W)(a:b ia=false):W.heap[B]?=some (.cells (C v) T (0,0)):=by
 have:=h.cel;rw[W5 h.oa a] at this;exact this
theorem F5.on(h:F5 R D T C base B v l x ib ia is W0 b vs W)(f:b ia=false)(a:Fp [] W W2){k:Nat}{y:Value}(n:k≠ib/\k≠ia/\k≠is):F5 R D T C base B v l x ib ia is W0 (Ah b k) (C0 vs k y) W2:=by
 obtain⟨i,d,j⟩:=n;refine⟨fun _=>(h.own0 f).fp a (by simp),fun e=>?_,fun m q=>?_,?_,h.tf.trans (Tf.of a) (by simp),?_,?_,a1w h.sz a.size⟩
 ·rw[Ag d.symm,f] at e;cases e
 ·rw[Ag i.symm] at m;obtain⟨g,p,o⟩:=h.bld m f;exact⟨g,by rw[Bi i.symm];exact p,o.fp a⟩
 ·rw[Ag j.symm,Bi d.symm];exact(a.block _ (Ac h.cel) (by simp)).trans h.cel
 ·rw[Ag j.symm,Ag d.symm];exact h.oa
 ·rw[Ag d.symm,Ag i.symm];exact h.ob
theorem F5.build(h:F5 R D T C base B v l x ib ia is W0 b vs W)(g:b ib=false)(a:ib≠ia∧ib≠is∧ia≠is):
  F5 R D T C base B v l x ib ia is W0 (Ah b ib) (C0 vs ib (.slice (some ⟨W.heap.size,0,none⟩) 1 1)) (W.alloc (.cells (R.enc x).toArray R.e)):=by
 have f:=W5 h.ob g;have d:=Fp.alloc W (.cells (R.enc x).toArray R.e);refine⟨fun _=>(h.own0 f).fp d (by simp),fun e=>?_,fun _ _=>⟨W.heap.size,Hj _ _ _,Cf.one (Ai rfl _)⟩,?_,h.tf.trans (Tf.of d) (by simp),?_,fun _=>Fj _ _,a1w h.sz d.size⟩
 ·rw[Ag a.1.symm,f] at e;cases e
 ·rw[Ag a.2.1.symm,Bi a.1.symm];exact Bw h.cel
 ·rw[Ag a.2.1.symm,Ag a.1.symm];exact h.oa
theorem F5.append{g:Value}(h:F5 R D T C base B v l x ib ia is W0 b vs W)(m:b ib=true)(f:b ia=false)(j:Ae R W2 base g (l++[x]))(k:W.grownBy W2 v.ownBlock)(o:R.e∈D)(n:T∉D)(d:ib≠ia∧ib≠is∧ia≠is):
  F5 R D T C base B v l x ib ia is W0 (Ah b ia) (C0 vs ia g) W2:=by
 have i:=W5 h.oa f;have a:Tf base D [] W W2:=Tf.grown (h.own0 f) k o;refine⟨fun e=>?_,fun _=>by rw[Hj];exact j,fun _ e=>?_,?_,h.tf.trans a (by simp),fun e=>?_,fun _=>?_,a1w h.sz a.size⟩
 ·rw[Fj] at e;cases e
 ·rw[Fj] at e;cases e
 ·rw[Ag d.2.2.symm,i];exact a.cells (h.first f) (by simp) n
 ·rw[Ag d.2.2.symm,i] at e;cases e
 ·rw[Ag d.1];exact m
theorem F5.store{off:Nat}(h:F5 R D T C base B v l x ib ia is W0 b vs W)(i:b ia=true)(o:b is=false)(s:(C v).setIfInBounds off (vs ia)=C (vs ia))(r:T≠R.e)(a:ib≠ia∧ib≠is∧ia≠is):
  F5 R D T C base B v l x ib ia is W0 (Ah b is) (C0 vs is undef) (W.setCell ⟨B,off,none⟩ (vs ia)):=by
 have m:Fp [B] W (W.setCell ⟨B,off,none⟩ (vs ia)):=Fp.setCell W ⟨B,off,none⟩ (vs ia);have f:=h.cel;rw[o] at f;refine⟨fun e=>?_,fun _=>?_,fun _ e=>?_,?_,h.tf.trans (Tf.of m) (by simp),fun _=>?_,fun e=>?_,a1w h.sz m.size⟩
 ·rw[Ag a.2.2,i] at e;cases e
 ·rw[Bi a.2.2];have j:=h.own1 i
  refine j.kept fun k d=>m.block k (j.lt k d).2 fun p=>?_
  obtain rfl:=List.mem_singleton.1 p
  rcases j.2 with⟨n,_⟩|⟨g,cap,t,n,_,q,_⟩
  ·rw[n] at d;cases d
  ·rw[n] at d
   obtain rfl:g=k:=by simpa [Value.ownBlock] using d
   rw[q] at f;cases f;exact r rfl
 ·rw[Ag a.2.2,i] at e;cases e
 ·rw[Fj,if_pos rfl,Bi a.2.2,Bd f];rw[<-s];rfl
 ·rw[Ag a.2.2];exact i
 ·rw[Ag a.2.2] at e;rw[Ag a.2.1];exact h.ob e
theorem F5.slice(h:F5 R D T C base B v l x ib ia is W0 b vs W)(d:b ia=true):∃a n c,vs ia=.slice a n c:=by
 obtain⟨a,c,e,_⟩:=(h.own1 d).len;exact⟨_,_,_,e⟩
end
end
section
open Go.RowKit Go.Lib
theorem Tryz.infoSrc:(Tryz.prog.info? 331).map (fun i=>(i.zero,i.size,i.bytes))=some (some (.agg #[.pointer none,.int .i64 0]),2,16):=by kernel_rfl
theorem sG(W:World)(base B:Nat)(v:Value)(l:List Jh)(x:Jh)(s:W.heap[B]?=some (.cells #[v] 325 (0,0)))(o:Ae Ib W base v l)(J:base≤W.heap.size)(hn:l.length≤1000000):
  Calls Tryz.prog 325 #[.pointer (some ⟨B,0,none⟩),.iface 331 (.agg #[.pointer (some ⟨x.q,0,none⟩),.int .i64 x.at_])] W fun e W'=>e=.returned (.tuple #[])/\(∃n,W'.heap[B]?=some (.cells #[n] 325 (0,0))/\Ae Ib W' base n (l++[x]))/\Tf base [331] [B] W W':=by
 have U:=a0z s;have S:=a0z o;have L:=Ac s;obtain⟨X,V,E,-,-⟩:=o.len;obtain⟨z,A⟩:=x;clear s o;go_enter Tryz.func325,Tryz.ntmps325;go_wp2_with (fail);refine Uj (F5 Ib [331] 325 (fun v=>#[v]) base B v l ⟨z,A⟩ 6 7 9 W) (fun _ _=>True) (by kernel_rfl) (by kernel_rfl) (fun _=>F5.start S.out U.out J) ?_
 iterate 3
  apply Dn (fun _ _ _ h _=>h.plain (by decide)) rfl rfl rfl
  ·intro b a w f d K i
   try have h0:=d.fr 0 rfl
   try have h5:=d.eq 1 5 rfl
   simp only[Oper.wp,execOp];go_simp;exact i _ f trivial
 apply Dn (fun _ _ _ h _=>h.plain (by decide)) rfl rfl rfl
 ·intro b a w f d K i;have h6:=d.eq 2 6 rfl;have q0:=Ab (f.first (d.post 7 (by kernel_rfl))) 0;simp only[List.getElem?_toArray,List.getElem?_cons_zero] at q0;rw[E] at q0;simp only[Oper.wp,execOp];go_simp;rw[<-E];exact i _ f trivial
 iterate 2
  apply Dn (fun _ _ _ h _=>h.plain (by decide)) rfl rfl rfl
  ·intro b a w f d K i
   try have F:=d.fr 1 rfl
   try have h8:=d.eq 4 8 rfl
   simp only[Oper.wp,execOp];go_simp;exact i _ f trivial
 apply Ee (fun _ _=>True) rfl rfl rfl
 ·intro b a w f d K i;have h9:=d.eq 5 9 rfl;have k:=f.build d.self (by decide);simp only[Oper.wp,execOp];go_simp;exact i _ _ k trivial trivial
 apply Ee (fun _ _=>True) rfl rfl rfl
 ·intro b a w f d K i;have M:=d.eq 3 7 rfl;have Q:=d.dep 6 10 _ (by kernel_rfl) rfl;obtain⟨g,r,p⟩:=f.bld (d.pre 6 (by kernel_rfl)) d.self;refine U0 (R:=Ib) 325 Tryz.underlying325 Tryz.infoSrc rfl (by decide) (.tmp 7) (.tmp 10) rfl base v l (E0 M) (f.own0 d.self) _ _ _ [⟨z,A⟩] (E0 ((d.val 6 10 (by kernel_rfl)).trans r)) p (by simp;omega) f.sz ?_;intro n w' F h2 N;exact i _ _ (f.append (d.pre 6 (by kernel_rfl)) d.self F N (by simp[Ib]) (by decide) (by decide)) trivial trivial
 apply Dn (fun _ _ _ h _=>h.plain (by decide)) rfl rfl rfl
 ·intro b a w f d K i;have h4:=d.eq 0 4 rfl;simp only[Oper.wp,execOp];go_simp;exact i _ f trivial
 apply Kv (fun _=>True) rfl rfl rfl
 ·intro b a w f d K i;have O:=d.eq 8 12 rfl;have P:=d.dep 7 11 _ (by kernel_rfl) rfl;obtain⟨a2,n2,c2,G⟩:=f.slice (d.pre 7 (by kernel_rfl));have I:=(d.val 7 11 (by kernel_rfl)).trans G;have k:=f.store (off:=0) (d.pre 7 (by kernel_rfl)) d.self (by simp) (by decide) (by decide);rw[G] at k;have f0:=Ar f.cel 0;have q0:=Ab f.cel 0;simp only[Oper.wp,execOp];go_simp;exact i undef _ k trivial trivial
 refine⟨?_,?_⟩
 ·refine⟨fun _ _ _ _ _=>trivial,?_⟩;refine Gl _ ?_;refine⟨fun _ _ _ _ _=>trivial,?_⟩;refine⟨fun _ _ _ _ _=>trivial,?_⟩
  iterate 6 refine Gl _ ?_
  exact trivial
 ·intro w' bb m;simp only[List.reverse_cons,List.reverse_nil,List.nil_append,List.cons_append]
  iterate 6 (refine Am ?_)
  refine Ap ?_;intro v6 u6;refine Ap ?_;intro Z u7
  iterate 1 (refine Am ?_)
  refine Ap ?_;intro Y u9;refine A0 ?_;intro f;simp only[Aj,Act.put,List.setIfInBounds_toArray,List.set_cons_succ,List.set_cons_zero];have j:=f.cel;rw[m 9 (by simp)] at j;have y:=a0z j;have u:=a0z (f.own1 (m 7 (by simp)));have t:=a0z f.tf;clear f m j;go_wp2_with (fail);go_end0;exact⟨rfl,⟨_,y.out,u.out⟩,t.out⟩
theorem sH(W:World)(base B:Nat)(v:Value)(l:List Jh)(x:Jh)(h:W.heap[B]?=some (.cells #[v] 325 (0,0)))(r:Ae Ib W base v (l++[x]))(I:l.length≤1000000):
  Calls Tryz.prog 324 #[.pointer (some ⟨B,0,none⟩)] W fun e W'=>e=.returned (.iface 331 (.agg #[.pointer (some ⟨x.q,0,none⟩),.int .i64 x.at_]))/\(∃t,W'.heap[B]?=some (.cells #[t] 325 (0,0))/\Ae Ib W' base t l)/\Fp [B] W W':=by
 obtain⟨g,cap,K,rfl,O,y,f,-⟩:=r.open (by simp)
 have j:(l++[x]).length=l.length+1:=by simp
 have p:=cH r (i:=l.length) (by omega)
 have d:(l++[x])[l.length]'(by omega)=x:=by simp
 rw[d] at p;have a:=r.less (m:=l.length) (by omega) (by omega);rw[List.take_left] at a;rw[j] at f
 obtain⟨n,o⟩:∃n,l.length=n:=⟨_,rfl⟩
 rw[j] at h;rw[o] at a p h f I;have Q:=a0z p;have A:=a0z a;have L:=a0z h;have q0:W.cell? ⟨B,0,none⟩=some (.slice (some ⟨g,0,none⟩) (n+1) cap):=Ab h 0;have P:W.frozen? ⟨B,0,none⟩=false:=Ar h 0;have J:=Ac h
 have s:g≠B:=by
  intro e;subst e;rw[y] at h;cases h
 obtain⟨F,E⟩:=p W (Fp.refl _ _);obtain⟨M,N⟩:=x;simp only at F E
 have G:IntKind.i64.wrap (((n+1:Nat):Int)-1)=(n:Int):=by rw[a0u];omega
 obtain⟨m,u⟩:∃m,n+1=m:=⟨_,rfl⟩
 rw[u] at G q0 f
 have z1:(n:Int)<(m:Int):=by omega
 have z2:(n:Int)<=(cap:Int):=by omega
 clear r y p d a j h o u;go_enter Tryz.func324,Tryz.ntmps324;go_wp2_with (fail);go_ret;have z:Fp [B] W (W.setCell ⟨B,0,none⟩ (.slice (some ⟨g,0,none⟩) n cap)):=Fp.setCell W ⟨B,0,none⟩ _;refine⟨rfl,⟨_,Bw ((Bd L.out _).trans rfl),?_⟩,z.alloc' _⟩;refine Ae.fp (S:=[]) (A.out.kept fun k w=>z.block k (A.out.lt k w).2 ?_) (Fp.alloc _ _) (by simp)
 have:g=k:=by simpa [Value.ownBlock] using w
 subst this
 simpa using s
end
section
open Go.RowKit Go.Lib
theorem sI(w:World)(B:Nat)(n:String)(s:Option Addr)(m c:Nat)(h:w.cell? ⟨B,0,none⟩=some (.slice s m c)):(receiverAt 323 (.val (.pointer (some ⟨B,0,none⟩))) false (some n)).run Tryz.prog w=.ok (.slice s m c) w:=by
 rw[show(receiverAt 323 (.val (.pointer (some ⟨B,0,none⟩))) false (some n)).run Tryz.prog w=(loadVar 325 ⟨B,0,none⟩).run Tryz.prog w by kernel_rfl];go_simp
theorem Zy(K:FuncId)(nm:String)(d:∀(f:Nat) (w:World) (a:Addr),(method (f+1) 323 (.pointer (some a)) nm).run Tryz.prog w=(do (pure (K,<-receiverAt 323 (.val (.pointer (some a))) false (some nm))):Sem _).run Tryz.prog w)(F:Nat)(g:0<F)(w:World)(B:Nat)(s:Option Addr)(m c:Nat)(h:w.cell? ⟨B,0,none⟩=some (.slice s m c)):(method F 323 (.pointer (some ⟨B,0,none⟩)) nm).run Tryz.prog w=.ok (K,.slice s m c) w:=by
 obtain⟨f,rfl⟩:∃f,F=f+1:=⟨F-1,by omega⟩
 rw[d,Sem.run_bind,sI w B nm s m c h];rfl
theorem Zz(w:World)(B:Nat)(s:Option Addr)(m c:Nat)(h:w.cell? ⟨B,0,none⟩=some (.slice s m c))(F:Nat)(a:0<F):(method F 323 (.pointer (some ⟨B,0,none⟩)) "Less").run Tryz.prog w=.ok (323,.slice s m c) w:=Zy _ _ (fun _ _ _=>by kernel_rfl) F a w B s m c h
theorem fC(w:World)(B:Nat)(s:Option Addr)(m c:Nat)(h:w.cell? ⟨B,0,none⟩=some (.slice s m c))(F:Nat)(a:0<F):(method F 323 (.pointer (some ⟨B,0,none⟩)) "Len").run Tryz.prog w=.ok (271,.slice s m c) w:=Zy _ _ (fun _ _ _=>by kernel_rfl) F a w B s m c h
theorem Z0(w:World)(B:Nat)(s:Option Addr)(m c:Nat)(h:w.cell? ⟨B,0,none⟩=some (.slice s m c))(F:Nat)(a:0<F):(method F 323 (.pointer (some ⟨B,0,none⟩)) "Swap").run Tryz.prog w=.ok (326,.slice s m c) w:=Zy _ _ (fun _ _ _=>by kernel_rfl) F a w B s m c h
theorem sJ(w:World)(a:Addr)(F:Nat)(d:0<F):(method F 323 (.pointer (some a)) "Push").run Tryz.prog w=.ok (325,.pointer (some a)) w:=by
 obtain⟨f,rfl⟩:∃f,F=f+1:=⟨F-1,by omega⟩
 kernel_rfl
theorem sK(w:World)(a:Addr)(F:Nat)(d:0<F):(method F 323 (.pointer (some a)) "Pop").run Tryz.prog w=.ok (324,.pointer (some a)) w:=by
 obtain⟨f,rfl⟩:∃f,F=f+1:=⟨F-1,by omega⟩
 kernel_rfl
def J9:Ez:=(O2,[])
theorem fD{α β:Type}(f:α→β)(d:α)(l:List α)(i j:Nat):(G7 d l i j).map f=G7 (f d) (l.map f) i j:=by
 unfold G7;rw[List.map_set,List.map_set];congr 1
 ·congr 1;rw[a0x,a0x,a1v]
  cases l[j]?<;>rfl
 ·rw[a0x,a0x,a1v]
  cases l[i]?<;>rfl
theorem W7{α:Type}{d:α}{l:List α}{i j:Nat}(f:i<l.length)(a:j<l.length):(G7 d l i j).Perm l:=by
 have h:=Array.swap_perm (xs:=l.toArray) (i:=i) (j:=j) (by simpa using f) (by simpa using a);have g:=Array.perm_iff_toList_perm.1 h
 have e:(l.toArray.swap i j (by simpa using f) (by simpa using a)).toList=G7 d l i j:=by
  unfold G7;rw[a0x,a0x,a0w f,a0w a];simp[Array.swap]
 rw[e] at g;exact g
theorem sL{α:Type}{d:α}{l:List α}{i j k:Nat}(f:k≠i)(a:k≠j):(G7 d l i j).getD k d=l.getD k d:=by
 unfold G7;rw[a0x,List.getElem?_set_ne (Ne.symm a),List.getElem?_set_ne (Ne.symm f),a0x]
def C5(es:List Ez):List Ad:=es.map F7
theorem Z1(a:List Ez)(i j:Nat):C5 (G7 J9 a i j)=Jw (C5 a) i j:=fD F7 J9 a i j
theorem R9{a:List Ez}{i:Nat}(d:i<a.length):Af (C5 a) i=F7 a[i]:=by
 unfold Af C5;rw[a0x,a1v,a0w d];rfl
theorem U3(a:List Ez):(C5 a).length=a.length:=a0v ..
structure Dz(W:World)(base B:Nat)(es:List Ez):Prop where
 box:∃v,W.heap[B]?=some (.cells #[v] 325 (0,0))/\Ae Ib W base v (es.map (·.1))
 qs:∀x∈es,I5 W base x.1.q x.2/\0<x.2.length
 ok:∀x∈es,Ce x.2
 bb:base<=B
 nd:(es.map (·.1.q)).Nodup
theorem Dz.keys{W:World}{base B:Nat}{d:List Ez}(h:Dz W base B d):Ce (C5 d):=by
 intro k g;obtain⟨x,a,rfl⟩:=List.mem_map.1 g;obtain⟨r,f⟩:=To (h.qs x a).2;have:=h.ok x a;rw[f] at this;exact this _ List.mem_cons_self
theorem Dz.fp{W W':World}{base B:Nat}{es:List Ez}(h:Dz W base B es)(a:Fp [] W W'):Dz W' base B es:=by
 obtain⟨v,f,g⟩:=h.box;exact⟨⟨v,(a.block _ (Ac f) (by simp)).trans f,g.fp a (by simp)⟩,fun x d=>⟨(h.qs x d).1.fp a,(h.qs x d).2⟩,h.ok,h.bb,h.nd⟩
theorem Tf.ofOwn{α:Type}{R:Ho α}{W W':World}{base g n cap:Nat}{D:List TypeId}{S:List Nat}{l:List α}(h:Ae R W base (.slice (some ⟨g,0,none⟩) n cap) l)(a:Fp [g] W W')(m:R.e∈D):Tf base D S W W':=by
 refine⟨a.os,a.tape,a.output,a.size,fun k p _ o=>a.block k p fun f=>?_⟩;obtain rfl:=List.mem_singleton.1 f
 rcases h.2 with⟨e,_⟩|⟨r,d,q,e,j,i,_⟩
 ·cases e
 ·cases e;exact o j _ _ _ i m
theorem Dz.less{W:World}{base B:Nat}{a:List Ez}(h:Dz W base B a)(k:a.length≤1000000):
  ∃s n c,W.cell? ⟨B,0,none⟩=some (.slice s n c)/\n=a.length/\∀i j,i<a.length->j<a.length->Calls Tryz.prog 323 #[.slice s n c,.int .i64 i,.int .i64 j] W fun e W'=>∃b,e=.returned (.bool b)/\(b=true->A9 (Af (C5 a) i) (Af (C5 a) j))/\(b=false->A9 (Af (C5 a) j) (Af (C5 a) i))/\Fp [] W W':=by
 obtain⟨v,m,g⟩:=h.box;obtain⟨s,c,rfl,-,-⟩:=g.len;refine⟨s,_,c,Ab m 0,by rw[a0v],fun i j f d=>?_⟩;rw[R9 f,R9 d];exact Aa6 W base _ a i j g h.qs h.ok f d k
theorem Dz.swap{W:World}{base B:Nat}{es:List Ez}(h:Dz W base B es)(u:0<es.length):
  ∃s n c,W.cell? ⟨B,0,none⟩=some (.slice s n c)/\n=es.length/\∀i j,i<es.length->j<es.length->Calls Tryz.prog 326 #[.slice s n c,.int .i64 i,.int .i64 j] W fun e W'=>e=.returned (.tuple #[])/\Dz W' base B (G7 J9 es i j)/\Tf base [331] [] W W':=by
 obtain⟨v,q,k⟩:=h.box;obtain⟨g,cap,w,rfl,z,y,-⟩:=k.open (by rw[a0v];exact u);refine⟨_,_,_,Ab q 0,by rw[a0v],fun i j o m=>?_⟩;refine(Abe W base g _ cap i j _ k (by rw[a0v];exact o) (by rw[a0v];exact m)).mono ?_;rintro e W' ⟨rfl,r,t⟩;have d:Tf base [331] [] W W':=Tf.ofOwn k t (by simp[Ib]);have f:(G7 J9 es i j).Perm es:=W7 o m;refine⟨rfl,⟨⟨_,d.cells q (by simp) (by decide),by rw[fD (fun x:Ez=>x.1)];exact r⟩,fun x a=>?_,fun x a=>h.ok x (f.mem_iff.1 a),h.bb,(f.map _).nodup_iff.2 h.nd⟩,d⟩;have p:=h.qs x (f.mem_iff.1 a);exact⟨p.1.tf d (a1z _) (by decide) (by simp),p.2⟩
theorem sM(W:World)(base B:Nat)(i:List Ez)(j:Nat)(h:Dz W base B i)(hj:j<i.length)(z:Ov (C5 i) i.length j)(hn:i.length≤1000000):
  Calls Tryz.prog 292 #[.iface 323 (.pointer (some ⟨B,0,none⟩)),.int .i64 j] W fun e W'=>e=.returned (.tuple #[])/\∃d,d.Perm i/\G5 (C5 d) d.length/\Dz W' base B d/\Tf base [331] [] W W':=by
 have HH:=a0z h;have HU:=a0z z
 obtain⟨n,t⟩:∃n,i.length=n:=⟨_,rfl⟩
 rw[t] at HU hj hn;have HL:=a0z t;clear h z t;go_enter Tryz.func292,Tryz.ntmps292;go_wp2_with (fail)
 go_loopg [1] j (fun gg vj wr=>∃(j:Nat) (d:List Ez),vj=.int .i64 j/\gg=j/\j<n/\d.Perm i/\Ov (C5 d) n j/\Dz wr base B d/\Tf base [331] [] W wr)
 case atStart=>exact⟨j,i,rfl,rfl,hj,List.Perm.refl _,HU.out,HH.out,Tf.refl _⟩
 case round=>
  obtain⟨k,w,rfl,K,V,F,hu,hh,ht⟩:=hrel;have HP:=a0z F;have y:=a0z hu;have o:=a0z hh;have P:=a0z ht;have ad:=a0z K;have a:Hid (w.length=n):=F.length_eq.trans HL.out;clear F hu hh ht K
  by_cases Y:k=0
  ·subst Y;rw[show((0:Nat):Int)=0 from rfl];go_wp2_with (fail);go_end0;refine⟨rfl,w,HP.out,?_,o.out,P.out⟩;rw[a.out];exact y.out.done (Or.inl rfl)
  ·have n1:IntKind.i64.wrap ((k:Int)-1)=((k-1:Nat):Int):=by rw[a0u];omega
   obtain⟨k1,I⟩:∃k1,k-1=k1:=⟨_,rfl⟩
   obtain⟨p,F⟩:∃p,k1/2=p:=⟨_,rfl⟩
   have e1:(k1:Int)/2=(p:Int):=by omega
   have ag:p<k:=by omega
   have zp:((p:Int)==(k:Int))=false:=by simp;omega
   have af:¬(p:Int)=(k:Int):=by omega
   have G:(k-1)/2=p:=by omega
   rw[I] at n1
   have g:=fun h=>y.out.done (Or.inr h)
   have f:=fun h=>y.out.step o.out.keys (by rw[U3,a.out];exact a1z _) (by omega) V h
   rw[G] at g f;have HD:=a0z g;have ab:=a0z f;obtain⟨s,m,c,q,hm,L⟩:=o.out.less (by rw[a.out];exact hn);have ae:=a0z (L k p (by rw[a.out];exact V) (by rw[a.out];omega));have r:=Zz wr B s m c q;clear g f L I F G hm;go_wp2_with (fail);(with_reducible refine ae.out.mono ?_);rintro e w2 ⟨b,rfl,N,M,u⟩;have U:=a0z N;have S:=a0z M;have Q:=a0z (o.out.fp u);have O:Hid (Tf base [331] [] W w2):=P.out.trans (Tf.of u) (by simp);clear N M u r q;cases b
   ·go_wp2_with (fail);go_end0;refine⟨rfl,w,HP.out,?_,Q.out,O.out⟩;rw[a.out];exact HD.out (by first|exact S.out rfl|exact S.out trivial)
   ·obtain⟨s3,m3,c3,q3,X,E⟩:=Q.out.swap (by rw[a.out];omega);have aa:=a0z (E p k (by rw[a.out];omega) (by rw[a.out];exact V));have r:=Z0 w2 B s3 m3 c3 q3;clear E X;go_wp2_with (fail);(with_reducible refine aa.out.mono ?_);rintro e w3 ⟨rfl,J,A⟩;have ac:=a0z J;have Z:Hid (Tf base [331] [] W w3):=O.out.trans A (by simp);clear J A r q3;go_wp2_with (fail)
    go_roundg p
    case measure=>have:=ad.out;omega
    case rel=>
     refine⟨p,_,rfl,rfl,by omega,(W7 (by rw[a.out];omega) (by rw[a.out];exact V)).trans HP.out,?_,ac.out,Z.out⟩;rw[Z1];exact ab.out (by first|exact U.out rfl|exact U.out trivial)
theorem sN(W:World)(base B:Nat)(F:List Ez)(n:Nat)(h:Dz W base B F)(aa:n≤F.length)(ai:Nx (C5 F) n 0)(hn:F.length≤1000000):
  Calls Tryz.prog 293 #[.iface 323 (.pointer (some ⟨B,0,none⟩)),.int .i64 0,.int .i64 n] W fun e W'=>(∃b,e=.returned (.bool b))/\∃o,o.Perm F/\(∀i,n<=i->o.getD i J9=F.getD i J9)/\G5 (C5 o) n/\Dz W' base B o/\Tf base [331] [] W W':=by
 have HH:=a0z h;have HU:=a0z ai
 obtain⟨N,L⟩:∃N,F.length=N:=⟨_,rfl⟩
 rw[L] at aa hn;have HL:=a0z L;clear h ai L;go_enter Tryz.func293,Tryz.ntmps293;go_wp2_with (fail)
 go_loopg [7] n (fun gg vi wr=>∃(i:Nat) (o:List Ez),vi=.int .i64 i/\gg=n-i/\i<=n/\o.Perm F/\(∀i,n<=i->o.getD i J9=F.getD i J9)/\Nx (C5 o) n i/\Dz wr base B o/\Tf base [331] [] W wr)
 case atStart=>exact⟨0,F,rfl,rfl,Nat.zero_le _,List.Perm.refl _,fun _ _=>rfl,HU.out,HH.out,Tf.refl _⟩
 case round=>
  obtain⟨i,a,rfl,ah,ay,hp,ho,hu,hh,ht⟩:=hrel;have HP:=a0z hp;have z:=a0z ho;have O:=a0z hu;have G:=a0z hh;have Q:=a0z ht;have ax:=a0z ah;have f:Hid (a.length=N):=hp.length_eq.trans HL.out;clear hp ho hu hh ht ah
  have n1:IntKind.i64.wrap (2*(i:Int))=((2*i:Nat):Int):=by rw[a0u];omega
  have n2:IntKind.i64.wrap (((2*i:Nat):Int)+1)=((2*i+1:Nat):Int):=by rw[a0u];omega
  obtain⟨d,hd⟩:∃d,2*i=d:=⟨_,rfl⟩
  rw[hd] at n1 n2
  obtain⟨j1,ae⟩:∃j1,d+1=j1:=⟨_,rfl⟩
  rw[ae] at n2
  have A:Hid (j1=2*i+1):=by show j1=2*i+1;omega
  clear hd ae
  by_cases ap:j1<n
  ·have z1:¬(n:Int)≤(j1:Int):=by omega
   have z2:¬(j1:Int)<0:=by omega
   have n3:IntKind.i64.wrap ((j1:Int)+1)=((j1+1:Nat):Int):=by rw[a0u];omega
   obtain⟨j2,M⟩:∃j2,j1+1=j2:=⟨_,rfl⟩
   rw[M] at n3;have U:=a0z M;clear M
   have ad:j2<n->j2<N:=fun h=>by omega
   go_upto_region 6 with(fail)
   go_cut [33] from 12 to 44 (fun v wx=>∃bb:Bool,v=.bool bb/\(bb=true->j2<n/\A9 (Af (C5 a) j2) (Af (C5 a) j1))/\(bb=false->n<=j2∨A9 (Af (C5 a) j1) (Af (C5 a) j2))/\Dz wx base B a/\Tf base [331] [] W wx)
   case first=>
    by_cases hb:j2<n
    ·have z3:(j2:Int)<(n:Int):=by omega
     obtain⟨s,m,c,q,hm,y⟩:=G.out.less (by rw[f.out];exact hn);have V:=a0z (y j2 j1 (by rw[f.out];omega) (by rw[f.out];omega));have w:=Zz wr B s m c q;clear y hm;go_wp2_with (fail);(with_reducible refine V.out.mono ?_);rintro e w2 ⟨b,rfl,r,p,t⟩;have J:=a0z r;have I:=a0z p;have u:=a0z (G.out.fp t);have P:Hid (Tf base [331] [] W w2):=Q.out.trans (Tf.of t) (by simp);clear r p t w q;go_wp2_with (fail)
     go_meet
     case rel=>exact⟨b,rfl,fun h=>⟨hb,J.out h⟩,fun h=>Or.inr (I.out h),u.out,P.out⟩
    ·have z3:¬(j2:Int)<(n:Int):=by omega
     go_wp2_with (fail)
     go_meet
     case rel=>exact⟨false,rfl,(fun h=>by cases h),fun _=>Or.inl (by omega),G.out,Q.out⟩
   case rest=>
    obtain⟨bb,rfl,r,p,ag,Y⟩:=hcut;have J:=a0z r;have I:=a0z p;have u:=a0z ag;have P:=a0z Y;clear r p ag Y ad
    obtain⟨wA,an⟩:∃x,x=wc:=⟨_,rfl⟩
    subst an
    go_upto_if 33 with(fail)
    go_cut [9] from 12 to 44 (fun v wx=>∃j:Nat,v=.int .i64 j/\0<j/\j<n/\(j-1)/2=i/\(∀c,0<c->c<n->(c-1)/2=i->A9 (Af (C5 a) j) (Af (C5 a) c))/\wA=wx)
    case first=>
     cases bb
     ·have g:Hid (∀c,0<c→c<n→(c-1)/2=i→A9 (Af (C5 a) j1) (Af (C5 a) c)):=by
       intro c h1 h2 h3;have h4:=A.out;have h5:=U.out
       by_cases e:c=j1
       ·rw[e];exact Int.le_of_eq (Xw (u.out.keys.at _))
       ·have e2:c=j2:=by omega
        rw[e2]
        rcases(by first|exact I.out rfl|exact I.out trivial:n<=j2∨A9 (Af (C5 a) j1) (Af (C5 a) j2)) with h|h
        ·omega
        ·exact h
      have HQ:Hid (0<j1/\(j1-1)/2=i):=by have h4:=A.out;show 0<j1/\(j1-1)/2=i;omega
      go_wp2_with (fail)
      go_meet
      case rel=>exact⟨j1,rfl,HQ.out.1,ap,HQ.out.2,g.out,rfl⟩
     ·have hb:=(by first|exact J.out rfl|exact J.out trivial:j2<n∧A9 (Af (C5 a) j2) (Af (C5 a) j1))
      have HB:=a0z hb;clear hb
      have g:Hid (∀c,0<c→c<n→(c-1)/2=i→A9 (Af (C5 a) j2) (Af (C5 a) c)):=by
       intro c h1 h2 h3;have h4:=A.out;have h5:=U.out
       by_cases e:c=j1
       ·rw[e];exact HB.out.2
       ·have e2:c=j2:=by omega
        rw[e2];exact Int.le_of_eq (Xw (u.out.keys.at _))
      have HQ:Hid (0<j2/\(j2-1)/2=i):=by have h4:=A.out;have h5:=U.out;show 0<j2/\(j2-1)/2=i;omega
      go_wp2_with (fail)
      go_meet
      case rel=>exact⟨j2,rfl,HQ.out.1,HB.out.1,HQ.out.2,g.out,rfl⟩
    case rest=>
     obtain⟨j,rfl,aq,ac,ab,K,rfl⟩:=hcut;have g:=a0z K;have ak:=a0z ab;clear K ab
     have az:i<j:=by have:=ak.out;omega
     obtain⟨s,m,c,q,hm,y⟩:=u.out.less (by rw[f.out];exact hn);have V:=a0z (y j i (by rw[f.out];omega) (by rw[f.out];omega));have w:=Zz wA B s m c q;clear y hm;go_wp2_with (fail);(with_reducible refine V.out.mono ?_);rintro e w2 ⟨b,rfl,r,p,t⟩;have am:=a0z r;have al:=a0z p;have E:=a0z (u.out.fp t);have aj:Hid (Tf base [331] [] W w2):=P.out.trans (Tf.of t) (by simp);clear r p t w q;cases b
     ·go_wp2_with (fail);go_ret;refine⟨⟨_,rfl⟩,a,HP.out,z.out,O.out.done fun c h1 h2 h3=>?_,E.out,aj.out⟩
      have h5:A9 (Af (C5 a) i) (Af (C5 a) j):=by first|exact al.out rfl|exact al.out trivial
      exact A9.trans (E.out.keys.at _) (E.out.keys.at _) (E.out.keys.at _) h5 (g.out c h1 h2 h3)
     ·have av:Hid (A9 (Af (C5 a) j) (Af (C5 a) i)):=by first|exact am.out rfl|exact am.out trivial
      have S:Hid (Nx (Jw (C5 a) i j) n j):=O.out.step (by rw[U3,f.out];exact aa) aq ac ak.out g.out av.out;obtain⟨s3,m3,c3,q3,ao,Z⟩:=E.out.swap (by rw[f.out];omega);have au:=a0z (Z i j (by rw[f.out];omega) (by rw[f.out];omega));have w:=Z0 w2 B s3 m3 c3 q3;clear Z ao;go_wp2_with (fail);(with_reducible refine au.out.mono ?_);rintro e w3 ⟨rfl,af,X⟩;have aw:=a0z af;have ar:Hid (Tf base [331] [] W w3):=aj.out.trans X (by simp);clear af X w q3;go_wp2_with (fail)
      go_roundg (n-j)
      case measure=>have:=ax.out;omega
      case rel=>
       refine⟨j,_,rfl,rfl,by omega,(W7 (by rw[f.out];omega) (by rw[f.out];omega)).trans HP.out,fun k hk=>?_,?_,aw.out,ar.out⟩
       ·rw[sL (by omega) (by omega)];exact z.out k hk
       ·rw[Z1];exact S.out
  ·have z1:(n:Int)<=(j1:Int):=by omega
   go_wp2_with (fail);go_ret;refine⟨⟨_,rfl⟩,a,HP.out,z.out,O.out.done fun c h1 h2 h3=>?_,G.out,Q.out⟩;have:=A.out;omega
end
section
open Go.RowKit Go.Lib
theorem Dz.noB{W:World}{base B:Nat}{g:List Ez}(h:Dz W base B g){q:Nat}{r:List Ad}(d:I5 W base q r):q≠B:=by
 intro e;subst e;obtain⟨v,f,_⟩:=h.box;obtain⟨b,o,n,cap,a,_⟩:=d.ex;rw[f] at a;cases a
theorem Dz.tf{W W':World}{base a B:Nat}{D:List TypeId}{S:List Nat}{es:List Ez}(h:Dz W base B es)(n:Tf a D S W W')(r:base≤a)(u:331∉D)(t:325∉D)(s:329∉D)
  (i:∀k∈S,base<=k/\k≠B/\(∀x∈es,k≠x.1.q)/\∀c w,W.heap[k]?≠some (.cells c 331 w)):Dz W' base B es:=by
 obtain⟨v,m,d⟩:=h.box;refine⟨⟨v,n.cells m (fun o=>(i _ o).2.1 rfl) t,d.tf n u fun k f o=>?_⟩,fun x j=>⟨(h.qs x j).1.tf n r s fun k f=>⟨(i k f).1,(i k f).2.2.1 x j⟩,(h.qs x j).2⟩,h.ok,h.bb,h.nd⟩
 rcases d.2 with⟨rfl,_⟩|⟨g,cap,y,rfl,_,p,_⟩
 ·cases f
 ·obtain rfl:g=k:=by simpa [Value.ownBlock] using f
  exact(i _ o).2.2.2 _ _ p
def Si(x:Ez):Value:=.iface 331 (.agg #[.pointer (some ⟨x.1.q,0,none⟩),.int .i64 x.1.at_])
theorem fE(W:World)(base B:Nat)(d:List Ez)(x:Ez)(h:Dz W base B d)(ho:G5 (C5 d) d.length)(U:I5 W base x.1.q x.2)(h0:0<x.2.length)(I:Ce x.2)(o:x.1.q∉d.map (·.1.q))(O:base≤W.heap.size)(hn:d.length≤999999):
  Calls Tryz.prog 270 #[.iface 323 (.pointer (some ⟨B,0,none⟩)),Si x] W fun e W'=>e=.returned (.tuple #[])/\∃f,f.Perm (x::d)/\G5 (C5 f) f.length/\Dz W' base B f/\Tf base [331] [B] W W':=by
 obtain⟨v,A,z⟩:=h.box;have HP:=a0z (sG W base B v (d.map (·.1)) x.1 A z O (by rw[a0v];omega));have HQ:=a0z U;have t:=a0z h;have HO:=a0z ho;have ab:=a0z (h.noB U);have aa:=a0z I;have M:=a0z o;have V:=sJ W ⟨B,0,none⟩;clear A z h ho U I o;unfold Si;go_enter Tryz.func270,Tryz.ntmps270;go_wp2_with (fail);(with_reducible refine HP.out.mono ?_);rintro e w ⟨rfl,⟨v1,j,s⟩,i⟩
 have L:Dz w base B (d++[x]):=by
  refine⟨⟨v1,j,by rw[a1x];exact s⟩,fun y g=>?_,fun y g=>?_,t.out.bb,?_⟩
  ·rcases List.mem_append.1 g with g|g
   ·have u:=t.out.qs y g;refine⟨u.1.tf i (a1z _) (by decide) fun k X=>?_,u.2⟩;rw[List.mem_singleton.1 X];exact⟨t.out.bb,Ne.symm (t.out.noB u.1)⟩
   ·rw[List.mem_singleton.1 g];refine⟨HQ.out.tf i (a1z _) (by decide) fun k X=>?_,h0⟩;rw[List.mem_singleton.1 X];exact⟨t.out.bb,Ne.symm ab.out⟩
  ·rcases List.mem_append.1 g with g|g
   ·exact t.out.ok y g
   ·rw[List.mem_singleton.1 g];exact aa.out
  ·rw[a1x,List.nodup_append];refine⟨t.out.nd,by simp,fun a ha b O e=>?_⟩;rw[List.map_cons,List.map_nil,List.mem_singleton] at O;rw[e,O] at ha;exact M.out ha
 have E:Ov (C5 (d++[x])) (d++[x]).length d.length:=by
  have u:=HO.out;rw[<-U3] at u;have Y:=u.push (F7 x);rw[U3] at Y;unfold C5 at Y ⊢;rw[a1x,List.length_append];exact Y
 have HU:=a0z (sM w base B (d++[x]) d.length L (by simp) E (by simp;omega));obtain⟨Q,P,S,-,-⟩:=s.len;subst S
 have r:(d.map (·.1)++[x.1]).length=d.length+1:=by simp
 rw[r] at j;have q1:w.cell? ⟨B,0,none⟩=some (.slice Q (d.length+1) P):=Ab j 0;have p:=fC w B Q (d.length+1) P q1;have Z:=a0z i
 obtain⟨n,J⟩:∃n,d.length=n:=⟨_,rfl⟩
 rw[J] at p hn HU
 have n1:IntKind.i64.wrap (((n+1:Nat):Int)-1)=(n:Int):=by rw[a0u];omega
 obtain⟨m,hm⟩:∃m,n+1=m:=⟨_,rfl⟩
 rw[hm] at n1 p;have N:=a0z (cG w Q m P);clear j s i L E V r q1 hm J;go_wp2_with (fail);(with_reducible refine N.out.mono ?_);rintro e w2 ⟨rfl,rfl⟩;go_wp2_with (fail);(with_reducible refine HU.out.mono ?_);rintro e w3 ⟨rfl,f,hp,G,K,F⟩;have H1:=a0z hp;have H2:=a0z G;have H3:=a0z K;have H4:=a0z (Z.out.trans F (by simp));clear hp G K F;go_wp2_with (fail);go_end0;exact⟨rfl,f,H1.out.trans (List.perm_append_singleton x d),H2.out,H3.out,H4.out⟩
theorem sO(W:World)(base B:Nat)(es:List Ez)(h:Dz W base B es)(ho:G5 (C5 es) es.length)(h0:0<es.length)(hn:es.length≤1000000):
  Calls Tryz.prog 272 #[.iface 323 (.pointer (some ⟨B,0,none⟩))] W fun e W'=>∃x t,e=.returned (Si x)/\(x::t).Perm es/\G5 (C5 t) t.length/\Dz W' base B t/\I5 W' base x.1.q x.2/\(∀y∈es,A9 (F7 x) (F7 y))/\Tf base [331] [B] W W':=by
 have HH:=a0z h;have HO:=a0z ho
 obtain⟨n,I⟩:∃n,es.length=n+1:=⟨es.length-1,by omega⟩
 have a:=a0z I;obtain⟨s,m,c,q,hm,O⟩:=h.swap h0;have U:=fC W B s m c q;have S:=Z0 W B s m c q;have ag:=a0z (cG W s m c);have ad:=a0z (O 0 n h0 (by omega));rw[I] at hm hn
 have n1:IntKind.i64.wrap ((m:Int)-1)=(n:Int):=by rw[a0u];omega
 rw[show((0:Nat):Int)=0 from rfl] at ad;clear h ho I O hm h0;go_enter Tryz.func272,Tryz.ntmps272;go_wp2_with (fail);(with_reducible refine ag.out.mono ?_);rintro e w0 ⟨rfl,rfl⟩;go_wp2_with (fail);(with_reducible refine ad.out.mono ?_);rintro e w1 ⟨rfl,Y,N⟩
 have V:(G7 J9 es 0 n).length=n+1:=by rw[Aa7];exact a.out
 have aa:Nx (C5 (G7 J9 es 0 n)) n 0:=by
  rw[Z1];have f:=HO.out;rw[a.out] at f;exact f.pop (by rw[U3];exact a.out)
 have ao:=a0z (sN w1 base B _ n Y (by omega) aa (by omega));have ak:=a0z N;have an:=a0z V;clear Y N V aa U S q;go_wp2_with (fail);(with_reducible refine ao.out.mono ?_);rintro e w2 ⟨⟨bz,rfl⟩,es2,G,o,A,J,M⟩;have ai:es2.length=n+1:=G.length_eq.trans an.out
 have g:es2=es2.take n++[es2.getD n J9]:=by
  rw[a0x,a0w (by omega)]
  show es2=es2.take n++[es2[n]]
  rw[List.take_append_getElem (by omega),show n+1=es2.length by omega,List.take_length]
 obtain⟨x,hx⟩:∃x,es2.getD n J9=x:=⟨_,rfl⟩
 obtain⟨p,X⟩:∃l,es2.take n=l:=⟨_,rfl⟩
 have z:G5 (C5 p) p.length:=by
  have e1:p.length=n:=by rw[<-X,List.length_take];omega
  rw[e1]
  refine A.frame fun i hi=>?_
  rw[R9 (by omega),R9 (by omega)];congr 1;subst X;rw[List.getElem_take]
 rw[hx,X] at g
 have K:x=es.getD 0 J9:=by
  rw[<-hx,o n (a1z _)]
  by_cases e:n=0
  ·subst e;rw[mA]
  ·unfold G7;rw[a0x,List.getElem?_set_self (by rw[List.length_set,a.out];omega)];rfl
 have E:∀y∈es,A9 (F7 x) (F7 y):=by
  intro y r;obtain⟨i,hi,ei⟩:=List.mem_iff_getElem.1 r;have f:=G5.root HH.out.keys HO.out i hi;rw[R9 hi,R9 (by have:=a.out;omega),ei] at f;rw[K,a0x,a0w (by have:=a.out;omega)];exact f
 have P:(x::p).Perm es:=by
  have f:es2.Perm es:=G.trans (W7 (by rw[a.out];omega) (by rw[a.out];omega));rw[g] at f;exact(List.perm_append_singleton x p).symm.trans f
 obtain⟨v2,w,u⟩:=J.box;have j:=u;rw[g,a1x] at j;have ae:=a0z (sH w2 base B v2 (p.map (·.1)) x.1 w j (by rw[a0v,<-X,List.length_take];omega));have ah:=sK w2 ⟨B,0,none⟩;have d:=a0z J;have ac:=a0z g;have am:=a0z z;have af:=a0z E;have al:=a0z P;have aj:=a0z (ak.out.trans M (by simp));clear G o A J M hx X z g K E P w u j ai;go_wp2_with (fail);(with_reducible refine ae.out.mono ?_);rintro e w3 ⟨rfl,⟨v3,ab,Q⟩,Z⟩;have H1:=a0z ab;have H2:=a0z Q;have H3:=a0z Z;clear ab Q Z ah;go_wp2_with (fail);go_ret;have L:Tf base [331] [B] w2 w3:=Tf.of H3.out
 have F:∀y,y∈p∨y=x->y∈es2:=fun y r=>by rw[ac.out];rcases r with h|h<;>simp[h]
 have hq:∀y,y∈p∨y=x->I5 w3 base y.1.q y.2/\0<y.2.length:=fun y r=>by
  have f:=d.out.qs y (F y r);refine⟨f.1.tf L (a1z _) (by decide) fun k hk=>?_,f.2⟩;rw[List.mem_singleton.1 hk];exact⟨d.out.bb,Ne.symm (d.out.noB f.1)⟩
 refine⟨x,p,rfl,al.out,am.out,⟨⟨v3,H1.out,H2.out⟩,fun y r=>hq y (Or.inl r),fun y r=>d.out.ok y (F y (Or.inl r)),d.out.bb,?_⟩,(hq x (Or.inr rfl)).1,af.out,(aj.out.mono (by simp)).trans L (by simp)⟩;have:=d.out.nd;rw[ac.out,a1x] at this;exact(List.nodup_append.1 this).1
end
section
open Go.RowKit Go.Lib
theorem sP(w:World)(base g n cap:Nat)(l:List Ad)(N:Ae Bz w base (.slice (some ⟨g,0,none⟩) n cap) l)(a:Ce l)(O:l.length=20):
  Calls Tryz.prog 263 #[.slice (some ⟨g,0,none⟩) n cap,.int .i64 n,.func (.func 217) #[] #[]] w fun e w'=>e=.returned (.tuple #[])/\(∃y,Fq 0 n l y/\G4 y 0 n/\Ae Bz w' base (.slice (some ⟨g,0,none⟩) n cap) y)/\Fp [g] w w':=by
 have U:l.length=n:=by
  obtain⟨a',c',e,-⟩:=N.len;cases e;rfl
 obtain rfl:n=20:=by omega
 have S:=a0z (dU w base g 20 cap 0 20 l N a (Nat.zero_le _) (by omega) (by omega));have J:=a0z (fun w2 (i:List Ad) (h:Ae Bz w2 base (.slice (some ⟨g,0,none⟩) 20 cap) i) (a:Ce i) (hl:i.length=20)=>dU w2 base g 20 cap 20 20 i h a (a1z _) (by omega) (by omega));rw[show((0:Nat):Int)=0 from rfl,show((20:Nat):Int)=20 from rfl] at S;have F:=a0z a;have I:=a0z O;clear U a O;go_enter Tryz.func263,Tryz.ntmps263;go_wp2_with (fail)
 go_loopg [7,8] 1 (fun z M u wr=>(z=1/\M=.int .i64 0/\u=.int .i64 20/\wr=w)∨(z=0/\M=.int .i64 20/\u=.int .i64 40/\∃j,Fq 0 20 l j/\G4 j 0 20/\Ae Bz wr base (.slice (some ⟨g,0,none⟩) 20 cap) j/\Fp [g] w wr))
 case atStart=>exact Or.inl ⟨rfl,rfl,rfl,rfl⟩
 case round=>
  rcases hrel with⟨rfl,rfl,rfl,rfl⟩|⟨rfl,rfl,rfl,j,k,m,d,s⟩
  ·go_wp2_with (fail);(with_reducible refine S.out.mono ?_);rintro e Z ⟨rfl,⟨j,k,m,d⟩,s⟩;have A:=a0z k;have E:=a0z m;have Y:=a0z d;have L:=a0z s;clear k m d s;go_wp2_with (fail)
   go_roundg 0
   case measure=>decide
   case rel=>exact Or.inr ⟨rfl,rfl,rfl,j,A.out,E.out,Y.out,L.out⟩
  ·have A:=a0z k;have E:=a0z m;have L:=a0z s;have Q:=a0z (J.out wr j d (k.ok F.out) (by rw[k.len,I.out]));rw[show((20:Nat):Int)=20 from rfl] at Q;clear k m d s;go_wp2_with (fail);(with_reducible refine Q.out.mono ?_);rintro e w2 ⟨rfl,⟨i,f,-,o⟩,r⟩
   have t:Hid (Fq 0 20 l i/\G4 i 0 20):=a0z (by
    refine⟨A.out.trans (f.wide (Nat.zero_le _) (a1z _)),fun p q X V P=>?_⟩;rw[f.out p (Or.inl (by omega)),f.out q (Or.inl P)]
    exact E.out p q X V P)
   have G:=a0z o;have K:=a0z (L.out.trans r (by simp));clear f o r;go_wp2_with (fail)
   go_loopg [6] 0 (fun z u wr=>u=.int .i64 20/\wr=w2)
   case atStart=>exact⟨rfl,rfl⟩
   case round=>
    obtain⟨rfl,rfl⟩:=hrel;go_wp2_with (fail);go_end0;exact⟨rfl,⟨i,t.out.1,t.out.2,G.out⟩,K.out⟩
theorem sQ(w:World)(base g n cap:Nat)(l:List Ad)(i:Ae Bz w base (.slice (some ⟨g,0,none⟩) n cap) l)(a:Ce l)(k:l.length≤20):
  Calls Tryz.prog 216 #[.slice (some ⟨g,0,none⟩) n cap,.func (.func 217) #[] #[]] w fun e w'=>e=.returned (.tuple #[])/\(∃f,Fq 0 n l f/\G4 f 0 n/\Ae Bz w' base (.slice (some ⟨g,0,none⟩) n cap) f)/\Fp [g] w w':=by
 by_cases d:l.length<20
 ·exact Aev w base g n cap l i a d
 have m:=a0z (sP w base g n cap l i a (by omega));clear i a k d;go_enter Tryz.func216,Tryz.ntmps216;go_wp2_with (fail);(with_reducible refine m.out.mono ?_);rintro e p ⟨rfl,h,j⟩;have H:=a0z h;have o:=a0z j;clear h j;go_wp2_with (fail);go_end0;exact⟨rfl,H.out,o.out⟩
end
section
open Go.RowKit Go.Lib
theorem sR(w:World)(a:Option Addr)(n cap:Nat)(l:List Ad)(V:Cf Bz w a n l)(d:a=none→cap=0)(q:Ce l)(f:(l.map (·.pos)).Nodup)(h0:¬l.length=0)(hn:n≤20):
  Calls Tryz.prog 142 #[.slice a n cap] w fun e w'=>∃v' r,e=.returned v'/\Bv l r/\Ae Bz w' w.heap.size v' r/\Fp [] w w':=by
 have M:=a0z V.len;have ag:=a0z (pI w a n cap l V d (by omega));have L:=a0z q;have aa:=a0z f;clear V d q f;go_enter Tryz.func142,Tryz.ntmps142;go_wp2_with (fail);(with_reducible refine ag.out.mono ?_);rintro e w1 ⟨v1,rfl,u,G⟩;have ae:=a0z G;have o:=a0z u;clear G u;obtain⟨a1,c1,e1,-,-⟩:=o.out.len;subst e1;obtain⟨g,ah,aj,e2,ai,Y,-⟩:=o.out.open (by omega);cases e2;have I:=a0z (sQ w1 w.heap.size g l.length c1 l o.out L.out (by have:=M.out;omega))
 obtain⟨m,O⟩:∃m,l.length=m:=⟨_,rfl⟩
 rw[O] at I;rw[O];have P:=a0z O;clear O Y;go_wp2_with (fail);(with_reducible refine I.out.mono ?_);rintro e w2 ⟨rfl,⟨p,j,N,t⟩,F⟩;have k:=j.len;have Z:Hid (S8 p):=G4.rising (by rw[k,P.out];exact N) ((j.perm.map _).nodup_iff.2 aa.out);have K:=a0z (j.ok L.out);have af:=a0z (Aex w2 w.heap.size (.slice (some ⟨g,0,none⟩) m c1) p t (by have:=P.out;have:=M.out;omega))
 have J:Hid (Bv l (La p p.length)):=by
  have h:=vM K.out Z.out;exact⟨h.ris,fun x S=>j.perm.mem_iff.1 (h.sub x S),fun x S y Q N=>h.last x S y (j.perm.mem_iff.2 Q) N,fun y Q=>h.cov y (j.perm.mem_iff.2 Q)⟩
 have ad:=a0z (ae.out.trans F (by intro i X;right;simp at X;omega))
 have U:¬p.length=0:=by rw[k,P.out];have:=P.out;omega
 clear j N t k F;go_wp2_with (fail);(with_reducible refine af.out.mono ?_);rintro e w3 ⟨⟨v3,rfl,s⟩,g3,A,E⟩
 have z:g3=g:=by
  rcases A with h|h
  ·simpa [Value.ownBlock] using h.symm
  ·exact absurd h U
 subst z;have ac:=a0z (ad.out.trans E (by intro i X;right;simp at X;omega));have ab:=a0z s;clear E s A;go_wp2_with (fail);go_ret;exact⟨_,_,rfl,J.out,ab.out,ac.out⟩
end
end Go.Proofs.YtkagolpnaicdoaaGreatDoor
