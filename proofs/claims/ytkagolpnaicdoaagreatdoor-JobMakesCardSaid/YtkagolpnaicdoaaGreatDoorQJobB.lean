/- Lemmas. -/
import Derived.Test.YtkagolpnaicdoaaGreatDoorQCutC
set_option maxRecDepth 100000
set_option maxHeartbeats 8000000
open Go.Lib renaming hid->Y
open Nat renaming le_refl->Z,zero_le->a0x,le_trans->a0u,le_succ->a1u
open List renaming getElem?_eq_getElem->a0z,not_mem_nil->a0w,length_append->a0v,length_cons->a1z,map_append->a1w,take_append_drop->a2z
open Bool renaming and_eq_true->a1x
open ByteArray renaming size_extract->a1v
namespace Go.Proofs.YtkagolpnaicdoaaGreatDoor
section
open Go.RowKit Go.Lib
theorem Fp.belowQ{S:List Nat}{a b c:World}(h:Fp S a b)(k:Below a.heap.size b c):Fp S a c:=
 ⟨k.os.trans h.os,k.tape.trans h.tape,k.output.trans h.output,a0u h.size k.size,fun i d g=>(k.block i d).trans (h.block i d g)⟩
theorem An.typed{e:TypeId}{w:World}{base:Nat}{v:Value}{l:List Value}(h:An e w base v l):∀q,v.ownBlock=some q→base≤q∧∃c j,w.heap[q]?=some (.cells c e j):=by
 intro q a;rcases h.2 with⟨rfl,_⟩|⟨g,cap,k,rfl,i,d,_⟩
 .cases a
 .obtain rfl:g=q:=by simpa [Value.ownBlock] using a
  exact⟨i,_,_,d⟩
theorem An.keptT{e:TypeId}{w w':World}{base:Nat}{S:List Nat}{v:Value}{l:List Value}(h:An e w base v l)(m:Ao e base S w w'):An e w' base v l:=by
 refine⟨h.1,?_⟩;rcases h.2 with n|⟨g,cap,a,j,i,d,k⟩
 .exact Or.inl n
 .exact Or.inr ⟨g,cap,a,j,i,(m.high g _ _ i d).trans d,k⟩
theorem An.sl{e:TypeId}{w:World}{base:Nat}{v:Value}{l:List Value}(h:An e w base v l):∃a n c,v=.slice a n c:=by
 rcases h.2 with⟨rfl,_⟩|⟨g,cap,d,rfl,_⟩
 .exact⟨_,_,_,rfl⟩
 .exact⟨_,_,_,rfl⟩
theorem aU(T e:TypeId){z:Value}{d:Nat}(r:Tryz.prog.underlying T=some (.slice e))(n:(Tryz.prog.info? e).map (fun i=>(i.zero,i.size,i.bytes))=some (some z,1,d))(y:z.cells.size=1)(E:d≤100000)
  {w:World}{o:Oper}{a:Act}{K:Act->World->Prop}{Q:Exit->Act->World->Prop}(s x:Operand)
  (N:o.op=.call {callee:=.builtin .append,args:=#[s,x],argTypes:=#[T,T]})(base:Nat)(v:Value)(l:List Value)(M:a.eval s=v)(j:An e w base v l)
  (g:Nat)(t:Value)(L:t.oneCell'=true)(J:a.eval x=.slice (some ⟨g,0,none⟩) 1 1)(S:w.cell? ⟨g,0,none⟩=some t)(F:l.length+1<=1000000000)(m:base<=w.heap.size)
  (h:∀q w',An e w' base q (l++[t])->Below base w w'->(∀D,D≠e->Ao D base [] w w')->K (a.put o.dst q) w'):o.wp Tryz.prog a w K Q:=by
 obtain⟨I,R,C,B,A⟩:=info_parts n;refine wp_append_own (P:=Tryz.prog) w s x T N base e I _ 1 d r R C B A y (by decide) v l.length l M j ⟨g,0,none⟩ 1 1 [t] J rfl (X4 S) (by intro u r;simp at r;subst r;exact L) (by unfold maxLen;omega) (a0u (Nat.mul_le_mul (show l.length+1<=1000000000 by omega) E) (by decide)) m ?_;intro q w' V G _;refine h q w' ?_ ((Below.refl base w).grown G m (fun k O=>(World.ownsRow.lt j k O).1)) fun D U=>Sl (An.typed j) G U;unfold An;rw[a0v];exact V
theorem Tryz.infoU32:(Tryz.prog.info? 26).map (fun i=>(i.zero,i.size,i.bytes))=some (some (.int .u32 0),1,4):=by kernel_rfl
structure E5(w W0:World)(base p:Nat)(sum ep vF vS:Value)(fl sl:List Value)(s c:Value)(b:Nat->Bool)(vs:Nat->Value)(W:World):Prop where
 f0:b 4=false->An 9 W base vF fl
 f1:b 4=true->An 9 W base (vs 4) (fl++[s])
 s0:b 10=false->An 26 W base vS sl
 s1:b 10=true->An 26 W base (vs 10) (sl++[c])
 fb:b 3=true->b 4=false->∃g,vs 3=.slice (some ⟨g,0,none⟩) 1 1/\base<=g/\W.heap[g]?=some (.cells #[s] 9 (0,0))
 sb:b 9=true->b 10=false->∃g,vs 9=.slice (some ⟨g,0,none⟩) 1 1/\base<=g/\W.heap[g]?=some (.cells #[c] 26 (0,0))
 cel:W.heap[p]?=some (.cells #[sum,ep,cond (b 12) (vs 4) vF,cond (b 14) (vs 10) vS] 29 (0,0))
 kept:∀D,D≠9->D≠26->Ao D base [p] W0 W
 fp:Fp [p] w W
 o12:b 12=true->b 4=true
 o14:b 14=true->b 10=true
 o4:b 4=true->b 3=true
 o10:b 10=true->b 9=true
 sz:base<=W.heap.size
variable {w W0 W W2 : World} {base p : Nat} {sum ep vF vS : Value} {fl sl : List Value} {s c : Value} {b : Nat -> Bool} {vs : Nat -> Value}
theorem E5.start{vs:Nat->Value}(i:An 9 W0 base vF fl)(d:An 26 W0 base vS sl)(j:W0.heap[p]?=some (.cells #[sum,ep,vF,vS] 29 (0,0)))(a:Fp [p] w W0)(k:base<=W0.heap.size)(g:p<base):E5 w W0 base p sum ep vF vS fl sl s c (fun _=>false) vs {W0 with drawn:=W0.drawn+1}:=
 ⟨fun _=>i.fp (Fp.drew W0),(fun h=>by cases h),fun _=>d.fp (Fp.drew W0),(fun h=>by cases h),(fun h=>by cases h),(fun h=>by cases h),j,fun _ _ _=>Ao.of ((Fp.drew W0).mono (by simp)) (by simpa using g),a.trans (Fp.drew W0),(fun h=>by cases h),(fun h=>by cases h),(fun h=>by cases h),(fun h=>by cases h),k⟩
theorem E5.plain{j:Nat}{x:Value}(h:E5 w W0 base p sum ep vF vS fl sl s c b vs W)(m:j≠3/\j≠4/\j≠9/\j≠10/\j≠12/\j≠14):E5 w W0 base p sum ep vF vS fl sl s c (Ak b j) (B6 vs j x) W:=by
 obtain⟨l,d,k,a,i,g⟩:=m;refine⟨?_,?_,?_,?_,?_,?_,?_,h.kept,h.fp,?_,?_,?_,?_,h.sz⟩
 .rw[Ah d.symm];exact h.f0
 .rw[Ah d.symm,Bd d.symm];exact h.f1
 .rw[Ah a.symm];exact h.s0
 .rw[Ah a.symm,Bd a.symm];exact h.s1
 .rw[Ah l.symm,Ah d.symm,Bd l.symm];exact h.fb
 .rw[Ah k.symm,Ah a.symm,Bd k.symm];exact h.sb
 .rw[Ah i.symm,Ah g.symm,Bd d.symm,Bd a.symm];exact h.cel
 .rw[Ah i.symm,Ah d.symm];exact h.o12
 .rw[Ah g.symm,Ah a.symm];exact h.o14
 .rw[Ah d.symm,Ah l.symm];exact h.o4
 .rw[Ah a.symm,Ah k.symm];exact h.o10
theorem E5.on(h:E5 w W0 base p sum ep vF vS fl sl s c b vs W)(a:Fp [] W W2):E5 w W0 base p sum ep vF vS fl sl s c b vs W2:=by
 refine⟨fun e=>(h.f0 e).fp a,fun e=>(h.f1 e).fp a,fun e=>(h.s0 e).fp a,fun e=>(h.s1 e).fp a,fun l k=>?_,fun l k=>?_,(a.block _ (Ae h.cel) (by simp)).trans h.cel,fun D n m=>(h.kept D n m).trans (Ao.of a (by simp)),h.fp.trans a,h.o12,h.o14,h.o4,h.o10,a0u h.sz a.size⟩
 .obtain⟨g,j,i,d⟩:=h.fb l k;exact⟨g,j,i,(a.block _ (Ae d) (by simp)).trans d⟩
 .obtain⟨g,j,i,d⟩:=h.sb l k;exact⟨g,j,i,(a.block _ (Ae d) (by simp)).trans d⟩
theorem E5.bldF(h:E5 w W0 base p sum ep vF vS fl sl s c b vs W)(d:b 3=false):E5 w W0 base p sum ep vF vS fl sl s c (Ak b 3) (B6 vs 3 (.slice (some ⟨W.heap.size,0,none⟩) 1 1)) (W.alloc (.cells #[s] 9)):=by
 have a:=E6 h.o4 d;have k:=h.on (Fp.alloc W (.cells #[s] 9));refine⟨k.f0,k.f1,k.s0,k.s1,fun _ _=>⟨W.heap.size,Gu _ _ _,h.sz,Ai rfl _⟩,k.sb,k.cel,k.kept,k.fp,k.o12,k.o14,fun e=>?_,k.o10,k.sz⟩;rw[Ah (by decide),a] at e;cases e
theorem E5.bldS(h:E5 w W0 base p sum ep vF vS fl sl s c b vs W)(d:b 9=false):E5 w W0 base p sum ep vF vS fl sl s c (Ak b 9) (B6 vs 9 (.slice (some ⟨W.heap.size,0,none⟩) 1 1)) (W.alloc (.cells #[c] 26)):=by
 have a:=E6 h.o10 d;have k:=h.on (Fp.alloc W (.cells #[c] 26));refine⟨k.f0,k.f1,k.s0,k.s1,k.fb,fun _ _=>⟨W.heap.size,Gu _ _ _,h.sz,Ai rfl _⟩,k.cel,k.kept,k.fp,k.o12,k.o14,k.o4,fun e=>?_,k.sz⟩;rw[Ah (by decide),a] at e;cases e
theorem E5.appF{k:Value}(h:E5 w W0 base p sum ep vF vS fl sl s c b vs W)(x:b 3=true)(v:b 4=false)(u:An 9 W2 base k (fl++[s]))(j:Below base W W2)(l:∀D,D≠9->Ao D base [] W W2)(t:p<base)(i:w.heap.size<=base):E5 w W0 base p sum ep vF vS fl sl s c (Ak b 4) (B6 vs 4 k) W2:=by
 have d:=E6 h.o12 v;have a:=l 26 (by decide);refine⟨fun e=>?_,fun _=>by rw[Gu];exact u,fun e=>(h.s0 e).keptT a,fun e=>(h.s1 e).keptT a,fun _ e=>?_,fun B A=>?_,?_,fun D n y=>(h.kept D n y).trans (l D n),h.fp.belowQ (j.mono i),fun _=>Eg _ _,h.o14,fun _=>x,h.o10,a0u h.sz j.size⟩
 .rw[Eg] at e;cases e
 .rw[Eg] at e;cases e
 .obtain⟨g,z,r,q⟩:=h.sb B A;exact⟨g,z,r,(a.high g _ _ r q).trans q⟩
 .have m:=h.cel;rw[d] at m;rw[Ah (by decide),d];exact(j.block _ t).trans m
theorem E5.appS{l:Value}(h:E5 w W0 base p sum ep vF vS fl sl s c b vs W)(x:b 9=true)(k:b 10=false)(v:An 26 W2 base l (sl++[c]))(j:Below base W W2)(m:∀D,D≠26->Ao D base [] W W2)(u:p<base)(i:w.heap.size<=base):E5 w W0 base p sum ep vF vS fl sl s c (Ak b 10) (B6 vs 10 l) W2:=by
 have d:=E6 h.o14 k;have a:=m 9 (by decide);refine⟨fun e=>(h.f0 e).keptT a,fun e=>(h.f1 e).keptT a,fun e=>?_,fun _=>by rw[Gu];exact v,fun B A=>?_,fun _ e=>?_,?_,fun D y q=>(h.kept D y q).trans (m D q),h.fp.belowQ (j.mono i),h.o12,fun _=>Eg _ _,h.o4,fun _=>x,a0u h.sz j.size⟩
 .rw[Eg] at e;cases e
 .obtain⟨g,z,t,r⟩:=h.fb B A;exact⟨g,z,t,(a.high g _ _ t r).trans r⟩
 .rw[Eg] at e;cases e
 .have n:=h.cel;rw[d] at n;rw[Ah (by decide),Ah (by decide),d];exact(j.block _ u).trans n
theorem E5.stoF{y:Value}(h:E5 w W0 base p sum ep vF vS fl sl s c b vs W)(r:b 4=true)(q:p<base)(n:vs 4=y):E5 w W0 base p sum ep vF vS fl sl s c (Ak b 12) (B6 vs 12 undef) (W.setCell ⟨p,2,none⟩ y):=by
 have j:Fp [p] W (W.setCell ⟨p,2,none⟩ y):=Fp.setCell W ⟨p,2,none⟩ y;have a:∀D,Ao D base [p] W (W.setCell ⟨p,2,none⟩ y):=fun D=>Ao.of j (by simpa using q);refine⟨fun e=>(h.f0 e).keptT (a _),fun e=>(h.f1 e).keptT (a _),fun e=>(h.s0 e).keptT (a _),fun e=>(h.s1 e).keptT (a _),fun m l=>?_,fun m l=>?_,?_,fun D u t=>(h.kept D u t).trans (a D),h.fp.trans j,fun _=>r,h.o14,h.o4,h.o10,a0u h.sz j.size⟩
 .obtain⟨g,k,i,d⟩:=h.fb m l;exact⟨g,k,i,((a _).high g _ _ i d).trans d⟩
 .obtain⟨g,k,i,d⟩:=h.sb m l;exact⟨g,k,i,((a _).high g _ _ i d).trans d⟩
 .rw[Cf h.cel];rw[Eg,Ah (by decide),Bd (by decide),Bd (by decide),n];rfl
theorem E5.stoS{y:Value}(h:E5 w W0 base p sum ep vF vS fl sl s c b vs W)(k:b 10=true)(r:p<base)(q:vs 10=y):E5 w W0 base p sum ep vF vS fl sl s c (Ak b 14) (B6 vs 14 undef) (W.setCell ⟨p,3,none⟩ y):=by
 have j:Fp [p] W (W.setCell ⟨p,3,none⟩ y):=Fp.setCell W ⟨p,3,none⟩ y;have a:∀D,Ao D base [p] W (W.setCell ⟨p,3,none⟩ y):=fun D=>Ao.of j (by simpa using r);refine⟨fun e=>(h.f0 e).keptT (a _),fun e=>(h.f1 e).keptT (a _),fun e=>(h.s0 e).keptT (a _),fun e=>(h.s1 e).keptT (a _),fun n m=>?_,fun n m=>?_,?_,fun D u t=>(h.kept D u t).trans (a D),h.fp.trans j,h.o12,fun _=>k,h.o4,h.o10,a0u h.sz j.size⟩
 .obtain⟨g,l,i,d⟩:=h.fb n m;exact⟨g,l,i,((a _).high g _ _ i d).trans d⟩
 .obtain⟨g,l,i,d⟩:=h.sb n m;exact⟨g,l,i,((a _).high g _ _ i d).trans d⟩
 .rw[Cf h.cel];rw[Eg,Ah (by decide),Bd (by decide),Bd (by decide),q];rfl
end
section
open Go.RowKit Go.Lib
theorem Eb.mem{l:List Ac}{i:List ByteArray}{a:List (List Ac)}(h:Eb l i a){x:List Ac}(d:x∈a){c:Ac}(g:c∈x):c∈l:=by
 rw[<-h.flat];exact List.mem_flatten.2 ⟨x,d,g⟩
theorem vN(w:World)(a:Option Addr)(n cap:Nat)(a2:Option Addr)(n2 K:Nat)(l:List Ac)(borders:List ByteArray)(m:Nat)(hl:Ba w a n l)(af:a=none∧cap=0∨∃b o,a=some ⟨b,o,none⟩)(hc:n≤cap)(hb:D6 w a2 n2 borders)(hn:n≤900000)(bo:n2≤900000)(an:Ee borders=true)(N:risC l=true)(a0:1≤m)(hm:m<2^63):
  Calls Tryz.prog 50 #[.slice a n cap,.slice a2 n2 K,.int .i64 m] w fun e w'=>∃v out,e=.returned (.tuple #[v,.int .i64 0])/\Gk w' w.heap.size v (G7 m out)/\Eb l borders out/\Fp [] w w':=by
 have a6:=Y (fun W (hl:Ba W a n l) (hb:D6 W a2 n2 borders)=>iQ W a n cap a2 n2 K l borders hl af hc hb (by omega) (by omega) an N);have HL:=Y hl;have HB:=Y hb;have ba:=Y N
 have bp:l.length<=900000:=by have:=hl.len;omega
 have br:borders.length<=900000:=by have:=hb.len;omega
 clear hl af hc hb an N;go_in;go_wp2_with fail;refine(a6.o _ HL.o HB.o).mono ?_;rintro e A ⟨v1,out,rfl,P,M,am⟩;obtain⟨va,vc,rfl⟩:=P.slice
 have bn:out.length<=900001:=by have:=M.count;omega
 have be:=Y P;have z:=Y M;have aw:=Y am;clear P M am;go_wp2_with fail
 go_loopg [6,26] out.length (fun g vo vi wr=>∃i:Nat,g=out.length-i/\vi=.int .i64 i/\i<=out.length/\Gk wr A.heap.size vo (Gt m out i)/\Fp [] A wr)
 case atStart=>exact⟨0,rfl,rfl,a0x _,Gk.nil _ _,Fp.refl _ _⟩
 case round=>
  obtain⟨i,hg,rfl,hi,y,hf⟩:=hrel;have F:=Y y;have G:=Y hf;have HG:=Y hg;clear y hf hg;by_cases E:i<out.length
  .have zi:(i:Int)<(out.length:Int):=(by omega)
   have n1:IntKind.i64.wrap ((i:Int)+1)=((i+1:Nat):Int):=(by rw[IntKind.wrap_i64];omega)
   obtain⟨i1,S⟩:=Aa (i+1);rw[S] at n1;obtain⟨gb,bj,a1,-,bq,-,ak⟩:=(be.o.fp G.o).get E;cases a1;obtain⟨u,t,q⟩:=ak i E;obtain⟨x,hx⟩:=Aa (out[i]);rw[hx] at q
   have B:x∈out:=(by rw[<-hx];exact List.getElem_mem _)
   obtain⟨ax,cx,rfl,ad,ay,ac⟩:=Ap.at5 q (fun c hc=>HL.o.ok c (z.o.mem B hc))
   have bk:x.length<=900000:=by have:=Sm B;rw[z.o.flat] at this;omega
   have a9:=Y (fun W (h:Ba W ax x.length x)=>uV W ax x.length cx m x h (z.o.ris ba.o x B) (by omega) ad a0 hm)
   have al:out.getD i []=x:=(by rw[List.getD_eq_getElem?_getD,a0z E,<-hx];rfl)
   have au:=Y al;have a3:=Y ac;have aa:=Y S;have q0:wr.cell? ⟨gb,i,none⟩=some (.slice ax x.length cx):=t;clear ak t q hx B ad ay ac al S;go_wp2_with fail;refine(a9.o _ (a3.o)).mono ?_;rintro e w2 ⟨v2,rfl,C,T⟩;obtain⟨d,k⟩:=Aa (Hh x m);rw[k] at C;obtain⟨ra,rc,rfl⟩:=C.slice;have bd:=Y C;have ap:=Y k;have aq:=Y (F.o.fp T);have av:=Y (G.o.trans T);have I:A.heap.size<=wr.heap.size:=G.o.size
   have bm:d.length<=900000:=by have:=aC x m;rw[k] at this;omega
   clear C T k q0;have bh:Hid ((Gt m out i).length+d.length≤900000):=by
    have h1:=Sr m out (i+1) E;rw[P8,au.o,ap.o,a0v,List.length_map] at h1;have h2:((out.take (i+1)).flatten).length<=l.length:=by
     rw[<-z.o.flat]
     conv=>rhs;rw[<-a2z (i+1) out,List.flatten_append,a0v]
     omega
    exact Y (by omega)
   go_wp2_with fail
   go_loopg [6,42] d.length (fun g vo vj W=>∃j:Nat,g=d.length-j/\vj=.int .i64 j/\j<=d.length/\Gk W A.heap.size vo (Gt m out i++(d.take j).map fun r=>(i,r))/\Fp [] A W/\∀D,D≠106->Ao D A.heap.size [] w2 W)
   case atStart=>exact⟨0,rfl,rfl,a0x _,by rw[List.take_zero,List.map_nil,List.append_nil];exact aq.o,av.o,fun _ _=>Ao.of (Fp.refl [] _) (by simp)⟩
   case round=>
    obtain⟨j,aj,rfl,hj,y,hf,hk⟩:=hrel;have L:=Y y;have ab:=Y hf;have U:=Y hk;have bg:=Y aj;clear y hf hk aj;obtain⟨wj,az⟩:=Bz wr;subst az;by_cases Q:j<d.length
    .have zj:(j:Int)<(d.length:Int):=(by omega)
     have nj:IntKind.i64.wrap ((j:Int)+1)=((j+1:Nat):Int):=(by rw[IntKind.wrap_i64];omega)
     obtain⟨j1,R⟩:=Aa (j+1);rw[R] at nj;obtain⟨gr,bs,ai,-,-,-,J⟩:=(bd.o.keptD I (U.o _ (by decide)) (U.o _ (by decide))).get Q;cases ai;obtain⟨u,t,q⟩:=J j Q;obtain⟨r,hr⟩:=Aa (d[j]);rw[hr] at q;obtain⟨ar,cr,rfl⟩:=Ap.sliceL q;have a4:=Y (Ap.mono q I);have q1:wj.cell? ⟨gr,j,none⟩=some (.slice ar r.length cr):=t
     have ae:d.take (j+1)=d.take j++[r]:=(by rw[List.take_add_one,a0z Q,hr];rfl)
     have a5:=Y ae;have V:=Y R;have a7:Hid (A.heap.size<=wj.heap.size):=Y ab.o.size;clear J t q hr ae R;go_wp2_with (at_builtin;refine uX rfl _ _ rfl A.heap.size _ _ rfl (L.o.fp (Fp.alloc _ _)) _ i r.length cr ar r (a4.o.fp (Fp.alloc _ _)) rfl (Ai rfl _) (by have:=bh.o;rw[a0v,List.length_map,List.length_take];omega) (by have:=a7.o;simp;omega) ?_;intro v3 w3 ag ao ah;have bc:=Y ag;have bi:=Y ao;have bf:=Y ah;clear ag ao ah)
     go_roundg (d.length-j1)
     case measure=>have:=bg.o;have:=V.o;omega
     case rel=>
      refine⟨j1,rfl,rfl,by have:=V.o;omega,?_,(ab.o.trans (Fp.alloc _ _)).belowTrans bi.o,fun D hD=>((U.o D hD).trans (Ao.of (Fp.alloc _ _) (by simp))).trans (bf.o D hD)⟩;rw[<-V.o,a5.o,a1w,<-List.append_assoc];exact bc.o
    .have z1:¬(j:Int)<(d.length:Int):=(by omega)
     obtain rfl:j=d.length:=by omega
     have bb:Hid (Gk wj A.heap.size u6 (Gt m out i1)):=by
      have h1:=L.o;rw[List.take_length] at h1;rw[<-aa.o,P8,au.o,ap.o];exact Y h1
     go_wp2_with fail
     go_roundg (out.length-i1)
     case measure=>have:=HG.o;have:=aa.o;omega
     case rel=>exact⟨i1,rfl,rfl,by have:=aa.o;omega,bb.o,ab.o⟩
  .have z0:¬(i:Int)<(out.length:Int):=(by omega)
   obtain rfl:i=out.length:=by omega
   obtain⟨pa,pc,rfl⟩:=F.o.slice;have a8:Hid (w.heap.size<=A.heap.size):=Y aw.o.size;obtain⟨pn,O⟩:=Aa ((Gt m out out.length).length);rw[O] at F;rw[O];clear O;go_wp2_with fail;refine bodyPost_ret (v:=.tuple #[.slice pa pn pc,.int .i64 0]) (by simp[results,Tryz.results50,go_sem]) rfl ?_;exact⟨_,rfl,out,F.o.mono a8.o,z.o,aw.o.trans G.o⟩
theorem vO(w:World)(a:Option Addr)(n cap:Nat)(E:Option Addr)(j h:Nat)(l:List Ac)(borders:List ByteArray)(m:Int)(C:Ba w a n l)(x:a=none∧cap=0∨∃b o,a=some ⟨b,o,none⟩)(N:n≤cap)(D:D6 w E j borders)(hn:n≤900000)(R:j≤900000)(B:Ee borders=true)(y:risC l=true)(S:m<1):
  Calls Tryz.prog 50 #[.slice a n cap,.slice E j h,.int .i64 m] w fun e w'=>e=.returned (.tuple #[.slice none 0 0,.int .i64 1])/\Fp [] w w':=by
 have I:=Y (fun W (C:Ba W a n l) (D:D6 W E j borders)=>iQ W a n cap E j h l borders C x N D (by omega) (by omega) B y);have J:=Y (fun w a n cap=>uW w a n cap m S);have HL:=Y C;have HB:=Y D;clear C x N D B y;go_in;go_wp2_with fail;refine(I.o _ HL.o HB.o).mono ?_;rintro e M ⟨v1,d,rfl,i,t,A⟩;obtain⟨va,vc,rfl⟩:=i.slice;have F:=t.count
 have O:0<d.length:=by omega
 obtain⟨U,P,G,-,T,-,z⟩:=i.get O;cases G;obtain⟨u,r,q⟩:=z 0 O;obtain⟨ax,V,rfl⟩:=Ap.sliceL q;have q0:M.cell? ⟨U,0,none⟩=some (.slice ax d[0].length V):=r;obtain⟨xl,k⟩:=Aa (d[0].length);rw[k] at q0
 have z0:(0:Int)<(d.length:Int):=by omega
 have L:=Y A;clear z r q F i A t k;go_wp2_with fail
 go_loopg [6,26] 0 (fun g vo Q wr=>g=0/\Q=.int .i64 0/\M=wr)
 case atStart=>exact⟨rfl,rfl,rfl⟩
 case round=>
  obtain⟨rfl,rfl,rfl⟩:=hrel;go_wp2_with fail;refine(J.o _ _ _ _).nexh fun w2 K=>?_;clear q0;go_wp2_with fail;refine bodyPost_ret (v:=.tuple #[.slice none 0 0,.int .i64 1]) (by simp[results,Tryz.results50,go_sem]) rfl ?_;exact⟨rfl,L.o.trans K.o⟩
theorem vP(w:World)(a:Option Addr)(n cap:Nat)(l:Option Addr)(g d:Nat)(borders:List ByteArray)(q:D6 w l g borders)(t:g≤900000)(j:Ee borders=false):
  Calls Tryz.prog 88 #[.slice a n cap,.slice l g d] w fun e w'=>e=.returned (.tuple #[.slice none 0 0,.int .i64 1])/\Fp [] w w':=by
 have k:=Y (fun W (h:D6 W l g borders)=>mE W l g d borders h (by omega));rw[j] at k;have u:=Y q;clear q j;go_in;go_wp2_with fail;refine(k.o _ (u.o.of_fp (Fp.alloc _ _))).mono ?_;rintro e r ⟨rfl,i⟩;have m:Hid (Fp [] w r):=(Fp.alloc _ _).trans i;clear i;go_wp2_with fail;refine bodyPost_ret (v:=.tuple #[.slice none 0 0,.int .i64 1]) (by simp[results,Tryz.results88,go_sem]) rfl ?_;exact⟨rfl,m.o⟩
theorem vQ(w:World)(a:Option Addr)(n cap:Nat)(j:Option Addr)(g d:Nat)(borders:List ByteArray)(m:Int)(i:D6 w j g borders)(q:g≤900000)(h:Ee borders=false):
  Calls Tryz.prog 50 #[.slice a n cap,.slice j g d,.int .i64 m] w fun e w'=>e=.returned (.tuple #[.slice none 0 0,.int .i64 1])/\Fp [] w w':=by
 have k:=Y (fun W (i:D6 W j g borders)=>vP W a n cap j g d borders i (by omega) h);have r:=Y i;clear i h;go_in;go_wp2_with fail;refine(k.o _ r.o).nexh fun t l=>?_;go_wp2_with fail;refine bodyPost_ret (v:=.tuple #[.slice none 0 0,.int .i64 1]) (by simp[results,Tryz.results50,go_sem]) rfl ?_;exact⟨rfl,l.o⟩
structure Xp(w wr:World)(s:ByteArray)(k:Nat)(v:Value)(out:List ByteArray)(cur:ByteArray):Prop where
 fp:Fp [] w wr
 own:Ce wr w.heap.size v out
 few:out.length<=k
 small:cur.size<=k
 no:∀b∈cur.data.toList,b≠32
 split:(k<=s.size/\E7 32 s.data.toList=out.map (fun t=>t.data.toList)++E7 32 (cur.data.toList++s.data.toList.drop k))∨(k=s.size+1/\E7 32 s.data.toList=out.map (fun t=>t.data.toList))
theorem aV{s:ByteArray}{k:Nat}(h:k<s.size):s.data.toList.drop k=s[k]::s.data.toList.drop (k+1):=by
 have a:k<s.data.toList.length:=by rw[<-size_eq];exact h
 have e:=Lu h;rw[a0z a] at e;rw[List.drop_eq_getElem_cons a,Option.some.inj e]
theorem jV{s:ByteArray}{k:Nat}(h:k<s.size):(s.extract k (k+1)).data.toList=[s[k]]:=by
 have a:k<s.data.toList.length:=by rw[<-size_eq];exact h
 rw[extract_data];have e:=Lu h;rw[a0z a] at e;apply List.ext_getElem?;intro i;rw[List.getElem?_take,List.getElem?_drop]
 cases i with
 |zero=>rw[if_pos (by omega),Nat.add_zero,a0z a,Option.some.inj e];rfl
 |succ i=>rw[if_neg (by omega)];rfl
theorem vR{w wr:World}{s:ByteArray}{v:Value}{a:List ByteArray}{d:ByteArray}(h:Xp w wr s s.size v a d):E7 32 s.data.toList=(a++[d]).map (fun t=>t.data.toList):=by
 rcases h.split with⟨_,e⟩|⟨e,_⟩
 .rw[e,a1w,List.drop_of_length_le (by rw[size_eq];exact Z _),List.append_nil,bU 32 _ h.no];rfl
 .omega
theorem vT{w wr:World}{s:ByteArray}{k:Nat}{v:Value}{a:List ByteArray}{d:ByteArray}(h:Xp w wr s k v a d)(g:k<s.size)(i:s[k]=32):
  E7 32 s.data.toList=(a++[d]).map (fun t=>t.data.toList)++E7 32 (([]:List UInt8)++s.data.toList.drop (k+1)):=by
 rcases h.split with⟨_,e⟩|⟨e,_⟩
 .rw[e,a1w,aV g,i,bV 32 _ _ h.no];simp
 .omega
theorem vU{w wr:World}{s:ByteArray}{k:Nat}{v:Value}{a:List ByteArray}{d:ByteArray}(h:Xp w wr s k v a d)(g:k<s.size):
  E7 32 s.data.toList=a.map (fun t=>t.data.toList)++E7 32 ((d++s.extract k (k+1)).data.toList++s.data.toList.drop (k+1)):=by
 rcases h.split with⟨_,e⟩|⟨e,_⟩
 .rw[e,aV g,lN,jV g];simp
 .omega
theorem vV(s:ByteArray)(w:World)(I:s.size≤100000000):
  Calls Tryz.prog 160 #[.string s] w fun e w'=>(∃v,e=.returned v/\Ce w' w.heap.size v (Dh 32 s))/\Fp [] w w':=by
 go_in;go_wp2_with fail
 go_loopg [3,4,5] (s.size+1) (fun g B D C wr=>∃k d a,g+k=s.size+1/\C=.int .i64 (k:Nat)/\D=.string a/\Xp w wr s k B d a)
 case atStart=>exact⟨0,[],⟨#[]⟩,by simp,rfl,rfl,Fp.alloc _ _,Ce.made w _ (Z _),Z _,Z _,by simp,Or.inl ⟨a0x _,rfl⟩⟩
 case round=>
  obtain⟨k,d,a,K,rfl,rfl,q⟩:=hrel;have h:=Y q;have x:=q.few;have F:=q.small;clear q;by_cases J:k<=s.size
  .by_cases t:k=s.size
   .subst t;have m:=Y (vR h.o);go_wp2_with (at_builtin;(refine Uo rfl _ _ rfl w.heap.size _ d rfl (h.o.own.fp (Fp.alloc _ _)) _ a rfl ((Ab (Ai rfl _) 0).trans rfl) (by omega) (by have:=h.o.fp.size;simp;omega) ?_);intro E A i l)
    go_roundg (gk-1)
    case measure=>omega
    case rel=>exact⟨s.size+1,d++[a],⟨#[]⟩,by omega,by simp,rfl,(h.o.fp.alloc' _).belowTrans l,i,by simp;omega,a0x _,by simp,Or.inr ⟨rfl,m.o⟩⟩
   .have j:k<s.size:=(by omega)
    by_cases y:s[k].toNat=32
    .have z:(s[k].toNat:Int)=32:=(by omega)
     have m:=Y (vT h.o j (UInt8.toNat_inj.1 y));go_wp2_with (at_builtin;(refine Uo rfl _ _ rfl w.heap.size _ d rfl (h.o.own.fp (Fp.alloc _ _)) _ a rfl ((Ab (Ai rfl _) 0).trans rfl) (by omega) (by have:=h.o.fp.size;simp;omega) ?_);intro E A i l)
     go_roundg (gk-1)
     case measure=>omega
     case rel=>exact⟨k+1,d++[a],⟨#[]⟩,by omega,by simp,rfl,(h.o.fp.alloc' _).belowTrans l,i,by simp;omega,a0x _,by simp,Or.inl ⟨by omega,m.o⟩⟩
    .have z:((s[k].toNat:Int)==32)=false:=beq_eq_false_iff_ne.2 (by omega)
     have G:¬(s[k].toNat:Int)=32:=(by omega)
     have m:=Y (vU h.o j)
     have r:(s.extract k (k+1)).size=1:=(by rw[a1v];omega)
     have u:Hid (∀b∈(a++s.extract k (k+1)).data.toList,b≠32):=by
      intro b n;rw[lN,jV j] at n;rcases List.mem_append.1 n with n|n
      .exact h.o.no b n
      .rw[List.mem_singleton.1 n];intro e;exact y (by rw[e];rfl)
     go_wp2_with fail
     go_roundg (gk-1)
     case measure=>omega
     case rel=>exact⟨k+1,d,a++s.extract k (k+1),by omega,by simp,rfl,h.o.fp,h.o.own,by omega,by rw[ByteArray.size_append,r];omega,u.o,Or.inl ⟨by omega,m.o⟩⟩
  .obtain rfl:k=s.size+1:=by omega
   have m:Hid (Dh 32 s=d):=by
    apply bX;rw[bW];rcases h.o.split with⟨e,_⟩|⟨_,e⟩
    .omega
    .exact e
   go_wp2_with fail;go_ret;refine⟨⟨_,rfl,?_⟩,h.o.fp⟩;rw[m.o];exact h.o.own
theorem aW{d:ByteArray}(h:0<d.size):hasPrefix d.data.toList [61]=((d[0].toNat:Int)==61):=by
 have e:=Lu h
 cases hd:d.data.toList with
 |nil=>rw[hd] at e;cases e
 |cons x r=>
  rw[hd] at e
  have g:x=d[0]:=by simpa using e
  rw[<-g];unfold hasPrefix;rw[Bool.eq_iff_iff,beq_iff_eq];simp only[List.isPrefixOf,Bool.and_true,beq_iff_eq];constructor
  .intro a;rw[<-a];rfl
  .intro a;refine(UInt8.toNat_inj.1 ?_);have i:(x.toNat:Int)=61:=a;show(61:Nat)=x.toNat;omega
theorem jW{d:ByteArray}(h:hasPrefix d.data.toList [61]=true):Hk d=d.extract 1 d.size:=by
 apply X3;rw[extract_to_end];unfold Hk Lib.trimPrefix;rw[if_pos h];simp
theorem vW{d:ByteArray}(a:Fo d=true)(h:0<d.size):K8 d=(((d[0].toNat:Int)==61)&&decide ((d.extract 1 d.size).size≤100)):=by
 unfold K8;rw[a,Bool.true_and,aW h];by_cases e:((d[0].toNat:Int)==61)=true
 .rw[jW (by rw[aW h];exact e)]
 .have g:((d[0].toNat:Int)==61)=false:=by simpa using e
  rw[g,Bool.false_and,Bool.false_and]
theorem vX{d:ByteArray}(h:Fo d=true):0<d.size:=by
 unfold Fo at h;rw[a1x,decide_eq_true_eq] at h;omega
theorem vY{d:ByteArray}(h:Ha d=true):Fo d=true:=by
 have e:d.toList=[45]:=by simpa [Ha] using h
 rw[ByteArray.toList_eq] at e;have:d=⟨#[45]⟩:=X3 e;rw[this];rfl
theorem vZ{d:ByteArray}(h:K8 d=true):Fo d=true:=by
 unfold K8 at h;simp only[a1x] at h;exact h.2.1
theorem Qc{a b c d:ByteArray}(h:Fo a=false∨Fo b=false∨Fo d=false∨¬a.size≤40∨¬b.size≤40∨Fq c=none∨(Ha d||K8 d)=false):Io a b c d=none:=by
 unfold Io;by_cases k:Fq c=none
 .rw[k];split<;>rfl
 .rw[if_neg];rintro⟨j,i,g⟩;unfold M6 at j i;simp only[a1x,decide_eq_true_eq] at j i;have l:Fo d=true:=by
   rcases Bool.or_eq_true_iff.1 g with g|g
   .exact vY g
   .exact vZ g
  rcases h with h|h|h|h|h|h|h
  .rw[j.1] at h;cases h
  .rw[i.1] at h;cases h
  .rw[l] at h;cases h
  .exact h j.2
  .exact h i.2
  .exact k h
  .rw[g] at h;cases h
theorem jX{a b c d:ByteArray}{u:Nat}(l:Fo a=true)(k:Fo b=true)(j:a.size≤40)(i:b.size≤40)(h:Fq c=some u)(g:(Ha d||K8 d)=true):
  Io a b c d=some ⟨a,b,u,0,Ha d,if Ha d=true then⟨#[]⟩ else Hk d⟩:=by
 unfold Io M6;rw[l,k,h,g,decide_eq_true j,decide_eq_true i,if_pos ⟨rfl,rfl,rfl⟩];rfl
theorem Ce.at4{w:World}{base:Nat}{v:Value}{a b c d:ByteArray}(h:Ce w base v [a,b,c,d]):∃g cap,v=.slice (some ⟨g,0,none⟩) 4 cap∧base≤g∧g<w.heap.size∧
  ∀w',Fp [] w w'->w'.cell? ⟨g,0,none⟩=some (.string a)/\w'.cell? ⟨g,1,none⟩=some (.string b)/\w'.cell? ⟨g,2,none⟩=some (.string c)/\w'.cell? ⟨g,3,none⟩=some (.string d):=by
 rcases h.at with⟨_,h|⟨g,cap,m,n,j,r⟩⟩
 .cases h
 .refine⟨g,cap,m,n,j,fun w' q=>?_⟩;have k:∀i (l:i<[a,b,c,d].length),w'.cell? ⟨g,i,none⟩=some (.string [a,b,c,d][i]):=fun i l=>(q.cell (p:=⟨g,i,none⟩) j a0w).trans (r i l);exact⟨k 0 (by simp),k 1 (by simp),k 2 (by simp),k 3 (by simp)⟩
def wC(s:ByteArray)(e:Ending):Prop:=∃c,e=.returned (.tuple #[A7 c,.bool (Dc s).isSome])/\(Dc s=none∨Dc s=some c)
theorem jY(s:ByteArray)(w:World)(hs:s.size≤100000000):
  Calls Tryz.prog 99 #[.string s] w fun e w'=>wC s e/\Fp [] w w':=by
 have hS:=Y (fun w=>vV s w hs);by_cases h4:(Dh 32 s).length=4
 .obtain⟨a,b,c,d,he⟩:=lT h4;have y:=Y (fun x=>O2 (c:=32) (s:=s) (x:=x))
  have aw:Dc s=Io a b c d:=by unfold Dc;rw[he]
  rw[he] at hS y
  have bd:a.size<=100000000:=by have:=y.o a (by simp);omega
  have bc:b.size<=100000000:=by have:=y.o b (by simp);omega
  have bb:c.size<=100000000:=by have:=y.o c (by simp);omega
  have ba:d.size<=100000000:=by have:=y.o d (by simp);omega
  have HA:=Y (fun w=>cF a w bd);have HB:=Y (fun w=>cF b w bc);have HD:=Y (fun w=>cF d w ba);have HC:=Y (fun w=>Aaz c w bb)
  have bi:(d.size:Int)<=100000000:=by omega
  obtain⟨wa,l⟩:=Aa (Fo a);obtain⟨wb,k⟩:=Aa (Fo b);obtain⟨wd,j⟩:=Aa (Fo d);rw[l] at HA;rw[k] at HB;rw[j] at HD;have K:=Y aw;clear h4 he aw y;go_in;go_wp2_with fail;refine(hS.o _).mono ?_;rintro e w1 ⟨⟨v,rfl,ho⟩,i⟩;have ar:Hid (C3 w1 w.heap.size Aq):=C3.fp (S:=[]) (Ai rfl _) i a0w;have ap:=Y ((Fp.alloc w _).trans i);obtain⟨g,cap,rfl,hg,bm,m⟩:=ho.at4;have C:=Y m;obtain⟨F,E,D,t⟩:=m w1 (Fp.refl _ _);clear i ho m;have aj:=Y (Fp.refl [] w1);go_wp2_with fail;clear F E D t;refine(HA.o _).mono ?_;rintro e w2 ⟨rfl,i⟩;have a7:=Y (ar.o.fp i);have a4:=Y (ap.o.trans i);obtain⟨F,E,D,t⟩:=C.o w2 (aj.o.trans i);have ai:=Y (aj.o.trans i);clear i;cases wa
  .have h:Hid (Dc s=none):=K.o.trans (Qc (Or.inl l));clear l k j;obtain⟨q0,q1,O,N,M,L,f0,f1,f2,f3,f4,V⟩:=a7.o.facts0;go_wp2_with fail;refine bodyPost_ret (v:=.tuple #[A7 Aq,.bool false]) (by simp[results,Tryz.results99,A7,Aq,go_sem, *]) rfl ⟨⟨Aq,by rw[h.o];rfl,Or.inl h.o⟩,?_⟩
   repeat(first|(with_reducible refine Fp.drew' ?_)|(with_reducible refine Fp.setCell' ?_ (Or.inr (Z _)) _)|(with_reducible refine Fp.alloc' ?_ _)|(with_reducible exact a4.o))
  go_wp2_with fail;clear F E D t;refine(HB.o _).mono ?_;rintro e w3 ⟨rfl,i⟩;have a6:=Y (a7.o.fp i);have a3:=Y (a4.o.trans i);obtain⟨F,E,D,t⟩:=C.o w3 (ai.o.trans i);have ah:=Y (ai.o.trans i);clear i;cases wb
  .have h:Hid (Dc s=none):=K.o.trans (Qc (Or.inr (Or.inl k)));clear l k j;obtain⟨q0,q1,O,N,M,L,f0,f1,f2,f3,f4,V⟩:=a6.o.facts0;go_wp2_with fail;refine bodyPost_ret (v:=.tuple #[A7 Aq,.bool false]) (by simp[results,Tryz.results99,A7,Aq,go_sem, *]) rfl ⟨⟨Aq,by rw[h.o];rfl,Or.inl h.o⟩,?_⟩
   repeat(first|(with_reducible refine Fp.drew' ?_)|(with_reducible refine Fp.setCell' ?_ (Or.inr (Z _)) _)|(with_reducible refine Fp.alloc' ?_ _)|(with_reducible exact a3.o))
  go_wp2_with fail;clear F E D t;refine(HD.o _).mono ?_;rintro e w4 ⟨rfl,i⟩;have ac:=Y (a6.o.fp i);have ab:=Y (a3.o.trans i);obtain⟨F,E,D,t⟩:=C.o w4 (ah.o.trans i);have ag:=Y (ah.o.trans i);clear i;cases wd
  .have h:Hid (Dc s=none):=K.o.trans (Qc (Or.inr (Or.inr (Or.inl j))));clear l k j;obtain⟨q0,q1,O,N,M,L,f0,f1,f2,f3,f4,V⟩:=ac.o.facts0;go_wp2_with fail;refine bodyPost_ret (v:=.tuple #[A7 Aq,.bool false]) (by simp[results,Tryz.results99,A7,Aq,go_sem, *]) rfl ⟨⟨Aq,by rw[h.o];rfl,Or.inl h.o⟩,?_⟩
   repeat(first|(with_reducible refine Fp.drew' ?_)|(with_reducible refine Fp.setCell' ?_ (Or.inr (Z _)) _)|(with_reducible refine Fp.alloc' ?_ _)|(with_reducible exact ab.o))
  by_cases ha:¬a.size<=40
  .have h:Hid (Dc s=none):=K.o.trans (Qc (Or.inr (Or.inr (Or.inr (Or.inl ha)))))
   have z:(a.size:Int)>40:=(by omega)
   clear l k j;obtain⟨q0,q1,O,N,M,L,f0,f1,f2,f3,f4,V⟩:=ac.o.facts0;go_wp2_with fail;refine bodyPost_ret (v:=.tuple #[A7 Aq,.bool false]) (by simp[results,Tryz.results99,A7,Aq,go_sem, *]) rfl ⟨⟨Aq,by rw[h.o];rfl,Or.inl h.o⟩,?_⟩
   repeat(first|(with_reducible refine Fp.drew' ?_)|(with_reducible refine Fp.setCell' ?_ (Or.inr (Z _)) _)|(with_reducible refine Fp.alloc' ?_ _)|(with_reducible exact ab.o))
  have za:¬(a.size:Int)>40:=by omega
  by_cases hb:¬b.size<=40
  .have h:Hid (Dc s=none):=K.o.trans (Qc (Or.inr (Or.inr (Or.inr (Or.inr (Or.inl hb))))))
   have z:(b.size:Int)>40:=(by omega)
   clear l k j;obtain⟨q0,q1,O,N,M,L,f0,f1,f2,f3,f4,V⟩:=ac.o.facts0;go_wp2_with fail;refine bodyPost_ret (v:=.tuple #[A7 Aq,.bool false]) (by simp[results,Tryz.results99,A7,Aq,go_sem, *]) rfl ⟨⟨Aq,by rw[h.o];rfl,Or.inl h.o⟩,?_⟩
   repeat(first|(with_reducible refine Fp.drew' ?_)|(with_reducible refine Fp.setCell' ?_ (Or.inr (Z _)) _)|(with_reducible refine Fp.alloc' ?_ _)|(with_reducible exact ab.o))
  have zb:¬(b.size:Int)>40:=by omega
  have r:Hid (a.size<=40/\b.size<=40):=⟨by omega,by omega⟩
  have ax:=Y j;have az:=Y l;have ay:=Y k;clear l k j ha hb;go_wp2_with fail;clear F E D t;refine(HC.o _).mono ?_;rintro e J ⟨⟨u,rfl,R⟩,i⟩;have aq:=Y (ac.o.fp i);have ao:=Y (ab.o.trans i);obtain⟨F,E,D,t⟩:=C.o J (ag.o.trans i);have q:=Y (ag.o.trans i);clear i
  cases T:Fq c with
  |none=>
   have h:Hid (Dc s=none):=K.o.trans (Qc (Or.inr (Or.inr (Or.inr (Or.inr (Or.inr (Or.inl T)))))));rw[show(Option.none:Option Nat).isSome=false from rfl];clear T R;obtain⟨q0,q1,O,N,M,L,f0,f1,f2,f3,f4,V⟩:=aq.o.facts0;go_wp2_with fail;refine bodyPost_ret (v:=.tuple #[A7 Aq,.bool false]) (by simp[results,Tryz.results99,A7,Aq,go_sem, *]) rfl ⟨⟨Aq,by rw[h.o];rfl,Or.inl h.o⟩,?_⟩
   repeat(first|(with_reducible refine Fp.drew' ?_)|(with_reducible refine Fp.setCell' ?_ (Or.inr (Z _)) _)|(with_reducible refine Fp.alloc' ?_ _)|(with_reducible exact ao.o))
  |some u'=>
   obtain rfl:u'=u:=by
    rcases R with R|R
    .rw[T] at R;cases R
    .rw[T] at R;exact Option.some.inj R
   have a1:=Y T;rw[show(Option.some u').isSome=true from rfl];clear R T;have av:0<d.size:=vX ax.o;have HK:=Y (fun X:Obj=>C.o (J.alloc X).drew (q.o.trans ((Fp.alloc J X).drew')));have k0:=fun X:Obj=>(HK.o X).1;have k1:=fun X:Obj=>(HK.o X).2.1;have d0:J.drew.cell? ⟨g,0,none⟩=some (.string a):=F;have d1:J.drew.cell? ⟨g,1,none⟩=some (.string b):=E;clear D t;go_wp2_with fail
   go_region
   obtain⟨w6,Q⟩:=Aa ((J.alloc (.cells #[.string a,.string b,.int .u64 u',.int .u64 0,.bool false,.string ⟨#[]⟩] 80)).drew);rw[Q]
   have am:Hid (C3 w6 J.heap.size ⟨a,b,u',0,false,⟨#[]⟩⟩):=(by rw[<-Q];exact C3.fp (S:=[]) (Ai rfl _) (Fp.drew _) a0w)
   have I:Fp [] J w6:=(by rw[<-Q];exact(Fp.alloc J _).drew')
   have a2:=Y (ao.o.trans I);have a5:=Y (aq.o.fp I);obtain⟨F,E,D,t⟩:=C.o w6 (q.o.trans I);have bj:=Y (q.o.trans I);obtain⟨B,hB⟩:=Aa J.heap.size;rw[hB] at am;rw[hB]
   have af:¬w.heap.size=B:=by have:=Ae aq.o;omega
   have bg:¬B=w.heap.size:=fun e=>af e.symm
   have ae:¬g=B:=by have:=q.o.size;omega
   have bf:¬B=g:=fun e=>ae e.symm
   have G:Hid (w.heap.size<=B):=by have:=ao.o.size;unfold Hid;omega
   clear I Q hB k0 k1 d0 d1 F E D;obtain⟨q0,q1,O,N,M,L,f0,f1,f2,f3,f4,V⟩:=a5.o.facts0;obtain⟨x0,x1,x2,x3,x4,x5,y0,y1,y2,y3,y4,y5⟩:=am.o.facts0;obtain⟨gd,ak⟩:=Aa (Ha d);have bh:(d.toList==[45])=gd:=ak;have A:=Y ak;clear ak;cases gd
   .go_wp2_with fail;obtain⟨v,hv⟩:=Aa (d.extract 1 d.size)
    have aa:Hid (K8 d=(((d[0].toNat:Int)==61)&&decide (v.size<=100))):=(by rw[<-hv];exact vW ax.o av)
    have a0:Hid (((d[0].toNat:Int)==61)=true->Hk d=v):=(by intro e;rw[<-hv];exact jW (by rw[aW av];exact e))
    rw[hv];obtain⟨w7,P⟩:=Aa (w6.setCell ⟨B,5,none⟩ (.string v));rw[P]
    have a9:Hid (C3 w7 B ⟨a,b,u',0,false,v⟩):=(by rw[<-P];exact am.o.set 5 _ rfl)
    have U:Fp [B] w6 w7:=(by rw[<-P];exact Fp.setCell w6 ⟨B,5,none⟩ _)
    have an:=Y (a2.o.trans U (by have:=G.o;simpa using this));have be:=Y (a5.o.fp U (by simpa using af))
    have bk:w7.cell? ⟨g,3,none⟩=some (.string d):=(by rw[U.cell (p:=⟨g,3,none⟩) (World.block_lt_of_cell? _ _ t) (by simpa using ae)];exact t)
    clear q0 q1 O N M L f0 f1 f2 f3 f4 V x0 x1 x2 x3 x4 x5 y0 y1 y2 y3 y4 y5 t P U hv;obtain⟨q0,q1,O,N,M,L,f0,f1,f2,f3,f4,V⟩:=be.o.facts0;obtain⟨x0,x1,x2,x3,x4,x5,y0,y1,y2,y3,y4,y5⟩:=a9.o.facts0;obtain⟨e0,al⟩:=Aa (((d[0].toNat:Int)==61));rw[al] at aa a0;cases e0
    .have h:Hid (Dc s=none):=K.o.trans (Qc (Or.inr (Or.inr (Or.inr (Or.inr (Or.inr (Or.inr (by rw[A.o,aa.o];rfl))))))));have a8:¬(d[0].toNat:Int)=61:=beq_eq_false_iff_ne.1 al;go_wp2_with fail
     go_region
     go_wp2_with fail;refine bodyPost_ret (v:=.tuple #[A7 ⟨a,b,u',0,false,v⟩,.bool false]) (by simp[results,Tryz.results99,A7,Aq,go_sem, *]) rfl ⟨⟨⟨a,b,u',0,false,v⟩,by rw[h.o];rfl,Or.inl h.o⟩,?_⟩
     repeat(first|(with_reducible refine Fp.drew' ?_)|(with_reducible refine Fp.setCell' ?_ (Or.inr (Z _)) _)|(with_reducible refine Fp.setCell' ?_ (Or.inr G.o) _)|(with_reducible refine Fp.alloc' ?_ _)|(with_reducible exact an.o))
    .have a8:(d[0].toNat:Int)=61:=beq_iff_eq.1 al;by_cases au:v.size≤100
     .have h:Hid (Dc s=some ⟨a,b,u',0,false,v⟩):=K.o.trans ((jX az.o ay.o r.o.1 r.o.2 a1.o (by rw[A.o,aa.o,decide_eq_true au];rfl)).trans (by rw[A.o,a0.o rfl];rfl))
      have z1:(v.size:Int)<=100:=(by omega)
      go_wp2_with fail
      go_region
      go_wp2_with fail;refine bodyPost_ret (v:=.tuple #[A7 ⟨a,b,u',0,false,v⟩,.bool true]) (by simp[results,Tryz.results99,A7,Aq,go_sem, *]) rfl ⟨⟨⟨a,b,u',0,false,v⟩,by rw[h.o];rfl,Or.inr h.o⟩,?_⟩
      repeat(first|(with_reducible refine Fp.drew' ?_)|(with_reducible refine Fp.setCell' ?_ (Or.inr (Z _)) _)|(with_reducible refine Fp.setCell' ?_ (Or.inr G.o) _)|(with_reducible refine Fp.alloc' ?_ _)|(with_reducible exact an.o))
     .have h:Hid (Dc s=none):=K.o.trans (Qc (Or.inr (Or.inr (Or.inr (Or.inr (Or.inr (Or.inr (by rw[A.o,aa.o,decide_eq_false au];rfl))))))))
      have z1:¬(v.size:Int)<=100:=(by omega)
      go_wp2_with fail
      go_region
      go_wp2_with fail;refine bodyPost_ret (v:=.tuple #[A7 ⟨a,b,u',0,false,v⟩,.bool false]) (by simp[results,Tryz.results99,A7,Aq,go_sem, *]) rfl ⟨⟨⟨a,b,u',0,false,v⟩,by rw[h.o];rfl,Or.inl h.o⟩,?_⟩
      repeat(first|(with_reducible refine Fp.drew' ?_)|(with_reducible refine Fp.setCell' ?_ (Or.inr (Z _)) _)|(with_reducible refine Fp.setCell' ?_ (Or.inr G.o) _)|(with_reducible refine Fp.alloc' ?_ _)|(with_reducible exact an.o))
   .have h:Hid (Dc s=some ⟨a,b,u',0,true,⟨#[]⟩⟩):=K.o.trans ((jX az.o ay.o r.o.1 r.o.2 a1.o (by rw[A.o];rfl)).trans (by rw[A.o];rfl));go_wp2_with fail;refine bodyPost_ret (v:=.tuple #[A7 ⟨a,b,u',0,true,⟨#[]⟩⟩,.bool true]) (by simp[results,Tryz.results99,A7,Aq,go_sem, *]) rfl ⟨⟨⟨a,b,u',0,true,⟨#[]⟩⟩,by rw[h.o];rfl,Or.inr h.o⟩,?_⟩
    repeat(first|(with_reducible refine Fp.drew' ?_)|(with_reducible refine Fp.setCell' ?_ (Or.inr (Z _)) _)|(with_reducible refine Fp.setCell' ?_ (Or.inr G.o) _)|(with_reducible refine Fp.alloc' ?_ _)|(with_reducible exact a2.o))
 .have hl:=lS h4;have h:=Y hl;obtain⟨n,T⟩:=Aa ((Dh 32 s).length)
  have bn:¬((n:Nat):Int)=4:=by omega
  go_in;go_wp2_with fail;refine(hS.o _).mono ?_;rintro e w1 ⟨⟨v,rfl,ho⟩,i⟩;obtain⟨⟨ad,cap,rfl⟩,_⟩:=ho.at;rw[T];have ar:Hid (C3 w1 w.heap.size Aq):=C3.fp (S:=[]) (Ai rfl _) i a0w;have ap:=Y ((Fp.alloc w _).trans i);clear i ho T hS h4;obtain⟨q0,q1,O,N,M,L,f0,f1,f2,f3,f4,V⟩:=ar.o.facts0;go_wp2_with fail;refine bodyPost_ret (v:=.tuple #[A7 Aq,.bool false]) (by simp[results,Tryz.results99,A7,Aq,go_sem, *]) rfl ⟨⟨Aq,by rw[h.o];rfl,Or.inl h.o⟩,?_⟩
  repeat(first|(with_reducible refine Fp.drew' ?_)|(with_reducible refine Fp.setCell' ?_ (Or.inr (Z _)) _)|(with_reducible refine Fp.alloc' ?_ _)|(with_reducible exact ap.o))
structure Q1(w wr:World)(s:ByteArray)(k f j:Nat)(va:Value)(acc:List Ac):Prop where
 fp:Fp [] w wr
 own:Ap wr w.heap.size va acc
 few:acc.length<=j
 jk:j<=k
 fk:f<=k
 go:Gn 0 [] (Dh 10 s)=Gn j acc ((Dh 10 s).drop j)
 rest:(k<=s.size/\((Dh 10 s).drop j).map (fun t=>t.data.toList)=E7 10 (s.data.toList.drop f)/\∀i (hi:i<s.size),f<=i->i<k->s[i]≠10)∨(k=s.size+1/\(Dh 10 s).drop j=[])
theorem jZ{s:ByteArray}{f k:Nat}:(s.extract f k).data.toList=(s.data.toList.drop f).take (k-f):=by
 rw[extract_data]
theorem kA{s:ByteArray}{f k:Nat}(l:k<=s.size)(h:∀i (d:i<s.size),f<=i->i<k->s[i]≠10):∀b∈(s.data.toList.drop f).take (k-f),b≠10:=by
 intro b j;obtain⟨i,d,rfl⟩:=List.getElem_of_mem j;rw[List.length_take,List.length_drop,<-size_eq] at d
 have a:f+i<s.size:=by omega
 have e:=Lu a
 have g:f+i<s.data.toList.length:=by rw[<-size_eq];exact a
 rw[a0z g] at e;rw[List.getElem_take,List.getElem_drop,Option.some.inj e];exact h (f+i) a (by omega) (by omega)
theorem wE{s:ByteArray}{f j:Nat}(a:((Dh 10 s).drop j).map (fun t=>t.data.toList)=E7 10 (s.data.toList.drop f))(d:∀i (g:i<s.size),f≤i→i<s.size→s[i]≠10):
  (Dh 10 s).drop j=[s.extract f s.size]:=by
 apply bX;rw[a];have h:=kA (Z _) d;have e:(s.data.toList.drop f).take (s.size-f)=s.data.toList.drop f:=List.take_of_length_le (by rw[List.length_drop,<-size_eq];exact Z _);rw[e] at h;rw[bU 10 _ h,List.map_cons,jZ,e];rfl
theorem wF{s:ByteArray}{f k j:Nat}(y:f≤k)(g:k<s.size)(m:s[k]=10)(d:((Dh 10 s).drop j).map (fun t=>t.data.toList)=E7 10 (s.data.toList.drop f))(l:∀i (x:i<s.size),f≤i→i<k→s[i]≠10):
  (Dh 10 s).drop j=s.extract f k::(Dh 10 s).drop (j+1)/\((Dh 10 s).drop (j+1)).map (fun t=>t.data.toList)=E7 10 (s.data.toList.drop (k+1)):=by
 have h:=kA (Nat.le_of_lt g) l;have e:s.data.toList.drop f=(s.data.toList.drop f).take (k-f)++10::s.data.toList.drop (k+1):=by
  have v:(s.data.toList.drop f).drop (k-f)=s.data.toList.drop k:=by rw[List.drop_drop,show f+(k-f)=k by omega]
  conv=>lhs;rw[<-a2z (k-f) (s.data.toList.drop f)]
  rw[v,aV g,m]
 rw[e,bV 10 _ _ h] at d
 cases hd:(Dh 10 s).drop j with
 |nil=>rw[hd] at d;cases d
 |cons t r=>
  rw[hd,List.map_cons] at d;have u:=(List.cons.inj d).1;have q:=(List.cons.inj d).2
  have n:(Dh 10 s).drop (j+1)=r:=by rw[<-List.drop_drop,hd];rfl
  rw[n];exact⟨by rw[X3 (a:=t) (b:=s.extract f k) (u.trans jZ.symm)],q⟩
theorem Q1.on{w wr:World}{s:ByteArray}{k f j:Nat}{a:Value}{acc:List Ac}(h:Q1 w wr s k f j a acc)(g:k<s.size)(m:s[k]≠10):Q1 w wr s (k+1) f j a acc:=by
 refine⟨h.fp,h.own,h.few,Nat.le_succ_of_le h.jk,Nat.le_succ_of_le h.fk,h.go,Or.inl ⟨g,?_,?_⟩⟩
 .rcases h.rest with⟨_,d,_⟩|⟨e,_⟩
  .exact d
  .omega
 .intro i l q d;rcases h.rest with⟨_,_,n⟩|⟨e,_⟩
  .by_cases e:i=k
   .subst e;exact m
   .exact n i l q (by omega)
  .omega
theorem Q1.line{w wr:World}{s:ByteArray}{k f j:Nat}{y:Value}{m:List Ac}(h:Q1 w wr s k f j y m)(B:k≤s.size)(A:∀(z:k<s.size),s[k]=10):
  (Dh 10 s).drop j=s.extract f k::(Dh 10 s).drop (j+1)/\∀(d:World) (g:Value) (acc':List Ac),Fp [] w d->Ap d w.heap.size g acc'->acc'.length<=m.length+1->Gn 0 [] (Dh 10 s)=Gn (j+1) acc' ((Dh 10 s).drop (j+1))->Q1 w d s (k+1) (k+1) (j+1) g acc':=by
 rcases h.rest with⟨_,x,v⟩|⟨e,_⟩
 .by_cases l:k<s.size
  .obtain⟨q,n⟩:=wF h.fk l (A l) x v;exact⟨q,fun d g acc' u r l1 t=>⟨u,r,by have:=h.few;omega,by have:=h.jk;omega,Z _,t,Or.inl ⟨l,n,fun i C a b=>absurd b (by omega)⟩⟩⟩
  .obtain rfl:k=s.size:=by omega
   have q:=wE x v
   have n:(Dh 10 s).drop (j+1)=[]:=(by rw[<-List.drop_drop,q];rfl)
   exact⟨by rw[q,n],fun d g acc' u r l1 t=>⟨u,r,by have:=h.few;omega,by have:=h.jk;omega,Z _,t,Or.inr ⟨rfl,n⟩⟩⟩
 .omega
theorem wG(s:ByteArray)(w:World)(hs:s.size≤100000000):
  Calls Tryz.prog 53 #[.string s] w fun e w'=>mN w w' e (C0 s)/\Fp [] w w':=by
 by_cases h4:s.size>4000
 .have HR:Hid (C0 s=([],0,71)):=if_pos h4;go_in;go_wp2_with fail;rw[HR.o];refine bodyPost_ret (v:=.tuple #[.slice none 0 0,.int .i64 0,.int .i64 71]) (by simp[results,Tryz.results53,go_sem, *]) rfl ⟨⟨_,rfl,Ap.nil _ _⟩,?_⟩;exact Fp.refl _ _
 .have HR:Hid (C0 s=Gn 0 [] (Dh 10 s)):=if_neg h4
  have ae:¬((s.size:Nat):Int)>4000:=by omega
  go_in;go_wp2_with fail
  go_loopg [5,6,7,8] (s.size+1) (fun g va vn vf vi wr=>∃k f j a,g+k=s.size+1/\vi=.int .i64 (k:Nat)/\vf=.int .i64 (f:Nat)/\vn=.int .i64 ((j+1:Nat))/\Q1 w wr s k f j va a)
  case atStart=>exact⟨0,0,0,[],by simp,rfl,rfl,rfl,Fp.alloc _ _,Ap.made w _ (Z _),Z _,Z _,Z _,rfl,Or.inl ⟨a0x _,bW 10 s,fun i hi _ h=>absurd h (by omega)⟩⟩
  case round=>
   obtain⟨k,f,j,a,hg,rfl,rfl,rfl,U⟩:=hrel;have d:=Y U;have ad:=U.fk;have ac:=U.jk;have aa:=U.few;clear U;by_cases hk:k<=s.size
   .by_cases S:∃h:k<s.size,s[k]≠10
    .obtain⟨M,S⟩:=S;have z:((s[k].toNat:Int)==10)=false:=beq_eq_false_iff_ne.2 (fun e=>S (UInt8.toNat_inj.1 (by show s[k].toNat=10;omega)));have z2:¬(s[k].toNat:Int)=10:=beq_eq_false_iff_ne.1 z;have HN:=Y (d.o.on M S);go_wp2_with fail
     go_roundg (gk-1)
     case measure=>omega
     case rel=>exact⟨k+1,f,j,a,by omega,by simp,rfl,rfl,HN.o⟩
    .have F:∀(ab:k<s.size),s[k]=10:=fun h=>by
      by_cases e:s[k]=10
      .exact e
      .exact absurd ⟨h,e⟩ S
     have G:=Y (d.o.line hk F).1;have D:=Y (d.o.line hk F).2;obtain⟨t,ht⟩:=Aa (s.extract f k)
     have I:t.size<=100000000:=(by rw[<-ht,a1v];omega)
     rw[ht] at G;have HT:=Y ht;clear S ht;have n:=HT.o;rw[<-n] at G;clear HT;by_cases M:k<s.size
     .have z2:(s[k].toNat:Int)=10:=(by rw[F M];rfl)
      have z3:((s[k].toNat:Int)==10)=true:=beq_iff_eq.2 z2;clear F;by_cases V:t.size=0
      .have O:=Ve V;have l:Hid (I7 t=true):=cD V;go_wp2_with fail
       go_roundg (gk-1)
       case measure=>omega
       case rel=>exact⟨k+1,k+1,j+1,a,by omega,by simp,by simp,by simp,D.o wr _ a d.o.fp d.o.own (a1u _) (by rw[d.o.go,G.o,n,Qe l.o])⟩
      .have O:=Nw (s:=t) (by omega)
       have J:0<t.size:=(by omega)
       obtain⟨T,E⟩:=Aa (((t[0].toNat:Int)==35));have l:Hid (I7 t=T):=(cE J).trans E;cases T
       .have L:¬(t[0].toNat:Int)=35:=beq_eq_false_iff_ne.1 E;go_wp2_with fail;refine(jY t _ I).mono ?_;rintro e w2 ⟨⟨c,rfl,m⟩,N⟩;have r:=Y (d.o.fp.trans N);have Q:=Y (d.o.own.fp N);obtain⟨y,C,x,A,B,u⟩:=c;rw[show A7 (⟨y,C,x,A,B,u⟩:Ac)=.agg #[.string y,.string C,.int .u64 x,.int .u64 A,.bool B,.string u] from rfl];clear N
        cases hl:Dc t with
        |none=>
         have q:=Y hl;clear hl m;rw[show(Option.none:Option Ac).isSome=false from rfl];go_wp2_with fail;rw[HR.o,d.o.go,G.o,n,Vj l.o q.o];refine bodyPost_ret (v:=.tuple #[.slice none 0 0,.int .i64 ((j+1:Nat)),.int .i64 70]) (by simp[results,Tryz.results53,go_sem, *]) rfl ⟨⟨_,rfl,Ap.nil _ _⟩,?_⟩;exact r.o.alloc' _
        |some c'=>
         obtain rfl:c'=⟨y,C,x,A,B,u⟩:=by
          rcases m with m|m
          .rw[hl] at m;cases m
          .rw[hl] at m;exact Option.some.inj m
         have q:=Y hl;have R:=Y (X8 I hl);clear hl m;rw[show(Option.some (⟨y,C,x,A,B,u⟩:Ac)).isSome=true from rfl];go_wp2_with (at_builtin;(refine Ua rfl _ _ rfl w.heap.size _ a rfl ((Q.o.fp (Fp.alloc _ _)).fp (Fp.alloc _ _)) _ _ _ [⟨y,C,x,A,B,u⟩] rfl (C3.one (Ai (by simp) _) R.o) (fun h=>by cases h) (by simp;omega) (by have:=r.o.size;simp;omega) ?_);intro v3 w3 K P)
         go_roundg (gk-1)
         case measure=>omega
         case rel=>exact⟨k+1,k+1,j+1,a++[⟨y,C,x,A,B,u⟩],by omega,by simp,by simp,by simp,D.o w3 _ _ (((r.o.alloc' _).alloc' _).belowTrans P) K (by simp) (by rw[d.o.go,G.o,n,Vk l.o q.o])⟩
       .go_wp2_with fail
        go_roundg (gk-1)
        case measure=>omega
        case rel=>exact⟨k+1,k+1,j+1,a,by omega,by simp,by simp,by simp,D.o wr _ a d.o.fp d.o.own (a1u _) (by rw[d.o.go,G.o,n,Qe l.o])⟩
     .obtain rfl:k=s.size:=by omega
      clear F;by_cases V:t.size=0
      .have O:=Ve V;have l:Hid (I7 t=true):=cD V;go_wp2_with fail
       go_roundg (gk-1)
       case measure=>omega
       case rel=>exact⟨s.size+1,s.size+1,j+1,a,by omega,by simp,by simp,by simp,D.o wr _ a d.o.fp d.o.own (a1u _) (by rw[d.o.go,G.o,n,Qe l.o])⟩
      .have O:=Nw (s:=t) (by omega)
       have J:0<t.size:=(by omega)
       obtain⟨T,E⟩:=Aa (((t[0].toNat:Int)==35));have l:Hid (I7 t=T):=(cE J).trans E;cases T
       .have L:¬(t[0].toNat:Int)=35:=beq_eq_false_iff_ne.1 E;go_wp2_with fail;refine(jY t _ I).mono ?_;rintro e w2 ⟨⟨c,rfl,m⟩,N⟩;have r:=Y (d.o.fp.trans N);have Q:=Y (d.o.own.fp N);obtain⟨y,C,x,A,B,u⟩:=c;rw[show A7 (⟨y,C,x,A,B,u⟩:Ac)=.agg #[.string y,.string C,.int .u64 x,.int .u64 A,.bool B,.string u] from rfl];clear N
        cases hl:Dc t with
        |none=>
         have q:=Y hl;clear hl m;rw[show(Option.none:Option Ac).isSome=false from rfl];go_wp2_with fail;rw[HR.o,d.o.go,G.o,n,Vj l.o q.o];refine bodyPost_ret (v:=.tuple #[.slice none 0 0,.int .i64 ((j+1:Nat)),.int .i64 70]) (by simp[results,Tryz.results53,go_sem, *]) rfl ⟨⟨_,rfl,Ap.nil _ _⟩,?_⟩;exact r.o.alloc' _
        |some c'=>
         obtain rfl:c'=⟨y,C,x,A,B,u⟩:=by
          rcases m with m|m
          .rw[hl] at m;cases m
          .rw[hl] at m;exact Option.some.inj m
         have q:=Y hl;have R:=Y (X8 I hl);clear hl m;rw[show(Option.some (⟨y,C,x,A,B,u⟩:Ac)).isSome=true from rfl];go_wp2_with (at_builtin;(refine Ua rfl _ _ rfl w.heap.size _ a rfl ((Q.o.fp (Fp.alloc _ _)).fp (Fp.alloc _ _)) _ _ _ [⟨y,C,x,A,B,u⟩] rfl (C3.one (Ai (by simp) _) R.o) (fun h=>by cases h) (by simp;omega) (by have:=r.o.size;simp;omega) ?_);intro v3 w3 K P)
         go_roundg (gk-1)
         case measure=>omega
         case rel=>exact⟨s.size+1,s.size+1,j+1,a++[⟨y,C,x,A,B,u⟩],by omega,by simp,by simp,by simp,D.o w3 _ _ (((r.o.alloc' _).alloc' _).belowTrans P) K (by simp) (by rw[d.o.go,G.o,n,Vk l.o q.o])⟩
       .go_wp2_with fail
        go_roundg (gk-1)
        case measure=>omega
        case rel=>exact⟨s.size+1,s.size+1,j+1,a,by omega,by simp,by simp,by simp,D.o wr _ a d.o.fp d.o.own (a1u _) (by rw[d.o.go,G.o,n,Qe l.o])⟩
   .obtain rfl:k=s.size+1:=by omega
    have HD:Hid ((Dh 10 s).drop j=[]):=by
     rcases d.o.rest with⟨e,_⟩|⟨_,e⟩
     .omega
     .exact e
    go_wp2_with fail;rw[HR.o,d.o.go,HD.o];refine bodyPost_ret (v:=.tuple #[_,.int .i64 0,.int .i64 0]) (by simp[results,Tryz.results53,go_sem, *]) rfl ⟨⟨_,rfl,d.o.own⟩,d.o.fp⟩
theorem Kw.fp{w w':World}(h:Kw w)(a:Fp [] w w'):Kw w':=⟨h.mx.fp a a0w,h.er.fp a a0w a0w⟩
theorem Vb:∀(l:List ByteArray) (i:Nat) (a:List Ac),(∀t∈l,t.size≤100000000)→(∀c∈a,Di c)→(∀c∈(Gn i a l).1,Di c)∧(Gn i a l).1.length≤a.length+l.length∧(Gn i a l).2.1≤i+l.length∧(Gn i a l).2.2≤70
 |[],i,a,_,h=>⟨h,Z _,a0x _,a0x _⟩
 |t::r,i,a,hl,h=>by
  have m:∀t∈r,t.size<=100000000:=fun x d=>hl x (by simp[d]);cases hs:I7 t
  .cases hp:Dc t with
   |none=>
    rw[Vj hs hp];exact⟨by simp,a0x _,by show i+1<=i+(r.length+1);omega,Z _⟩
   |some c=>
    rw[Vk hs hp];have n:=X8 (hl t (by simp)) hp
    obtain⟨k,j,q,g⟩:=Vb r (i+1) (a++[c]) m (by
     intro x d;rcases List.mem_append.1 d with d|d
     .exact h x d
     .rw[List.mem_singleton.1 d];exact n)
    exact⟨k,by rw[a0v] at j;simp only[a1z,List.length_nil] at j ⊢;omega,by rw[a1z];omega,g⟩
  .rw[Qe hs];obtain⟨k,j,q,g⟩:=Vb r (i+1) a m h;exact⟨k,by rw[a1z];omega,by rw[a1z];omega,g⟩
theorem S1(s:ByteArray)(g:s.size<=100000000):(∀c∈(C0 s).1,Di c)/\(C0 s).1.length<=100000001/\(C0 s).2.1<=100000001/\(C0 s).2.2<=71:=by
 unfold C0;split
 .exact⟨by simp,a0x _,a0x _,Z _⟩
 .have h:=X2 10 s;obtain⟨d,k,j,i⟩:=Vb (Dh 10 s) 0 [] (fun t a=>by have:=O2 a;omega) (by simp);refine⟨d,?_,by omega,by omega⟩;have:([]:List Ac).length=0:=rfl;omega
theorem wH(s:ByteArray)(w:World)(d:s.size≤100000000)(a:Dp w):
  Calls Tryz.prog 44 #[.string s] w fun e w'=>e=.returned (.int .u32 (B0 0 s))/\Fp [] w w':=by
 have H:=Y (fun w a=>Ur s w d a);have g:=Y a;clear a;go_in;go_wp2_with fail;refine(H.o _ g.o).nexh fun i h=>?_;go_wp2_with fail;go_ret;exact⟨rfl,h.o⟩
end
end Go.Proofs.YtkagolpnaicdoaaGreatDoor
