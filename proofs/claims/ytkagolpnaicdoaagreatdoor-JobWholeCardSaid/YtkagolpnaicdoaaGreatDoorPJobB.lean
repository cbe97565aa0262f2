/-
 'p.Files, p.Sums = append(p.Files, s), append(p.Sums, crc.Sum(s))': the class of worlds on the way (for XRegionV). cut.All, walked. The reference of layer 7: words. The reference of layer 7: line. The reference of layer 7: Cells. shown: that a line is a cell. SameCells of two slices that hold the same cells. ParseCells: the cells of any input are the document's. The reference of layer 4: two, Build. The reference's Parse. The plain law of Parse: what was built is read as it was; both parsers agree. Seek: the program's, and the reference's. bounded, shown of layer 4's laws. strings.Builder.Stri
-/
import Derived.Test.YtkagolpnaicdoaaGreatDoorPCutF
set_option maxRecDepth 100000
set_option maxHeartbeats 8000000
open Go.Lib renaming hid->a0z
open List renaming length_append->a0x,length_cons->a0u,not_mem_nil->a1x,eq_nil_of_length_eq_zero->a1w,getElem?_eq_getElem->a1u,take_append_drop->a2w,all_cons->a2v
open UInt8 renaming ofNat->a0w,toNat_ofNat'->a1v
open Nat renaming zero_le->a0v,le_trans->a1z,le_refl->a2x
open Bool renaming and_eq_true->a2z
namespace Go.Proofs.YtkagolpnaicdoaaGreatDoor
section
open Go.RowKit Go.Lib
theorem Fp.belowQ{S:List Nat}{a b c:World}(h:Fp S a b)(k:Below a.heap.size b c):Fp S a c:=
 ⟨k.os.trans h.os,k.tape.trans h.tape,k.output.trans h.output,a1z h.size k.size,fun i d f=>(k.block i d).trans (h.block i d f)⟩
theorem Bg.typed{e:TypeId}{w:World}{base:Nat}{v:Value}{l:List Value}(h:Bg e w base v l):∀q,v.ownBlock=some q→base≤q∧∃c i,w.heap[q]?=some (.cells c e i):=by
 intro q a
 rcases h.2 with⟨rfl,_⟩|⟨g,cap,j,rfl,f,d,_⟩
 ·cases a
 ·obtain rfl:g=q:=by simpa [Value.ownBlock] using a
  exact⟨f,_,_,d⟩
theorem Bg.keptT{e:TypeId}{w w':World}{base:Nat}{S:List Nat}{v:Value}{l:List Value}(h:Bg e w base v l)(k:Aq e base S w w'):Bg e w' base v l:=by
 refine⟨h.1,?_⟩
 rcases h.2 with m|⟨g,cap,a,i,f,d,j⟩
 ·exact Or.inl m
 ·exact Or.inr ⟨g,cap,a,i,f,(k.high g _ _ f d).trans d,j⟩
theorem Bg.sl{e:TypeId}{w:World}{base:Nat}{v:Value}{l:List Value}(h:Bg e w base v l):∃a n c,v=.slice a n c:=by
 rcases h.2 with⟨rfl,_⟩|⟨g,cap,d,rfl,_⟩
 ·exact⟨_,_,_,rfl⟩
 ·exact⟨_,_,_,rfl⟩
theorem kV(T e:TypeId){z:Value}{d:Nat}(q:Tryz.prog.underlying T=some (.slice e))(m:(Tryz.prog.info? e).map (fun i=>(i.zero,i.size,i.bytes))=some (some z,1,d))(r:z.cells.size=1)(C:d≤100000)
  {w:World}{o:Oper}{a:Act}{K:Act->World->Prop}{Q:Exit->Act->World->Prop}(s x:Operand)
  (M:o.op=.call {callee:=.builtin .append,args:=#[s,x],argTypes:=#[T,T]})(base:Nat)(v:Value)(l:List Value)(L:a.eval s=v)(f:Bg e w base v l)
  (g:Nat)(t:Value)(J:t.oneCell'=true)(I:a.eval x=.slice (some ⟨g,0,none⟩) 1 1)(R:w.cell? ⟨g,0,none⟩=some t)(E:l.length+1<=1000000000)(j:base<=w.heap.size)
  (h:∀n w',Bg e w' base n (l++[t])->Below base w w'->(∀D,D≠e->Aq D base [] w w')->K (a.put o.dst n) w'):o.wp Tryz.prog a w K Q:=by
 obtain⟨G,O,B,A,y⟩:=info_parts m;refine wp_append_own (P:=Tryz.prog) w s x T M base e G _ 1 d q O B A y r (by decide) v l.length l L f ⟨g,0,none⟩ 1 1 [t] I rfl (cB R) (by intro u q;simp at q;subst q;exact J) (by unfold maxLen;omega) (a1z (Nat.mul_le_mul (show l.length+1<=1000000000 by omega) C) (by decide)) j ?_;intro n w' U F _
 refine h n w' ?_ ((Below.refl base w).grown F j (fun k N=>(World.ownsRow.lt f k N).1)) fun D S=>aZ (Bg.typed f) F S
 unfold Bg;rw[a0x];exact U
theorem Tryz.infoU32:(Tryz.prog.info? 26).map (fun i=>(i.zero,i.size,i.bytes))=some (some (.int .u32 0),1,4):=by kernel_rfl
structure Ey(w W0:World)(base p:Nat)(sum ep vF vS:Value)(fl sl:List Value)(s c:Value)(b:Nat->Bool)(vs:Nat->Value)(W:World):Prop where
 f0:b 4=false->Bg 9 W base vF fl
 f1:b 4=true->Bg 9 W base (vs 4) (fl++[s])
 s0:b 10=false->Bg 26 W base vS sl
 s1:b 10=true->Bg 26 W base (vs 10) (sl++[c])
 fb:b 3=true->b 4=false->∃g,vs 3=.slice (some ⟨g,0,none⟩) 1 1/\base<=g/\W.heap[g]?=some (.cells #[s] 9 (0,0))
 sb:b 9=true->b 10=false->∃g,vs 9=.slice (some ⟨g,0,none⟩) 1 1/\base<=g/\W.heap[g]?=some (.cells #[c] 26 (0,0))
 cel:W.heap[p]?=some (.cells #[sum,ep,cond (b 12) (vs 4) vF,cond (b 14) (vs 10) vS] 29 (0,0))
 kept:∀D,D≠9->D≠26->Aq D base [p] W0 W
 fp:Fp [p] w W
 o12:b 12=true->b 4=true
 o14:b 14=true->b 10=true
 o4:b 4=true->b 3=true
 o10:b 10=true->b 9=true
 sz:base<=W.heap.size
variable {w W0 W W2 : World} {base p : Nat} {sum ep vF vS : Value} {fl sl : List Value} {s c : Value} {b : Nat -> Bool} {vs : Nat -> Value}
theorem Ey.start{vs:Nat->Value}(g:Bg 9 W0 base vF fl)(d:Bg 26 W0 base vS sl)(i:W0.heap[p]?=some (.cells #[sum,ep,vF,vS] 29 (0,0)))(a:Fp [p] w W0)(j:base<=W0.heap.size)(f:p<base):Ey w W0 base p sum ep vF vS fl sl s c (fun _=>false) vs {W0 with drawn:=W0.drawn+1}:=
 ⟨fun _=>g.fp (Fp.drew W0) (by simp),(fun h=>by cases h),fun _=>d.fp (Fp.drew W0) (by simp),(fun h=>by cases h),(fun h=>by cases h),(fun h=>by cases h),i,fun _ _ _=>Aq.of ((Fp.drew W0).mono (by simp)) (by simpa using f),a.trans (Fp.drew W0) (by simp),(fun h=>by cases h),(fun h=>by cases h),(fun h=>by cases h),(fun h=>by cases h),j⟩
theorem Ey.plain{j:Nat}{x:Value}(h:Ey w W0 base p sum ep vF vS fl sl s c b vs W)(l:j≠3/\j≠4/\j≠9/\j≠10/\j≠12/\j≠14):Ey w W0 base p sum ep vF vS fl sl s c (Ah b j) (C0 vs j x) W:=by
 obtain⟨k,d,i,a,g,f⟩:=l;refine⟨?_,?_,?_,?_,?_,?_,?_,h.kept,h.fp,?_,?_,?_,?_,h.sz⟩
 ·rw[Ag d.symm];exact h.f0
 ·rw[Ag d.symm,Bi d.symm];exact h.f1
 ·rw[Ag a.symm];exact h.s0
 ·rw[Ag a.symm,Bi a.symm];exact h.s1
 ·rw[Ag k.symm,Ag d.symm,Bi k.symm];exact h.fb
 ·rw[Ag i.symm,Ag a.symm,Bi i.symm];exact h.sb
 ·rw[Ag g.symm,Ag f.symm,Bi d.symm,Bi a.symm];exact h.cel
 ·rw[Ag g.symm,Ag d.symm];exact h.o12
 ·rw[Ag f.symm,Ag a.symm];exact h.o14
 ·rw[Ag d.symm,Ag k.symm];exact h.o4
 ·rw[Ag a.symm,Ag i.symm];exact h.o10
theorem Ey.on(h:Ey w W0 base p sum ep vF vS fl sl s c b vs W)(a:Fp [] W W2):Ey w W0 base p sum ep vF vS fl sl s c b vs W2:=by
 refine⟨fun e=>(h.f0 e).fp a (by simp),fun e=>(h.f1 e).fp a (by simp),fun e=>(h.s0 e).fp a (by simp),fun e=>(h.s1 e).fp a (by simp),fun k j=>?_,fun k j=>?_,(a.block _ (Ac h.cel) (by simp)).trans h.cel,fun D m l=>(h.kept D m l).trans (Aq.of a (by simp)) (by simp),h.fp.trans a (by simp),h.o12,h.o14,h.o4,h.o10,a1z h.sz a.size⟩
 ·obtain⟨g,i,f,d⟩:=h.fb k j;exact⟨g,i,f,(a.block _ (Ac d) (by simp)).trans d⟩
 ·obtain⟨g,i,f,d⟩:=h.sb k j;exact⟨g,i,f,(a.block _ (Ac d) (by simp)).trans d⟩
theorem Ey.bldF(h:Ey w W0 base p sum ep vF vS fl sl s c b vs W)(d:b 3=false):Ey w W0 base p sum ep vF vS fl sl s c (Ah b 3) (C0 vs 3 (.slice (some ⟨W.heap.size,0,none⟩) 1 1)) (W.alloc (.cells #[s] 9)):=by
 have a:=F2 h.o4 d;have k:=h.on (Fp.alloc W (.cells #[s] 9));refine⟨k.f0,k.f1,k.s0,k.s1,fun _ _=>⟨W.heap.size,Hj _ _ _,h.sz,Ai rfl _⟩,k.sb,k.cel,k.kept,k.fp,k.o12,k.o14,fun e=>?_,k.o10,k.sz⟩;rw[Ag (by decide),a] at e;cases e
theorem Ey.bldS(h:Ey w W0 base p sum ep vF vS fl sl s c b vs W)(d:b 9=false):Ey w W0 base p sum ep vF vS fl sl s c (Ah b 9) (C0 vs 9 (.slice (some ⟨W.heap.size,0,none⟩) 1 1)) (W.alloc (.cells #[c] 26)):=by
 have a:=F2 h.o10 d;have k:=h.on (Fp.alloc W (.cells #[c] 26));refine⟨k.f0,k.f1,k.s0,k.s1,k.fb,fun _ _=>⟨W.heap.size,Hj _ _ _,h.sz,Ai rfl _⟩,k.cel,k.kept,k.fp,k.o12,k.o14,k.o4,fun e=>?_,k.sz⟩;rw[Ag (by decide),a] at e;cases e
theorem Ey.appF{j:Value}(h:Ey w W0 base p sum ep vF vS fl sl s c b vs W)(u:b 3=true)(t:b 4=false)(r:Bg 9 W2 base j (fl++[s]))(i:Below base W W2)(k:∀D,D≠9->Aq D base [] W W2)(q:p<base)(f:w.heap.size<=base):Ey w W0 base p sum ep vF vS fl sl s c (Ah b 4) (C0 vs 4 j) W2:=by
 have d:=F2 h.o12 t;have a:=k 26 (by decide);refine⟨fun e=>?_,fun _=>by rw[Hj];exact r,fun e=>(h.s0 e).keptT a,fun e=>(h.s1 e).keptT a,fun _ e=>?_,fun z y=>?_,?_,fun D m v=>(h.kept D m v).trans (k D m) (by simp),h.fp.belowQ (i.mono f),fun _=>Fj _ _,h.o14,fun _=>u,h.o10,a1z h.sz i.size⟩
 ·rw[Fj] at e;cases e
 ·rw[Fj] at e;cases e
 ·obtain⟨g,x,o,n⟩:=h.sb z y;exact⟨g,x,o,(a.high g _ _ o n).trans n⟩
 ·have l:=h.cel;rw[d] at l;rw[Ag (by decide),d];exact(i.block _ q).trans l
theorem Ey.appS{k:Value}(h:Ey w W0 base p sum ep vF vS fl sl s c b vs W)(u:b 9=true)(j:b 10=false)(t:Bg 26 W2 base k (sl++[c]))(i:Below base W W2)(l:∀D,D≠26->Aq D base [] W W2)(r:p<base)(f:w.heap.size<=base):Ey w W0 base p sum ep vF vS fl sl s c (Ah b 10) (C0 vs 10 k) W2:=by
 have d:=F2 h.o14 j;have a:=l 9 (by decide);refine⟨fun e=>(h.f0 e).keptT a,fun e=>(h.f1 e).keptT a,fun e=>?_,fun _=>by rw[Hj];exact t,fun z y=>?_,fun _ e=>?_,?_,fun D v n=>(h.kept D v n).trans (l D n) (by simp),h.fp.belowQ (i.mono f),h.o12,fun _=>Fj _ _,h.o4,fun _=>u,a1z h.sz i.size⟩
 ·rw[Fj] at e;cases e
 ·obtain⟨g,x,q,o⟩:=h.fb z y;exact⟨g,x,q,(a.high g _ _ q o).trans o⟩
 ·rw[Fj] at e;cases e
 ·have m:=h.cel;rw[d] at m;rw[Ag (by decide),Ag (by decide),d];exact(i.block _ r).trans m
theorem Ey.stoF{y:Value}(h:Ey w W0 base p sum ep vF vS fl sl s c b vs W)(o:b 4=true)(n:p<base)(m:vs 4=y):Ey w W0 base p sum ep vF vS fl sl s c (Ah b 12) (C0 vs 12 undef) (W.setCell ⟨p,2,none⟩ y):=by
 have i:Fp [p] W (W.setCell ⟨p,2,none⟩ y):=Fp.setCell W ⟨p,2,none⟩ y
 have a:∀D,Aq D base [p] W (W.setCell ⟨p,2,none⟩ y):=fun D=>Aq.of i (by simpa using n)
 refine⟨fun e=>(h.f0 e).keptT (a _),fun e=>(h.f1 e).keptT (a _),fun e=>(h.s0 e).keptT (a _),fun e=>(h.s1 e).keptT (a _),fun l k=>?_,fun l k=>?_,?_,fun D r q=>(h.kept D r q).trans (a D) (by simp),h.fp.trans i (by simp),fun _=>o,h.o14,h.o4,h.o10,a1z h.sz i.size⟩
 ·obtain⟨g,j,f,d⟩:=h.fb l k;exact⟨g,j,f,((a _).high g _ _ f d).trans d⟩
 ·obtain⟨g,j,f,d⟩:=h.sb l k;exact⟨g,j,f,((a _).high g _ _ f d).trans d⟩
 ·rw[Bd h.cel];rw[Fj,Ag (by decide),Bi (by decide),Bi (by decide),m];rfl
theorem Ey.stoS{y:Value}(h:Ey w W0 base p sum ep vF vS fl sl s c b vs W)(j:b 10=true)(o:p<base)(n:vs 10=y):Ey w W0 base p sum ep vF vS fl sl s c (Ah b 14) (C0 vs 14 undef) (W.setCell ⟨p,3,none⟩ y):=by
 have i:Fp [p] W (W.setCell ⟨p,3,none⟩ y):=Fp.setCell W ⟨p,3,none⟩ y
 have a:∀D,Aq D base [p] W (W.setCell ⟨p,3,none⟩ y):=fun D=>Aq.of i (by simpa using o)
 refine⟨fun e=>(h.f0 e).keptT (a _),fun e=>(h.f1 e).keptT (a _),fun e=>(h.s0 e).keptT (a _),fun e=>(h.s1 e).keptT (a _),fun m l=>?_,fun m l=>?_,?_,fun D r q=>(h.kept D r q).trans (a D) (by simp),h.fp.trans i (by simp),h.o12,fun _=>j,h.o4,h.o10,a1z h.sz i.size⟩
 ·obtain⟨g,k,f,d⟩:=h.fb m l;exact⟨g,k,f,((a _).high g _ _ f d).trans d⟩
 ·obtain⟨g,k,f,d⟩:=h.sb m l;exact⟨g,k,f,((a _).high g _ _ f d).trans d⟩
 ·rw[Bd h.cel];rw[Fj,Ag (by decide),Bi (by decide),Bi (by decide),n];rfl
end
section
open Go.RowKit Go.Lib
theorem Gf.mem{l:List Aa}{bs:List ByteArray}{a:List (List Aa)}(h:Gf l bs a){x:List Aa}(d:x∈a){c:Aa}(f:c∈x):c∈l:=by
 rw[<-h.flat];exact List.mem_flatten.2 ⟨x,d,f⟩
theorem xY(w:World)(a:Option Addr)(n cap:Nat)(a2:Option Addr)(X I:Nat)(l:List Aa)(borders:List ByteArray)(m:Nat)(hl:Bh w a n l)(ab:a=none∧cap=0∨∃b o,a=some ⟨b,o,none⟩)(hc:n≤cap)(hb:Eq w a2 X borders)(hn:n≤900000)(bh:X≤900000)(aj:G8 borders=true)(L:risC l=true)(av:1≤m)(hm:m<2^63):
  Calls Tryz.prog 50 #[.slice a n cap,.slice a2 X I,.int .i64 m] w fun e w'=>∃v out,e=.returned (.tuple #[v,.int .i64 0])/\Gi w' w.heap.size v (Hg m out)/\Gf l borders out/\Fp [] w w':=by
 have aS:=a0z (fun W (hl:Bh W a n l) (hb:Eq W a2 X borders)=>pT W a n cap a2 X I l borders hl ab hc hb (by omega) (by omega) aj L);have HL:=a0z hl;have HB:=a0z hb;have a4:=a0z L
 have bi:l.length<=900000:=by have:=hl.len;omega
 have bk:borders.length<=900000:=by have:=hb.len;omega
 clear hl ab hc hb aj L;go_enter Tryz.func50,Tryz.ntmps50;go_wp2_with (fail);(with_reducible refine(aS.out _ HL.out HB.out).mono ?_);rintro e y ⟨v1,out,rfl,N,K,ai⟩;obtain⟨va,vc,rfl⟩:=N.slice
 have bg:out.length<=900001:=by have:=K.count;omega
 have a8:=a0z N;have t:=a0z K;have ap:=a0z ai;clear N K ai;go_wp2_with (fail)
 go_loopg [6,26] out.length (fun g vo vi wr=>∃i:Nat,g=out.length-i/\vi=.int .i64 i/\i<=out.length/\Gi wr y.heap.size vo (Hy m out i)/\Fp [] y wr)
 case atStart=>exact⟨0,rfl,rfl,a0v _,Gi.nil _ _,Fp.refl _ _⟩
 case round=>
  obtain⟨i,hg,rfl,hi,q,hf⟩:=hrel;have C:=a0z q;have E:=a0z hf;have HG:=a0z hg;clear q hf hg
  by_cases B:i<out.length
  ·have zi:(i:Int)<(out.length:Int):=by omega
   have n1:IntKind.i64.wrap ((i:Int)+1)=((i+1:Nat):Int):=by rw[IntKind.wrap_i64];omega
   obtain⟨i1,Q⟩:∃i1,i+1=i1:=⟨_,rfl⟩
   rw[Q] at n1;obtain⟨gb,bd,aw,-,bj,-,ag⟩:=(a8.out.fp E.out (by simp)).get B;cases aw;obtain⟨u,k,f⟩:=ag i B
   obtain⟨x,hx⟩:∃x,out[i]=x:=⟨_,rfl⟩
   rw[hx] at f
   have z:x∈out:=by rw[<-hx];exact List.getElem_mem _
   obtain⟨ax,cx,rfl,Z,aq,Y⟩:=Ao.at5 f (fun c hc=>HL.out.ok c (t.out.mem z hc))
   have be:x.length<=900000:=by have:=Vr z;rw[t.out.flat] at this;omega
   have a3:=a0z (fun W (h:Bh W ax x.length x)=>wM W ax x.length cx m x h (t.out.ris a4.out x z) (by omega) Z av hm)
   have ah:out.getD i []=x:=by rw[List.getD_eq_getElem?_getD,a1u B,<-hx];rfl
   have an:=a0z ah;have ay:=a0z Y;have U:=a0z Q;have q0:wr.cell? ⟨gb,i,none⟩=some (.slice ax x.length cx):=k;clear ag k f hx z Z aq Y ah Q;go_wp2_with (fail);(with_reducible refine(a3.out _ (ay.out)).mono ?_);rintro e w2 ⟨v2,rfl,A,R⟩
   obtain⟨rolls,d⟩:∃rolls,Ld x m=rolls:=⟨_,rfl⟩
   rw[d] at A;obtain⟨ra,rc,rfl⟩:=A.slice;have a7:=a0z A;have al:=a0z d;have am:=a0z (C.out.fp R (by simp));have ao:=a0z (E.out.trans R (by simp));have F:y.heap.size<=wr.heap.size:=E.out.size
   have bf:rolls.length<=900000:=by have:=jT x m;rw[d] at this;omega
   clear A R d q0
   have bb:Hid ((Hy m out i).length+rolls.length≤900000):=by
    have h1:=bC m out (i+1) B;rw[Ti,an.out,al.out,a0x,List.length_map] at h1
    have h2:((out.take (i+1)).flatten).length<=l.length:=by
     rw[<-t.out.flat]
     conv=>rhs;rw[<-a2w (i+1) out,List.flatten_append,a0x]
     omega
    exact a0z (by omega)
   go_wp2_with (fail)
   go_loopg [6,42] rolls.length (fun g vo vj W=>∃j:Nat,g=rolls.length-j/\vj=.int .i64 j/\j<=rolls.length/\Gi W y.heap.size vo (Hy m out i++(rolls.take j).map fun r=>(i,r))/\Fp [] y W/\∀D,D≠106->Aq D y.heap.size [] w2 W)
   case atStart=>exact⟨0,rfl,rfl,a0v _,by rw[List.take_zero,List.map_nil,List.append_nil];exact am.out,ao.out,fun _ _=>Aq.of (Fp.refl [] _) (by simp)⟩
   case round=>
    obtain⟨j,af,rfl,hj,q,hf,hk⟩:=hrel;have J:=a0z q;have V:=a0z hf;have S:=a0z hk;have ba:=a0z af;clear q hf hk af
    obtain⟨wj,au⟩:∃x,x=wr:=⟨_,rfl⟩
    subst au
    by_cases O:j<rolls.length
    ·have zj:(j:Int)<(rolls.length:Int):=by omega
     have nj:IntKind.i64.wrap ((j:Int)+1)=((j+1:Nat):Int):=by rw[IntKind.wrap_i64];omega
     obtain⟨j1,P⟩:∃j1,j+1=j1:=⟨_,rfl⟩
     rw[P] at nj;obtain⟨gr,bm,ae,-,-,-,G⟩:=(a7.out.keptD F (S.out _ (by decide)) (S.out _ (by decide))).get O;cases ae;obtain⟨u,k,f⟩:=G j O
     obtain⟨r,hr⟩:∃r,rolls[j]=r:=⟨_,rfl⟩
     rw[hr] at f;obtain⟨ar,cr,rfl⟩:=Ao.sliceL f;have az:=a0z (Ao.mono f F);have q1:wj.cell? ⟨gr,j,none⟩=some (.slice ar r.length cr):=k
     have aa:rolls.take (j+1)=rolls.take j++[r]:=by rw[List.take_add_one,a1u O,hr];rfl
     have aF:=a0z aa;have T:=a0z P;have a0:Hid (y.heap.size<=wj.heap.size):=a0z V.out.size;clear G k f hr aa P;go_wp2_with (at_builtin;refine wO rfl _ _ rfl y.heap.size _ _ rfl (J.out.fp (Fp.alloc _ _) (by simp)) _ i r.length cr ar r (az.out.fp (Fp.alloc _ _) (by simp)) rfl (Ai rfl _) (by have:=bb.out;rw[a0x,List.length_map,List.length_take];omega) (by have:=a0.out;simp;omega) ?_;intro v3 w3 ac ak ad;have a6:=a0z ac;have bc:=a0z ak;have a9:=a0z ad;clear ac ak ad)
     go_roundg (rolls.length-j1)
     case measure=>have:=ba.out;have:=T.out;omega
     case rel=>
      refine⟨j1,rfl,rfl,by have:=T.out;omega,?_,(V.out.trans (Fp.alloc _ _) (by simp)).belowTrans bc.out,fun D hD=>((S.out D hD).trans (Aq.of (Fp.alloc _ _) (by simp)) (by simp)).trans (a9.out D hD) (by simp)⟩;rw[<-T.out,aF.out,List.map_append,<-List.append_assoc];exact a6.out
    ·have z1:¬(j:Int)<(rolls.length:Int):=by omega
     obtain rfl:j=rolls.length:=by omega
     have a5:Hid (Gi wj y.heap.size u6 (Hy m out i1)):=by
      have h1:=J.out;rw[List.take_length] at h1;rw[<-U.out,Ti,an.out,al.out];exact a0z h1
     go_wp2_with (fail)
     go_roundg (out.length-i1)
     case measure=>have:=HG.out;have:=U.out;omega
     case rel=>exact⟨i1,rfl,rfl,by have:=U.out;omega,a5.out,V.out⟩
  ·have z0:¬(i:Int)<(out.length:Int):=by omega
   obtain rfl:i=out.length:=by omega
   obtain⟨pa,pc,rfl⟩:=C.out.slice;have a1:Hid (w.heap.size<=y.heap.size):=a0z ap.out.size
   obtain⟨pn,M⟩:∃pn,(Hy m out out.length).length=pn:=⟨_,rfl⟩
   rw[M] at C;rw[M];clear M;go_wp2_with (fail);refine bodyPost_ret (v:=.tuple #[.slice pa pn pc,.int .i64 0]) (by simp[results,Tryz.results50,go_sem]) rfl ?_;exact⟨_,rfl,out,C.out.mono a1.out,t.out,ap.out.trans E.out (by simp)⟩
theorem xZ(w:World)(a:Option Addr)(n cap:Nat)(E:Option Addr)(i f:Nat)(l:List Aa)(borders:List ByteArray)(m:Int)(C:Bh w a n l)(t:a=none∧cap=0∨∃b o,a=some ⟨b,o,none⟩)(N:n≤cap)(D:Eq w E i borders)(hn:n≤900000)(R:i≤900000)(B:G8 borders=true)(x:risC l=true)(S:m<1):
  Calls Tryz.prog 50 #[.slice a n cap,.slice E i f,.int .i64 m] w fun e w'=>e=.returned (.tuple #[.slice none 0 0,.int .i64 1])/\Fp [] w w':=by
 have I:=a0z (fun W (C:Bh W a n l) (D:Eq W E i borders)=>pT W a n cap E i f l borders C t N D (by omega) (by omega) B x);have J:=a0z (fun w a n cap=>wN w a n cap m S);have Y:=a0z C;have Z:=a0z D;clear C t N D B x;go_enter Tryz.func50,Tryz.ntmps50;go_wp2_with (fail);(with_reducible refine(I.out _ Y.out Z.out).mono ?_);rintro e M ⟨v1,d,rfl,h,r,A⟩;obtain⟨va,vc,rfl⟩:=h.slice;have F:=r.count
 have O:0<d.length:=by omega
 obtain⟨U,P,G,-,T,-,y⟩:=h.get O;cases G;obtain⟨u,q,k⟩:=y 0 O;obtain⟨X,V,rfl⟩:=Ao.sliceL k;have q0:M.cell? ⟨U,0,none⟩=some (.slice X d[0].length V):=q
 obtain⟨xl,j⟩:∃xl,d[0].length=xl:=⟨_,rfl⟩
 rw[j] at q0
 have z0:(0:Int)<(d.length:Int):=by omega
 have L:=a0z A;clear y q k F h A r j;go_wp2_with (fail)
 go_loopg [6,26] 0 (fun g vo Q wr=>g=0/\Q=.int .i64 0/\M=wr)
 case atStart=>exact⟨rfl,rfl,rfl⟩
 case round=>
  obtain⟨rfl,rfl,rfl⟩:=hrel;go_wp2_with (fail);(with_reducible refine(J.out _ _ _ _).mono ?_);rintro e w2 ⟨rfl,z⟩;have K:=a0z z;clear z q0;go_wp2_with (fail);refine bodyPost_ret (v:=.tuple #[.slice none 0 0,.int .i64 1]) (by simp[results,Tryz.results50,go_sem]) rfl ?_;exact⟨rfl,L.out.trans K.out (by simp)⟩
theorem yA(w:World)(a:Option Addr)(n cap:Nat)(k:Option Addr)(f d:Nat)(borders:List ByteArray)(m:Eq w k f borders)(q:f≤900000)(i:G8 borders=false):
  Calls Tryz.prog 88 #[.slice a n cap,.slice k f d] w fun e w'=>e=.returned (.tuple #[.slice none 0 0,.int .i64 1])/\Fp [] w w':=by
 have j:=a0z (fun W (h:Eq W k f borders)=>cM W k f d borders h (by omega));rw[i] at j;have r:=a0z m;clear m i;go_enter Tryz.func88,Tryz.ntmps88;go_wp2_with (fail);(with_reducible refine(j.out _ (r.out.of_fp (Fp.alloc _ _))).mono ?_);rintro e o ⟨rfl,g⟩;have l:Hid (Fp [] w o):=(Fp.alloc _ _).trans g (by simp);clear g;go_wp2_with (fail);refine bodyPost_ret (v:=.tuple #[.slice none 0 0,.int .i64 1]) (by simp[results,Tryz.results88,go_sem]) rfl ?_;exact⟨rfl,l.out⟩
theorem yB(w:World)(a:Option Addr)(n cap:Nat)(j:Option Addr)(f d:Nat)(borders:List ByteArray)(m:Int)(i:Eq w j f borders)(o:f≤900000)(h:G8 borders=false):
  Calls Tryz.prog 50 #[.slice a n cap,.slice j f d,.int .i64 m] w fun e w'=>e=.returned (.tuple #[.slice none 0 0,.int .i64 1])/\Fp [] w w':=by
 have k:=a0z (fun W (i:Eq W j f borders)=>yA W a n cap j f d borders i (by omega) h);have q:=a0z i;clear i h;go_enter Tryz.func50,Tryz.ntmps50;go_wp2_with (fail);(with_reducible refine(k.out _ q.out).mono ?_);rintro e r ⟨rfl,g⟩;have l:=a0z g;clear g;go_wp2_with (fail);refine bodyPost_ret (v:=.tuple #[.slice none 0 0,.int .i64 1]) (by simp[results,Tryz.results50,go_sem]) rfl ?_;exact⟨rfl,l.out⟩
end
section
open Go.RowKit Go.Lib
end
section
open Go.RowKit Go.Lib
theorem Db.at4{w:World}{base:Nat}{v:Value}{a b c d:ByteArray}(h:Db w base v [a,b,c,d]):∃g cap,v=.slice (some ⟨g,0,none⟩) 4 cap∧base≤g∧g<w.heap.size∧
  ∀w',Fp [] w w'->w'.cell? ⟨g,0,none⟩=some (.string a)/\w'.cell? ⟨g,1,none⟩=some (.string b)/\w'.cell? ⟨g,2,none⟩=some (.string c)/\w'.cell? ⟨g,3,none⟩=some (.string d):=by
 rcases h.at with⟨_,h|⟨g,cap,l,m,f,o⟩⟩
 ·cases h
 ·refine⟨g,cap,l,m,f,fun w' n=>?_⟩
  have k:∀i (j:i<[a,b,c,d].length),w'.cell? ⟨g,i,none⟩=some (.string [a,b,c,d][i]):=fun i j=>(n.cell (p:=⟨g,i,none⟩) f a1x).trans (o i j)
  exact⟨k 0 (by simp),k 1 (by simp),k 2 (by simp),k 3 (by simp)⟩
end
section
open Go.RowKit Go.Lib
end
section
open Go.RowKit Go.Lib
theorem Jm.fp{w w':World}(h:Jm w)(a:Fp [] w w'):Jm w':=⟨h.mx.fp a a1x,h.er.fp a a1x a1x⟩
end
section
open Go.RowKit
end
section
open Go.RowKit Go.Lib
theorem X9:∀(l:List ByteArray) (i:Nat) (a:List Aa),(∀t∈l,t.size≤100000000)→(∀c∈a,B3 c)→(∀c∈(Hi i a l).1,B3 c)∧(Hi i a l).1.length≤a.length+l.length∧(Hi i a l).2.1≤i+l.length∧(Hi i a l).2.2≤70
 |[],i,a,_,h=>⟨h,a2x _,a0v _,a0v _⟩
 |t::r,i,a,hl,h=>by
  have k:∀t∈r,t.size<=100000000:=fun x d=>hl x (by simp[d])
  cases hs:Ja t
  ·cases hp:D5 t with
   |none=>
    rw[oG hs hp];exact⟨by simp,a0v _,by show i+1<=i+(r.length+1);omega,a2x _⟩
   |some c=>
    rw[dG hs hp];have m:=oF (hl t (by simp)) hp
    obtain⟨j,g,n,f⟩:=X9 r (i+1) (a++[c]) k (by
     intro x d
     rcases List.mem_append.1 d with d|d
     ·exact h x d
     ·rw[List.mem_singleton.1 d];exact m)
    exact⟨j,by rw[a0x] at g;simp only[a0u,List.length_nil] at g ⊢;omega,by rw[a0u];omega,f⟩
  ·rw[Yv hs];obtain⟨j,g,n,f⟩:=X9 r (i+1) a k h;exact⟨j,by rw[a0u];omega,by rw[a0u];omega,f⟩
theorem yC(s:ByteArray)(f:s.size<=100000000):(∀c∈(Et s).1,B3 c)/\(Et s).1.length<=100000001/\(Et s).2.1<=100000001/\(Et s).2.2<=71:=by
 unfold Et;split
 ·exact⟨by simp,a0v _,a0v _,a2x _⟩
 ·have g:=dB 10 s;obtain⟨d,j,i,h⟩:=X9 (Ih 10 s) 0 [] (fun t a=>by have:=Ro a;omega) (by simp);refine⟨d,?_,by omega,by omega⟩;have:([]:List Aa).length=0:=rfl;omega
theorem yD(s:ByteArray)(w:World)(f:s.size≤100000000)(a:Dl w):
  Calls Tryz.prog 44 #[.string s] w fun e w'=>e=.returned (.int .u32 (Eb 0 s))/\Fp [] w w':=by
 have H:=a0z (fun w a=>Vn s w f a);have g:=a0z a;clear a;go_enter Tryz.func44,Tryz.ntmps44;go_wp2_with (fail);(with_reducible refine(H.out _ g.out).mono ?_);rintro e i ⟨rfl,d⟩;have h:=a0z d;clear d;go_wp2_with (fail);go_ret;exact⟨rfl,h.out⟩
end
section
open Go.RowKit Go.Lib
end
section
section
open Go.RowKit
end
section
open Go.RowKit Go.Lib
theorem Vv(x y:List UInt8)(n:Nat)(h:n=x.length):(bl (x++y)).extract 0 n=bl x:=by
 rw[S3,List.drop_zero,Nat.sub_zero,h,List.take_left]
theorem Oz(x y:List UInt8)(n:Nat)(h:n=x.length):(bl (x++y)).extract n (bl (x++y)).size=bl y:=by
 rw[uX,h,List.drop_left]
theorem bP(x y z:List UInt8)(n m:Nat)(h:n=x.length)(a:m=x.length+y.length):(bl (x++(y++z))).extract n m=bl y:=by
 rw[S3,h,List.drop_left,a,Nat.add_sub_cancel_left,List.take_left]
theorem Ya(x y:List UInt8)(n:Nat)(h:n=x.length)(ok:Bool):(⟨bl (x++y),ok⟩:Rb).take n=(bl x,⟨bl y,ok⟩):=by
 unfold Rb.take;rw[if_pos (by rw[Dm,a0x];omega)];rw[Vv x y n h,Oz x y n h]
theorem yE(n:Nat)(h:n<65536):(a0w n).toNat+(a0w (n/256)).toNat*256=n:=by
 rw[a1v,a1v];omega
theorem kW(n:Nat)(y:List UInt8)(h:n<65536)(ok:Bool):(⟨bl (two n++y),ok⟩:Rb).num 2=(n,⟨bl y,ok⟩):=by
 unfold Rb.num;rw[Ya (two n) y 2 rfl ok]
 have e:Bn (bl (two n)) (bl (two n)).size=n:=by
  rw[Dm];show Bn (bl (two n)) 2=n;unfold Bn Bn Bn;rw[K8,K8];show 0+(a0w n).toNat*256^0+(a0w (n/256)).toNat*256^1=n;have:=yE n h;omega
 rw[e]
theorem bQ(b:UInt8)(y:List UInt8)(ok:Bool):(⟨bl (b::y),ok⟩:Rb).num 1=(b.toNat,⟨bl y,ok⟩):=by
 unfold Rb.num;rw[show b::y=[b]++y from rfl,Ya [b] y 1 rfl ok]
 have e:Bn (bl [b]) (bl [b]).size=b.toNat:=by
  rw[Dm];show Bn (bl [b]) 1=_;unfold Bn Bn;rw[K8];show 0+b.toNat*256^0=_;omega
 rw[e]
theorem kX:∀(a b:List UInt8),a.take (Eo a b)=b.take (Eo a b)
 |[],b=>by cases b<;>rfl
 |_ ::_,[]=>rfl
 |x::a,y::b=>by
  unfold Eo;split
  ·rename_i h;rw[List.take_succ_cons,List.take_succ_cons,h,kX a b]
  ·rfl
theorem kY(i:Nat)(last a:List UInt8):Eo (Dq i last) a≤last.length∧Eo (Dq i last) a≤a.length∧last.take (Eo (Dq i last) a)=a.take (Eo (Dq i last) a):=by
 unfold Dq;split
 ·have:Eo [] a=0:=by cases a<;>rfl
  rw[this];exact⟨a0v _,a0v _,rfl⟩
 ·exact⟨(Q0 last a).1,(Q0 last a).2,kX last a⟩
def Ny(c:Aa):E7:=⟨bl (Bq c),(Np c.del).toNat,c.val⟩
theorem kZ{n:Nat}(h:n<256):(a0w n).toNat=n:=by rw[a1v];omega
theorem yF(i:Nat)(last:List UInt8)(c:Aa)(y:List UInt8):G3 (Dq i last) c++y=
  two (Eo (Dq i last) (Bq c))++(two ((Bq c).length-Eo (Dq i last) (Bq c))++((Bq c).drop (Eo (Dq i last) (Bq c))++(Np c.del::(a0w c.val.size::(c.val.data.toList++y))))):=by
 unfold G3;simp only[List.append_assoc,List.cons_append,List.nil_append]
theorem yG(i:Nat)(last key:List UInt8):(bl last).extract 0 (Eo (Dq i last) key)++bl (key.drop (Eo (Dq i last) key))=bl key:=by
 have h:=(kY i last key).2.2;rw[S3,List.drop_zero,Nat.sub_zero,h,Q3,a2w]
theorem yH(i:Nat)(last:List UInt8)(c:Aa)(y:List UInt8)(a:B8 c=true):Oh (bl last) ⟨bl (G3 (Dq i last) c++y),true⟩=(some (Ny c),⟨bl y,true⟩):=by
 have f:=kY i last (Bq c);have k:=Z3 a;have j:=(Sl a).2.2;have h:=yG i last (Bq c);rw[yF]
 have g:Eo (Dq i last) (Bq c)<=(bl last).size:=by rw[Dm];exact f.1
 have d:=Z5 (last:=bl last) (kW _ (two ((Bq c).length-Eo (Dq i last) (Bq c))++((Bq c).drop (Eo (Dq i last) (Bq c))++(Np c.del::(a0w c.val.size::(c.val.data.toList++y))))) (by omega) true)
  (kW _ ((Bq c).drop (Eo (Dq i last) (Bq c))++(Np c.del::(a0w c.val.size::(c.val.data.toList++y)))) (by omega) true) g
  (Ya ((Bq c).drop (Eo (Dq i last) (Bq c))) (Np c.del::(a0w c.val.size::(c.val.data.toList++y))) _ (by rw[List.length_drop]) true)
  (bQ _ _ true) (bQ _ _ true) (Ya c.val.data.toList y _ (by rw[kZ (by omega)];rfl) true)
 rw[d,h];show(some _,_)=_;unfold Ny;rw[L1]
theorem lA:∀(l:List Aa) (i:Nat) (last:List UInt8),l.all B8=true→D7 l.length (bl last) ⟨bl (E6 i last l),true⟩=(l.map Ny,⟨bl [],true⟩)
 |[],i,last,_=>rfl
 |c::r,i,last,h=>by
  rw[a2v,a2z] at h;rw[a0u];unfold D7 E6;rw[yH i last c _ h.1];show(Ny c::_,_)=_;have:=lA r (i+1) (Bq c) h.2;show(Ny c::(D7 r.length (bl (Bq c)) ⟨bl (E6 (i+1) (Bq c) r),true⟩).1,(D7 r.length (bl (Bq c)) ⟨bl (E6 (i+1) (Bq c) r),true⟩).2)=_;rw[this];rfl
theorem lB{c:Aa}(a:B3 c)(d:B8 c=true):Ea (bl (Bq c))=(Fo c.row c.col c.ts c.seq,0):=by
 have f:A8=18446744073709551615:=rfl;exact uW c.row c.col c.ts c.seq (by have:=a.ts;omega) (by have:=a.seq;omega) (iD d)
theorem yI{c:Aa}(h:B3 c)(g:B8 c=true):Oi (Ny c)=c:=by
 unfold Oi Ny;simp only;rw[lB h g];obtain⟨f,i,j,seq,a,d⟩:=c
 cases a<;>rfl
theorem lC:∀(l:List Aa),(∀c∈l,B3 c)→l.all B8=true→Hw (l.map Ny)=some l
 |[],_,_=>rfl
 |c::r,hok,h=>by
  rw[a2v,a2z] at h;have a:=hok c (by simp);rw[List.map_cons];unfold Hw
  have e:(Ea (Ny c).key).2=0:=by unfold Ny;simp only;rw[lB a h.1]
  rw[if_pos e,lC r (fun c a=>hok c (List.mem_cons_of_mem _ a)) h.2,yI a h.1];rfl
theorem Vw{l:List Aa}(h:(Da l).2=0):l.length≤255∧l.all B8=true∧risC l=true∧(Da l).1=bl (a0w l.length::E6 0 [] l):=by
 unfold Da at h ⊢;split at h
 ·cases h
 ·split at h
  ·cases h
  ·split at h
   ·cases h
   ·rename_i f d a;rw[if_neg f,if_neg d,if_neg a];exact⟨by omega,by simpa using d,by simpa using a,rfl⟩
theorem yJ{l:List Aa}(a:∀c∈l,B3 c)(h:(Da l).2=0):Ls (Da l).1=some l:=by
 obtain⟨j,f,i,g⟩:=Vw h;rw[g]
 have d:(!(bl (a0w l.length::E6 0 [] l)).toList.isEmpty)=true:=by
  have:(bl (a0w l.length::E6 0 [] l)).toList=a0w l.length::E6 0 [] l:=by
   rw[ByteArray.toList_eq,Nq]
  rw[this];rfl
 rw[Xc (many:=l.length) (r1:=⟨bl (E6 0 [] l),true⟩) (by rw[d,bQ,kZ (by omega)])];have:=lA l 0 [] f;rw[show ByteArray.empty=bl [] from rfl,this];exact lC l a f
theorem lD{s:ByteArray}{l:List Aa}(h:Ej s=some l):Ls s=some l∧(Da l).2=0∧(Da l).1=s:=by
 unfold Ej at h;split at h
 ·cases h
 ·rename_i f a;split at h
  ·rename_i d;cases h;exact⟨a,d⟩
  ·cases h
theorem yK{l:List Aa}(a:∀c∈l,B3 c)(h:(Da l).2=0):Ej (Da l).1=some l:=fU (yJ a h) h rfl
theorem yL{s:ByteArray}{l:List Aa}(g:s.size≤100000)(h:Ls s=some l):∀c∈l,B3 c:=by
 unfold Ls at h;split at h
 ·refine Z8 (fun x d=>?_) h;have a:=(Xb _ _ _ x d).2
  obtain⟨⟨n,r1⟩,e⟩:∃t,(⟨s,!s.toList.isEmpty⟩:Rb).num 1=t:=⟨_,rfl⟩
  rw[e] at a;have f:=(Nj e).2;have:ByteArray.empty.size=0:=rfl;simp only at a f;omega
 ·cases h
theorem lE{s:ByteArray}{l:List Aa}(a:s.size<=100000)(h:Ej s=some l):∀c∈l,B3 c:=yL a (lD h).1
end
end
section
section
open Go.RowKit Go.Lib
end
section
open Go.RowKit Go.Lib
theorem bR:∀(l:List Aa) (i:Nat) (last:List UInt8),l.all B8=true→(E6 i last l).length≤286*l.length
 |[],_,_,_=>a2x _
 |c::r,i,last,h=>by
  rw[a2v,a2z] at h;unfold E6;have k:=bR r (i+1) (Bq c) h.2;have j:=Z3 h.1;have g:=(Sl h.1).2.2
  have f:(G3 (Dq i last) c).length<=286:=by
   unfold G3;simp only[a0x,List.length_drop,a0u,List.length_nil]
   have a:∀n,(two n).length=2:=fun _=>rfl
   have d:c.val.data.toList.length=c.val.size:=rfl;rw[a,a,d];omega
  rw[a0x,a0u];omega
theorem lF{l:List Aa}:(Da l).1.size≤80000:=by
 by_cases a:(Da l).2=0
 ·obtain⟨f,d,_,g⟩:=Vw a;rw[g,Dm,a0u];have:=bR l 0 [] d;omega
 ·unfold Da at a ⊢;split
  ·exact a0v _
  ·split
   ·exact a0v _
   ·split
    ·exact a0v _
    ·rename_i f d h;rw[if_neg f,if_neg d,if_neg h] at a;exact absurd rfl a
end
end
section
open Go.RowKit
def Qc(w w':World):Prop:=∀(k:Nat) (cs:Array Value) (T:TypeId),T≠5->w.heap[k]?=some (Obj.cells cs T (0,0))->w'.heap[k]?=some (Obj.cells cs T (0,0))
theorem Qc.refl(w:World):Qc w w:=fun _ _ _ _ h=>h
theorem Qc.alloc(w:World)(o:Obj):Qc w (w.alloc o):=fun _ _ _ _ h=>Bw h
theorem Qc.freeze{w:World}{g:Nat}{f:Array Value}{j:Nat × Nat}(h:w.heap[g]?=some (.cells f 5 j))(n:Nat):Qc w (w.freeze ⟨g,0,none⟩ n):=by
 intro k l T i d
 have a:g≠k:=fun e=>by
  subst e;rw[h] at d;cases d;exact i rfl
 rw[<-d];unfold World.freeze;split
 ·rfl
 ·simp[Array.getElem?_modify,a]
theorem yM{T:TypeId}(B b:Nat)(l:List UInt8)(w:World)(h:Dp T B b l w):
  Calls Tryz.prog 72 #[.pointer (some ⟨b,0,none⟩)] w fun e w'=>e=.returned (.string ⟨l.toArray⟩)/\Below B w w'/\Qc w w':=by
 obtain⟨p,P,v,a,d,E⟩:=h.at;have A:=h.le;rw[Lib.byteCells_length] at d;have r:=Ac a
 rcases d.2 with⟨rfl,L⟩|⟨g,cap,f,rfl,z,u,F,y,J,q⟩
 ·have:l=[]:=a1w L;subst this;have o:=Xk
  have C:w.drew.cell? ⟨b,1,none⟩=some (.slice none 0 0):=by rw[Lib.cell_of_heap (w:=w.drew) a];rfl
  have n:(Builtin.unsafeSliceData_ #[113] 197 #[.slice none 0 0]).run Tryz.prog w.drew=.ok (.pointer none) w.drew:=rfl;go_enter Tryz.func72,Tryz.ntmps72;go_wp2
  go_region
  all_goals(go_wp2;go_ret;exact⟨rfl,Below.drew (Below.refl B w),fun _ _ _ _ h=>h⟩)
 ·by_cases t:l=[]
  ·subst t;have o:=Xk
   by_cases m:cap=0
   ·subst m
    have O:w.cell? ⟨b,1,none⟩=some (.slice (some ⟨g,0,none⟩) 0 0):=by rw[Lib.cell_of_heap a];rfl
    have C:w.drew.cell? ⟨b,1,none⟩=some (.slice (some ⟨g,0,none⟩) 0 0):=O
    have n:(Builtin.unsafeSliceData_ #[113] 197 #[.slice (some ⟨g,0,none⟩) 0 0]).run Tryz.prog w.drew=.ok (.pointer (some ⟨w.drew.heap.size,0,none⟩)) (w.drew.alloc (.view ⟨g,0,none⟩ 5)):=
     Lib.run_unsafeSliceData_zero w.drew _ _ 5 Tryz.underlying197 ⟨g,0,none⟩ 0 (5,f.size) (by have i:w.drew.heap[g]?=some (.cells f 5 (0,0)):=u;simp[World.shape?,i])
    have N:(w.drew.alloc (.view ⟨g,0,none⟩ 5)).cell? ⟨b,1,none⟩=some (.slice (some ⟨g,0,none⟩) 0 0):=by
     rw[Lib.cell_of_heap ((Lib.alloc_old w.drew _ b r).trans a)];rfl
    have Q:(w.alloc (.view ⟨g,0,none⟩ 5)).drew.cell? ⟨b,1,none⟩=some (.slice (some ⟨g,0,none⟩) 0 0):=N;go_enter Tryz.func72,Tryz.ntmps72;go_wp2
    go_region
    all_goals(go_wp2;go_ret;exact⟨rfl,(Below.drew (Below.refl B w)).alloc A _,fun _ _ _ _ h=>Bw (w:=w) h⟩)
   ·have C:w.drew.cell? ⟨b,1,none⟩=some (.slice (some ⟨g,0,none⟩) 0 cap):=by rw[Lib.cell_of_heap (w:=w.drew) a];rfl
    have n:(Builtin.unsafeSliceData_ #[113] 197 #[.slice (some ⟨g,0,none⟩) 0 cap]).run Tryz.prog w.drew=.ok (.pointer (some ⟨g,0,none⟩)) w.drew:=
     Lib.run_unsafeSliceData_row _ _ _ _ _ _ m
    clear m;go_enter Tryz.func72,Tryz.ntmps72;go_wp2
    go_region
    all_goals(go_wp2;go_ret;exact⟨rfl,Below.drew (Below.refl B w),fun _ _ _ _ h=>h⟩)
  ·have G:l.length≠0:=fun e=>t (a1w e)
   have C:w.drew.cell? ⟨b,1,none⟩=some (.slice (some ⟨g,0,none⟩) l.length cap):=by rw[Lib.cell_of_heap (w:=w.drew) a];rfl
   have n:(Builtin.unsafeSliceData_ #[113] 197 #[.slice (some ⟨g,0,none⟩) l.length cap]).run Tryz.prog w.drew=.ok (.pointer (some ⟨g,0,none⟩)) w.drew:=
    Lib.run_unsafeSliceData_row _ _ _ _ _ _ (by omega)
   have o:(Builtin.unsafeString_ #[197,3] 9 #[.pointer (some ⟨g,0,none⟩),.int .i64 l.length]).run Tryz.prog w.drew=.ok (.string ⟨l.toArray⟩) (w.drew.freeze ⟨g,0,none⟩ l.length):=by
    refine Lib.run_unsafeString_row w.drew 197 3 9 5 Tryz.underlying197 Tryz.cellsB g f.size (by have i:w.drew.heap[g]?=some (.cells f 5 (0,0)):=u;simp[World.shape?,i]) l t (by omega) (by unfold maxLen at y;omega) ?_;intro j x D;exact d.cells (g:=g) rfl j (.int .u8 x.toNat) (by simp[Lib.byteCells,D])
   go_enter Tryz.func72,Tryz.ntmps72;go_wp2
   go_region
   all_goals(go_wp2;go_ret;exact⟨rfl,Lib.below_freeze (Below.drew (Below.refl B w)) (p:=⟨g,0,none⟩) z _,fun k M T K I=>Qc.freeze (w:=w.drew) u _ k M T K I⟩)
end
end Go.Proofs.YtkagolpnaicdoaaGreatDoor
