/-
 The reader of a block's bytes. A range over a function whose iterator turns one block of its own (a reader's). Over any program. The entries of a block: the iterator.
-/
import Derived.RangeFuncWrites
import Derived.Test.YtkagolpnaicdoaaGreatDoorPHeapP
import Derived.BigGuardIn
set_option maxRecDepth 100000
set_option maxHeartbeats 8000000
open Go.Lib renaming hid->a0z
open List renaming setIfInBounds_toArray->a0x,set_cons_succ->a0v,set_cons_zero->a0u,reverse_cons->a1z,reverse_nil->a1x,cons_append->a1w,nil_append->a1v
open ByteArray renaming size_extract->a0w
namespace Go.Proofs.YtkagolpnaicdoaaGreatDoor
section
open Go.RowKit
structure Rb where
 rest:ByteArray
 ok:Bool
def Rb.take(r:Rb)(n:Nat):ByteArray × Rb:=
 if n<=r.rest.size then(r.rest.extract 0 n,⟨r.rest.extract n r.rest.size,r.ok⟩) else(ByteArray.empty,⟨r.rest,false⟩)
def Rb.num(r:Rb)(n:Nat):Nat × Rb:=(Bn (r.take n).1 (r.take n).1.size,(r.take n).2)
def D1(w:World)(b:Nat)(r:Rb):Prop:=w.heap[b]?=some (.cells #[.string r.rest,.bool r.ok] 203 (0,0))
theorem D1.fp{w w':World}{b:Nat}{r:Rb}{S:List Nat}(h:D1 w b r)(a:Fp S w w')(f:b∉S):D1 w' b r:=(a.block b (Ac h) f).trans h
def Nu(w w':World):Prop:=∀B,w.heap.size<=B->∀c fz,w'.heap[B]?≠some (.cells c 209 fz)
theorem Nu.same{w w':World}(h:w'.heap.size<=w.heap.size):Nu w w':=fun B a c f e=>by have:=Ac e;omega
theorem Nu.refl(w:World):Nu w w:=Nu.same (Nat.le_refl _)
theorem Nu.trans{a b c:World}(h:Nu a b)(k:Nu b c){S:List Nat}(m:Fp S b c)(o:∀i∈S,i<a.heap.size):Nu a c:=fun B p g f e=>by
 by_cases n:b.heap.size<=B
 ·exact k B n g f e
 ·have q:=m.block B (by omega) (fun l=>by have:=o B l;omega);rw[q] at e;exact h B p g f e
theorem fH(r:Rb)(n:Nat):(r.take n).1.size<=n/\(r.take n).1.size<=r.rest.size/\(r.take n).2.rest.size<=r.rest.size:=by
 unfold Rb.take;split
 ·simp only[a0w];omega
 ·exact⟨Nat.zero_le _,Nat.zero_le _,Nat.le_refl _⟩
theorem fJ(w:World)(b n:Nat)(r:Rb)(a:D1 w b r)(_hn:n≤1000000)(l:r.rest.size≤1000000000):
  Calls Tryz.prog 206 #[.pointer (some ⟨b,0,none⟩),.int .i64 n] w fun e w'=>e=.returned (.string (r.take n).1)/\D1 w' b (r.take n).2/\Fp [b] w w'/\Nu w w':=by
 have o:w.cell? ⟨b,0,none⟩=some (.string r.rest):=Ab a 0;have m:w.cell? ⟨b,1,none⟩=some (.bool r.ok):=Ab a 1;have s:w.frozen? ⟨b,0,none⟩=false:=Ar a 0;have q:w.frozen? ⟨b,1,none⟩=false:=Ar a 1;have h:=a0z a;obtain⟨rest,ok⟩:=r;simp only at o m l;clear a
 by_cases g:n<=rest.size
 ·have k:¬(rest.size:Int)<(n:Int):=by omega
  have p:(n:Int)<=(rest.size:Int):=by omega
  have f:Hid ((⟨rest,ok⟩:Rb).take n=(rest.extract 0 n,⟨rest.extract n rest.size,ok⟩)):=if_pos g;go_enter Tryz.func206,Tryz.ntmps206;go_wp2_with (fail);go_ret;rw[f.out];refine⟨rfl,?_,Fp.setCell w ⟨b,0,none⟩ _,Nu.same (by simp[World.setCell])⟩;unfold D1;show(w.setCell _ _).heap[b]?=_;rw[Bd h.out];rfl
 ·have k:(rest.size:Int)<(n:Int):=by omega
  have f:Hid ((⟨rest,ok⟩:Rb).take n=(ByteArray.empty,⟨rest,false⟩)):=if_neg g;go_enter Tryz.func206,Tryz.ntmps206;go_wp2_with (fail);go_ret;rw[f.out];refine⟨rfl,?_,((Fp.setCell w ⟨b,1,none⟩ (.bool false)).trans (Fp.setCell _ ⟨b,0,none⟩ _) (by simp)),Nu.same (by simp[World.setCell])⟩;unfold D1;show((w.setCell _ _).setCell _ _).heap[b]?=_;rw[Bd (Bd h.out _)];rfl
theorem tA{s:ByteArray}{k:Nat}(a:k<s.size)(p:k<2):
  bits .or .i64 (Bn s k:Int) (wrap64 ((s[k].toNat:Int)*2^(8*k)))=(Bn s (k+1):Int):=by
 have m:s[k].toNat<256:=s[k].toNat_lt
 have o:A5 s k=s[k]:=by
  unfold A5;rw[List.getD_eq_getElem?_getD,List.getElem?_eq_getElem (by simpa using a)];simp;rfl
 have l:=K7 s k;have f:=hO s k;rw[o] at f
 have h:(256:Nat)^k=2^(8*k):=by rw[Nat.pow_mul]
 have g:(256:Nat)^k<=256^1:=Nat.pow_le_pow_right (by decide) (by omega);have q:s[k].toNat*256^k<=255*256:=Nat.mul_le_mul (by omega) g
 have w2:((s[k].toNat:Int)*2^(8*k))=((s[k].toNat*256^k:Nat):Int):=by
  rw[h];push_cast;rfl
 rw[w2,show wrap64 ((s[k].toNat*256^k:Nat):Int)=((s[k].toNat*256^k:Nat):Int) by unfold wrap64;omega];rw[(bits_nat .i64 62 (by decide) (fun n m l=>by rw[IntKind.wrap_i64];omega) _ _ (by omega) (by omega)).2,f]
theorem tB(w:World)(s:ByteArray):∃cap W,(convert 9 113 (.string s)).run Tryz.prog w=.ok (.slice (some ⟨w.heap.size,0,none⟩) s.size cap) W∧
  (∀j (h:j<s.size),W.cell? ⟨w.heap.size,j,none⟩=some (.int .u8 s[j].toNat))/\Fp [] w W/\Nu w W:=by
 have h:=run_bytes_of_string (P:=Tryz.prog) w 9 113 5 s Tryz.underlying9 Tryz.underlying113 Tryz.underlying5;refine⟨_,_,h,?_,(Fp.drew w).alloc' _,?_⟩
 rotate_left
 ·intro B m c o e;have f:=Ac e
  have a:(w.drew.alloc (.cells (bytesRow s (grownCap w s.size 0 5)) 5 ((bytesRow s (grownCap w s.size 0 5)).size,(bytesRow s (grownCap w s.size 0 5)).size+1))).heap.size=w.heap.size+1:=by simp
  rw[a] at f
  have k:B=w.heap.size:=by omega
  have g:=Ai (w:=w.drew) (n:=w.heap.size) rfl (.cells (bytesRow s (grownCap w s.size 0 5)) 5 ((bytesRow s (grownCap w s.size 0 5)).size,(bytesRow s (grownCap w s.size 0 5)).size+1));rw[k,g] at e;cases e
 have g:=Ai (w:=w.drew) (n:=w.heap.size) rfl (.cells (bytesRow s (grownCap w s.size 0 5)) 5 ((bytesRow s (grownCap w s.size 0 5)).size,(bytesRow s (grownCap w s.size 0 5)).size+1));intro j l;rw[Ab g,bytesRow_at s _ j l];rfl
theorem tC(w:World)(b n:Nat)(r:Rb)(D:D1 w b r)(N:n≤2)(L:r.rest.size≤1000000000):
  Calls Tryz.prog 133 #[.pointer (some ⟨b,0,none⟩),.int .i64 n] w fun e w'=>e=.returned (.int .i64 ((r.num n).1:Nat))/\D1 w' b (r.num n).2/\Fp [b] w w'/\Nu w w':=by
 have G:=a0z (fJ w b n r D (by omega) L);have C:=(fH r n).1;unfold Rb.num
 obtain⟨t,q⟩:∃t,r.take n=t:=⟨_,rfl⟩
 obtain⟨s,r'⟩:=t;rw[q] at G C;rw[q];simp only at C
 have K:s.size<=2:=by omega
 clear D q;go_enter Tryz.func133,Tryz.ntmps133;go_wp2_with (fail);(with_reducible refine G.out.mono ?_);rintro e A ⟨rfl,h,o,m⟩;obtain⟨cap,W,v,f,a,l⟩:=tB A s;have p:=a0z f;have x:=a0z (h.fp a (by simp));have z:=a0z (o.trans a (by simp));have y:=a0z (m.trans l a (by simp));clear f h o a m l;go_wp2_with (fail)
 go_loopg [4,12] s.size (fun g I J wr=>∃k:Nat,g+k=s.size/\I=.int .i64 (Bn s k:Nat)/\J=.int .i64 k/\wr=W)
 case atStart=>exact⟨0,by omega,rfl,rfl,rfl⟩
 case round=>
  obtain⟨k,O,rfl,rfl,rfl⟩:=hrel
  by_cases F:k<s.size
  ·have u:k<2:=by omega
   have M:=tA F u;have q0:wr.cell? ⟨A.heap.size,k,none⟩=some (.int .u8 s[k].toNat):=p.out k F;have Q:=s[k].toNat_lt;go_wp2_with (fail)
   go_roundg (gk-1)
   case measure=>omega
   case rel=>exact⟨k+1,by omega,by first|rfl|rw[M],by simp,rfl⟩
  ·obtain rfl:k=s.size:=by omega
   go_wp2_with (fail);go_ret;exact⟨rfl,x.out,z.out,y.out⟩
end
section
open Go.RowKit
theorem Fp.putObj(W:World)(l:Nat)(o:Obj):Fp [l] W (W.putObj l o):=by
 refine⟨rfl,rfl,rfl,by simp,fun k _ a=>World.putObj_heap_other (by simpa using a)⟩
structure Aq(T:TypeId)(base:Nat)(S:List Nat)(W W':World):Prop where
 size:W.heap.size<=W'.heap.size
 low:∀k,k<base->k<W.heap.size->k∉S->W'.heap[k]?=W.heap[k]?
 high:∀k c fz,base<=k->W.heap[k]?=some (.cells c T fz)->W'.heap[k]?=W.heap[k]?
theorem Aq.of{T:TypeId}{base:Nat}{S:List Nat}{W W':World}(h:Fp S W W')(g:∀k∈S,k<base):Aq T base S W W':=
 ⟨h.size,fun k _ a l=>h.block k a l,fun k c n m a=>h.block k (Array.getElem?_eq_some_iff.1 a).1 (fun f=>by have:=g k f;omega)⟩
theorem Aq.trans{T:TypeId}{base:Nat}{S S':List Nat}{a b c:World}(h:Aq T base S a b)(k:Aq T base S' b c)(n:∀i∈S',i∈S):Aq T base S a c:=
 ⟨Nat.le_trans h.size k.size,fun i g f m=>(k.low i g (Nat.lt_of_lt_of_le f h.size) (fun o=>m (n i o))).trans (h.low i g f m),
  fun i x l g f=>(k.high i x l g ((h.high i x l g f).trans f)).trans (h.high i x l g f)⟩
theorem Aq.mono{T:TypeId}{base:Nat}{S S':List Nat}{a b:World}(h:Aq T base S a b)(f:∀i∈S,i∈S'):Aq T base S' a b:=
 ⟨h.size,fun i m l k=>h.low i m l (fun g=>k (f i g)),h.high⟩
section
variable {P : Program}
theorem Sm{α:Type}{g:Operand}{ps:Array Tmp}{assign body:Code}{Q:Exit→Act→World→Prop}{a:Act}{w:World}{n:Nat}{gf:Nat}{lb:Array Value}
  (hg:a.eval g=.func (.func gf) #[] lb)(eg:∀args w,(callFunc gf args).run P w=.ok (.enter gf args) w)
  {encs:α->Array Value}(al:∀x,(encs x).size=ps.size)(T:TypeId)(S0 Sx:List Nat)(ah:∀k∈S0,k<w.heap.size)(ar:∀k∈Sx,k<w.heap.size)(rb:Nat)(az:rb<w.heap.size)(cx:Nat)
  (V:List α->α->Prop)(I Ix SS:List α->World->Prop)
  (Z:World->Prop)(hI:∀s A B k,I s A->Fp [k] A B->(k=w.heap.size∨k=w.heap.size+1)->I s B)(aw:∀s A B,I s A->Fp [rb] A B->Z B->I s B)
  (aj:∀s A B,Ix s A->Fp [w.heap.size+1] A B->Ix s B)
  (au:∀s A B,SS s A->Fp [w.heap.size+1] A B->SS s B)
  (X:∀(J Jx:List α->World->Prop) (W1:World),Fp [] w W1->w.heap.size+2<=W1.heap.size->(∀s A B,J s A->Fp [rb] A B->Z B->J s B)->
   (∀f x W,V f x->J f W->YieldAt Fence.wide (n-1-1) P (w.heap.size+1) (encs x) W fun e W'=>(e=.returned (.bool true)/\J (f++[x]) W'/\Aq T (w.heap.size+2) ((w.heap.size+1)::S0) W W')∨(e=.returned (.bool false)/\Jx (f++[x]) W'))->
   J [] W1->CallsIn Fence.wide (n-1) P gf (#[.func (.yield (w.heap.size+1)) #[] #[]]++lb) W1 fun e W'=>(∃v,e=.returned v)/\((∃xs,SS xs W'/\J xs W')∨(∃f,Jx f W')))
  (h0:I [] w)(Ax:α->Act->World->Prop)(ay:∀x F A B,Ax x F A->Fp [w.heap.size+1] A B->Ax x F B)
  (C:∀(l:Nat) (x:α) (W:World) (K:Act->World->Prop),w.heap.size+2<=W.heap.size->(∀F W',Fp [] W W'->Ax x F W'->K F W')->
   assign.wpIn (Fence.wide.inRound l) (n-1-1) P (Exit.then K (fun _ _ _=>False)) {tmps:=(ps.zip (encs x)).foldl (fun t (p,v)=>t.setIfInBounds p v) a.tmps,defers:=[]} W)
  (ab:∀(l:Nat) (f:List α) (x:α) (F:Act) (W:World),V f x→I f W→w.heap.size+2≤W.heap.size→Ax x F W→body.wpIn (Fence.wide.inRound l) (n-1-1) P (fun e _ W'=>match e with
    |.normal=>Aq T (w.heap.size+2) S0 W W'/\I (f++[x]) W'
    |.exit id=>id=cx/\Aq T (w.heap.size+2) Sx W W'/\Ix (f++[x]) W'
    |_=>False) F W)
  (aa:∀(xs:List α) (W:World),SS xs W->I xs W->W.heap[w.heap.size]?=some (.deferred (some []))->Q .normal {a with defers:={target:=.collected w.heap.size,args:=#[]}::a.defers} W)
  (R:∀(f:List α) (W:World),Ix f W->W.heap[w.heap.size]?=some (.deferred (some []))->(Code.exit cx).wpIn Fence.wide n P Q {a with defers:={target:=.collected w.heap.size,args:=#[]}::a.defers} W):
  (Code.rangeFunc g ps assign body).wpIn Fence.wide n P Q a w:=by
 refine wpIn_rangeFunc ?_;intro fn ap
 obtain⟨o,q⟩:∃o:LoopState->Option Code->Loop,o=fun st pe=>{state:=st,pending:=pe,fn,tmps:=a.tmps,params:=ps,assign,body,defers:=w.heap.size}:=⟨_,rfl⟩
 obtain⟨W1,L⟩:∃W1,(w.alloc (.deferred (some []))).alloc (.loop (o .ready none))=W1:=⟨_,rfl⟩
 have ai:W1.heap[w.heap.size+1]?=some (.loop (o .ready none)):=by
  rw[<-L];have:=World.alloc_heap_new (w.alloc (.deferred (some []))) (.loop (o .ready none));rwa [World.size_alloc] at this
 have av:W1.heap[w.heap.size]?=some (.deferred (some [])):=by
  rw[<-L];exact(Below.heap_alloc _ _ _ (by simp)).trans (World.alloc_heap_new w _)
 have ag:Fp [] w W1:=by rw[<-L];exact(Fp.alloc w _).alloc' _
 have ax:I [] W1:=hI [] w W1 w.heap.size h0 (ag.mono (by simp)) (Or.inl rfl)
 refine⟨w.heap.size+1,[{target:=.collected w.heap.size,args:=#[]}],W1,{target:=.fn (.func gf) lb,args:=#[.func (.yield (w.heap.size+1)) #[] #[]]},W1,gf,
  #[.func (.yield (w.heap.size+1)) #[] #[]]++lb,W1,?_,?_,?_,?_,(fun h=>by cases h),?_⟩
 ·rw[<-L,q];exact run_enterLoop_outer _ _ _ _ _
 ·simp only[resolve,hg];simp[go_sem]
 ·intro f' _;trivial
 ·simp[invoke,go_sem,eg]
 ·refine(X
   (fun f W=>I f W/\W.heap[w.heap.size+1]?=some (.loop (o .ready none))/\W.heap[w.heap.size]?=some (.deferred (some [])))
   (fun f W=>Ix f W/\W.heap[w.heap.size+1]?=some (.loop (o .done (some (.exit cx))))/\W.heap[w.heap.size]?=some (.deferred (some [])))
   W1 ag (Ac ai) ?_ ?_ ⟨ax,ai,av⟩).mono ?_
  ·rintro s A B ⟨h1,h2,h3⟩ hf hz;exact⟨aw s A B h1 hf hz,(hf.block _ (Ac h2) (by simp;omega)).trans h2,(hf.block _ (Ac h3) (by simp;omega)).trans h3⟩
  ·rintro f x W hV ⟨hi,O,D⟩;have am:w.heap.size+1<W.heap.size:=(Array.getElem?_eq_some_iff.1 O).1;have hy:=run_yield (P:=P) (args:=encs x) O (by rw[q];exact al x);rw[q] at hy;refine⟨fn,_,assign,body,hy,roundIn_of_wpIn ap (C _ x W _ am fun F W2 G aq=>?_)⟩;have ac:W2.heap[w.heap.size+1]?=some (.loop (o .ready none)):=(G.block _ (Ac O) (by simp)).trans O;have an:W2.heap[w.heap.size]?=some (.deferred (some [])):=(G.block _ (Ac D) (by simp)).trans D;have ao:I f W2:=hI f W W2 w.heap.size hi (G.mono (by simp)) (Or.inl rfl);have N:w.heap.size+1<W2.heap.size:=Ac ac;refine⟨_,run_beginRound ac (by rw[q]),?_⟩;have ae:(W2.putObj (w.heap.size+1) (.loop {o .ready none with state:=.busy})).heap[w.heap.size+1]?=some (.loop {o .ready none with state:=.busy}):=World.putObj_heap_same N;have af:(W2.putObj (w.heap.size+1) (.loop {o .ready none with state:=.busy})).heap[w.heap.size]?=some (.deferred (some [])):=(World.putObj_heap_other (by omega)).trans an;have y:=Fp.putObj W2 (w.heap.size+1) (.loop {o .ready none with state:=.busy});refine wpIn_mono (ab _ f x F _ hV (hI f _ _ (w.heap.size+1) ao y (Or.inr rfl)) (Nat.le_trans N y.size) (ay _ _ _ _ aq y)) ?_
   have ak:∀(m:Option Code) (M:World) (S:List Nat),(∀k∈S,k<w.heap.size)→Aq T (w.heap.size+2) S (W2.putObj (w.heap.size+1) (.loop {o .ready none with state:=.busy})) M→
     (Instr.endRound (w.heap.size+1) m).run P M=.ok (.bool m.isNone) (M.putObj (w.heap.size+1) (.loop (o (if m.isNone then .ready else .done) m)))/\
     (M.putObj (w.heap.size+1) (.loop (o (if m.isNone then .ready else .done) m))).heap[w.heap.size+1]?=some (.loop (o (if m.isNone then .ready else .done) m))/\
     (M.putObj (w.heap.size+1) (.loop (o (if m.isNone then .ready else .done) m))).heap[w.heap.size]?=some (.deferred (some [])):=fun m M S hS u=>by
    have ad:=(u.low _ (by omega) (Ac ae) (fun hm=>by have:=hS _ hm;omega)).trans ae;have z:=(u.low _ (by omega) (Ac af) (fun hm=>by have:=hS _ hm;omega)).trans af;have:=run_endRound (P:=P) m ad;rw[q] at this ⊢;exact⟨this,World.putObj_heap_same (Ac ad),(World.putObj_heap_other (by omega)).trans z⟩
   rintro e a3 M hp
   cases e with
   |normal=>
    obtain⟨u,Y⟩:=hp;obtain⟨hr,U,z⟩:=ak none M S0 ah u;refine⟨_,_,hr,.inl ⟨rfl,⟨hI _ _ _ _ Y (Fp.putObj _ _ _) (Or.inr rfl),U,z⟩,?_⟩⟩;exact((Aq.of ((G.mono (by simp)).trans y (by simp):Fp ((w.heap.size+1)::S0) _ _) (by intro k D;rcases List.mem_cons.1 D with h|h;omega;have:=ah k h;omega)).trans u (fun k D=>by simp[D])).trans (Aq.of (Fp.putObj _ _ _) (by simp)) (by simp)
   |exit id=>
    obtain⟨rfl,u,Y⟩:=hp;obtain⟨hr,U,z⟩:=ak (some (.exit id)) M Sx ar u;exact⟨_,_,hr,.inr ⟨rfl,aj _ _ _ Y (Fp.putObj _ _ _),U,z⟩⟩
   |ret=>exact hp.elim
   |goto t=>exact hp.elim
   |panic ch=>exact hp.elim
   |outgrown=>exact hp.elim
  ·rintro e W2 ⟨⟨v,rfl⟩,(⟨xs,hS,hi,O,D⟩|⟨f,hi,O,D⟩)⟩
   ·exact⟨none,_,by have:=run_endLoop (P:=P) O (by rw[q];simp);rw[q] at this;exact this,aa xs _ (au _ _ _ hS (Fp.putObj _ _ _)) (hI _ _ _ _ hi (Fp.putObj _ _ _) (Or.inr rfl)) ((World.putObj_heap_other (by omega)).trans D)⟩
   ·exact⟨some (.exit cx),_,by have:=run_endLoop (P:=P) O (by rw[q];simp);rw[q] at this;exact this,R f _ (aj _ _ _ hi (Fp.putObj _ _ _)) ((World.putObj_heap_other (by omega)).trans D)⟩
end
end
section
open Go.RowKit
structure E7 where
 key:ByteArray
 del:Nat
 val:ByteArray
def E7.cells(x:E7):Array Value:=#[.string x.key,.int .u8 x.del,.string x.val]
def W9(x:E7):Array Value:=#[.agg #[.string x.key,.int .u8 x.del,.string x.val]]
def tD:Bool->Bool->Rb->Rb->Rb->Rb
 |false,_,r,_,_=>r
 |true,false,_,r,_=>r
 |true,true,_,_,r=>r
def C2(i j:Nat)(E:List Nat)(w0:World)(rb:Nat)(r r' r'':Rb)(b:Nat->Bool)(w:World):Prop:=Fp (rb::E) w0 w/\D1 w rb (tD (b i) (b j) r r' r'')
section
variable {i j : Nat} {E : List Nat} {w0 w w' : World} {rb : Nat} {r r' r'' : Rb} {b : Nat -> Bool}
theorem C2.fp(h:C2 i j E w0 rb r r' r'' b w):Fp (rb::E) w0 w:=h.1
theorem C2.first(h:C2 i j E w0 rb r r' r'' b w)(a:b i=false):D1 w rb r:=by have:=h.2;rw[a] at this;exact this
theorem C2.second(h:C2 i j E w0 rb r r' r'' b w)(f:b i=true)(a:b j=false):D1 w rb r':=by have:=h.2;rw[f,a] at this;exact this
theorem C2.last(h:C2 i j E w0 rb r r' r'' b w)(f:b i=true)(a:b j=true):D1 w rb r'':=by have:=h.2;rw[f,a] at this;exact this
theorem Sr:Ah b i i=true:=if_pos rfl
theorem U4(h:j≠i):Ah b i j=b j:=if_neg h
theorem C2.did1(h:C2 i j E w0 rb r r' r'' b w)(a:j≠i)(k:b j=false)(f:D1 w' rb r')(g:Fp [rb] w w'):C2 i j E w0 rb r r' r'' (Ah b i) w':=
 ⟨h.1.trans g (by simp),by rw[Sr,U4 a,k];exact f⟩
theorem C2.did2(h:C2 i j E w0 rb r r' r'' b w)(a:i≠j)(k:b i=true)(f:D1 w' rb r'')(g:Fp [rb] w w'):C2 i j E w0 rb r r' r'' (Ah b j) w':=
 ⟨h.1.trans g (by simp),by rw[Sr,U4 a,k];exact f⟩
end
def Oh(last:ByteArray)(r:Rb):Option E7 × Rb:=
 if(r.num 2).1≤last.size then
  (if((((((r.num 2).2.num 2).2.take ((r.num 2).2.num 2).1).2.num 1).2.num 1).2.take ((((((r.num 2).2.num 2).2.take ((r.num 2).2.num 2).1).2.num 1).2.num 1).1)).2.ok then
   some ⟨last.extract 0 (r.num 2).1++(((r.num 2).2.num 2).2.take ((r.num 2).2.num 2).1).1,((((r.num 2).2.num 2).2.take ((r.num 2).2.num 2).1).2.num 1).1,
    ((((((r.num 2).2.num 2).2.take ((r.num 2).2.num 2).1).2.num 1).2.num 1).2.take ((((((r.num 2).2.num 2).2.take ((r.num 2).2.num 2).1).2.num 1).2.num 1).1)).1⟩ else none,
   ((((((r.num 2).2.num 2).2.take ((r.num 2).2.num 2).1).2.num 1).2.num 1).2.take ((((((r.num 2).2.num 2).2.take ((r.num 2).2.num 2).1).2.num 1).2.num 1).1)).2)
 else(none,⟨((r.num 2).2.num 2).2.rest,false⟩)
def D7:Nat→ByteArray→Rb→List E7 × Rb
 |0,_,r=>([],r)
 |k+1,last,r=>match Oh last r with
  |(none,r')=>([],r')
  |(some x,r')=>(x::(D7 k x.key r').1,(D7 k x.key r').2)
theorem U5{b n v:Nat}(z:Int){r r':Rb}(h:r.num n=(v,r'))(a:z=n)(k:n≤2)(f:r.rest.size≤1000000000)(w:World)(g:D1 w b r):
  Calls Tryz.prog 133 #[.pointer (some ⟨b,0,none⟩),.int .i64 z] w fun e w'=>e=.returned (.int .i64 (v:Nat))/\D1 w' b r'/\Fp [b] w w'/\Nu w w':=by
 have:=tC w b n r g k f;subst a;rw[h] at this;exact this
theorem fK{b n:Nat}{s:ByteArray}{r r':Rb}(h:r.take n=(s,r'))(g:n≤1000000)(a:r.rest.size≤1000000000)(w:World)(f:D1 w b r):
  Calls Tryz.prog 206 #[.pointer (some ⟨b,0,none⟩),.int .i64 n] w fun e w'=>e=.returned (.string s)/\D1 w' b r'/\Fp [b] w w'/\Nu w w':=by
 have:=fJ w b n r f g a;rw[h] at this;exact this
theorem Nj{n v:Nat}{r r':Rb}(h:r.num n=(v,r')):v<256^n/\r'.rest.size<=r.rest.size:=by
 have a:=fH r n;have f:=K7 (r.take n).1 (r.take n).1.size;unfold Rb.num at h;cases h;exact⟨Nat.lt_of_lt_of_le f (Nat.pow_le_pow_right (by decide) a.1),a.2.2⟩
theorem Xa{n:Nat}{s:ByteArray}{r r':Rb}(h:r.take n=(s,r')):s.size+r'.rest.size<=r.rest.size:=by
 unfold Rb.take at h;split at h
 ·cases h;simp only[a0w];omega
 ·cases h;show 0+r.rest.size<=_;omega
theorem fL{x a b:Nat}{S:List Nat}(h:x≠a)(g:x≠b)(f:x∉S):x∉a::b::S:=by simp[h,g,f]
theorem fM{last:ByteArray}{r r1 a:Rb}{n m:Nat}(g:r.num 2=(n,r1))(f:r1.num 2=(m,a))(h:¬n<=last.size):Oh last r=(none,⟨a.rest,false⟩):=by
 unfold Oh;simp only[g,f];rw[if_neg h]
theorem Z5{last t val:ByteArray}{r r1 l k g f a:Rb}{n m d v:Nat}(x:r.num 2=(n,r1))(u:r1.num 2=(m,l))(h:n≤last.size)(s:l.take m=(t,k))(q:k.num 1=(d,g))(p:g.num 1=(v,f))(o:f.take v=(val,a)):
  Oh last r=(if a.ok then some ⟨last.extract 0 n++t,d,val⟩ else none,a):=by
 unfold Oh;simp only[x,u,s,q,p,o];rw[if_pos h]
theorem fN{last:ByteArray}{r r':Rb}{k many:Nat}(h:Oh last r=(none,r'))(f:k<many):D7 (many-k) last r=([],r'):=by
 obtain⟨j,a⟩:∃j,many-k=j+1:=⟨many-k-1,by omega⟩
 rw[a];unfold D7;rw[h]
theorem tE{last:ByteArray}{r r':Rb}{x:E7}{k many:Nat}(h:Oh last r=(some x,r'))(f:k<many):D7 (many-k) last r=(x::(D7 (many-(k+1)) x.key r').1,(D7 (many-(k+1)) x.key r').2):=by
 obtain⟨j,a⟩:∃j,many-k=j+1:=⟨many-k-1,by omega⟩
 rw[a,show many-(k+1)=j by omega]
 conv=>lhs;unfold D7
 rw[h]
def U6:Array Value:=#[.string ByteArray.empty,.int .u8 0,.string ByteArray.empty]
def EB(N:Nat)(w:World)(B:Nat):Prop:=N<=B/\∃c fz,w.heap[B]?=some (.cells c 209 fz)
def U7(b1 b2:Bool)(N:Nat)(xc:Array Value)(w:World):Prop:=
 (b1=false->∀B,¬EB N w B)/\(b1=true->∃B,N<=B/\w.heap[B]?=some (.cells (bif b2 then xc else U6) 209 (0,0))/\∀B',EB N w B'->B'=B)
theorem EB.back{N rb B:Nat}{w w':World}(l:Fp [rb] w w')(k:Nu w w')(g:rb<N)(h:EB N w' B):EB N w B:=by
 obtain⟨n,c,f,a⟩:=h
 by_cases m:w.heap.size<=B
 ·exact absurd a (k B m c f)
 ·exact⟨n,c,f,(l.block B (by omega) (by simp;omega)).symm.trans a⟩
theorem EB.fp{N rb B:Nat}{w w':World}(h:EB N w B)(g:Fp [rb] w w')(f:rb<N):EB N w' B:=by
 obtain⟨k,c,l,a⟩:=h;exact⟨k,c,l,(g.block B (Ac a) (by simp;omega)).trans a⟩
theorem U7.fp{n m:Bool}{N rb:Nat}{xc:Array Value}{w w':World}(h:U7 n m N xc w)(f:Fp [rb] w w')(k:Nu w w')(a:rb<N):U7 n m N xc w':=by
 refine⟨fun e B o=>h.1 e B (o.back f k a),fun e=>?_⟩;obtain⟨B,q,l,p⟩:=h.2 e;exact⟨B,q,(f.block B (Ac l) (by simp;omega)).trans l,fun B' g=>p B' (g.back f k a)⟩
def C6(w0:World)(rb:Nat)(xc:Array Value)(r r' r'':Rb)(b:Nat->Bool)(w:World):Prop:=C2 5 8 [] w0 rb r r' r'' b w/\U7 (b 11) (b 12) w0.heap.size xc w
section
variable {w0 w : World} {rb : Nat} {xc : Array Value} {r r' r'' : Rb} {b : Nat -> Bool}
theorem C6.c(h:C6 w0 rb xc r r' r'' b w):C2 5 8 [] w0 rb r r' r'' b w:=h.1
theorem C6.e(h:C6 w0 rb xc r r' r'' b w):U7 (b 11) (b 12) w0.heap.size xc w:=h.2
theorem C6.made(h:C6 w0 rb xc r r' r'' b w)(g:b 11=false)(f:b 12=false):C6 w0 rb xc r r' r'' (Ah b 11) (w.alloc (.cells U6 209))∧
  EB w0.heap.size (w.alloc (.cells U6 209)) w.heap.size/\∀B,EB w0.heap.size w B->EB w0.heap.size (w.alloc (.cells U6 209)) B:=by
 have m:=h.c.fp.size;refine⟨⟨⟨h.c.1.alloc' _,h.c.2.fp (Fp.alloc _ _) (by simp)⟩,(fun e=>by rw[Sr] at e;cases e),fun _=>⟨w.heap.size,m,?_,?_⟩⟩,⟨m,_,_,Ai rfl _⟩,?_⟩
 ·rw[U4 (by decide),f];exact Ai rfl _
 ·rintro B ⟨k,c,l,a⟩
  by_cases n:B<w.heap.size
  ·rw[Below.heap_alloc _ _ _ n] at a;exact absurd ⟨k,c,l,a⟩ (h.e.1 g B)
  ·have:=Ac a;simp at this;omega
 ·rintro B ⟨k,c,l,a⟩;exact⟨k,c,l,Bw a⟩
theorem C6.block(h:C6 w0 rb xc r r' r'' b w)(a:b 11=true){B:Nat}(f:EB w0.heap.size w B):w.heap[B]?=some (.cells (bif b 12 then xc else U6) 209 (0,0)):=by
 obtain⟨B',l,k,g⟩:=h.e.2 a;rw[g B f];exact k
theorem C6.stored(h:C6 w0 rb xc r r' r'' b w)(g:b 11=true){B:Nat}(l:EB w0.heap.size w B){w':World}(k:Fp [B] w w')(q:w'.heap.size=w.heap.size)(o:w'.heap[B]?=some (.cells xc 209 (0,0)))(s:rb<w0.heap.size):
  C6 w0 rb xc r r' r'' (Ah b 12) w'/\∀B',EB w0.heap.size w B'->EB w0.heap.size w' B':=by
 obtain⟨y,x,v,p⟩:=h.e.2 g;have t:=l.1;refine⟨⟨⟨h.c.1.trans k (by simp;omega),h.c.2.fp k (by simp;omega)⟩,fun e=>?_,fun _=>⟨B,l.1,?_,?_⟩⟩,?_⟩
 ·rw[U4 (by decide),g] at e;cases e
 ·rw[Sr];exact o
 ·rintro B' ⟨m,c,n,a⟩
  by_cases e:B'=B
  ·exact e
  ·have u:=k.block B' (by rw[<-q];exact Ac a) (by simpa using e);rw[u] at a;rw[p B l];exact p B' ⟨m,c,n,a⟩
 ·rintro B' f
  by_cases e:B'=B
  ·subst e;exact⟨f.1,_,_,o⟩
  ·obtain⟨m,c,n,a⟩:=f;exact⟨m,c,n,(k.block B' (Ac a) (by simpa using e)).trans a⟩
end
def C7(w0:World)(rb B:Nat)(key val:ByteArray)(d:Nat)(r r' r'':Rb)(b:Nat->Bool)(w:World):Prop:=
 C2 2 3 [B] w0 rb r r' r'' b w/\w.heap[B]?=some (.cells #[.string key,.int .u8 d,.string (bif b 5 then val else ByteArray.empty)] 209 (0,0))
section
variable {w0 w : World} {rb B d : Nat} {key val : ByteArray} {r r' r'' : Rb} {b : Nat -> Bool}
theorem C7.c(h:C7 w0 rb B key val d r r' r'' b w):C2 2 3 [B] w0 rb r r' r'' b w:=h.1
theorem C7.e(h:C7 w0 rb B key val d r r' r'' b w):w.heap[B]?=some (.cells #[.string key,.int .u8 d,.string (bif b 5 then val else ByteArray.empty)] 209 (0,0)):=h.2
theorem C7.stored(h:C7 w0 rb B key val d r r' r'' b w)(a:rb≠B):C7 w0 rb B key val d r r' r'' (Ah b 5) (w.setCell ⟨B,2,none⟩ (.string val)):=by
 refine⟨⟨h.c.1.setCell' (Or.inl (by simp)) _,h.c.2.fp (Fp.setCell w ⟨B,2,none⟩ (.string val)) (by simpa using a)⟩,?_⟩;rw[Bd h.e,Sr];rfl
end
theorem tF(base L n many bm M rb:Nat)(w:World)(r0:Rb)(hn:1≤n)(al:w.heap[bm]?=some (.cells #[.int .i64 many] 3 (0,0)))(az:w.heap[M]?=some (.cells #[.pointer (some ⟨rb,0,none⟩)] 201 (0,0)))
  (av:D1 w rb r0)(aq:r0.rest.size<=1000000000)(bj:many<=1000000)(bn:base<=w.heap.size)(aF:bm<base)(ay:M<base)(au:rb<base)(bi:bm≠rb)(F:M≠rb)(bk:bm≠L)(bh:M≠L)(bf:rb≠L)
  (S0:List Nat)(a0:∀k∈S0,k<base/\k≠bm/\k≠M/\k≠rb)(J Jx:List E7->World->Prop)
  (hJ:∀s A B,J s A->Fp [rb] A B->(∃r,D1 B rb r)->J s B)
  (hy:∀z x W,(∃ao,(D7 many ByteArray.empty r0).1=z++x::ao)->J z W->YieldAt Fence.wide (n-1) Tryz.prog L (W9 x) W fun e W'=>(e=.returned (.bool true)/\J (z++[x]) W'/\Aq 209 base (L::S0) W W')∨(e=.returned (.bool false)/\Jx (z++[x]) W'))
  (h0:J [] w):
  CallsIn Fence.wide n Tryz.prog 205 #[.func (.yield L) #[] #[],.pointer (some ⟨bm,0,none⟩),.pointer (some ⟨M,0,none⟩)] w fun e w'=>(∃v,e=.returned v)/\
   ((∃xs,(xs=(D7 many ByteArray.empty r0).1/\D1 w' rb (D7 many ByteArray.empty r0).2)/\J xs w')∨∃z,Jx z w'):=by
 rw[callsIn_wide];have HY:=a0z hy;have HJ:=a0z hJ;have am:=a0z a0;have q0:w.cell? ⟨bm,0,none⟩=some (.int .i64 many):=Ab al 0;have br:=a0z av;have a9:=a0z al;have a8:=a0z az;have bo:=a0z aq;clear hy hJ a0 av al az aq;go_enter Tryz.func205,Tryz.ntmps205;go_wp2_with (fail)
 go_loopg [4,9] many (fun g vl vi wr=>∃(k:Nat) (last:ByteArray) (z:List E7) (r:Rb),g+k=many/\vl=.string last/\vi=.int .i64 k/\J z wr/\D1 wr rb r/\last.size+r.rest.size<=1000000000/\Aq 209 base (rb::L::S0) w wr/\
  D7 many ByteArray.empty r0=(z++(D7 (many-k) last r).1,(D7 (many-k) last r).2))
 case atStart=>exact⟨0,ByteArray.empty,[],r0,by omega,rfl,rfl,h0,br.out,by have:=bo.out;simpa using this,Aq.of (Fp.refl [] _) (by simp) |>.mono (by simp),rfl⟩
 case round=>
  obtain⟨k,last,z,r,hg,rfl,rfl,hj,hr,ca,hf,ax⟩:=hrel;have an:=a0z hf;have ag:=a0z ax;have HR:=a0z hr;have a3:=a0z hj;clear hf ax hr hj;have q1:wr.cell? ⟨bm,0,none⟩=some (.int .i64 many):=Ab ((an.out.low _ aF (Ac a9.out) (fL bi bk fun h=>(am.out _ h).2.1 rfl)).trans a9.out) 0;have V:wr.heap[M]?=some (.cells #[.pointer (some ⟨rb,0,none⟩)] 201 (0,0)):=(an.out.low _ ay (Ac a8.out) (fL F bh fun h=>(am.out _ h).2.2.1 rfl)).trans a8.out;have q2:wr.cell? ⟨M,0,none⟩=some (.pointer (some ⟨rb,0,none⟩)):=Ab V 0;have G:=a0z V;clear V
  by_cases hk:k<many
  ·have z1:(k:Int)<(many:Int):=by omega
   obtain⟨t1,ad⟩:∃t,r.num 2=t:=⟨_,rfl⟩
   obtain⟨nn,r1⟩:=t1
   obtain⟨t2,ac⟩:∃t,r1.num 2=t:=⟨_,rfl⟩
   obtain⟨m,r2⟩:=t2;have b1:=Nj ad;have b2:=Nj ac;have M1:=a0z (U5 (b:=rb) 2 ad rfl (by omega) (by omega));have M2:=a0z (U5 (b:=rb) 2 ac rfl (by omega) (by omega));have a2:=a0z ad;have a1:=a0z ac;clear ad ac;go_wp2_with (fail);refine Ft (C2 1 3 [] wr rb r r1 r2) (fun _ _=>True) (by kernel_rfl) (by kernel_rfl) ⟨(Fp.drew _ :Fp [] wr wr.drew).mono (by simp),HR.out.fp (Fp.drew _ :Fp [] wr wr.drew) (by simp)⟩ ?_;apply Be (fun _ _ h=>h) rfl rfl rfl
   ·intro b a w f l K p;have h2:=l.fr 2 rfl;have q:w.cell? ⟨M,0,none⟩=some (.pointer (some ⟨rb,0,none⟩)):=Ab ((f.fp.block _ (Ac G.out) (by simpa using F)).trans G.out) 0;simp only[Oper.wp,execOp];go_simp;exact p _ f trivial
   apply Fb (B6 (.int .i64 nn)) rfl rfl rfl
   ·intro b a w f l K p;have cy:=l.eq 0 11 rfl;simp only[Oper.wp,execOp];go_simp;(with_reducible refine(M1.out _ (f.first l.self)).mono ?_);rintro e w2 ⟨rfl,D,o,Q⟩;exact p _ _ (f.did1 (by decide) (l.post 3 (by kernel_rfl)) D o) trivial rfl
   apply Be (fun _ _ h=>h) rfl rfl rfl
   ·intro b a w f l K p;have h2:=l.fr 2 rfl;have q:w.cell? ⟨M,0,none⟩=some (.pointer (some ⟨rb,0,none⟩)):=Ab ((f.fp.block _ (Ac G.out) (by simpa using F)).trans G.out) 0;simp only[Oper.wp,execOp];go_simp;exact p _ f trivial
   apply Fb (B6 (.int .i64 m)) rfl rfl rfl
   ·intro b a w f l K p;have cw:=l.eq 2 13 rfl;simp only[Oper.wp,execOp];go_simp;(with_reducible refine(M2.out _ (f.second (l.pre 1 (by kernel_rfl)) l.self)).mono ?_);rintro e w2 ⟨rfl,D,o,Q⟩;exact p _ _ (f.did2 (by decide) (l.pre 1 (by kernel_rfl)) D o) trivial rfl
   iterate 2
    apply Be (fun _ _ h=>h) rfl rfl rfl
    ·intro b a w f l K p
     try have cx:=l.eq 1 12 rfl
     try have cv:=l.eq 3 14 rfl
     simp only[Oper.wp,execOp];go_simp;exact p _ f trivial
   refine⟨?_,?_⟩
   ·repeat(first|exact trivial|refine Cc _ ?_ |refine⟨fun w1 w2 v hf ⟨g,h1,h2⟩=>⟨g,h1,(hf.block g (Ac h2) (by simp)).trans h2⟩,?_⟩)
   ·intro O bb f C;simp only[a1z,a1x,a1v,a1w]
    iterate 1 (refine Am ?_)
    refine Ap ?_;intro v1 u1;obtain rfl:=u1
    iterate 1 (refine Am ?_)
    refine Ap ?_;intro v3 u3;obtain rfl:=u3
    iterate 2 (refine Am ?_)
    refine A0 ?_;simp only[Aj,Act.put,a0x,a0v,a0u];have R:=a0z (f.last (C 1 (by decide)) (C 3 (by decide)));have c0:=a0z f.fp;have y:=a0z ((f.fp.block _ (Ac G.out) (by simpa using F)).trans G.out);have ai:=a0z (an.out.trans (Aq.of f.fp (by simp;omega)) (by simp));have a5:=a0z (HJ.out _ _ _ a3.out f.fp ⟨_,R.out⟩);have q3:O.cell? ⟨M,0,none⟩=some (.pointer (some ⟨rb,0,none⟩)):=Ab y.out 0;have U:rb<O.heap.size:=Ac R.out;clear f C
    by_cases cc:last.size<nn
    ·have z2:(nn:Int)>(last.size:Int):=by omega
     have c1:O.cell? ⟨rb,1,none⟩=some (.bool r2.ok):=Ab R.out 1;have f1:O.frozen? ⟨rb,1,none⟩=false:=Ar R.out 1;go_wp2_with (fail);refine bodyPost_ret (results_none rfl _ _ _) rfl ?_;have X:=ag.out;rw[fN (fM a2.out a1.out (by omega)) hk] at X;refine⟨⟨_,rfl⟩,Or.inl ⟨z,⟨by rw[X];simp,?_⟩,HJ.out _ _ _ a5.out (Fp.setCell _ ⟨rb,1,none⟩ _) ⟨⟨r2.rest,false⟩,by show(O.setCell _ _).heap[rb]?=_;rw[Bd R.out];rfl⟩⟩⟩;rw[X];show(O.setCell _ _).heap[rb]?=_;rw[Bd R.out];rfl
    ·have z2:¬(nn:Int)>(last.size:Int):=by omega
     have z3:(nn:Int)<=(last.size:Int):=by omega
     obtain⟨t3,ab⟩:∃t,r2.take m=t:=⟨_,rfl⟩
     obtain⟨t,r3⟩:=t3
     obtain⟨t4,aa⟩:∃t,r3.num 1=t:=⟨_,rfl⟩
     obtain⟨d,r4⟩:=t4
     obtain⟨t5,Z⟩:∃t,r4.num 1=t:=⟨_,rfl⟩
     obtain⟨v,r5⟩:=t5
     obtain⟨t6,Y⟩:∃t,r5.take v=t:=⟨_,rfl⟩
     obtain⟨val,r6⟩:=t6;have b3:=Xa ab;have b4:=Nj aa;have b5:=Nj Z;have b6:=Xa Y
     have ap:(last.extract 0 nn).size=nn:=by simp only[a0w];omega
     have wd:IntKind.u8.wrap (d:Int)=(d:Int):=by rw[IntKind.wrap_u8];have:=b4.1;omega
     have ae:=a0z (Z5 (last:=last) a2.out a1.out (by omega) ab aa Z Y);have M3:=a0z (fK (b:=rb) ab (by have:=b2.1;omega) (by omega));have M4:=a0z (U5 (b:=rb) 1 aa rfl (by omega) (by omega));have M5:=a0z (U5 (b:=rb) 1 Z rfl (by omega) (by omega));have M6:=a0z (fK (b:=rb) Y (by have:=b5.1;omega) (by omega));clear ab aa Z Y
     obtain⟨pf,bg⟩:∃pf,last.extract 0 nn=pf:=⟨_,rfl⟩
     rw[bg] at ap ae
     obtain⟨key,ah⟩:∃key,pf++t=key:=⟨_,rfl⟩
     have cd:key.size=pf.size+t.size:=by rw[<-ah];simp
     rw[ah] at ae;go_wp2_with (fail);refine Ft (C6 O rb #[.string key,.int .u8 d,.string ByteArray.empty] r2 r3 r4) (fun a b=>∀B,EB O.heap.size a B->EB O.heap.size b B) (by kernel_rfl) (by kernel_rfl) ⟨⟨(Fp.drew _ :Fp [] O O.drew).mono (by simp),R.out.fp (Fp.drew _ :Fp [] O O.drew) (by simp)⟩,fun _ B T=>by obtain⟨h1,c,fz,h2⟩:=T;have:=Ac h2;simp at this;omega,fun e=>by cases e⟩ ?_
     iterate 5
      apply Be (fun _ _ h=>h) rfl rfl rfl
      ·intro b a w f l K p
       try have h4:=l.fr 4 rfl
       try have h5:=l.fr 5 rfl
       try have cu:=l.eq 0 22 rfl
       try have ct:=l.eq 1 23 rfl
       try have h2:=l.fr 2 rfl
       try have h6:=l.fr 6 rfl
       have q:w.cell? ⟨M,0,none⟩=some (.pointer (some ⟨rb,0,none⟩)):=Ab ((f.c.fp.block _ (Ac y.out) (by simpa using F)).trans y.out) 0;simp only[Oper.wp,execOp];go_simp;exact p _ f (fun _ h=>h)
     apply Fb (B6 (.string t)) rfl rfl rfl
     ·intro b a w f l K p;have cr:=l.eq 3 25 rfl;have cq:=l.eq 4 26 rfl;simp only[Oper.wp,execOp];go_simp;(with_reducible refine(M3.out _ (f.c.first l.self)).mono ?_);rintro e w2 ⟨rfl,D,o,Q⟩;exact p _ _ ⟨f.c.did1 (by decide) (l.post 8 (by kernel_rfl)) D o,f.e.fp o Q U⟩ (fun B T=>T.fp o U) rfl
     iterate 2
      apply Be (fun _ _ h=>h) rfl rfl rfl
      ·intro b a w f l K p
       try have cs:=l.eq 2 24 rfl
       try have cp:=l.eq 5 27 rfl
       try have h2:=l.fr 2 rfl
       have q:w.cell? ⟨M,0,none⟩=some (.pointer (some ⟨rb,0,none⟩)):=Ab ((f.c.fp.block _ (Ac y.out) (by simpa using F)).trans y.out) 0;simp only[Oper.wp,execOp];go_simp
       first
       |exact p _ f (fun _ h=>h)
       |rw[if_neg (by first|omega|(simp only[ByteArray.size_append];omega))]
        exact p _ f (fun _ h=>h)
     apply Fb (B6 (.int .i64 d)) rfl rfl rfl
     ·intro b a w f l K p;have cn:=l.eq 7 29 rfl;simp only[Oper.wp,execOp];go_simp;(with_reducible refine(M4.out _ (f.c.second (l.pre 5 (by kernel_rfl)) l.self)).mono ?_);rintro e w2 ⟨rfl,D,o,Q⟩;exact p _ _ ⟨f.c.did2 (by decide) (l.pre 5 (by kernel_rfl)) D o,f.e.fp o Q U⟩ (fun B T=>T.fp o U) rfl
     iterate 2
      apply Be (fun _ _ h=>h) rfl rfl rfl
      ·intro b a w f l K p
       try have cm:=l.eq 8 30 rfl
       try have co:=l.eq 6 28 rfl
       try have cl:=l.eq 9 31 rfl
       simp only[Oper.wp,execOp];go_simp;exact p _ f (fun _ h=>h)
     apply Fb (fun w v=>∃B,v=.pointer (some ⟨B,0,none⟩)/\EB O.heap.size w B) rfl rfl rfl
     ·intro b a w f l K p;have hm:=f.made l.self (l.post 12 (by kernel_rfl));simp only[Oper.wp,execOp];go_simp;exact p _ _ hm.1 hm.2.2 ⟨_,rfl,hm.2.1⟩
     apply Gs (fun _=>True) rfl rfl
     ·intro b a w f l K p;have h7:=l.dep 11 7 _ (by kernel_rfl) rfl;have ck:=l.eq 10 32 rfl;obtain⟨B,h7,T⟩:=h7;have hb:=f.block (l.pre 11 (by kernel_rfl)) T;rw[l.self] at hb;have e0:w.cell? ⟨B,0,none⟩=some (.string ByteArray.empty):=Ab hb 0;have e1:w.cell? ⟨B,1,none⟩=some (.int .u8 0):=Ab hb 1;have e2:w.cell? ⟨B,2,none⟩=some (.string ByteArray.empty):=Ab hb 2;have g0:=Ar hb 0;have g1:=Ar hb 1;have g2:=Ar hb 2;have I:=f.stored (l.pre 11 (by kernel_rfl)) T (w':=((w.setCell ⟨B,0,none⟩ (.string key)).setCell ⟨B,1,none⟩ (.int .u8 d)).setCell ⟨B,2,none⟩ (.string ByteArray.empty)) (((Fp.setCell w ⟨B,0,none⟩ _).setCell' (Or.inl (by simp)) _).setCell' (Or.inl (by simp)) _) (by simp[World.setCell]) (by rw[Bd (Bd (Bd hb _) _) _];rfl) U;simp only[Oper.wp,execOp];go_simp;exact p undef _ I.1 I.2 trivial
     refine⟨?_,?_⟩
     ·refine⟨fun _ _ _ _ _=>trivial,?_⟩;refine⟨fun w1 w2 v h ⟨B,e,T⟩=>⟨B,e,h B T⟩,?_⟩;refine Cc _ ?_;refine Cc _ ?_;refine⟨fun _ _ _ _ h=>h,?_⟩;refine Cc _ ?_;refine Cc _ ?_;refine⟨fun _ _ _ _ h=>h,?_⟩
      iterate 5 refine Cc _ ?_
      exact trivial
     ·intro wb bb f C;simp only[a1z,a1x,a1v,a1w]
      iterate 5 (refine Am ?_)
      refine Ap ?_;intro v5 u5;obtain rfl:=u5
      iterate 2 (refine Am ?_)
      refine Ap ?_;intro v8 u8;obtain rfl:=u8
      iterate 2 (refine Am ?_)
      refine Ap ?_;intro b9 u11;refine Ap ?_;intro b8 u12;refine A0 ?_;simp only[Aj,Act.put,a0x,a0v,a0u];obtain⟨B,rfl,T⟩:=u11;have u:=f.block (C 11 (by decide)) T;rw[C 12 (by decide)] at u;have ba:=a0z u;have bt:=a0z (f.c.last (C 5 (by decide)) (C 8 (by decide)));have ce:=T.1;have bz:=a0z f.c.fp
      have aj:rb≠B:=by omega
      have aw:M≠B:=by have:=Ac y.out;omega
      have N:=a0z ((f.c.fp.block _ (Ac y.out) (by simpa using F)).trans y.out);have q4:wb.cell? ⟨M,0,none⟩=some (.pointer (some ⟨rb,0,none⟩)):=Ab N.out 0;clear f C u12 T u;go_wp2_with (fail);refine Ft (C7 wb rb B key val d r4 r5 r6) (fun _ _=>True) (by kernel_rfl) (by kernel_rfl) ⟨⟨(Fp.drew _ :Fp [] wb wb.drew).mono (by simp),bt.out.fp (Fp.drew _ :Fp [] wb wb.drew) (by simp)⟩,ba.out⟩ ?_
      iterate 2
       apply Be (fun _ _ h=>h) rfl rfl rfl
       ·intro b a w f l K p
        try have h2:=l.fr 2 rfl
        have q:w.cell? ⟨M,0,none⟩=some (.pointer (some ⟨rb,0,none⟩)):=Ab ((f.c.fp.block _ (Ac N.out) (by simp[F,aw])).trans N.out) 0;simp only[Oper.wp,execOp];go_simp;exact p _ f trivial
      apply Fb (B6 (.int .i64 v)) rfl rfl rfl
      ·intro b a w f l K p;have ci:=l.eq 1 34 rfl;simp only[Oper.wp,execOp];go_simp;(with_reducible refine(M5.out _ (f.c.first l.self)).mono ?_);rintro e w2 ⟨rfl,D,o,Q⟩;exact p _ _ ⟨f.c.did1 (by decide) (l.post 3 (by kernel_rfl)) D o,(o.block _ (Ac f.e) (by simpa using Ne.symm aj)).trans f.e⟩ trivial rfl
      apply Fb (B6 (.string val)) rfl rfl rfl
      ·intro b a w f l K p;have cj:=l.eq 0 33 rfl;have ch:=l.eq 2 35 rfl;simp only[Oper.wp,execOp];go_simp;(with_reducible refine(M6.out _ (f.c.second (l.pre 2 (by kernel_rfl)) l.self)).mono ?_);rintro e w2 ⟨rfl,D,o,Q⟩;exact p _ _ ⟨f.c.did2 (by decide) (l.pre 2 (by kernel_rfl)) D o,(o.block _ (Ac f.e) (by simpa using Ne.symm aj)).trans f.e⟩ trivial rfl
      apply Be (fun _ _ h=>h) rfl rfl rfl
      ·intro b a w f l K p;have h7:=l.fr 7 rfl;simp only[Oper.wp,execOp];go_simp;exact p _ f trivial
      apply Gs (fun _=>True) rfl rfl
      ·intro b a w f l K p;have cf:=l.eq 4 37 rfl;have cg:=l.eq 3 36 rfl;have e2:w.cell? ⟨B,2,none⟩=some _ :=Ab f.e 2;have g2:=Ar f.e 2;simp only[Oper.wp,execOp];go_simp;exact p undef _ (f.stored aj) trivial trivial
      refine⟨?_,?_⟩
      ·refine⟨fun _ _ _ _ _=>trivial,?_⟩;refine Cc _ ?_;refine⟨fun _ _ _ _ h=>h,?_⟩;refine⟨fun _ _ _ _ h=>h,?_⟩;refine Cc _ ?_;refine Cc _ ?_;exact trivial
      ·intro wc bb f C;simp only[a1z,a1x,a1v,a1w]
       iterate 2 (refine Am ?_)
       refine Ap ?_;intro v2 u2;obtain rfl:=u2;refine Ap ?_;intro v3 u3;obtain rfl:=u3
       iterate 1 (refine Am ?_)
       refine Ap ?_;intro v5 u5;refine A0 ?_;simp only[Aj,Act.put,a0x,a0v,a0u];have u:=f.e;rw[C 5 (by decide)] at u;have bc:=a0z u;have ak:=f.c.last (C 2 (by decide)) (C 3 (by decide));have af:=a0z ak;have cS:=a0z f.c.fp;have S:Fp [rb] O wc:=bz.out.trans f.c.fp (by intro i hi;simp only[List.mem_cons,List.not_mem_nil,or_false] at hi ⊢;rcases hi with h|h;exact Or.inl h;exact Or.inr (by omega));have a4:=a0z (HJ.out _ _ _ a5.out S ⟨_,af.out⟩);have a6:=a0z (ai.out.trans (Aq.of S (by simp;omega)) (by simp));have b7:=a0z ((S.block _ (Ac y.out) (by simpa using F)).trans y.out);clear S;have q5:wc.cell? ⟨M,0,none⟩=some (.pointer (some ⟨rb,0,none⟩)):=Ab ((f.c.fp.block _ (Ac N.out) (by simp[F,aw])).trans N.out) 0;have q6:wc.cell? ⟨rb,1,none⟩=some (.bool r6.ok):=Ab ak 1;have e0:wc.cell? ⟨B,0,none⟩=some (.string key):=Ab u 0;have e1:wc.cell? ⟨B,1,none⟩=some (.int .u8 d):=Ab u 1;have e2:wc.cell? ⟨B,2,none⟩=some (.string val):=Ab u 2;clear f C u ak u5;cases hok:r6.ok
       ·rw[hok] at q6;go_wp2_with (fail);refine bodyPost_ret (results_none rfl _ _ _) rfl ?_;have X:=ag.out;have I:=ae.out;rw[hok] at I;rw[fN I hk] at X;refine⟨⟨_,rfl⟩,Or.inl ⟨z,⟨by rw[X];simp,?_⟩,a4.out⟩⟩;rw[X];exact af.out
       ·rw[hok] at q6;have I:=ae.out;rw[hok] at I;have HE:=a0z ag.out;rw[tE I hk] at HE;obtain⟨fn,tm,cF,bd,be,ar⟩:=HY.out z ⟨key,d,val⟩ wc ⟨_,congrArg Prod.fst HE.out⟩ a4.out;have bq:=a0z ar;clear ar I;unfold W9 at be
        go_upto_region 8 with(fail)
        refine(wpIn_wide (n:=n)).1 ?_
        gi_wp2_with (fail)
        (with_reducible refine bq.out.mono ?_);rintro e W1 (⟨rfl,hj1,hf1⟩|⟨rfl,hjx⟩)
        ·have bx:=a0z hj1;have a7:=a0z (a6.out.trans hf1 (by intro i hi;exact List.mem_cons_of_mem _ hi));have bv:=a0z ((hf1.low _ au (Ac af.out) (by intro h;rcases List.mem_cons.1 h with h|h;exact bf h;exact(am.out _ h).2.2.2 rfl)).trans af.out:D1 W1 rb r6);have aS:=(hf1.high _ _ _ (by have b0:=ai.out.size;omega) bc.out).trans bc.out;have cz:W1.cell? ⟨B,0,none⟩=some (.string key):=Ab aS 0;clear hj1 hf1 aS
         gi_wp2_with (fail)
         go_wp2_with (fail)
         go_roundg (gk-1)
         case measure=>omega
         case rel=>
          refine⟨k+1,key,z++[⟨key,d,val⟩],r6,by omega,rfl,rfl,bx.out,bv.out,by omega,a7.out,?_⟩;rw[HE.out,List.append_assoc];rfl
        ·have bw:=a0z hjx;clear hjx
         gi_wp2_with (fail)
         go_wp2_with (fail);refine bodyPost_ret (results_none rfl _ _ _) rfl ?_;exact⟨⟨_,rfl⟩,Or.inr ⟨_,bw.out⟩⟩
  ·have z1:¬(k:Int)<(many:Int):=by omega
   go_wp2_with (fail);go_end0;have X:=ag.out;rw[show many-k=0 by omega] at X;refine⟨⟨_,rfl⟩,Or.inl ⟨z,⟨by rw[X];simp[D7],?_⟩,a3.out⟩⟩;rw[X];exact HR.out
end
end Go.Proofs.YtkagolpnaicdoaaGreatDoor
