/-
 runs.Make: a list's cells, numbered, in parts, each part resolved (fewer than 20 items a part). 'out = append(out, f(part))' in a round, out a list of runs: the class of worlds on the way (for XRegionV). runs.Make, walked. merge: runs as they lie; sorted, of runs that are in order.
-/
import Derived.Test.YtkagolpnaicdoaaGreatDoorPTabD
set_option maxRecDepth 100000
set_option maxHeartbeats 8000000
open Go.Lib renaming hid->a0z
open List renaming length_append->a0x,getElem?_eq_getElem->a0u
open Nat renaming lt_of_lt_of_le->a0w,le_trans->a0v
namespace Go.Proofs.YtkagolpnaicdoaaGreatDoor
section
open Go.RowKit Go.Lib
theorem Ae.keptT{α:Type}{R:Ho α}{W W':World}{base:Nat}{S:List Nat}{v:Value}{l:List α}(h:Ae R W base v l)(d:Aq R.e base S W W'):Ae R W' base v l:=by
 refine h.kept fun k a=>?_
 rcases h.2 with⟨rfl,_⟩|⟨g,cap,j,rfl,i,f,_⟩
 ·cases a
 ·obtain rfl:g=k:=by simpa [Value.ownBlock] using a
  exact d.high _ _ _ i f
inductive Dx{α β:Type}(P:α->β->Prop):List α->List β->Prop
 |nil:Dx P [] []
 |cons {a b l m}:P a b->Dx P l m->Dx P (a::l) (b::m)
theorem Dx.length_eq{α β:Type}{P:α->β->Prop}{l:List α}{m:List β}(h:Dx P l m):l.length=m.length:=by
 induction h with
 |nil=>rfl
 |cons _ _ ih=>simp[ih]
def Y2(W:World)(base:Nat)(vals:List Value)(rs:List (List Ad)):Prop:=Dx (fun v r=>Ae Bz W base v r) vals rs
def Fz(W:World)(base:Nat)(v:Value)(rs:List (List Ad)):Prop:=∃vals,Bg 162 W base v vals/\Y2 W base vals rs
theorem Md{α β:Type}{P Q:α->β->Prop}(d:∀a b,P a b->Q a b){l:List α}{m:List β}(h:Dx P l m):Dx Q l m:=by
 induction h with
 |nil=>exact .nil
 |cons h _ ih=>exact .cons (d _ _ h) ih
theorem Uk{α β:Type}{P:α->β->Prop}{l:List α}{m:List β}(h:Dx P l m){a:α}{b:β}(d:P a b):Dx P (l++[a]) (m++[b]):=by
 induction h with
 |nil=>exact .cons d .nil
 |cons h _ ih=>exact .cons h ih
theorem Y2.keptT{W W':World}{base:Nat}{S:List Nat}{a:List Value}{rs:List (List Ad)}(h:Y2 W base a rs)(d:Aq 221 base S W W'):Y2 W' base a rs:=
 Md (fun _ _ f=>Ae.keptT f d) h
theorem Fz.fp{W W':World}{base:Nat}{S:List Nat}{v:Value}{rs:List (List Ad)}(h:Fz W base v rs)(d:Fp S W W')(f:∀k∈S,k<base):Fz W' base v rs:=by
 obtain⟨a,i,g⟩:=h;exact⟨a,i.fp d f,g.keptT (Aq.of d f)⟩
theorem Fz.nil(W:World)(base:Nat):Fz W base (.slice none 0 0) []:=⟨[],Bg.nil _ _ _,.nil⟩
theorem Fz.slice{W:World}{base:Nat}{v:Value}{rs:List (List Ad)}(h:Fz W base v rs):∃a n cap,v=.slice a n cap:=by
 obtain⟨d,f,_⟩:=h;obtain⟨⟨a,cap,e⟩,_⟩:=f.at;exact⟨_,_,_,e⟩
theorem Tryz.infoRun:(Tryz.prog.info? 162).map (fun i=>(i.zero,i.size,i.bytes))=some (some (.slice none 0 0),1,24):=by kernel_rfl
theorem wpList_append_run{w:World}{l:Array Oper}{rest:List Oper}{o:Oper}{a:Act}{Q:Exit→Act→World→Prop}(C:o.guard=none)(s x:Operand)
  (N:o.op=.call {callee:=.builtin .append,args:=#[s,x],argTypes:=#[159,159]})(base:Nat)(v:Value)(rs:List (List Ad))(M:a.eval s=v)(m:Fz w base v rs)
  (g:Nat)(t:Value)(r:List Ad)(L:t.oneCell'=true)(B:Ae Bz w base t r)(J:a.eval x=.slice (some ⟨g,0,none⟩) 1 1)(R:w.cell? ⟨g,0,none⟩=some t)(E:rs.length+1<=1000000000)(d:base<=w.heap.size)
  (h:∀p w',Fz w' base p (rs++[r])->Below base w w'->Aq 221 base [] w w'->wpList Tryz.prog l Q rest (a.put o.dst p) w'):wpList Tryz.prog l Q (o::rest) a w:=by
 obtain⟨f,A,D⟩:=m;have K:f.length=rs.length:=D.length_eq;obtain⟨I,P,z,y,q⟩:=info_parts Tryz.infoRun;refine wpList_append_own w C s x 159 N base 162 I _ 1 24 Tryz.underlying159 P z y q rfl (by decide) v f.length f M A ⟨g,0,none⟩ 1 1 [t] J rfl ?_ (by intro u i;simp at i;subst i;exact L) (by unfold maxLen;omega) (by omega) d ?_
 ·intro j u i
  have O:j=0:=by
   have:=(List.getElem?_eq_some_iff.1 i).1
   simpa using this
  subst O;simp at i;subst i
  have T:(⟨g,0,none⟩:Addr).add 0=⟨g,0,none⟩:=by unfold Addr.add;split<;>simp_all
  rw[T];exact R
 ·intro p w' S F _;have n:=Wp (show 221≠162 by decide) A F d;refine h p w' ⟨f++[t],?_,Uk (D.keptT n) (Ae.keptT B n)⟩ ((Below.refl base w).grown F d (fun k n=>(World.ownsRow.lt A k n).1)) n;unfold Bg;rw[a0x];exact S
end
section
open Go.RowKit Go.Lib
theorem pB{w:World}{o:Oper}{a:Act}{K:Act→World→Prop}{Q:Exit→Act→World→Prop}(s x:Operand)
  (M:o.op=.call {callee:=.builtin .append,args:=#[s,x],argTypes:=#[159,159]})(base:Nat)(v:Value)(rs:List (List Ad))(L:a.eval s=v)(l:Fz w base v rs)
  (g:Nat)(t:Value)(r:List Ad)(J:t.oneCell'=true)(A:Ae Bz w base t r)(F:a.eval x=.slice (some ⟨g,0,none⟩) 1 1)(R:w.cell? ⟨g,0,none⟩=some t)(C:rs.length+1<=1000000000)(d:base<=w.heap.size)
  (h:∀n w',Fz w' base n (rs++[r])->Below base w w'->Aq 221 base [] w w'->K (a.put o.dst n) w'):o.wp Tryz.prog a w K Q:=by
 obtain⟨f,z,B⟩:=l;have I:f.length=rs.length:=B.length_eq;obtain⟨E,O,y,q,p⟩:=info_parts Tryz.infoRun;refine wp_append_own (P:=Tryz.prog) w s x 159 M base 162 E _ 1 24 Tryz.underlying159 O y q p rfl (by decide) v f.length f L z ⟨g,0,none⟩ 1 1 [t] F rfl ?_ (by intro u i;simp at i;subst i;exact J) (by unfold maxLen;omega) (by omega) d ?_
 ·intro j u i
  have N:j=0:=by
   have:=(List.getElem?_eq_some_iff.1 i).1
   simpa using this
  subst N;simp at i;subst i
  have T:(⟨g,0,none⟩:Addr).add 0=⟨g,0,none⟩:=by unfold Addr.add;split<;>simp_all
  rw[T];exact R
 ·intro n w' S D _;have m:=Wp (show 221≠162 by decide) z D d;refine h n w' ⟨f++[t],?_,Uk (B.keptT m) (Ae.keptT A m)⟩ ((Below.refl base w).grown D d (fun k m=>(World.ownsRow.lt z k m).1)) m;unfold Bg;rw[a0x];exact S
structure Ge(G:List Ad->Prop)(w W0:World)(base cl:Nat)(v:Value)(rs:List (List Ad))(b:Nat->Bool)(vs:Nat->Value)(W:World):Prop where
 own0:b 4=false->Fz W base v rs
 own1:b 4=true->∃r,G r/\Fz W base (vs 4) (rs++[r])
 res:b 2=true->b 4=false->∃r,G r/\Ae Bz W base (vs 2) r
 bld:b 3=true->b 4=false->∃g,vs 3=.slice (some ⟨g,0,none⟩) 1 1/\W.cell? ⟨g,0,none⟩=some (vs 2)
 cel:W.heap[cl]?=some (.cells #[if b 5=true then vs 4 else v] 159 (0,0))
 kept:Aq 221 base [cl] W0 W
 fp:Fp [] w W
 o54:b 5=true->b 4=true
 o43:b 4=true->b 3=true
 o32:b 3=true->b 2=true
 sz:base<=W.heap.size
variable {G : List Ad -> Prop} {w W0 W W2 : World} {base cl : Nat} {v : Value} {rs : List (List Ad)} {b : Nat -> Bool} {vs : Nat -> Value}
theorem F2{a c:Bool}(h:a=true->c=true)(d:c=false):a=false:=by cases a<;>cases c<;>simp_all
theorem Ge.start{vs:Nat->Value}(d:Fz W0 base v rs)(g:W0.heap[cl]?=some (.cells #[v] 159 (0,0)))(f:Fp [] w W0)(i:base<=W0.heap.size)(a:cl<base):Ge G w W0 base cl v rs (fun _=>false) vs {W0 with drawn:=W0.drawn+1}:=
 ⟨fun _=>d.fp (Fp.drew W0) (by simp),(fun h=>by cases h),(fun h=>by cases h),(fun h=>by cases h),g,Aq.of ((Fp.drew W0).mono (by simp)) (by simpa using a),f.trans (Fp.drew W0) (by simp),(fun h=>by cases h),(fun h=>by cases h),(fun h=>by cases h),i⟩
theorem Ge.plain{k:Nat}{x:Value}(h:Ge G w W0 base cl v rs b vs W)(i:k≠2/\k≠3/\k≠4/\k≠5):Ge G w W0 base cl v rs (Ah b k) (C0 vs k x) W:=by
 obtain⟨f,d,a,g⟩:=i;refine⟨?_,?_,?_,?_,?_,h.kept,h.fp,?_,?_,?_,h.sz⟩
 ·rw[Ag a.symm];exact h.own0
 ·rw[Ag a.symm,Bi a.symm];exact h.own1
 ·rw[Ag a.symm,Ag f.symm,Bi f.symm];exact h.res
 ·rw[Ag a.symm,Ag d.symm,Bi d.symm,Bi f.symm];exact h.bld
 ·rw[Ag g.symm,Bi a.symm];exact h.cel
 ·rw[Ag g.symm,Ag a.symm];exact h.o54
 ·rw[Ag a.symm,Ag d.symm];exact h.o43
 ·rw[Ag d.symm,Ag f.symm];exact h.o32
theorem Ge.first(h:Ge G w W0 base cl v rs b vs W)(a:b 4=false):W.heap[cl]?=some (.cells #[v] 159 (0,0)):=by
 have:=h.cel;rw[F2 h.o54 a] at this;exact this
theorem Ge.call{r:List Ad}{f:Value}(h:Ge G w W0 base cl v rs b vs W)(l:b 2=false)(a:Fp [] W W2)(k:G r)(j:Ae Bz W2 W.heap.size f r):Ge G w W0 base cl v rs (Ah b 2) (C0 vs 2 f) W2:=by
 have i:=F2 h.o32 l;have d:=F2 h.o43 i;have g:=F2 h.o54 d;refine⟨fun _=>(h.own0 d).fp a (by simp),fun e=>?_,fun _ _=>⟨r,k,by rw[Hj];exact j.mono h.sz⟩,fun e=>?_,?_,?_,h.fp.trans a (by simp),fun e=>?_,fun e=>?_,fun e=>?_,a0v h.sz a.size⟩
 ·rw[Ag (by decide),d] at e;cases e
 ·rw[Ag (by decide),i] at e;cases e
 ·rw[Ag (by decide),g];exact(a.block _ (Ac h.cel) (by simp)).trans (h.first d)
 ·exact h.kept.trans (Aq.of (a.mono (by simp):Fp [] W W2) (by simp)) (by simp)
 ·rw[Ag (by decide),g] at e;cases e
 ·rw[Ag (by decide),d] at e;cases e
 ·exact Fj _ _
theorem Ge.build(h:Ge G w W0 base cl v rs b vs W)(g:b 2=true)(k:b 3=false):Ge G w W0 base cl v rs (Ah b 3) (C0 vs 3 (.slice (some ⟨W.heap.size,0,none⟩) 1 1)) (W.alloc (.cells #[vs 2] 162)):=by
 have a:=F2 h.o43 k;have f:=F2 h.o54 a;have d:=Fp.alloc W (.cells #[vs 2] 162);refine⟨fun _=>(h.own0 a).fp d (by simp),fun e=>?_,fun _ _=>?_,fun _ _=>⟨W.heap.size,Hj _ _ _,?_⟩,?_,?_,h.fp.trans d (by simp),fun e=>?_,fun e=>?_,fun e=>?_,a0v h.sz d.size⟩
 ·rw[Ag (by decide),a] at e;cases e
 ·obtain⟨r,j,i⟩:=h.res g a;exact⟨r,j,by rw[Bi (by decide)];exact i.fp d (by simp)⟩
 ·rw[Bi (by decide),Ab (Ai rfl _)];rfl
 ·rw[Ag (by decide),f];exact Bw (h.first a)
 ·exact h.kept.trans (Aq.of (d.mono (by simp):Fp [] W _) (by simp)) (by simp)
 ·rw[Ag (by decide),f] at e;cases e
 ·rw[Ag (by decide),a] at e;cases e
 ·rw[Ag (by decide)];exact g
theorem Ge.append{r:List Ad}{g:Value}(h:Ge G w W0 base cl v rs b vs W)(k:b 3=true)(j:b 4=false)(n:G r)(l:Fz W2 base g (rs++[r]))(f:Below base W W2)(m:Aq 221 base [] W W2)(d:cl<base)(a:w.heap.size≤base):
  Ge G w W0 base cl v rs (Ah b 4) (C0 vs 4 g) W2:=by
 have i:=F2 h.o54 j;refine⟨fun e=>?_,fun _=>⟨r,n,by rw[Hj];exact l⟩,fun _ e=>?_,fun _ e=>?_,?_,h.kept.trans m (by simp),h.fp.belowTrans (f.mono a),fun e=>?_,fun _=>?_,fun e=>?_,a0v h.sz f.size⟩
 ·rw[Fj] at e;cases e
 ·rw[Fj] at e;cases e
 ·rw[Fj] at e;cases e
 ·rw[Ag (by decide),i];exact(f.block _ d).trans (h.first j)
 ·rw[Ag (by decide),i] at e;cases e
 ·rw[Ag (by decide)];exact k
 ·rw[Ag (by decide)];exact h.o32 k
theorem Ge.store(h:Ge G w W0 base cl v rs b vs W)(a:b 4=true)(d:cl<base)(g:w.heap.size<=cl):Ge G w W0 base cl v rs (Ah b 5) (C0 vs 5 undef) (W.setCell ⟨cl,0,none⟩ (vs 4)):=by
 have f:Fp [cl] W (W.setCell ⟨cl,0,none⟩ (vs 4)):=Fp.setCell W ⟨cl,0,none⟩ (vs 4);refine⟨fun e=>?_,fun _=>?_,fun _ e=>?_,fun _ e=>?_,?_,h.kept.trans (Aq.of f (by simpa using d)) (by simp),h.fp.trans f (by intro i k;right;simp at k;omega),fun _=>?_,fun e=>?_,fun e=>?_,a0v h.sz f.size⟩
 ·rw[Ag (by decide),a] at e;cases e
 ·obtain⟨r,l,j⟩:=h.own1 a;exact⟨r,l,by rw[Bi (by decide)];exact j.fp f (by simpa using d)⟩
 ·rw[Ag (by decide),a] at e;cases e
 ·rw[Ag (by decide),a] at e;cases e
 ·rw[Fj,if_pos rfl,Bi (by decide)];exact(Bd h.cel _).trans rfl
 ·rw[Ag (by decide)];exact a
 ·rw[Ag (by decide)];exact h.o43 a
 ·rw[Ag (by decide)];rw[Ag (by decide)] at e;exact h.o32 e
theorem Ge.slice(h:Ge G w W0 base cl v rs b vs W)(f:b 4=true):∃a n c,vs 4=.slice a n c:=by
 obtain⟨r,_,d⟩:=h.own1 f;exact d.slice
end
section
open Go.RowKit Go.Lib
theorem Fz.mono{W:World}{base a:Nat}{v:Value}{rs:List (List Ad)}(h:Fz W base v rs)(f:a<=base):Fz W a v rs:=by
 obtain⟨d,i,g⟩:=h;exact⟨d,i.mono f,Md (fun _ _ h=>Ae.mono h f) g⟩
theorem dS(d len i:Nat):∀x∈Dv d len i,x.1+x.2≤len∧x.2≤d∧0<x.2:=by
 intro x a;rw[Dv] at a;split at a
 ·rename_i h
  rcases List.mem_cons.1 a with rfl|a
  ·simp only;omega
  ·exact dS d len (i+d) x a
 ·cases a
 termination_by len-i
def Ln(l:List Ad)(x:Nat × Nat):List Ad:=(l.drop x.1).take x.2
theorem Cf.keptT{α:Type}{R:Ho α}{T:TypeId}{base:Nat}{S:List Nat}{W W':World}{b o n:Nat}{l:List α}(h:Cf R W (some ⟨b,o,none⟩) n l)(d:Aq T base S W W')(m:b<base)(p:b∉S):Cf R W' (some ⟨b,o,none⟩) n l:=by
 refine⟨h.len,?_⟩
 rcases h.cells with q|⟨s,r,e,a,k⟩
 ·exact Or.inl q
 ·cases e;exact Or.inr ⟨b,o,rfl,a0w a d.size,fun i g j u f=>(World.cell?_of_block (w:=W) (d.low b m a p)).trans (k i g j u f)⟩
theorem Cf.fpS{α:Type}{R:Ho α}{S:List Nat}{W W':World}{b o n:Nat}{l:List α}(h:Cf R W (some ⟨b,o,none⟩) n l)(d:Fp S W W')(j:b∉S):Cf R W' (some ⟨b,o,none⟩) n l:=by
 refine⟨h.len,?_⟩
 rcases h.cells with k|⟨p,m,e,a,g⟩
 ·exact Or.inl k
 ·cases e;exact Or.inr ⟨b,o,rfl,a0w a d.size,fun i f=>(g i f).fp d a j⟩
theorem Y3(l:List Aa)(k i:Nat)(a:i<(Jp l k).length):(Jp l k)[i]=⟨l.getD i Az,i⟩:=by
 unfold Jp;simp
theorem Ul{l:List Aa}(h:∀c∈l,B3 c)(f:l.length<=1000000):Ce (Dj l):=by
 intro x a;obtain⟨i,d,e⟩:=List.mem_iff_getElem.1 a;have g:(Dj l).length=l.length:=Qq l _;rw[<-e,show(Dj l)[i]=⟨l.getD i Az,i⟩ from Y3 l l.length i d];refine⟨?_,by show i<_;omega⟩;show B3 (l.getD i Az);rw[List.getD_eq_getElem?_getD,a0u (by omega)];exact h _ (List.getElem_mem _)
theorem Aep(l:List Aa):(Dj l).map (·.pos)=List.range l.length:=by
 unfold Dj Jp;rw[List.map_map];exact List.map_id' _
theorem pC{l:List Ad}(h:Ce l)(x:Nat × Nat):Ce (Ln l x):=fun y a=>h y (List.mem_of_mem_drop (List.mem_of_mem_take a))
theorem Aeq{l:List Ad}(h:(l.map (·.pos)).Nodup)(x:Nat × Nat):((Ln l x).map (·.pos)).Nodup:=by
 unfold Ln;rw[List.map_take,List.map_drop];exact List.Sublist.nodup ((List.take_sublist _ _).trans (List.drop_sublist _ _)) h
structure Y4(w:World)(base b o n lim:Nat)(l:List Ad)(pre:List (Nat × Nat))(W:World):Prop where
 ex:∃v rs,W.heap[w.heap.size]?=some (.cells #[v] 159 (0,0))/\Fz W base v rs/\Dx (fun x r=>Bv (Ln l x) r) pre rs
 fp:Fp [] w W
 q:Cf Bz W (some ⟨b,o,none⟩) n l
 bl:w.heap.size<b/\b<lim
theorem Y4.on{w A B:World}{base b o n a:Nat}{l:List Ad}{d:List (Nat × Nat)}{S:List Nat}(h:Y4 w base b o n a l d A)(f:Fp S A B)(g:∀k∈S,a<=k/\k<base):Y4 w base b o n a l d B:=by
 obtain⟨v,rs,m,p,r⟩:=h.ex;have s:=h.bl;refine⟨⟨v,rs,(f.block _ (Ac m) fun i=>by have:=g _ i;omega).trans m,p.fp f fun k j=>(g k j).2,r⟩,h.fp.trans f fun k j=>Or.inr (by have:=g k j;omega),h.q.fpS f (fun i=>by have:=g _ i;omega),h.bl⟩
def pD(a:Option Addr)(b o n cap cap1 m c1 c2:Nat)(x:Nat × Nat):Act:={tmps:=#[.slice a n cap,.int .i64 m,undef,undef,.pointer (some ⟨c1,0,none⟩),.int .i64 0,Va b o x,.int .i64 m,.bool false,.slice a n cap,.slice (some ⟨b,o,none⟩) n cap1,.int .i64 m,.func (.func 215) #[] #[.pointer (some ⟨c2,0,none⟩),.pointer (some ⟨c2+1,0,none⟩)],Va b o x,undef,undef,undef,undef,undef,undef],defers:=[]}
attribute [local go_sem] Oper.semAt_some
theorem pE(w:World)(a:Option Addr)(n cap m:Nat)(l:List Aa)(hl:Bh w a n l)(hn:n≤1000000)(ab:0<m)(ba:m≤20)(h0:0<n):
  Calls Tryz.prog 85 #[.slice a n cap,.int .i64 m] w fun e w'=>∃v rs,e=.returned (.tuple #[v,.int .i64 0])/\Fz w' w.heap.size v rs/\Dx (fun x r=>Bv (Ln (Dj l) x) r) (Dv m n 0) rs/\Fp [] w w':=by
 have hm:m<2^63:=by omega
 have a6:=a0z (fun w v a len cap (u:v=.slice a len cap)=>tP w m ab v a len cap u);have a3:=a0z (fun w (hl:Bh w a n l)=>Aey w a n cap l hl hn);have a5:=a0z (Ul hl.ok (by have:=hl.len;omega))
 have a4:Hid (((Dj l).map (·.pos)).Nodup):=by rw[Aep];exact List.nodup_range
 have HL:=a0z hl;clear hl
 have z1:¬(m:Int)<1:=by omega
 rw[<-callsIn_wide (n:=5)];refine callsIn_of_wp_marks Tryz.func85 rfl trivial ?_ rfl;simp only[Tryz.ntmps85,List.size_toArray,List.length_cons,List.length_nil,Nat.reduceAdd,Nat.reduceSub,Array.replicate_succ,Array.replicate_zero,List.push_toArray,List.append_toArray,List.nil_append,List.cons_append]
 gi_wp2_with (fail)
 refine⟨trivial,?_⟩;(with_reducible refine((callsIn_wide (n:=4)).2 (a3.out _ (HL.out.fp (Fp.alloc _ _)))).mono ?_);rintro e C ⟨v1,rfl,U,t⟩;obtain⟨a1,R,rfl,_,V,L⟩:=U.at;have z:(Dj l).length=n:=(Qq l _).trans HL.out.len.symm
 obtain⟨b,o,rfl,aw,ax⟩:∃b o,a1=some ⟨b,o,none⟩/\b<C.heap.size/\w.heap.size<b:=by
  rcases L.cells with h|⟨b,o,h1,h2,_⟩
  ·rw[h] at z;simp at z;omega
  ·exact⟨b,o,h1,h2,by have:=U.lt b (by rw[h1];rfl);simp at this;omega⟩
 rw[z] at V L ⊢;have ag:=a0z ((t.block _ (by simp) (by simp)).trans (Ai rfl _):C.heap[w.heap.size]?=some (.cells #[.slice none 0 0] 159 (0,0)));have aS:=a0z L;have a7:Hid (Fp [] w C):=(Fp.alloc _ _).trans t (by simp);have bk:=a0z z;have a0:=a0z V;clear L t z V U
 gi_wp2_with (fail)
 refine⟨trivial,?_⟩;(with_reducible refine((callsIn_wide (n:=4)).2 (a6.out _ _ _ _ _ rfl)).mono ?_);rintro e w2 ⟨rfl,ad,ae,ac⟩;have a8:=a0z ad;have ah:=a0z ae;have Y:=a0z ac;clear ad ae ac
 gi_wp2_with (fail)
 have ai:w.heap.size<C.heap.size:=Ac ag.out;have bc:C.heap.size+1<w2.heap.size:=Ac ah.out
 refine Sm (α:=Nat × Nat) (encs:=Xg b o) rfl (enters_of Tryz.func215 (by kernel_rfl) rfl) (fun _=>rfl) 221 [w.heap.size] [] (by simp;omega) (by simp) (C.heap.size) (by omega) 0
  (fun I x=>∃N,Dv m n 0=I++x::N) (Y4 w (w2.heap.size+2) b o n C.heap.size (Dj l)) (fun _ _=>False) (fun xs _=>xs=Dv m n 0)
  (fun _=>True) (fun s A B k h hf hk=>h.on hf (by simp;omega)) (fun s A B h hf _=>h.on hf (by simp;omega)) (fun _ _ _ h _=>h) (fun _ _ _ h _=>h) ?_ ?_ (fun x a' _=>a'=pD a b o n cap R m w.heap.size C.heap.size x) (fun _ _ _ _ h _=>h) ?_ ?_ ?_ (fun _ _ h=>h.elim)
 ·intro J Jx W1 t a9 hJ hY ay;exact tO (w2.heap.size+2) (w2.heap.size+1) (5-1) C.heap.size (C.heap.size+1) m ab hm W1 b o n R (by decide) ((t.block _ (by omega) (by simp)).trans a8.out) ((t.block _ (by omega) (by simp)).trans ah.out) a0.out (by omega) (by omega) (by omega) (by omega) (by omega) [w.heap.size] (by intro k hk;simp only[List.mem_cons,List.not_mem_nil,or_false] at hk;omega) J Jx (fun s A B h hf=>hJ s A B h (hf.mono (by simp)) trivial) hY ay
 ·exact⟨⟨.slice none 0 0,[],(Y.out.block _ ai (by simp)).trans ag.out,Fz.nil _ _,.nil⟩,a7.out.trans Y.out (by simp),aS.out.fp Y.out,ax,aw⟩
 ·intro l x W K hW j;simp only[Xg]
  gi_wp2_with (fail)
  exact j _ _ (Fp.refl _ _) rfl
 ·rintro l' I ⟨S,xm⟩ a' W ⟨N,p⟩ Q hW rfl;have hx:=dS m n 0 (S,xm) (by rw[p];simp);obtain⟨al,ak,aj⟩:=hx;simp only at al ak aj;obtain⟨v,rs,u,Z,ha⟩:=Q.ex;have bd:rs.length=I.length:=ha.length_eq.symm
  have be:I.length+1<=1000000000:=by
   have h1:=Xf m n 0;rw[p,a0x,List.length_cons] at h1;omega
  have T:Cf Bz W (some ⟨b,o+S*7,none⟩) xm (Ln (Dj l) (S,xm)):=(Q.q.drop S (n-S) (by omega)).take xm (by omega);have bf:(Ln (Dj l) (S,xm)).length=xm:=T.len.symm;have aF:=a0z (fun aa (h:Aq 221 (w2.heap.size+2) [w.heap.size] W aa)=>sR aa _ _ xm _ (T.keptT h (by omega) (by simp;omega)) (by simp) (pC a5.out _) (Aeq a4.out _) (by omega) (by omega));have HI:=a0z Q;have HV:=a0z u;have HO:=a0z Z;have HA:=a0z ha;have hW:w2.heap.size+2<=W.heap.size:=hW;clear Q u Z ha T p;unfold pD Va;simp only
  gi_wp2_with (fail)
  refine Wl (Ge (fun r=>Bv (Ln (Dj l) (S,xm)) r) w W (w2.heap.size+2) w.heap.size v rs) (fun _ _=>True) (by kernel_rfl) (by kernel_rfl) (by kernel_rfl) (fun _=>Ge.start HO.out HV.out HI.out.fp hW (by omega)) ?_;apply Dn (fun _ _ _ h _=>h.plain (by decide)) rfl rfl rfl
  ·intro b a w f d K j;have h4:=d.fr 4 rfl;have q0:=Ab (f.first (d.post 4 (by kernel_rfl))) 0;simp only[List.getElem?_toArray,List.getElem?_cons_zero] at q0;simp only[Oper.wp,execOp];go_simp;exact j _ f trivial
  apply Dn (fun _ _ _ h _=>h.plain (by decide)) rfl rfl rfl
  ·intro b a w f d K j;have h6:=d.fr 6 rfl;simp only[Oper.wp,execOp];go_simp;exact j _ f trivial
  apply Ee (fun _ _=>True) rfl rfl rfl
  ·intro b a w f d K j;have bj:=d.eq 1 15 rfl;simp only[Oper.wp,execOp];go_simp;(with_reducible refine(aF.out _ f.kept).mono ?_);rintro e w3 ⟨vr,r,rfl,O,ap,av⟩;exact j _ _ (f.call d.self av O ap) trivial trivial
  apply Ee (fun _ _=>True) rfl rfl rfl
  ·intro b a w f d K j;have bi:=d.dep 2 16 _ (by kernel_rfl) rfl;obtain⟨r,hg,O⟩:=f.res (d.pre 2 (by kernel_rfl)) (d.post 4 (by kernel_rfl));obtain⟨a2,c2,X,-,-⟩:=O.len;have u:=d.val 2 16 (by kernel_rfl);rw[X] at u;have y:=f.build (d.pre 2 (by kernel_rfl)) d.self;rw[X] at y;simp only[Oper.wp,execOp];go_simp;exact j _ _ y trivial trivial
  apply Ee (fun _ _=>True) rfl rfl rfl
  ·intro b a w f d K j;have az:=d.eq 0 14 rfl;have bh:=d.dep 3 17 _ (by kernel_rfl) rfl;obtain⟨g,au,ar⟩:=f.bld (d.pre 3 (by kernel_rfl)) d.self;obtain⟨r,hg,O⟩:=f.res (f.o32 (d.pre 3 (by kernel_rfl))) d.self;obtain⟨a2,c2,X,-,-⟩:=O.len;refine pB (.tmp 14) (.tmp 17) rfl _ v rs (E0 az) (f.own0 d.self) g _ r (by rw[X];rfl) O (E0 ((d.val 3 17 (by kernel_rfl)).trans au)) ar (by omega) f.sz ?_;intro v' w' h1 h2 h3;exact j _ _ (f.append (d.pre 3 (by kernel_rfl)) d.self hg h1 h2 h3 (by omega) (by omega)) trivial trivial
  apply Kv (fun _=>True) rfl rfl rfl
  ·intro b a w f d K j;have h4:=d.fr 4 rfl;have bg:=d.dep 4 18 _ (by kernel_rfl) rfl;obtain⟨a2,n2,c2,X⟩:=f.slice (d.pre 4 (by kernel_rfl));have u:=(d.val 4 18 (by kernel_rfl)).trans X;have y:=f.store (d.pre 4 (by kernel_rfl)) (by omega) (Nat.le_refl _);rw[X] at y;have f0:=Ar f.cel 0;have q0:=Ab f.cel 0;simp only[Oper.wp,execOp];go_simp;exact j undef _ y trivial trivial
  refine⟨?_,?_⟩
  ·refine⟨fun _ _ _ _ _=>trivial,?_⟩;refine⟨fun _ _ _ _ _=>trivial,?_⟩;refine⟨fun _ _ _ _ _=>trivial,?_⟩;refine⟨fun _ _ _ _ _=>trivial,?_⟩;refine Gl _ ?_;refine Gl _ ?_;exact trivial
  ·intro w' bb af;simp only[List.reverse_cons,List.reverse_nil,List.nil_append,List.cons_append]
   iterate 2 (refine Am ?_)
   refine Ap ?_;intro v2 u2;refine Ap ?_;intro v3 u3;refine Ap ?_;intro v4 u4;refine Ap ?_;intro v5 u5;refine A0 ?_;intro f;simp only[Aj,Act.put,List.setIfInBounds_toArray,List.set_cons_succ,List.set_cons_zero]
   gi_wp2_with (fail)
   have P:=f.cel;rw[af 5 (by simp)] at P;obtain⟨r,O,ao⟩:=f.own1 (af 4 (by simp));exact⟨f.kept,⟨⟨_,_,P,ao,Uk HA.out O⟩,f.fp,HI.out.q.keptT f.kept (by omega) (by simp;omega),HI.out.bl⟩⟩
 ·rintro xs W rfl Q j;obtain⟨v,rs,u,Z,ha⟩:=Q.ex;obtain⟨F,D,E,rfl⟩:=Z.slice;have HI:=a0z Q;have HK:=a0z j;have HA:=a0z ha;have q0:W.cell? ⟨w.heap.size,0,none⟩=some (.slice F D E):=Ab u 0;have f0:W.frozen? ⟨w.heap.size,0,none⟩=false:=Ar u 0;have HV:=a0z u;have HO:=a0z Z;clear Q j u Z ha
  gi_wp2_with (fail)
  have M:Fp [w.heap.size] W (W.setCell ⟨w.heap.size,0,none⟩ (.slice F D E)):=Fp.setCell W ⟨w.heap.size,0,none⟩ (.slice F D E);have h4:(W.setCell ⟨w.heap.size,0,none⟩ (.slice F D E)).heap[w.heap.size]?=some (.cells #[.slice F D E] 159 (0,0)):=(Bd HV.out _).trans rfl
  obtain⟨wa,am⟩:∃wa,W.setCell ⟨w.heap.size,0,none⟩ (.slice F D E)=wa:=⟨_,rfl⟩
  rw[am] at M h4 ⊢;have aq:wa.heap[w2.heap.size]?=some (.deferred (some [])):=(M.block _ (Ac HK.out) (by simp;omega)).trans HK.out;have hp:=Fp.putObj wa w2.heap.size (.deferred none);refine⟨by simp,.inl ⟨_,_,rfl,run_takeDeferred aq,?_⟩⟩;have c0:(wa.putObj w2.heap.size (.deferred none)).cell? ⟨w.heap.size,0,none⟩=some (.slice F D E):=Ab ((hp.block _ (Ac h4) (by simp;omega)).trans h4) 0;have an:=(HO.out.fp M (by simp;omega)).fp hp (by simp);refine⟨.tuple #[.slice F D E,.int .i64 0],by simp[results,Tryz.results85,go_sem,c0],.slice F D E,rs,rfl,?_,HA.out,((HI.out.fp.trans M (by intro i hi;right;simp at hi;omega)).trans hp (by intro i hi;right;simp at hi;omega))⟩;exact an.mono (by omega)
end
section
open Go.RowKit Go.Lib
def Rz(W:World)(v:Value)(r:List Ad):Prop:=∃a n cap,v=.slice a n cap/\n<=cap/\(a=none->cap=0)/\Cf Bz W a n r
theorem Rz.fp{W W':World}{v:Value}{r:List Ad}(h:Rz W v r)(d:Fp [] W W'):Rz W' v r:=by
 obtain⟨a,n,cap,j,i,g,f⟩:=h;exact⟨a,n,cap,j,i,g,f.fp d⟩
theorem Ae.runV{W:World}{base:Nat}{v:Value}{r:List Ad}(h:Ae Bz W base v r):Rz W v r:=by
 obtain⟨a,cap,i,g,f,d⟩:=h.at;exact⟨a,_,cap,i,f,g,d⟩
structure Ht(W:World)(a:Option Addr)(n:Nat)(rs:List (List Ad)):Prop where
 len:n=rs.length
 cells:rs=[]∨∃b o,a=some ⟨b,o,none⟩/\b<W.heap.size/\∀i (h:i<rs.length),∃v,W.cell? ⟨b,o+i,none⟩=some v/\Rz W v rs[i]
theorem Ht.fp{W W':World}{a:Option Addr}{n:Nat}{rs:List (List Ad)}(h:Ht W a n rs)(d:Fp [] W W'):Ht W' a n rs:=by
 refine⟨h.len,?_⟩
 rcases h.cells with m|⟨b,o,e,f,j⟩
 ·exact Or.inl m
 ·refine Or.inr ⟨b,o,e,a0w f d.size,fun i g=>?_⟩;obtain⟨v,l,k⟩:=j i g;exact⟨v,(d.cell (p:=⟨b,o+i,none⟩) f (by simp)).trans l,k.fp d⟩
theorem Ht.get{W:World}{a:Option Addr}{n i:Nat}{rs:List (List Ad)}(h:Ht W a n rs)(d:i<rs.length):∃b o v,a=some ⟨b,o,none⟩/\(∀W',Fp [] W W'->W'.cell? ⟨b,o+i,none⟩=some v/\Rz W' v rs[i]):=by
 rcases h.cells with m|⟨b,o,e,j,g⟩
 ·rw[m] at d;exact absurd d (Nat.not_lt_zero _)
 ·obtain⟨v,l,k⟩:=g i d;exact⟨b,o,v,e,fun W' f=>⟨(f.cell (p:=⟨b,o+i,none⟩) j (by simp)).trans l,k.fp f⟩⟩
theorem Ht.take{W:World}{a:Option Addr}{n:Nat}{rs:List (List Ad)}(h:Ht W a n rs)(m:Nat)(k:m<=n):Ht W a m (rs.take m):=by
 have l:=h.len;refine⟨by rw[List.length_take];omega,?_⟩
 rcases h.cells with j|⟨b,o,e,g,f⟩
 ·left;rw[j];simp
 ·refine Or.inr ⟨b,o,e,g,fun i d=>?_⟩;rw[List.getElem_take];exact f i (by rw[List.length_take] at d;omega)
theorem Ht.drop{W:World}{b o n:Nat}{rs:List (List Ad)}(h:Ht W (some ⟨b,o,none⟩) n rs)(m r:Nat)(p:m+r=n):Ht W (some ⟨b,o+m,none⟩) r (rs.drop m):=by
 have q:=h.len;refine⟨by rw[List.length_drop];omega,?_⟩
 rcases h.cells with k|⟨s,l,e,f,d⟩
 ·left;rw[k];simp
 ·cases e;refine Or.inr ⟨b,o+m,rfl,f,fun i a=>?_⟩;rw[List.length_drop] at a;obtain⟨v,j,g⟩:=d (m+i) (by omega);refine⟨v,by rw[Nat.add_assoc];exact j,?_⟩;rw[List.getElem_drop];exact g
theorem Dx.at{α β:Type}{P:α→β→Prop}{l:List α}{m:List β}(h:Dx P l m):∀i (a:i<l.length) (d:i<m.length),P l[i] m[i]:=by
 induction h with
 |nil=>intro i a;exact absurd a (Nat.not_lt_zero _)
 |cons hp _ ih=>
  intro i a d
  cases i with
  |zero=>exact hp
  |succ i=>exact ih i (by simpa using a) (by simpa using d)
theorem Bg.cell{e:TypeId}{W:World}{base:Nat}{v:Value}{a:List Value}(h:Bg e W base v a){i:Nat}(q:i<a.length):∃g cap,v=.slice (some ⟨g,0,none⟩) a.length cap∧a.length≤cap∧g<W.heap.size∧base≤g∧∀j (d:j<a.length),W.cell? ⟨g,j,none⟩=some a[j]:=by
 rcases h.2 with⟨_,r⟩|⟨g,cap,f,m,o,k,p,_,_,n⟩
 ·omega
 ·refine⟨g,cap,m,p,Ac k,o,fun j d=>?_⟩
  have l:(f.toList.take (a.length*1))[j]?=a[j]?:=by rw[n]
  rw[Nat.mul_one,List.getElem?_take,if_pos d,Array.getElem?_toList,a0u d] at l;rw[Ab k];exact l
theorem Fz.at{W:World}{base:Nat}{v:Value}{rs:List (List Ad)}(h:Fz W base v rs):∃a cap,v=.slice a rs.length cap∧rs.length≤cap∧(a=none→cap=0)∧Ht W a rs.length rs:=by
 obtain⟨d,k,o⟩:=h;have n:d.length=rs.length:=o.length_eq
 by_cases s:0<d.length
 ·obtain⟨g,cap,rfl,u,q,_,f⟩:=k.cell s;refine⟨some ⟨g,0,none⟩,cap,by rw[n],by omega,(fun e=>by cases e),rfl,Or.inr ⟨g,0,rfl,q,fun i p=>⟨d[i]'(by omega),?_,(o.at i (by omega) p).runV⟩⟩⟩;rw[Nat.zero_add];exact f i (by omega)
 ·obtain⟨⟨a,cap,e⟩,_⟩:=k.at;have m:rs=[]:=List.eq_nil_of_length_eq_zero (by omega)
  rcases k.2 with⟨l,_⟩|⟨g,j,t,l,_,_,r,_⟩
  ·subst m;exact⟨none,0,l,Nat.le_refl _,fun _=>rfl,rfl,Or.inl rfl⟩
  ·subst m;exact⟨some ⟨g,0,none⟩,j,by rw[l,n],Nat.zero_le _,(fun e=>by cases e),rfl,Or.inl rfl⟩
theorem Aer(W:World)(v:Value)(r:List Ad)(h:Rz W v r)(d:D3 r∧Ce r∧r.length≤1000000):
  Calls Tryz.prog 267 #[v] W fun e W'=>e=.returned (.bool false)/\Fp [] W W':=by
 obtain⟨a,n,cap,rfl,j,i,f⟩:=h;have l:=a0z (Aeo W a n cap r f d.1 d.2.1 (by rw[f.len];exact d.2.2));clear j i f d;go_enter Tryz.func267,Tryz.ntmps267;go_wp2_with (fail);(with_reducible refine l.out.mono ?_);rintro e m ⟨rfl,g⟩;have k:=a0z g;clear g;go_wp2_with (fail);go_ret;exact⟨rfl,k.out⟩
theorem Aes(W:World)(a:Option Addr)(n cap:Nat)(rs:List (List Ad))(h:Ht W a n rs)(m:∀r∈rs,D3 r∧Ce r∧r.length≤1000000)(C:n≤1000000):
  Calls Tryz.prog 291 #[.slice a n cap,.func (.func 267) #[] #[]] W fun e W'=>e=.returned (.int .i64 (-1))/\Fp [] W W':=by
 have x:=a0z h;have y:=a0z m;have g:=a0z h.len;clear h m;go_enter Tryz.func291,Tryz.ntmps291;go_wp2_with (fail)
 go_loopg [8] n (fun u t wr=>∃k:Nat,t=.int .i64 k/\u+k=n/\Fp [] W wr)
 case atStart=>exact⟨0,rfl,by omega,Fp.refl _ _⟩
 case round=>
  obtain⟨k,rfl,E,f⟩:=hrel;have j:=a0z f;clear f
  by_cases D:k<n
  ·have s:(k:Int)<(n:Int):=by omega
   have B:IntKind.i64.wrap ((k:Int)+1)=((k+1:Nat):Int):=by rw[IntKind.wrap_i64];omega
   have d:k<rs.length:=by have:=g.out;omega
   obtain⟨b,o,v,e,p⟩:=x.out.get d;subst e;obtain⟨q,l⟩:=p wr j.out;have z:=a0z (Aer wr v _ l (y.out _ (List.getElem_mem d)));clear p l;go_wp2_with (fail);(with_reducible refine z.out.mono ?_);rintro e A ⟨rfl,f⟩;have i:=a0z (j.out.trans f (by simp));clear f;go_wp2_with (fail)
   go_roundg (gk-1)
   case measure=>omega
   case rel=>exact⟨k+1,by simp,by omega,i.out⟩
  ·have s:¬(k:Int)<(n:Int):=by omega
   go_wp2_with (fail);go_ret;exact⟨rfl,j.out⟩
theorem pF(W:World)(a:Option Addr)(n cap:Nat)(rs:List (List Ad))(h:Ht W a n rs)(g:∀r∈rs,D3 r∧Ce r∧r.length≤1000000)(j:n≤1000000):
  Calls Tryz.prog 220 #[.slice a n cap] W fun e W'=>e=.returned (.bool true)/\Fp [] W W':=by
 have k:=a0z (Aes W a n cap rs h g j)
 have l:Hid (Calls Tryz.prog 266 #[.slice a n cap,.func (.func 267) #[] #[]] W fun e W'=>e=.returned (.bool false)/\Fp [] W W'):=by
  go_enter Tryz.func266,Tryz.ntmps266;go_wp2_with (fail);(with_reducible refine k.out.mono ?_);rintro e i ⟨rfl,d⟩;have f:=a0z d;clear d;go_wp2_with (fail);go_ret;exact⟨rfl,f.out⟩
 clear h g;go_enter Tryz.func220,Tryz.ntmps220;go_wp2_with (fail);(with_reducible refine l.out.mono ?_);rintro e i ⟨rfl,d⟩;have f:=a0z d;clear d;go_wp2_with (fail);go_ret;exact⟨rfl,f.out⟩
end
end Go.Proofs.YtkagolpnaicdoaaGreatDoor
