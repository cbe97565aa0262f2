/-
 slices.Chunk of items: a list's parts of so many, as the iterator hands them out; the numbers of the parts. runs.Make: a list's cells, numbered, in parts, each part resolved (fewer than 20 items a part). 'out = append(out, f(part))' in a round, out a list of runs: the class of worlds on the way (for XRegionV). runs.Make, walked. merge: runs as they lie; sorted, of runs that are in order.
-/
import Derived.Test.YtkagolpnaicdoaaGreatDoorPMrgC
import Derived.Test.YtkagolpnaicdoaaGreatDoorPBlkC
import Derived.Test.YtkagolpnaicdoaaGreatDoorPTabD
import Derived.Test.YtkagolpnaicdoaaGreatDoorPWalE
import Derived.Test.YtkagolpnaicdoaaGreatDoorPTabG
set_option maxRecDepth 100000
set_option maxHeartbeats 8000000
open Go.Lib renaming hid→a0z
open Nat renaming lt_of_lt_of_le→a0x,le_trans→a1x
open List renaming setIfInBounds_toArray→a0w,length_cons→a0v,cons_append→a1z,getElem?_eq_getElem→a1w,getElem?_cons_zero→a1v,nil_append→a1u,getElem?_toArray→a2z
open Go.IntKind renaming wrap_i64→a0u
namespace Go.Proofs.YtkagolpnaicdoaaGreatDoor
section
open Go.RowKit Go.Lib
def C9(sz len i:Nat):List (Nat × Nat):=if i<len∧0<sz then(i,min sz (len-i))::C9 sz len (i+sz) else[]
 termination_by len-i
theorem N8{sz len i:Nat}(h:i<len)(hs:0<sz):C9 sz len i=(i,min sz (len-i))::C9 sz len (i+sz):=by
 rw[C9];exact if_pos ⟨h,hs⟩
theorem Vo{sz len i:Nat}(h:¬i<len):C9 sz len i=[]:=by
 rw[C9];exact if_neg (fun c=>h c.1)
theorem Vp(sz len i:Nat):(C9 sz len i).length≤len-i:=by
 rw[C9];split
 ·rename_i h;have:=Vp sz len (i+sz);rw[a0v];omega
 ·simp
 termination_by len-i
def S8(b o:Nat)(x:Nat × Nat):Value:=.slice (some ⟨b,o+x.1*7,none⟩) x.2 x.2
def Vq(b o:Nat)(x:Nat × Nat):Array Value:=#[S8 b o x]
theorem wP(base L n bs bn sz:Nat)(hsz0:0<sz)(hszm:sz<2^63)(w:World)(b o len cap:Nat)(hn:1≤n)(hbs:w.heap[bs]?=some (.cells #[.slice (some ⟨b,o,none⟩) len cap] 162 (0,0)))(hbn:w.heap[bn]?=some (.cells #[.int .i64 sz] 3 (0,0)))
  (hlc:len≤cap)(hcm:len≤1000000000)(hbsl:bs<base)(hbnl:bn<base)(hsL:bs≠L)(hnL:bn≠L)
  (S0:List Nat)(hS0:∀k∈S0,k<base∧k≠bs∧k≠bn)(J Jx:List (Nat × Nat)→World→Prop)
  (hJ:∀s A B,J s A→Fp [] A B→J s B)
  (hy:∀pre x W,(∃post,C9 sz len 0=pre++x::post)→J pre W→YieldAt Fence.wide (n-1) Tryz.prog L (Vq b o x) W fun e W'=>(e=.returned (.bool true)∧J (pre++[x]) W'∧Av 221 base (L::S0) W W')∨(e=.returned (.bool false)∧Jx (pre++[x]) W'))
  (h0:J [] w):
  CallsIn Fence.wide n Tryz.prog 215 #[.func (.yield L) #[] #[],.pointer (some ⟨bs,0,none⟩),.pointer (some ⟨bn,0,none⟩)] w fun e w'=>(∃v,e=.returned v)∧((∃xs,xs=C9 sz len 0∧J xs w')∨∃pre,Jx pre w'):=by
 rw[callsIn_wide];have HY:=a0z hy;have HJ:=a0z hJ;have HS0:=a0z hS0;have HBS:=a0z hbs;have HBN:=a0z hbn;clear hy hJ hS0 hbs hbn;go_enter Tryz.func215,Tryz.ntmps215;go_wp2_with (fail)
 go_loopg [4] len (fun g vi wr=>∃(i:Nat) (pre:List (Nat × Nat)),g=len-i∧(i=0∨sz≤i)∧vi=.int .i64 i∧C9 sz len 0=pre++C9 sz len i∧J pre wr∧Av 221 base (L::S0) w wr)
 case atStart=>exact⟨0,[],rfl,.inl rfl,rfl,rfl,h0,Av.of (Fp.refl [] _) (by simp) |>.mono (by simp)⟩
 case round=>
  obtain⟨i,pre,hg,hi0,rfl,hpre,hj,hf⟩:=hrel;have HFW:=a0z hf;have HJK:=a0z hj;clear hf hj;have hbs1:wr.heap[bs]?=some (.cells #[.slice (some ⟨b,o,none⟩) len cap] 162 (0,0)):=(HFW.out.low _ hbsl (Ab HBS.out) (by intro h;rcases List.mem_cons.1 h with h|h;exact hsL h;exact(HS0.out _ h).2.1 rfl)).trans HBS.out;have hbn1:wr.heap[bn]?=some (.cells #[.int .i64 sz] 3 (0,0)):=(HFW.out.low _ hbnl (Ab HBN.out) (by intro h;rcases List.mem_cons.1 h with h|h;exact hnL h;exact(HS0.out _ h).2.2 rfl)).trans HBN.out;have q0:wr.cell? ⟨bs,0,none⟩=some (.slice (some ⟨b,o,none⟩) len cap):=Aa hbs1 0;have HBS1:=a0z hbs1;have HBN1:=a0z hbn1;clear hbs1 hbn1
  by_cases hlt:i<len
  ·have z0:(i:Int)<(len:Int):=by omega
   have z1:(i:Int)≤(len:Int):=by omega
   have z2:(len:Int)≤(cap:Int):=by omega
   have hci:¬cap=i:=by omega
   rw[N8 hlt hsz0] at hpre
   obtain⟨m,hm⟩:∃m,min sz (len-i)=m:=⟨_,rfl⟩
   have hmin:min (sz:Int) ((len-i:Nat):Int)=(m:Int):=by omega
   have hm0:0<m:=by omega
   rw[hm] at hpre;have HSP:=a0z hpre
   obtain⟨d,hd⟩:∃d,len-i=d:=⟨_,rfl⟩
   rw[hd] at hmin
   obtain⟨e2,he2⟩:∃e2,i+m=e2:=⟨_,rfl⟩
   have n1:IntKind.i64.wrap ((i:Int)+(m:Int))=(e2:Int):=by rw[a0u];omega
   have z3:(e2:Int)≤(cap:Int):=by omega
   have z4:(i:Int)≤(e2:Int):=by omega
   have hde:e2-i=m:=by omega
   have hei:¬e2=i:=by omega
   have n2:IntKind.i64.wrap ((i:Int)+(sz:Int))=((i+sz:Nat):Int):=by rw[a0u];omega
   obtain⟨j,hj2⟩:∃j,i+sz=j:=⟨_,rfl⟩
   rw[hj2] at n2;have HG:=a0z hg;have HE2:=a0z he2;have HJJ:=a0z hj2;clear hg hi0 hpre hm he2 hj2;go_wp2_with (fail);refine Df (by kernel_rfl) (by kernel_rfl) ?_
   iterate 7
    apply A9 rfl rfl rfl
    ·intro a w hC hA K hK
     try have h2:=hA.fr 2 rfl
     try have h1:=hA.fr 1 rfl
     try have h4:=hA.fr 4 rfl
     try have h14:=hA.eq 1 14 rfl
     try have h15:=hA.eq 2 15 rfl
     try have h16:=hA.eq 3 16 rfl
     try have h13:=hA.eq 0 13 rfl
     try have h17:=hA.eq 4 17 rfl
     try have h18:=hA.eq 5 18 rfl
     have r0:=Aa ((hC.block _ (Ab HBS1.out) (by simp)).trans HBS1.out) 0;have r1:=Aa ((hC.block _ (Ab HBN1.out) (by simp)).trans HBN1.out) 0;simp only[a2z,a1v] at r0 r1;simp only[Oper.wp,execOp];go_simp;exact hK _ hC (Fp.refl _ _)
   refine⟨?_,?_⟩
   ·repeat(first|exact trivial|refine C3 _ ?_ |refine⟨fun w1 w2 v _ hf ⟨g,h1,h2⟩=>⟨g,h1,(hf.block g (Ab h2) (by simp)).trans h2⟩,?_⟩)
   ·intro w' hC;simp only[List.reverse_cons,List.reverse_nil,a1u,a1z]
    iterate 7 (refine Au ?_)
    refine A6 ?_;simp only[Am,Act.put,a0w,List.set_cons_succ,List.set_cons_zero];have HF1:=a0z (HFW.out.trans (Av.of (hC.mono (by simp):Fp [] wr w') (by simp)) (by simp));have HJ1:=a0z (HJ.out _ _ _ HJK.out hC);have hbs2:=(hC.block _ (Ab HBS1.out) (by simp)).trans HBS1.out;have q1:w'.cell? ⟨bs,0,none⟩=some (.slice (some ⟨b,o,none⟩) len cap):=Aa hbs2 0;have HBN2:=a0z ((hC.block _ (Ab HBN1.out) (by simp)).trans HBN1.out);clear hC hbs2;obtain⟨fn,tm,asg,bd,hyl,hrd⟩:=HY.out pre (i,m) w' ⟨_,HSP.out⟩ HJ1.out;have HRD:=a0z hrd;clear hrd;unfold Vq S8 at hyl;simp only at hyl
    go_upto_region 4 with(fail)
    refine(wpIn_wide (n:=n)).1 ?_
    gi_wp2_with (fail)
    (with_reducible refine HRD.out.mono ?_);rintro e W1 (⟨rfl,hj1,hf1⟩|⟨rfl,hjx⟩)
    ·have HJ2:=a0z hj1;have HFW2:=a0z (HF1.out.trans hf1 (by intro i hi;exact hi));have r2:W1.cell? ⟨bn,0,none⟩=some (.int .i64 sz):=Aa ((HFW2.out.low _ hbnl (Ab HBN.out) (by intro h;rcases List.mem_cons.1 h with h|h;exact hnL h;exact(HS0.out _ h).2.2 rfl)).trans HBN.out) 0;clear hj1 hf1
     gi_wp2_with (fail)
     go_wp2_with (fail)
     go_roundg (len-j)
     case measure=>have:=HG.out;have:=HJJ.out;omega
     case rel=>
      refine⟨j,pre++[(i,m)],rfl,.inr (by have:=HJJ.out;omega),rfl,?_,HJ2.out,HFW2.out⟩;have h2:=HSP.out;rw[HJJ.out] at h2;rw[h2,List.append_assoc];rfl
    ·have HJX:=a0z hjx;clear hjx
     gi_wp2_with (fail)
     go_wp2_with (fail);refine bodyPost_ret (results_none rfl _ _ _) rfl ?_;exact⟨⟨_,rfl⟩,Or.inr ⟨_,HJX.out⟩⟩
  ·have z0:¬(i:Int)<(len:Int):=by omega
   rw[Vo hlt,List.append_nil] at hpre;have HP:=a0z hpre;have HG:=a0z hg;clear hpre hg hi0;go_wp2_with (fail);go_end0;refine⟨⟨_,rfl⟩,Or.inl ?_⟩;rw[HP.out];exact HJK.out
theorem wQ(w:World)(sz:Nat)(hsz0:0<sz)(v:Value)(a:Option Addr)(len cap:Nat)(hv:v=.slice a len cap):Calls Tryz.prog 140 #[v,.int .i64 sz] w fun e w'=>e=.returned (.func (.func 215) #[] #[.pointer (some ⟨w.heap.size,0,none⟩),.pointer (some ⟨w.heap.size+1,0,none⟩)])∧
  w'.heap[w.heap.size]?=some (.cells #[v] 162 (0,0))∧w'.heap[w.heap.size+1]?=some (.cells #[.int .i64 sz] 3 (0,0))∧Fp [] w w':=by
 subst hv
 have z1:¬(sz:Int)<1:=by omega
 have q:((w.alloc (.cells #[.slice a len cap] 162)).alloc (.cells #[.int .i64 sz] 3)).cell? ⟨w.heap.size+1,0,none⟩=some (.int .i64 sz):=Aa (Ai (by simp) _) 0;go_enter Tryz.func140,Tryz.ntmps140;go_wp2_with (fail);go_ret;exact⟨rfl,Cb (Ai rfl _),Ai (by simp) _,(Fp.alloc _ _).alloc' _⟩
end
section
open Go.RowKit Go.Lib
theorem Ae.keptT{α:Type}{R:Gx α}{W W':World}{base:Nat}{S:List Nat}{v:Value}{l:List α}(h:Ae R W base v l)(hk:Av R.e base S W W'):Ae R W' base v l:=by
 refine h.kept fun k hk'=>?_
 rcases h.2 with⟨rfl,_⟩|⟨g,cap,cur,rfl,hg,hh,_⟩
 ·cases hk'
 ·obtain rfl:g=k:=by simpa [Value.ownBlock] using hk'
  exact hk.high _ _ _ hg hh
inductive Dh{α β:Type}(P:α→β→Prop):List α→List β→Prop
 |nil:Dh P [] []
 |cons {a b l m}:P a b→Dh P l m→Dh P (a::l) (b::m)
theorem Dh.length_eq{α β:Type}{P:α→β→Prop}{l:List α}{m:List β}(h:Dh P l m):l.length=m.length:=by
 induction h with
 |nil=>rfl
 |cons _ _ ih=>simp[ih]
def Vr(W:World)(base:Nat)(vals:List Value)(rs:List (List Ad)):Prop:=Dh (fun v r=>Ae Bz W base v r) vals rs
def Fa(W:World)(base:Nat)(v:Value)(rs:List (List Ad)):Prop:=∃vals,Bg 162 W base v vals∧Vr W base vals rs
theorem K7{α β:Type}{P Q:α→β→Prop}(hpq:∀a b,P a b→Q a b){l:List α}{m:List β}(h:Dh P l m):Dh Q l m:=by
 induction h with
 |nil=>exact .nil
 |cons h _ ih=>exact .cons (hpq _ _ h) ih
theorem S9{α β:Type}{P:α→β→Prop}{l:List α}{m:List β}(h:Dh P l m){a:α}{b:β}(hab:P a b):Dh P (l++[a]) (m++[b]):=by
 induction h with
 |nil=>exact .cons hab .nil
 |cons h _ ih=>exact .cons h ih
theorem Vr.keptT{W W':World}{base:Nat}{S:List Nat}{vals:List Value}{rs:List (List Ad)}(h:Vr W base vals rs)(hk:Av 221 base S W W'):Vr W' base vals rs:=
 K7 (fun _ _ h1=>Ae.keptT h1 hk) h
theorem Fa.fp{W W':World}{base:Nat}{S:List Nat}{v:Value}{rs:List (List Ad)}(h:Fa W base v rs)(hf:Fp S W W')(hS:∀k∈S,k<base):Fa W' base v rs:=by
 obtain⟨vals,h1,h2⟩:=h;exact⟨vals,h1.fp hf hS,h2.keptT (Av.of hf hS)⟩
theorem Fa.nil(W:World)(base:Nat):Fa W base (.slice none 0 0) []:=⟨[],Bg.nil _ _ _,.nil⟩
theorem Fa.slice{W:World}{base:Nat}{v:Value}{rs:List (List Ad)}(h:Fa W base v rs):∃a n cap,v=.slice a n cap:=by
 obtain⟨vals,h1,_⟩:=h;obtain⟨⟨a,cap,e⟩,_⟩:=h1.at;exact⟨_,_,_,e⟩
theorem Tryz.infoRun:(Tryz.prog.info? 162).map (fun i=>(i.zero,i.size,i.bytes))=some (some (.slice none 0 0),1,24):=by kernel_rfl
end
section
open Go.RowKit Go.Lib
theorem iF{w:World}{o:Oper}{a:Act}{K:Act→World→Prop}{Q:Exit→Act→World→Prop}(s x:Operand)
  (ho:o.op=.call {callee:=.builtin .append,args:=#[s,x],argTypes:=#[159,159]})(base:Nat)(v:Value)(rs:List (List Ad))(hs:a.eval s=v)(hown:Fa w base v rs)
  (g:Nat)(t:Value)(r:List Ad)(ht:t.oneCell'=true)(htr:Ae Bz w base t r)(hx:a.eval x=.slice (some ⟨g,0,none⟩) 1 1)(hg:w.cell? ⟨g,0,none⟩=some t)(hlen:rs.length+1≤1000000000)(hbase:base≤w.heap.size)
  (h:∀v' w',Fa w' base v' (rs++[r])→Below base w w'→Av 221 base [] w w'→K (a.put o.dst v') w'):o.wp Tryz.prog a w K Q:=by
 obtain⟨vals,hv,hr⟩:=hown;have hvl:vals.length=rs.length:=hr.length_eq;obtain⟨i0,hi,hz0,hz1,hz2⟩:=info_parts Tryz.infoRun;refine wp_append_own (P:=Tryz.prog) w s x 159 ho base 162 i0 _ 1 24 Tryz.underlying159 hi hz0 hz1 hz2 rfl (by decide) v vals.length vals hs hv ⟨g,0,none⟩ 1 1 [t] hx rfl ?_ (by intro u hu;simp at hu;subst hu;exact ht) (by unfold maxLen;omega) (by omega) hbase ?_
 ·intro j u hu
  have hj:j=0:=by
   have:=(List.getElem?_eq_some_iff.1 hu).1
   simpa using this
  subst hj;simp at hu;subst hu
  have e1:(⟨g,0,none⟩:Addr).add 0=⟨g,0,none⟩:=by unfold Addr.add;split<;>simp_all
  rw[e1];exact hg
 ·intro v' w' h1 h2 _;have hk:=Vy (show 221≠162 by decide) hv h2 hbase;refine h v' w' ⟨vals++[t],?_,S9 (hr.keptT hk) (Ae.keptT htr hk)⟩ ((Below.refl base w).grown h2 hbase (fun k hk=>(World.ownsRow.lt hv k hk).1)) hk;unfold Bg;rw[List.length_append];exact h1
structure E1(G:List Ad→Prop)(w W0:World)(base cl:Nat)(v:Value)(rs:List (List Ad))(b:Nat→Bool)(vs:Nat→Value)(W:World):Prop where
 own0:b 4=false→Fa W base v rs
 own1:b 4=true→∃r,G r∧Fa W base (vs 4) (rs++[r])
 res:b 2=true→b 4=false→∃r,G r∧Ae Bz W base (vs 2) r
 bld:b 3=true→b 4=false→∃g,vs 3=.slice (some ⟨g,0,none⟩) 1 1∧W.cell? ⟨g,0,none⟩=some (vs 2)
 cel:W.heap[cl]?=some (.cells #[if b 5=true then vs 4 else v] 159 (0,0))
 kept:Av 221 base [cl] W0 W
 fp:Fp [] w W
 o54:b 5=true→b 4=true
 o43:b 4=true→b 3=true
 o32:b 3=true→b 2=true
 sz:base≤W.heap.size
variable {G : List Ad → Prop} {w W0 W W2 : World} {base cl : Nat} {v : Value} {rs : List (List Ad)} {b : Nat → Bool} {vs : Nat → Value}
theorem Et{a c:Bool}(h:a=true→c=true)(hc:c=false):a=false:=by cases a<;>cases c<;>simp_all
theorem E1.start{vs:Nat→Value}(ho:Fa W0 base v rs)(hc:W0.heap[cl]?=some (.cells #[v] 159 (0,0)))(hf:Fp [] w W0)(hb:base≤W0.heap.size)(hcl:cl<base):E1 G w W0 base cl v rs (fun _=>false) vs {W0 with drawn:=W0.drawn+1}:=
 ⟨fun _=>ho.fp (Fp.drew W0) (by simp),(fun h=>by cases h),(fun h=>by cases h),(fun h=>by cases h),hc,Av.of ((Fp.drew W0).mono (by simp)) (by simpa using hcl),hf.trans (Fp.drew W0) (by simp),(fun h=>by cases h),(fun h=>by cases h),(fun h=>by cases h),hb⟩
theorem E1.plain{k:Nat}{x:Value}(h:E1 G w W0 base cl v rs b vs W)(hk:k≠2∧k≠3∧k≠4∧k≠5):E1 G w W0 base cl v rs (Ap b k) (Bw vs k x) W:=by
 obtain⟨h2,h3,h4,h5⟩:=hk;refine⟨?_,?_,?_,?_,?_,h.kept,h.fp,?_,?_,?_,h.sz⟩
 ·rw[Af h4.symm];exact h.own0
 ·rw[Af h4.symm,Bc h4.symm];exact h.own1
 ·rw[Af h4.symm,Af h2.symm,Bc h2.symm];exact h.res
 ·rw[Af h4.symm,Af h3.symm,Bc h3.symm,Bc h2.symm];exact h.bld
 ·rw[Af h5.symm,Bc h4.symm];exact h.cel
 ·rw[Af h5.symm,Af h4.symm];exact h.o54
 ·rw[Af h4.symm,Af h3.symm];exact h.o43
 ·rw[Af h3.symm,Af h2.symm];exact h.o32
theorem E1.first(h:E1 G w W0 base cl v rs b vs W)(h4:b 4=false):W.heap[cl]?=some (.cells #[v] 159 (0,0)):=by
 have:=h.cel;rw[Et h.o54 h4] at this;exact this
theorem E1.call{r:List Ad}{vr:Value}(h:E1 G w W0 base cl v rs b vs W)(h2:b 2=false)(hf:Fp [] W W2)(hg:G r)(hr:Ae Bz W2 W.heap.size vr r):E1 G w W0 base cl v rs (Ap b 2) (Bw vs 2 vr) W2:=by
 have h3:=Et h.o32 h2;have h4:=Et h.o43 h3;have h5:=Et h.o54 h4;refine⟨fun _=>(h.own0 h4).fp hf (by simp),fun e=>?_,fun _ _=>⟨r,hg,by rw[Gq];exact hr.mono h.sz⟩,fun e=>?_,?_,?_,h.fp.trans hf (by simp),fun e=>?_,fun e=>?_,fun e=>?_,a1x h.sz hf.size⟩
 ·rw[Af (by decide),h4] at e;cases e
 ·rw[Af (by decide),h3] at e;cases e
 ·rw[Af (by decide),h5];exact(hf.block _ (Ab h.cel) (by simp)).trans (h.first h4)
 ·exact h.kept.trans (Av.of (hf.mono (by simp):Fp [] W W2) (by simp)) (by simp)
 ·rw[Af (by decide),h5] at e;cases e
 ·rw[Af (by decide),h4] at e;cases e
 ·exact Ej _ _
theorem E1.build(h:E1 G w W0 base cl v rs b vs W)(h2:b 2=true)(h3:b 3=false):E1 G w W0 base cl v rs (Ap b 3) (Bw vs 3 (.slice (some ⟨W.heap.size,0,none⟩) 1 1)) (W.alloc (.cells #[vs 2] 162)):=by
 have h4:=Et h.o43 h3;have h5:=Et h.o54 h4;have hf:=Fp.alloc W (.cells #[vs 2] 162);refine⟨fun _=>(h.own0 h4).fp hf (by simp),fun e=>?_,fun _ _=>?_,fun _ _=>⟨W.heap.size,Gq _ _ _,?_⟩,?_,?_,h.fp.trans hf (by simp),fun e=>?_,fun e=>?_,fun e=>?_,a1x h.sz hf.size⟩
 ·rw[Af (by decide),h4] at e;cases e
 ·obtain⟨r,hg,hr⟩:=h.res h2 h4;exact⟨r,hg,by rw[Bc (by decide)];exact hr.fp hf (by simp)⟩
 ·rw[Bc (by decide),Aa (Ai rfl _)];rfl
 ·rw[Af (by decide),h5];exact Cb (h.first h4)
 ·exact h.kept.trans (Av.of (hf.mono (by simp):Fp [] W _) (by simp)) (by simp)
 ·rw[Af (by decide),h5] at e;cases e
 ·rw[Af (by decide),h4] at e;cases e
 ·rw[Af (by decide)];exact h2
theorem E1.append{r:List Ad}{v':Value}(h:E1 G w W0 base cl v rs b vs W)(h3:b 3=true)(h4:b 4=false)(hg:G r)(ho:Fa W2 base v' (rs++[r]))(hb:Below base W W2)(hk:Av 221 base [] W W2)(hcl:cl<base)(hwb:w.heap.size≤base):
  E1 G w W0 base cl v rs (Ap b 4) (Bw vs 4 v') W2:=by
 have h5:=Et h.o54 h4;refine⟨fun e=>?_,fun _=>⟨r,hg,by rw[Gq];exact ho⟩,fun _ e=>?_,fun _ e=>?_,?_,h.kept.trans hk (by simp),h.fp.belowTrans (hb.mono hwb),fun e=>?_,fun _=>?_,fun e=>?_,a1x h.sz hb.size⟩
 ·rw[Ej] at e;cases e
 ·rw[Ej] at e;cases e
 ·rw[Ej] at e;cases e
 ·rw[Af (by decide),h5];exact(hb.block _ hcl).trans (h.first h4)
 ·rw[Af (by decide),h5] at e;cases e
 ·rw[Af (by decide)];exact h3
 ·rw[Af (by decide)];exact h.o32 h3
theorem E1.store(h:E1 G w W0 base cl v rs b vs W)(h4:b 4=true)(hcl:cl<base)(hwb:w.heap.size≤cl):E1 G w W0 base cl v rs (Ap b 5) (Bw vs 5 undef) (W.setCell ⟨cl,0,none⟩ (vs 4)):=by
 have hf:Fp [cl] W (W.setCell ⟨cl,0,none⟩ (vs 4)):=Fp.setCell W ⟨cl,0,none⟩ (vs 4);refine⟨fun e=>?_,fun _=>?_,fun _ e=>?_,fun _ e=>?_,?_,h.kept.trans (Av.of hf (by simpa using hcl)) (by simp),h.fp.trans hf (by intro i hi;right;simp at hi;omega),fun _=>?_,fun e=>?_,fun e=>?_,a1x h.sz hf.size⟩
 ·rw[Af (by decide),h4] at e;cases e
 ·obtain⟨r,hg,hr⟩:=h.own1 h4;exact⟨r,hg,by rw[Bc (by decide)];exact hr.fp hf (by simpa using hcl)⟩
 ·rw[Af (by decide),h4] at e;cases e
 ·rw[Af (by decide),h4] at e;cases e
 ·rw[Ej,if_pos rfl,Bc (by decide)];exact(Bm h.cel _).trans rfl
 ·rw[Af (by decide)];exact h4
 ·rw[Af (by decide)];exact h.o43 h4
 ·rw[Af (by decide)];rw[Af (by decide)] at e;exact h.o32 e
theorem E1.slice(h:E1 G w W0 base cl v rs b vs W)(h4:b 4=true):∃a n c,vs 4=.slice a n c:=by
 obtain⟨r,_,hr⟩:=h.own1 h4;exact hr.slice
end
section
open Go.RowKit Go.Lib
theorem Fa.mono{W:World}{base base':Nat}{v:Value}{rs:List (List Ad)}(h:Fa W base v rs)(hb:base'≤base):Fa W base' v rs:=by
 obtain⟨vals,h1,h2⟩:=h;exact⟨vals,h1.mono hb,K7 (fun _ _ h=>Ae.mono h hb) h2⟩
theorem Yx(sz len i:Nat):∀x∈C9 sz len i,x.1+x.2≤len∧x.2≤sz∧0<x.2:=by
 intro x hx;rw[C9] at hx;split at hx
 ·rename_i h
  rcases List.mem_cons.1 hx with rfl|hx
  ·simp only;omega
  ·exact Yx sz len (i+sz) x hx
 ·cases hx
 termination_by len-i
def Kr(l:List Ad)(x:Nat × Nat):List Ad:=(l.drop x.1).take x.2
theorem Bf.keptT{α:Type}{R:Gx α}{T:TypeId}{base:Nat}{S:List Nat}{W W':World}{b o n:Nat}{l:List α}(h:Bf R W (some ⟨b,o,none⟩) n l)(hk:Av T base S W W')(hb:b<base)(hS:b∉S):Bf R W' (some ⟨b,o,none⟩) n l:=by
 refine⟨h.len,?_⟩
 rcases h.cells with h0|⟨b',o',e,hb',hc⟩
 ·exact Or.inl h0
 ·cases e;exact Or.inr ⟨b,o,rfl,a0x hb' hk.size,fun i hi j u hu=>(World.cell?_of_block (w:=W) (hk.low b hb hb' hS)).trans (hc i hi j u hu)⟩
theorem Bf.fpS{α:Type}{R:Gx α}{S:List Nat}{W W':World}{b o n:Nat}{l:List α}(h:Bf R W (some ⟨b,o,none⟩) n l)(hf:Fp S W W')(hS:b∉S):Bf R W' (some ⟨b,o,none⟩) n l:=by
 refine⟨h.len,?_⟩
 rcases h.cells with h0|⟨b',o',e,hb',hc⟩
 ·exact Or.inl h0
 ·cases e;exact Or.inr ⟨b,o,rfl,a0x hb' hf.size,fun i hi=>(hc i hi).fp hf hb' hS⟩
theorem Vs(l:List Ac)(k i:Nat)(hi:i<(Ks l k).length):(Ks l k)[i]=⟨l.getD i Bv,i⟩:=by
 unfold Ks;simp
theorem Vt{l:List Ac}(h:∀c∈l,Dn c)(hn:l.length≤1000000):Ci (Ds l):=by
 intro x hx;obtain⟨i,hi,e⟩:=List.mem_iff_getElem.1 hx;have hl:(Ds l).length=l.length:=O9 l _;rw[←e,show(Ds l)[i]=⟨l.getD i Bv,i⟩ from Vs l l.length i hi];refine⟨?_,by show i<_;omega⟩;show Dn (l.getD i Bv);rw[List.getD_eq_getElem?_getD,a1w (by omega)];exact h _ (List.getElem_mem _)
theorem wR(l:List Ac):(Ds l).map (·.pos)=List.range l.length:=by
 unfold Ds Ks;rw[List.map_map];exact List.map_id' _
theorem iG{l:List Ad}(h:Ci l)(x:Nat × Nat):Ci (Kr l x):=fun y hy=>h y (List.mem_of_mem_drop (List.mem_of_mem_take hy))
theorem wS{l:List Ad}(h:(l.map (·.pos)).Nodup)(x:Nat × Nat):((Kr l x).map (·.pos)).Nodup:=by
 unfold Kr;rw[List.map_take,List.map_drop];exact List.Sublist.nodup ((List.take_sublist _ _).trans (List.drop_sublist _ _)) h
structure Vu(w:World)(base b o n lim:Nat)(l:List Ad)(pre:List (Nat × Nat))(W:World):Prop where
 ex:∃v rs,W.heap[w.heap.size]?=some (.cells #[v] 159 (0,0))∧Fa W base v rs∧Dh (fun x r=>B7 (Kr l x) r) pre rs
 fp:Fp [] w W
 q:Bf Bz W (some ⟨b,o,none⟩) n l
 bl:w.heap.size<b∧b<lim
theorem Vu.on{w A B:World}{base b o n lim:Nat}{l:List Ad}{pre:List (Nat × Nat)}{S:List Nat}(h:Vu w base b o n lim l pre A)(hf:Fp S A B)(hS:∀k∈S,lim≤k∧k<base):Vu w base b o n lim l pre B:=by
 obtain⟨v,rs,hv,ho,ha⟩:=h.ex;have hb:=h.bl;refine⟨⟨v,rs,(hf.block _ (Ab hv) fun hm=>by have:=hS _ hm;omega).trans hv,ho.fp hf fun k hk=>(hS k hk).2,ha⟩,h.fp.trans hf fun k hk=>Or.inr (by have:=hS k hk;omega),h.q.fpS hf (fun hm=>by have:=hS _ hm;omega),h.bl⟩
def iH(a:Option Addr)(b o n cap cap1 m c1 c2:Nat)(x:Nat × Nat):Act:={tmps:=#[.slice a n cap,.int .i64 m,undef,undef,.pointer (some ⟨c1,0,none⟩),.int .i64 0,S8 b o x,.int .i64 m,.bool false,.slice a n cap,.slice (some ⟨b,o,none⟩) n cap1,.int .i64 m,.func (.func 215) #[] #[.pointer (some ⟨c2,0,none⟩),.pointer (some ⟨c2+1,0,none⟩)],S8 b o x,undef,undef,undef,undef,undef,undef],defers:=[]}
attribute [local go_sem] Oper.semAt_some
theorem iI(w:World)(a:Option Addr)(n cap m:Nat)(l:List Ac)(hl:Bt w a n l)(hn:n<20)(hm0:0<m)(hm:m<2^63)(h0:0<n):
  Calls Tryz.prog 85 #[.slice a n cap,.int .i64 m] w fun e w'=>∃v rs,e=.returned (.tuple #[v,.int .i64 0])∧Fa w' w.heap.size v rs∧Dh (fun x r=>B7 (Kr (Ds l) x) r) (C9 m n 0) rs∧Fp [] w w':=by
 have HFN:=a0z (fun w v a len cap (hv:v=.slice a len cap)=>wQ w m hm0 v a len cap hv);have HIT:=a0z (fun w (hl:Bt w a n l)=>wY w a n cap l hl (by omega));have HIO:=a0z (Vt hl.ok (by have:=hl.len;omega))
 have HIP:Hid (((Ds l).map (·.pos)).Nodup):=by rw[wR];exact List.nodup_range
 have HL:=a0z hl;clear hl
 have z1:¬(m:Int)<1:=by omega
 rw[←callsIn_wide (n:=5)];refine callsIn_of_wp_marks Tryz.func85 rfl trivial ?_ rfl;simp only[Tryz.ntmps85,List.size_toArray,a0v,List.length_nil,Nat.reduceAdd,Nat.reduceSub,Array.replicate_succ,Array.replicate_zero,List.push_toArray,List.append_toArray,a1u,a1z]
 gi_wp2_with (fail)
 refine⟨trivial,?_⟩;(with_reducible refine((callsIn_wide (n:=4)).2 (HIT.out _ (HL.out.fp (Fp.alloc _ _)))).mono ?_);rintro e w1 ⟨v1,rfl,ho1,hf1⟩;obtain⟨a1,cap1,rfl,_,hlc,hq1⟩:=ho1.at;have hil:(Ds l).length=n:=(O9 l _).trans HL.out.len.symm
 obtain⟨b,o,rfl,hb1,hb0⟩:∃b o,a1=some ⟨b,o,none⟩∧b<w1.heap.size∧w.heap.size<b:=by
  rcases hq1.cells with h|⟨b,o,h1,h2,_⟩
  ·rw[h] at hil;simp at hil;omega
  ·exact⟨b,o,h1,h2,by have:=ho1.lt b (by rw[h1];rfl);simp at this;omega⟩
 rw[hil] at hlc hq1 ⊢;have HL0:=a0z ((hf1.block _ (by simp) (by simp)).trans (Ai rfl _):w1.heap[w.heap.size]?=some (.cells #[.slice none 0 0] 159 (0,0)));have HQ1:=a0z hq1;have HF1:Hid (Fp [] w w1):=(Fp.alloc _ _).trans hf1 (by simp);have HIL:=a0z hil;have HLC:=a0z hlc;clear hq1 hf1 hil hlc ho1
 gi_wp2_with (fail)
 refine⟨trivial,?_⟩;(with_reducible refine((callsIn_wide (n:=4)).2 (HFN.out _ _ _ _ _ rfl)).mono ?_);rintro e w2 ⟨rfl,hbs,hbn,hf2⟩;have HBS:=a0z hbs;have HBN:=a0z hbn;have HF2:=a0z hf2;clear hbs hbn hf2
 gi_wp2_with (fail)
 have hz1:w.heap.size<w1.heap.size:=Ab HL0.out;have hz2:w1.heap.size+1<w2.heap.size:=Ab HBN.out
 refine S5 (α:=Nat × Nat) (encs:=Vq b o) rfl (enters_of Tryz.func215 (by kernel_rfl) rfl) (fun _=>rfl) 221 [w.heap.size] [] (by simp;omega) (by simp) (w1.heap.size) (by omega) 0
  (fun pre x=>∃post,C9 m n 0=pre++x::post) (Vu w (w2.heap.size+2) b o n w1.heap.size (Ds l)) (fun _ _=>False) (fun xs _=>xs=C9 m n 0)
  (fun _=>True) (fun s A B k h hf hk=>h.on hf (by simp;omega)) (fun s A B h hf _=>h.on hf (by simp;omega)) (fun _ _ _ h _=>h) (fun _ _ _ h _=>h) ?_ ?_ (fun x a' _=>a'=iH a b o n cap cap1 m w.heap.size w1.heap.size x) (fun _ _ _ _ h _=>h) ?_ ?_ ?_ (fun _ _ h=>h.elim)
 ·intro J Jx W1 hf1 hsz1 hJ hY hJ0;exact wP (w2.heap.size+2) (w2.heap.size+1) (5-1) w1.heap.size (w1.heap.size+1) m hm0 hm W1 b o n cap1 (by decide) ((hf1.block _ (by omega) (by simp)).trans HBS.out) ((hf1.block _ (by omega) (by simp)).trans HBN.out) HLC.out (by omega) (by omega) (by omega) (by omega) (by omega) [w.heap.size] (by intro k hk;simp only[List.mem_cons,List.not_mem_nil,or_false] at hk;omega) J Jx (fun s A B h hf=>hJ s A B h (hf.mono (by simp)) trivial) hY hJ0
 ·exact⟨⟨.slice none 0 0,[],(HF2.out.block _ hz1 (by simp)).trans HL0.out,Fa.nil _ _,.nil⟩,HF1.out.trans HF2.out (by simp),HQ1.out.fp HF2.out,hb0,hb1⟩
 ·intro l x W K hW hK;simp only[Vq]
  gi_wp2_with (fail)
  exact hK _ _ (Fp.refl _ _) rfl
 ·rintro l' pre ⟨xi,xm⟩ a' W ⟨post,hpost⟩ hI hW rfl;have hx:=Yx m n 0 (xi,xm) (by rw[hpost];simp);obtain⟨hx1,hx2,hx3⟩:=hx;simp only at hx1 hx2 hx3;obtain⟨v,rs,hv,ho,ha⟩:=hI.ex;have hrl:rs.length=pre.length:=ha.length_eq.symm
  have hpl:pre.length+1≤1000000000:=by
   have h1:=Vp m n 0;rw[hpost,List.length_append,a0v] at h1;omega
  have hqp:Bf Bz W (some ⟨b,o+xi*7,none⟩) xm (Kr (Ds l) (xi,xm)):=(hI.q.drop xi (n-xi) (by omega)).take xm (by omega);have hcl:(Kr (Ds l) (xi,xm)).length=xm:=hqp.len.symm;have HRE:=a0z (fun w2' (h:Av 221 (w2.heap.size+2) [w.heap.size] W w2')=>tI w2' _ _ xm _ (hqp.keptT h (by omega) (by simp;omega)) (by simp) (iG HIO.out _) (wS HIP.out _) (by omega) (by omega));have HI:=a0z hI;have HV:=a0z hv;have HO:=a0z ho;have HA:=a0z ha;have hW:w2.heap.size+2≤W.heap.size:=hW;clear hI hv ho ha hqp hpost;unfold iH S8;simp only
  gi_wp2_with (fail)
  refine Tz (E1 (fun r=>B7 (Kr (Ds l) (xi,xm)) r) w W (w2.heap.size+2) w.heap.size v rs) (fun _ _=>True) (by kernel_rfl) (by kernel_rfl) (by kernel_rfl) (fun _=>E1.start HO.out HV.out HI.out.fp hW (by omega)) ?_;apply Cj (fun _ _ _ h _=>h.plain (by decide)) rfl rfl rfl
  ·intro b a w hC hA K hK;have h4:=hA.fr 4 rfl;have q0:=Aa (hC.first (hA.post 4 (by kernel_rfl))) 0;simp only[a2z,a1v] at q0;simp only[Oper.wp,execOp];go_simp;exact hK _ hC trivial
  apply Cj (fun _ _ _ h _=>h.plain (by decide)) rfl rfl rfl
  ·intro b a w hC hA K hK;have h6:=hA.fr 6 rfl;simp only[Oper.wp,execOp];go_simp;exact hK _ hC trivial
  apply Dt (fun _ _=>True) rfl rfl rfl
  ·intro b a w hC hA K hK;have h15:=hA.eq 1 15 rfl;simp only[Oper.wp,execOp];go_simp;(with_reducible refine(HRE.out _ hC.kept).mono ?_);rintro e w3 ⟨vr,r,rfl,hr,ho3,hf3⟩;exact hK _ _ (hC.call hA.self hf3 hr ho3) trivial trivial
  apply Dt (fun _ _=>True) rfl rfl rfl
  ·intro b a w hC hA K hK;have h16:=hA.dep 2 16 _ (by kernel_rfl) rfl;obtain⟨r,hg,hr⟩:=hC.res (hA.pre 2 (by kernel_rfl)) (hA.post 4 (by kernel_rfl));obtain⟨a2,c2,e2,-,-⟩:=hr.len;have hv:=hA.val 2 16 (by kernel_rfl);rw[e2] at hv;have hst:=hC.build (hA.pre 2 (by kernel_rfl)) hA.self;rw[e2] at hst;simp only[Oper.wp,execOp];go_simp;exact hK _ _ hst trivial trivial
  apply Dt (fun _ _=>True) rfl rfl rfl
  ·intro b a w hC hA K hK;have h14:=hA.eq 0 14 rfl;have h17:=hA.dep 3 17 _ (by kernel_rfl) rfl;obtain⟨g,hg1,hg2⟩:=hC.bld (hA.pre 3 (by kernel_rfl)) hA.self;obtain⟨r,hg,hr⟩:=hC.res (hC.o32 (hA.pre 3 (by kernel_rfl))) hA.self;obtain⟨a2,c2,e2,-,-⟩:=hr.len;refine iF (.tmp 14) (.tmp 17) rfl _ v rs (Gf h14) (hC.own0 hA.self) g _ r (by rw[e2];rfl) hr (Gf ((hA.val 3 17 (by kernel_rfl)).trans hg1)) hg2 (by omega) hC.sz ?_;intro v' w' h1 h2 h3;exact hK _ _ (hC.append (hA.pre 3 (by kernel_rfl)) hA.self hg h1 h2 h3 (by omega) (by omega)) trivial trivial
  apply I9 (fun _=>True) rfl rfl rfl
  ·intro b a w hC hA K hK;have h4:=hA.fr 4 rfl;have h18:=hA.dep 4 18 _ (by kernel_rfl) rfl;obtain⟨a2,n2,c2,e2⟩:=hC.slice (hA.pre 4 (by kernel_rfl));have hv:=(hA.val 4 18 (by kernel_rfl)).trans e2;have hst:=hC.store (hA.pre 4 (by kernel_rfl)) (by omega) (Nat.le_refl _);rw[e2] at hst;have f0:=Ar hC.cel 0;have q0:=Aa hC.cel 0;simp only[Oper.wp,execOp];go_simp;exact hK undef _ hst trivial trivial
  refine⟨?_,?_⟩
  ·refine⟨fun _ _ _ _ _=>trivial,?_⟩;refine⟨fun _ _ _ _ _=>trivial,?_⟩;refine⟨fun _ _ _ _ _=>trivial,?_⟩;refine⟨fun _ _ _ _ _=>trivial,?_⟩;refine E6 _ ?_;refine E6 _ ?_;exact trivial
  ·intro w' bb hbb;simp only[List.reverse_cons,List.reverse_nil,a1u,a1z]
   iterate 2 (refine Au ?_)
   refine Az ?_;intro v2 u2;refine Az ?_;intro v3 u3;refine Az ?_;intro v4 u4;refine Az ?_;intro v5 u5;refine A6 ?_;intro hC;simp only[Am,Act.put,a0w,List.set_cons_succ,List.set_cons_zero]
   gi_wp2_with (fail)
   have hcel:=hC.cel;rw[hbb 5 (by simp)] at hcel;obtain⟨r,hr,ho5⟩:=hC.own1 (hbb 4 (by simp));exact⟨hC.kept,⟨⟨_,_,hcel,ho5,S9 HA.out hr⟩,hC.fp,HI.out.q.keptT hC.kept (by omega) (by simp;omega),HI.out.bl⟩⟩
 ·rintro xs W rfl hI hK;obtain⟨v,rs,hv,ho,ha⟩:=hI.ex;obtain⟨va,vn,vc,rfl⟩:=ho.slice;have HI:=a0z hI;have HK:=a0z hK;have HA:=a0z ha;have q0:W.cell? ⟨w.heap.size,0,none⟩=some (.slice va vn vc):=Aa hv 0;have f0:W.frozen? ⟨w.heap.size,0,none⟩=false:=Ar hv 0;have HV:=a0z hv;have HO:=a0z ho;clear hI hK hv ho ha
  gi_wp2_with (fail)
  have hf5:Fp [w.heap.size] W (W.setCell ⟨w.heap.size,0,none⟩ (.slice va vn vc)):=Fp.setCell W ⟨w.heap.size,0,none⟩ (.slice va vn vc);have h4:(W.setCell ⟨w.heap.size,0,none⟩ (.slice va vn vc)).heap[w.heap.size]?=some (.cells #[.slice va vn vc] 159 (0,0)):=(Bm HV.out _).trans rfl
  obtain⟨wa,hwa⟩:∃wa,W.setCell ⟨w.heap.size,0,none⟩ (.slice va vn vc)=wa:=⟨_,rfl⟩
  rw[hwa] at hf5 h4 ⊢;have hk2:wa.heap[w2.heap.size]?=some (.deferred (some [])):=(hf5.block _ (Ab HK.out) (by simp;omega)).trans HK.out;have hp:=Fp.putObj wa w2.heap.size (.deferred none);refine⟨by simp,.inl ⟨_,_,rfl,run_takeDeferred hk2,?_⟩⟩;have c0:(wa.putObj w2.heap.size (.deferred none)).cell? ⟨w.heap.size,0,none⟩=some (.slice va vn vc):=Aa ((hp.block _ (Ab h4) (by simp;omega)).trans h4) 0;have hoo:=(HO.out.fp hf5 (by simp;omega)).fp hp (by simp);refine⟨.tuple #[.slice va vn vc,.int .i64 0],by simp[results,Tryz.results85,go_sem,c0],.slice va vn vc,rs,rfl,?_,HA.out,((HI.out.fp.trans hf5 (by intro i hi;right;simp at hi;omega)).trans hp (by intro i hi;right;simp at hi;omega))⟩;exact hoo.mono (by omega)
end
section
open Go.RowKit Go.Lib
def O8(W:World)(v:Value)(r:List Ad):Prop:=∃a n cap,v=.slice a n cap∧n≤cap∧(a=none→cap=0)∧Bf Bz W a n r
theorem O8.fp{W W':World}{v:Value}{r:List Ad}(h:O8 W v r)(hf:Fp [] W W'):O8 W' v r:=by
 obtain⟨a,n,cap,h1,h2,h3,h4⟩:=h;exact⟨a,n,cap,h1,h2,h3,h4.fp hf⟩
theorem Ae.runV{W:World}{base:Nat}{v:Value}{r:List Ad}(h:Ae Bz W base v r):O8 W v r:=by
 obtain⟨a,cap,h1,h2,h3,h4⟩:=h.at;exact⟨a,_,cap,h1,h3,h2,h4⟩
structure G1(W:World)(a:Option Addr)(n:Nat)(rs:List (List Ad)):Prop where
 len:n=rs.length
 cells:rs=[]∨∃b o,a=some ⟨b,o,none⟩∧b<W.heap.size∧∀i (h:i<rs.length),∃v,W.cell? ⟨b,o+i,none⟩=some v∧O8 W v rs[i]
theorem G1.fp{W W':World}{a:Option Addr}{n:Nat}{rs:List (List Ad)}(h:G1 W a n rs)(hf:Fp [] W W'):G1 W' a n rs:=by
 refine⟨h.len,?_⟩
 rcases h.cells with h0|⟨b,o,e,hb,hc⟩
 ·exact Or.inl h0
 ·refine Or.inr ⟨b,o,e,a0x hb hf.size,fun i hi=>?_⟩;obtain⟨v,h1,h2⟩:=hc i hi;exact⟨v,(hf.cell (p:=⟨b,o+i,none⟩) hb (by simp)).trans h1,h2.fp hf⟩
theorem G1.get{W:World}{a:Option Addr}{n i:Nat}{rs:List (List Ad)}(h:G1 W a n rs)(hi:i<rs.length):∃b o v,a=some ⟨b,o,none⟩∧(∀W',Fp [] W W'→W'.cell? ⟨b,o+i,none⟩=some v∧O8 W' v rs[i]):=by
 rcases h.cells with h0|⟨b,o,e,hb,hc⟩
 ·rw[h0] at hi;exact absurd hi (Nat.not_lt_zero _)
 ·obtain⟨v,h1,h2⟩:=hc i hi;exact⟨b,o,v,e,fun W' hf=>⟨(hf.cell (p:=⟨b,o+i,none⟩) hb (by simp)).trans h1,h2.fp hf⟩⟩
theorem G1.take{W:World}{a:Option Addr}{n:Nat}{rs:List (List Ad)}(h:G1 W a n rs)(m:Nat)(hm:m≤n):G1 W a m (rs.take m):=by
 have hl:=h.len;refine⟨by rw[List.length_take];omega,?_⟩
 rcases h.cells with h0|⟨b,o,e,hb,hc⟩
 ·left;rw[h0];simp
 ·refine Or.inr ⟨b,o,e,hb,fun i hi=>?_⟩;rw[List.getElem_take];exact hc i (by rw[List.length_take] at hi;omega)
theorem G1.drop{W:World}{b o n:Nat}{rs:List (List Ad)}(h:G1 W (some ⟨b,o,none⟩) n rs)(m r:Nat)(hm:m+r=n):G1 W (some ⟨b,o+m,none⟩) r (rs.drop m):=by
 have hl:=h.len;refine⟨by rw[List.length_drop];omega,?_⟩
 rcases h.cells with h0|⟨b',o',e,hb,hc⟩
 ·left;rw[h0];simp
 ·cases e;refine Or.inr ⟨b,o+m,rfl,hb,fun i hi=>?_⟩;rw[List.length_drop] at hi;obtain⟨v,h1,h2⟩:=hc (m+i) (by omega);refine⟨v,by rw[Nat.add_assoc];exact h1,?_⟩;rw[List.getElem_drop];exact h2
theorem Dh.at{α β:Type}{P:α→β→Prop}{l:List α}{m:List β}(h:Dh P l m):∀i (h1:i<l.length) (h2:i<m.length),P l[i] m[i]:=by
 induction h with
 |nil=>intro i h1;exact absurd h1 (Nat.not_lt_zero _)
 |cons hp _ ih=>
  intro i h1 h2
  cases i with
  |zero=>exact hp
  |succ i=>exact ih i (by simpa using h1) (by simpa using h2)
theorem Bg.cell{e:TypeId}{W:World}{base:Nat}{v:Value}{vals:List Value}(h:Bg e W base v vals){i:Nat}(hi:i<vals.length):∃g cap,v=.slice (some ⟨g,0,none⟩) vals.length cap∧vals.length≤cap∧g<W.heap.size∧base≤g∧∀j (hj:j<vals.length),W.cell? ⟨g,j,none⟩=some vals[j]:=by
 rcases h.2 with⟨_,h1⟩|⟨g,cap,cur,hv,hg,hh,hc,_,_,ht⟩
 ·omega
 ·refine⟨g,cap,hv,hc,Ab hh,hg,fun j hj=>?_⟩
  have h2:(cur.toList.take (vals.length*1))[j]?=vals[j]?:=by rw[ht]
  rw[Nat.mul_one,List.getElem?_take,if_pos hj,Array.getElem?_toList,a1w hj] at h2;rw[Aa hh];exact h2
theorem Fa.at{W:World}{base:Nat}{v:Value}{rs:List (List Ad)}(h:Fa W base v rs):∃a cap,v=.slice a rs.length cap∧rs.length≤cap∧(a=none→cap=0)∧G1 W a rs.length rs:=by
 obtain⟨vals,h1,h2⟩:=h;have hl:vals.length=rs.length:=h2.length_eq
 by_cases h0:0<vals.length
 ·obtain⟨g,cap,rfl,hc,hg,_,hcell⟩:=h1.cell h0;refine⟨some ⟨g,0,none⟩,cap,by rw[hl],by omega,(fun e=>by cases e),rfl,Or.inr ⟨g,0,rfl,hg,fun i hi=>⟨vals[i]'(by omega),?_,(h2.at i (by omega) hi).runV⟩⟩⟩;rw[Nat.zero_add];exact hcell i (by omega)
 ·obtain⟨⟨a,cap,e⟩,_⟩:=h1.at;have hr:rs=[]:=List.eq_nil_of_length_eq_zero (by omega)
  rcases h1.2 with⟨e2,_⟩|⟨g,cap2,cur,e2,_,_,hcc,_⟩
  ·subst hr;exact⟨none,0,e2,Nat.le_refl _,fun _=>rfl,rfl,Or.inl rfl⟩
  ·subst hr;exact⟨some ⟨g,0,none⟩,cap2,by rw[e2,hl],Nat.zero_le _,(fun e=>by cases e),rfl,Or.inl rfl⟩
theorem wT(W:World)(v:Value)(r:List Ad)(h:O8 W v r)(hr:Dx r∧Ci r∧r.length≤1000000):
  Calls Tryz.prog 267 #[v] W fun e W'=>e=.returned (.bool false)∧Fp [] W W':=by
 obtain⟨a,n,cap,rfl,h2,h3,h4⟩:=h;have HC:=a0z (tJ W a n cap r h4 hr.1 hr.2.1 (by rw[h4.len];exact hr.2.2));clear h2 h3 h4 hr;go_enter Tryz.func267,Tryz.ntmps267;go_wp2_with (fail);(with_reducible refine HC.out.mono ?_);rintro e w1 ⟨rfl,hf⟩;have HF:=a0z hf;clear hf;go_wp2_with (fail);go_ret;exact⟨rfl,HF.out⟩
theorem wU(W:World)(a:Option Addr)(n cap:Nat)(rs:List (List Ad))(h:G1 W a n rs)(hr:∀r∈rs,Dx r∧Ci r∧r.length≤1000000)(hn:n≤1000000):
  Calls Tryz.prog 291 #[.slice a n cap,.func (.func 267) #[] #[]] W fun e W'=>e=.returned (.int .i64 (-1))∧Fp [] W W':=by
 have HR:=a0z h;have HO:=a0z hr;have HLN:=a0z h.len;clear h hr;go_enter Tryz.func291,Tryz.ntmps291;go_wp2_with (fail)
 go_loopg [8] n (fun gg vi wr=>∃k:Nat,vi=.int .i64 k∧gg+k=n∧Fp [] W wr)
 case atStart=>exact⟨0,rfl,by omega,Fp.refl _ _⟩
 case round=>
  obtain⟨k,rfl,hg,hf⟩:=hrel;have HF:=a0z hf;clear hf
  by_cases hk:k<n
  ·have zk:(k:Int)<(n:Int):=by omega
   have n1:IntKind.i64.wrap ((k:Int)+1)=((k+1:Nat):Int):=by rw[a0u];omega
   have hkl:k<rs.length:=by have:=HLN.out;omega
   obtain⟨b,o,v,e,hc⟩:=HR.out.get hkl;subst e;obtain⟨q,hv⟩:=hc wr HF.out;have HC:=a0z (wT wr v _ hv (HO.out _ (List.getElem_mem hkl)));clear hc hv;go_wp2_with (fail);(with_reducible refine HC.out.mono ?_);rintro e w1 ⟨rfl,hf⟩;have HF2:=a0z (HF.out.trans hf (by simp));clear hf;go_wp2_with (fail)
   go_roundg (gk-1)
   case measure=>omega
   case rel=>exact⟨k+1,by simp,by omega,HF2.out⟩
  ·have zk:¬(k:Int)<(n:Int):=by omega
   go_wp2_with (fail);go_ret;exact⟨rfl,HF.out⟩
theorem iJ(W:World)(a:Option Addr)(n cap:Nat)(rs:List (List Ad))(h:G1 W a n rs)(hr:∀r∈rs,Dx r∧Ci r∧r.length≤1000000)(hn:n≤1000000):
  Calls Tryz.prog 220 #[.slice a n cap] W fun e W'=>e=.returned (.bool true)∧Fp [] W W':=by
 have HI:=a0z (wU W a n cap rs h hr hn)
 have HC:Hid (Calls Tryz.prog 266 #[.slice a n cap,.func (.func 267) #[] #[]] W fun e W'=>e=.returned (.bool false)∧Fp [] W W'):=by
  go_enter Tryz.func266,Tryz.ntmps266;go_wp2_with (fail);(with_reducible refine HI.out.mono ?_);rintro e w1 ⟨rfl,hf⟩;have HF:=a0z hf;clear hf;go_wp2_with (fail);go_ret;exact⟨rfl,HF.out⟩
 clear h hr;go_enter Tryz.func220,Tryz.ntmps220;go_wp2_with (fail);(with_reducible refine HC.out.mono ?_);rintro e w1 ⟨rfl,hf⟩;have HF:=a0z hf;clear hf;go_wp2_with (fail);go_ret;exact⟨rfl,HF.out⟩
end
end Go.Proofs.YtkagolpnaicdoaaGreatDoor
