/-
 block.Parse. Slices of strings that a call owns; append of one string. A slice of the call's own whose elements are of one cell each, of any type; append of one. slices.Chunk of items: a list's parts of so many, as the iterator hands them out; the numbers of the parts. The checksum: by a table of four bits, and by bits: the same.
-/
import Derived.Test.YtkagolpnaicdoaaGreatDoorPBlkE
import Derived.Test.YtkagolpnaicdoaaGreatDoorPBlkC
import Derived.OwnWalkIn
import Derived.TacticsInMore
import Derived.Test.YtkagolpnaicdoaaGreatDoorPRunD
set_option maxRecDepth 100000
set_option maxHeartbeats 8000000
open Go.Lib renaming hid->a0z
open Nat renaming mod_two_eq_zero_or_one->a0x,xor_assoc->a1w,le_trans->a2z
open List renaming cons_append->a0w,length_cons->a0v,nil_append->a0u,eq_nil_of_length_eq_zero->a1z,setIfInBounds_toArray->a1x,getElem?_eq_getElem->a1v
open Array renaming getElem?_toList->a1u
namespace Go.Proofs.YtkagolpnaicdoaaGreatDoor
section
open Go.RowKit
theorem tG{T:TypeId}{w w':World}{base:Nat}{v:Value}{l:List Aa}(i:T≠80)(h:Ao w base v l)(a:w.grownBy w' v.ownBlock)(f:base≤w.heap.size):Aq T base [] w w':=by
 refine⟨a.size,fun k j _ _=>(Yu h a f).block k j,fun k c n _ b=>a.block k (Ac b) fun e=>?_⟩
 rcases h.2 with⟨rfl,_⟩|⟨g,cap,m,rfl,_,d,_⟩
 ·cases e
 ·obtain rfl:k=g:=by simpa [Value.ownBlock] using e
  rw[d] at b;cases b;exact i rfl
theorem tH{w:World}{base:Nat}{v:Value}{l:List Aa}(h:Ao w base v l):∃a cap n,v=.slice a n cap:=by
 rcases h.2 with⟨rfl,_⟩|⟨g,cap,b,rfl,_⟩
 ·exact⟨_,_,_,rfl⟩
 ·exact⟨_,_,_,rfl⟩
theorem tI{F:Fence}{n:Nat}{w:World}{g:Array Oper}{rest:List Oper}{o:Oper}{a:Act}{Q:Exit→Act→World→Prop}(t:o.guard=none)(s x:Operand)
  (K:o.op=.call {callee:=.builtin .append,args:=#[s,x],argTypes:=#[78,78]})(base:Nat)(v:Value)(l:List Aa)(J:a.eval s=v)(f:Ao w base v l)
  (z:Addr)(m c:Nat)(i:List Aa)(I:a.eval x=.slice (some z) m c)(D:Bh w (some z) m i)(C:l.length+i.length<=1000000000)(d:base<=w.heap.size)
  (h:∀k w',Ao w' base k (l++i)->w.grownBy w' v.ownBlock->Below base w w'->wpListIn F n Tryz.prog g Q rest (a.put o.dst k) w'):wpListIn F n Tryz.prog g Q (o::rest) a w:=by
 obtain⟨G,L,r,q,p⟩:=info_parts Tryz.infoCel;have B:=D.len;refine wpListIn_append_own w t s x 78 K base 80 G _ 6 72 Tryz.underlying78 L r q p rfl (by decide) v l.length (l.flatMap Ed) J f z m c (i.flatMap Ed) I (by rw[Wa,B]) ?_ (dE i) (by unfold maxLen;omega) (by omega) d ?_
 ·intro j u A
  rcases D.cells with y|⟨b,o,y,_,M⟩
  ·subst y;simp at A
  ·obtain rfl:=Option.some.inj y
   have O:(⟨b,o,none⟩:Addr).add j=⟨b,o+j,none⟩:=by unfold Addr.add;split<;>simp_all
   rw[O];exact dD M j u A
 ·intro k w' N E _;refine h k w' ?_ E (Yu f E d);unfold Ao;rw[List.length_append,List.flatMap_append,<-B];exact N
theorem tJ{F:Fence}{n:Nat}{P:Program}{c:Code}{Q:Exit->Act->World->Prop}{a:Act}{w:World}{b:Act}{w':World}(h:∀Q':Exit->Act->World->Prop,Q' .normal b w'->c.wpIn F n P Q' a w)(d:Q .normal b w'):c.wpIn F n P Q a w:=h Q d
def Oi(x:E7):Aa:=⟨(Ea x.key).1.row,(Ea x.key).1.col,(Ea x.key).1.ts,(Ea x.key).1.seq,x.del==1,x.val⟩
def Hw:List E7->Option (List Aa)
 |[]=>some []
 |x::xs=>if(Ea x.key).2=0 then(Hw xs).map (Oi x:: ·) else none
def Ls(s:ByteArray):Option (List Aa):=
 if(D7 ((⟨s,!s.toList.isEmpty⟩:Rb).num 1).1 ByteArray.empty ((⟨s,!s.toList.isEmpty⟩:Rb).num 1).2).2.ok=true then
  Hw (D7 ((⟨s,!s.toList.isEmpty⟩:Rb).num 1).1 ByteArray.empty ((⟨s,!s.toList.isEmpty⟩:Rb).num 1).2).1
 else none
def Ej(s:ByteArray):Option (List Aa):=match Ls s with
 |none=>none
 |some l=>if(Da l).2=0/\(Da l).1=s then some l else none
def Qy(s:ByteArray):Int:=match Ej s with
 |some _=>0
 |none=>50
def C1(i:Nat)(w0:World)(rb:Nat)(r r':Rb)(b:Nat->Bool)(w:World):Prop:=Fp [rb] w0 w/\D1 w rb (bif b i then r' else r)
theorem C1.fp{i:Nat}{a w:World}{rb:Nat}{r d:Rb}{b:Nat->Bool}(h:C1 i a rb r d b w):Fp [rb] a w:=h.1
theorem C1.first{i:Nat}{a w:World}{rb:Nat}{r d:Rb}{b:Nat->Bool}(h:C1 i a rb r d b w)(f:b i=false):D1 w rb r:=by have:=h.2;rw[f] at this;exact this
theorem C1.last{i:Nat}{a w:World}{rb:Nat}{r r':Rb}{b:Nat->Bool}(h:C1 i a rb r r' b w)(d:b i=true):D1 w rb r':=by have:=h.2;rw[d] at this;exact this
theorem C1.did{i:Nat}{d w w':World}{rb:Nat}{r a:Rb}{b:Nat->Bool}(h:C1 i d rb r a b w)(f:D1 w' rb a)(g:Fp [rb] w w'):C1 i d rb r a (Ah b i) w':=
 ⟨h.1.trans g (by simp),by rw[Sr];exact f⟩
theorem C1.on{i j:Nat}{d w w':World}{rb:Nat}{r f:Rb}{b:Nat->Bool}(h:C1 i d rb r f b w)(a:i≠j)(g:Fp [] w w'):C1 i d rb r f (Ah b j) w':=
 ⟨h.1.trans g (by simp),by rw[U4 a];exact h.2.fp g (by simp)⟩
def U8(w0:World)(rb many:Nat)(w:World)(v:Value):Prop:=∃bm bp,v=.func (.func 205) #[] #[.pointer (some ⟨bm,0,none⟩),.pointer (some ⟨bp,0,none⟩)]/\
 w.heap[bm]?=some (.cells #[.int .i64 many] 3 (0,0))/\w.heap[bp]?=some (.cells #[.pointer (some ⟨rb,0,none⟩)] 201 (0,0))/\w0.heap.size<=bm/\w0.heap.size<=bp
theorem U8.fp{a w w':World}{rb many:Nat}{v:Value}{S:List Nat}(h:U8 a rb many w v)(d:Fp S w w')(f:∀k∈S,k<a.heap.size):U8 a rb many w' v:=by
 obtain⟨l,j,e,i,g,n,m⟩:=h;exact⟨l,j,e,(d.block l (Ac i) (fun b=>by have:=f _ b;omega)).trans i,(d.block j (Ac g) (fun b=>by have:=f _ b;omega)).trans g,n,m⟩
theorem tK(a w:World)(rb many:Nat)(b:a.heap.size<=w.heap.size):Calls Tryz.prog 132 #[.pointer (some ⟨rb,0,none⟩),.int .i64 many] w fun e w'=>∃v,e=.returned v/\U8 a rb many w' v/\Fp [] w w':=by
 go_enter Tryz.func132,Tryz.ntmps132;go_wp2_with (fail);go_ret;exact⟨_,rfl,⟨w.heap.size+1,w.heap.size,rfl,Ai (by simp) _,Bw (Ai rfl _),by omega,by omega⟩,(Fp.alloc _ _).alloc' _⟩
theorem tL{last:ByteArray}{r g:Rb}{x:E7}(h:Oh last r=(some x,g)):x.key.size+g.rest.size≤last.size+r.rest.size∧x.val.size≤r.rest.size:=by
 obtain⟨⟨n,r1⟩,b⟩:∃t,r.num 2=t:=⟨_,rfl⟩
 obtain⟨⟨m,w⟩,a⟩:∃t,r1.num 2=t:=⟨_,rfl⟩
 obtain⟨⟨t,u⟩,o⟩:∃t,w.take m=t:=⟨_,rfl⟩
 obtain⟨⟨d,s⟩,l⟩:∃t,u.num 1=t:=⟨_,rfl⟩
 obtain⟨⟨v,q⟩,k⟩:∃t,s.num 1=t:=⟨_,rfl⟩
 obtain⟨⟨p,z⟩,j⟩:∃t,q.take v=t:=⟨_,rfl⟩
 by_cases i:n<=last.size
 ·rw[Z5 b a i o l k j] at h;have F:=(Nj b).2;have E:=(Nj a).2;have D:=Xa o;have C:=(Nj l).2;have B:=(Nj k).2;have A:=Xa j;simp only[Prod.mk.injEq] at h;obtain⟨f,y⟩:=h;split at f
  ·cases f;subst y;simp only[ByteArray.size_append,ByteArray.size_extract];omega
  ·cases f
 ·rw[fM b a i] at h;cases h
theorem Xb:∀(k:Nat) (last:ByteArray) (r:Rb),∀x∈(D7 k last r).1,x.key.size≤last.size+r.rest.size∧x.val.size≤last.size+r.rest.size
 |0,_,_,x,h=>by cases h
 |k+1,last,r,x,h=>by
  unfold D7 at h;split at h
  ·cases h
  ·rename_i y a b;have d:=tL b
   rcases List.mem_cons.1 h with rfl|h
   ·omega
   ·have:=Xb k y.key a x h;omega
theorem Z6:∀(k:Nat) (last:ByteArray) (r:Rb),(D7 k last r).1.length≤k
 |0,_,_=>Nat.le_refl _
 |k+1,last,r=>by
  unfold D7;split
  ·exact Nat.zero_le _
  ·exact Nat.succ_le_succ (Z6 k _ _)
theorem fO{s:ByteArray}(h:(Ea s).2=0):∃a b d seq,d≤A8∧seq≤A8∧Ea s=(Fo a b d seq,0)∧B8 (Fo a b d seq)=true∧bl (Bq (Fo a b d seq))=s:=by
 rcases iH s with e|⟨a,b,d,seq,j,i,g,f⟩
 ·rw[e] at h;cases h
 ·refine⟨a,b,d,seq,j,i,g,?_⟩;cases hb:B8 (Fo a b d seq)
  ·exfalso;unfold Oj at f;rw[hb] at f;have:s=⟨#[]⟩:=f.symm;rw[this,uZ] at h;cases h
  ·exact⟨rfl,by rw[<-uU hb];exact f⟩
theorem fP{x:E7}(h:(Ea x.key).2=0)(j:x.val.size<=1000000):B3 (Oi x):=by
 obtain⟨a,b,f,seq,m,l,i,g,_⟩:=fO h;have d:=Sl g;have k:A8=18446744073709551615:=rfl;unfold Oi;rw[i];exact⟨by show f<_;omega,by show seq<_;omega,by show a.size<=_;have:=d.1;simp only[Fo] at this;omega,by show b.size<=_;have:=d.2.1;simp only[Fo] at this;omega,by show x.val.size<=_;omega⟩
theorem fQ:∀{b:List E7} {a:List Aa} {x:E7},Hw b=some a→(Ea x.key).2=0→Hw (b++[x])=some (a++[Oi x])
 |[],a,x,h,hx=>by
  cases h;show(if(Ea x.key).2=0 then(Hw []).map (Oi x:: ·) else none)=_;rw[if_pos hx];rfl
 |y::b,a,x,h,hx=>by
  rw[a0w];unfold Hw at h ⊢;split at h
  ·rename_i f;rw[if_pos f];obtain⟨d,g,rfl⟩:=Option.map_eq_some_iff.1 h;rw[fQ g hx];rfl
  ·cases h
theorem fR:∀{b:List E7} {x:E7} (a:List E7),(Ea x.key).2≠0→Hw (b++x::a)=none
 |[],x,a,hx=>by
  rw[a0u];unfold Hw;rw[if_neg hx]
 |y::b,x,a,hx=>by
  rw[a0w];unfold Hw;split
  ·rw[fR a hx];rfl
  ·rfl
theorem Z7:∀{b:List E7} {a:List Aa},Hw b=some a→a.length=b.length
 |[],a,h=>by cases h;rfl
 |y::b,a,h=>by
  unfold Hw at h;split at h
  ·obtain⟨d,f,rfl⟩:=Option.map_eq_some_iff.1 h;rw[a0v,a0v,Z7 f]
  ·cases h
theorem Z8:∀{l:List E7} {a:List Aa},(∀x∈l,x.val.size≤1000000)→Hw l=some a→∀c∈a,B3 c
 |[],a,_,h=>by cases h;simp
 |y::l,a,hv,h=>by
  unfold Hw at h;split at h
  ·rename_i f;obtain⟨d,i,rfl⟩:=Option.map_eq_some_iff.1 h;intro c b
   rcases List.mem_cons.1 b with rfl|b
   ·exact fP f (hv y (by simp))
   ·exact Z8 (fun x g=>hv x (List.mem_cons_of_mem _ g)) i c b
  ·cases h
theorem Xc{s:ByteArray}{many:Nat}{r1:Rb}(h:(⟨s,!s.toList.isEmpty⟩:Rb).num 1=(many,r1)):Ls s=if(D7 many ByteArray.empty r1).2.ok=true then Hw (D7 many ByteArray.empty r1).1 else none:=by
 unfold Ls;rw[h]
theorem fS{s:ByteArray}(h:Ls s=none):Ej s=none:=by unfold Ej;rw[h]
theorem fU{s:ByteArray}{l:List Aa}(h:Ls s=some l)(b:(Da l).2=0)(a:(Da l).1=s):Ej s=some l:=by
 unfold Ej;rw[h];exact if_pos ⟨b,a⟩
theorem fV{s:ByteArray}{l:List Aa}(h:Ls s=some l)(a:¬((Da l).2=0/\(Da l).1=s)):Ej s=none:=by
 unfold Ej;rw[h];exact if_neg a
theorem U9{s:ByteArray}(h:Ej s=none):Qy s=50:=by unfold Qy;rw[h]
theorem fW{s:ByteArray}{l:List Aa}(h:Ej s=some l):Qy s=0:=by unfold Qy;rw[h]
structure Qz(w w1:World)(pre:List E7)(W:World):Prop where
 ex:∃acc v,Hw pre=some acc/\W.heap[w.heap.size+2]?=some (.cells #[v] 78 (0,0))/\Ao W (w1.heap.size+2) v acc
 box:W.heap[w.heap.size+1]?=some (.cells #[.pointer (some ⟨w.heap.size,0,none⟩)] 201 (0,0))
 rd:∃r,D1 W w.heap.size r
 fp:Fp [] w W
structure Xd(w:World)(many:Nat)(r1:Rb)(_pre:List E7)(W:World):Prop where
 bad:Hw (D7 many ByteArray.empty r1).1=none
 rd:∃rest,D1 W w.heap.size ⟨rest,false⟩
 box:W.heap[w.heap.size+1]?=some (.cells #[.pointer (some ⟨w.heap.size,0,none⟩)] 201 (0,0))
 fp:Fp [] w W
theorem Qz.on{w a A B:World}{b:List E7}{k:Nat}(h:Qz w a b A)(d:Fp [k] A B)(l:k=a.heap.size∨k=a.heap.size+1)(m:w.heap.size+3<=a.heap.size):Qz w a b B:=by
 obtain⟨f,v,e,g,j⟩:=h.ex;obtain⟨r,i⟩:=h.rd;exact⟨⟨f,v,e,(d.block _ (Ac g) (by simp;omega)).trans g,j.fp d (by simp;omega)⟩,(d.block _ (Ac h.box) (by simp;omega)).trans h.box,⟨r,i.fp d (by simp;omega)⟩,h.fp.trans d (by simp;omega)⟩
theorem Qz.rb{w d A B:World}{a:List E7}(h:Qz w d a A)(b:Fp [w.heap.size] A B)(i:∃r,D1 B w.heap.size r)(k:w.heap.size+3<=d.heap.size):Qz w d a B:=by
 obtain⟨f,v,e,g,j⟩:=h.ex;exact⟨⟨f,v,e,(b.block _ (Ac g) (by simp)).trans g,j.fp b (by simp;omega)⟩,(b.block _ (Ac h.box) (by simp)).trans h.box,i,h.fp.trans b (by simp)⟩
theorem Xd.on{w d A B:World}{many:Nat}{r1:Rb}{a:List E7}(h:Xd w many r1 a A)(b:Fp [d.heap.size+1] A B)(g:w.heap.size+3<=d.heap.size):Xd w many r1 a B:=by
 obtain⟨rest,f⟩:=h.rd;exact⟨h.bad,⟨rest,f.fp b (by simp;omega)⟩,(b.block _ (Ac h.box) (by simp;omega)).trans h.box,h.fp.trans b (by simp;omega)⟩
attribute [local go_sem] Oper.semAt_some
def fX(w:World)(s:ByteArray)(many bm bp B:Nat)(x:E7):Act:={tmps:=#[Value.string s,undef,Value.slice none 0 0,Value.int .i64 0,Value.pointer (some ⟨w.heap.size+1,0,none⟩),Value.pointer (some ⟨w.heap.size+1+1,0,none⟩),Value.pointer (some ⟨B,0,none⟩),undef,undef,undef,undef,Value.string s,Value.string s,Value.bool (!s.toList.isEmpty),Value.agg #[Value.string s,Value.bool (!s.toList.isEmpty)],Value.pointer (some ⟨w.heap.size,0,none⟩),Value.pointer (some ⟨w.heap.size,0,none⟩),Value.pointer (some ⟨w.heap.size,0,none⟩),Value.int .i64 many,Value.func (.func 205) #[] #[.pointer (some ⟨bm,0,none⟩),.pointer (some ⟨bp,0,none⟩)],Value.agg #[.string x.key,.int .u8 x.del,.string x.val],undef,undef,undef,undef,undef,undef,undef,undef,undef,undef,undef,undef,undef,undef,undef,undef,undef,undef,undef,undef,undef,undef,undef,undef,undef,undef,undef,undef,undef,undef,undef,undef,undef,undef,undef,undef,undef,undef,undef,undef],defers:=[]}
theorem tM(w:World)(s:ByteArray)(hs:s.size≤100000)(hm:Ia w):
  Calls Tryz.prog 76 #[.string s] w fun e w'=>∃v,e=.returned (.tuple #[v,.int .i64 (Qy s)])/\Ao w' w.heap.size v ((Ej s).getD [])/\Fp [] w w':=by
 have HM:=a0z hm;clear hm;rw[<-callsIn_wide (n:=5)];refine callsIn_of_wp_marks Tryz.func76 rfl trivial ?_ rfl;simp only[Tryz.ntmps76,List.size_toArray,a0v,List.length_nil,Nat.reduceAdd,Nat.reduceSub,Array.replicate_succ,Array.replicate_zero,List.push_toArray,List.append_toArray,a0u,a0w]
 gi_wp2_with (fail)
 refine wpIn_wide.2 ?_
 have a6:∀W,Fp [w.heap.size] (((w.alloc (.cells #[.string s,.bool (!s.toList.isEmpty)] 203)).alloc (.cells #[.pointer (some ⟨w.heap.size,0,none⟩)] 201)).alloc (.cells #[.slice none 0 0] 78)) W->W.cell? ⟨w.heap.size+1,0,none⟩=some (.pointer (some ⟨w.heap.size,0,none⟩)):=fun W C=>
  Ab ((C.block (w.heap.size+1) (by simp) (by simp)).trans (Bw (Ai (by simp) _))) 0
 obtain⟨t1,R⟩:∃t,(⟨s,!s.toList.isEmpty⟩:Rb).num 1=t:=⟨_,rfl⟩
 obtain⟨many,r1⟩:=t1;have b1:=Nj R;have M1:=a0z (U5 (b:=w.heap.size) 1 R rfl (by omega) (by show s.size<=_;omega));have ah:D1 (((w.alloc (.cells #[.string s,.bool (!s.toList.isEmpty)] 203)).alloc (.cells #[.pointer (some ⟨w.heap.size,0,none⟩)] 201)).alloc (.cells #[.slice none 0 0] 78)) w.heap.size ⟨s,!s.toList.isEmpty⟩:=Bw (Bw (Ai rfl _));have aj:(((w.alloc (.cells #[.string s,.bool (!s.toList.isEmpty)] 203)).alloc (.cells #[.pointer (some ⟨w.heap.size,0,none⟩)] 201)).alloc (.cells #[.slice none 0 0] 78)).heap[w.heap.size+2]?=some (.cells #[.slice none 0 0] 78 (0,0)):=Ai (by simp) _;have z:(((w.alloc (.cells #[.string s,.bool (!s.toList.isEmpty)] 203)).alloc (.cells #[.pointer (some ⟨w.heap.size,0,none⟩)] 201)).alloc (.cells #[.slice none 0 0] 78)).heap[w.heap.size+1]?=some (.cells #[.pointer (some ⟨w.heap.size,0,none⟩)] 201 (0,0)):=Bw (Ai (by simp) _);have N:Fp [] w (((w.alloc (.cells #[.string s,.bool (!s.toList.isEmpty)] 203)).alloc (.cells #[.pointer (some ⟨w.heap.size,0,none⟩)] 201)).alloc (.cells #[.slice none 0 0] 78)):=((Fp.alloc _ _).alloc' _).alloc' _
 obtain⟨w0,af⟩:∃w0,(((w.alloc (.cells #[.string s,.bool (!s.toList.isEmpty)] 203)).alloc (.cells #[.pointer (some ⟨w.heap.size,0,none⟩)] 201)).alloc (.cells #[.slice none 0 0] 78))=w0:=⟨_,rfl⟩
 have b4:w0.heap.size=w.heap.size+3:=by rw[<-af];simp
 rw[af] at a6 ah aj z N ⊢;have ar:=a0z R;have bz:=a0z ah;have bc:=a0z aj;have ad:=a0z z;have b3:=a0z N;clear af R ah aj z N;refine Ft (C1 2 w0 w.heap.size ⟨s,!s.toList.isEmpty⟩ r1) (Fp [w.heap.size]) (by kernel_rfl) (by kernel_rfl) ⟨(Fp.drew _ :Fp [] w0 w0.drew).mono (by simp),bz.out.fp (Fp.drew _ :Fp [] w0 w0.drew) (by simp)⟩ ?_
 iterate 2
  apply Be (fun _ _ h=>h) rfl rfl rfl
  ·intro b a w G hA K D
   try have h4:=hA.fr 4 rfl
   have q:=a6 _ G.fp;simp only[Oper.wp,execOp];go_simp;exact D _ G (Fp.refl _ _)
 apply Fb (B6 (.int .i64 many)) rfl rfl rfl
 ·intro b a w G hA K D;have cj:=hA.eq 1 17 rfl;simp only[Oper.wp,execOp];go_simp;(with_reducible refine(M1.out _ (G.first hA.self)).mono ?_);rintro e w2 ⟨rfl,bo,d,ce⟩;exact D _ _ (G.did bo d) d rfl
 apply Fb (U8 w0 w.heap.size many) rfl rfl rfl
 ·intro b a w G hA K D;have ck:=hA.eq 0 16 rfl;have ci:=hA.eq 2 18 rfl;simp only[Oper.wp,execOp];go_simp;(with_reducible refine(tK w0 _ _ _ G.fp.size).mono ?_);rintro e w2 ⟨v,rfl,Z,d⟩;exact D _ _ (G.on (by decide) d) (d.mono (by simp)) Z
 refine⟨?_,?_⟩
 ·refine⟨fun _ _ _ C h=>h.fp C (by simp;omega),?_⟩;refine⟨fun _ _ _ _ h=>h,?_⟩;refine Cc _ ?_;refine Cc _ ?_;exact trivial
 ·intro V bb G an;simp only[List.reverse_cons,List.reverse_nil,a0u,a0w]
  iterate 2 (refine Am ?_)
  refine Ap ?_;intro v2 u2;obtain rfl:=u2;refine Ap ?_;intro v3 u3;refine A0 ?_;simp only[Aj,Act.put,a1x,List.set_cons_succ,List.set_cons_zero];obtain⟨bm,bp,rfl,a2,a0,b8,z⟩:=u3;have bh:=a0z a2;have bg:=a0z a0;have ba:=a0z (G.last (an 2 (by decide)));have U:=a0z G.fp;clear G an a2 a0;have cd:w0.heap.size<=V.heap.size:=U.out.size;have a1:=Ac bh.out;have aS:=Ac bg.out
  gi_wp2_with (fail)
  refine Sm (α:=E7) (encs:=W9) rfl (enters_of Tryz.func205 (by kernel_rfl) rfl) (fun _=>rfl) 209 [w.heap.size+2] [w.heap.size] (by simp;omega) (by simp;omega) w.heap.size (by omega) 0
   (fun ae x=>∃L,(D7 many ByteArray.empty r1).1=ae++x::L) (Qz w V) (Xd w many r1) (fun xs W=>xs=(D7 many ByteArray.empty r1).1/\D1 W w.heap.size (D7 many ByteArray.empty r1).2)
   (fun W=>∃r,D1 W w.heap.size r) (fun s A B k h C hk=>h.on C hk (by omega)) (fun s A B h C Y=>h.rb C Y (by omega)) (fun s A B h C=>h.on C (by omega)) (fun s A B h C=>⟨h.1,h.2.fp C (by simp;omega)⟩) ?_ ?_ (fun x a' W=>∃B,a'=fX w s many bm bp B x/\W.heap[B]?=some (.cells x.cells 209 (0,0))/\V.heap.size+2<=B) ?_ ?_ ?_ ?_ ?_
  ·intro J Jx W1 al aw hJ hY bw
   exact tF (V.heap.size+2) (V.heap.size+1) (5-1) many bm bp w.heap.size W1 r1 (by decide) ((al.block _ a1 (by simp)).trans bh.out) ((al.block _ aS (by simp)).trans bg.out) (ba.out.fp al (by simp))
    (by have:(⟨s,!s.toList.isEmpty⟩:Rb).rest.size=s.size:=rfl;omega) (by omega) aw (by omega) (by omega) (by omega) (by omega) (by omega) (by omega) (by omega) (by omega) [w.heap.size+2] (by simp;omega) J Jx hJ hY bw
  ·exact⟨⟨[],.slice none 0 0,rfl,(U.out.block _ (Ac bc.out) (by simp)).trans bc.out,Ao.nil _ _⟩,(U.out.block _ (Ac ad.out) (by simp)).trans ad.out,⟨_,ba.out⟩,b3.out.trans U.out (by simp)⟩
  ·rintro x a' A B ⟨B0,e,hB,bq⟩ C;exact⟨B0,e,(C.block _ (Ac hB) (by simp;omega)).trans hB,bq⟩
  ·intro l x W K hW D;simp only[W9]
   gi_wp2_with (fail)
   exact D _ _ (Fp.alloc _ _) ⟨W.heap.size,rfl,Ai rfl _,hW⟩
  ·rintro l ae x a' W ⟨L,j⟩ P hW ⟨B,rfl,hB,ch⟩
   have ab:x∈(D7 many ByteArray.empty r1).1:=by rw[j];simp
   have bk:=Xb _ _ _ x ab
   have bn:x.key.size<=100000:=by have:ByteArray.empty.size=0:=rfl;omega
   have bj:x.val.size<=1000000:=by have:ByteArray.empty.size=0:=rfl;omega
   obtain⟨acc,v,f,Z,ho⟩:=P.ex;have a5:=Z7 f;have M:=Z6 many ByteArray.empty r1;rw[j] at M
   have b9:acc.length<=255:=by simp at M;omega
   obtain⟨r,S⟩:=P.rd;have q0:W.cell? ⟨B,0,none⟩=some (.string x.key):=Ab hB 0;have bd:=a0z (uT x.key W (HM.out.fp P.fp (by simp)) bn);have I:=a0z P;have HV:=a0z Z;have HO:=a0z ho;have HB:=a0z hB;have HR:=a0z S;have g:=a0z f;clear P Z ho hB S f ab bk M;unfold fX
   gi_wp2_with (fail)
   refine⟨trivial,?_⟩;(with_reducible refine(CallsIn.inRound l ((callsIn_wide (n:=2)).2 bd.out)).mono ?_);rintro e w2 ⟨rfl,d⟩;have o:=a0z d;have u:=a0z ((d.block _ (Ac I.out.box) (by simp)).trans I.out.box);have E:=a0z (HR.out.fp d (by simp));have bi:=a0z ((d.block _ (Ac HB.out) (by simp)).trans HB.out);have ap:=a0z ((d.block _ (Ac HV.out) (by simp)).trans HV.out);have F:=a0z (HO.out.fp d (by simp));have cg:V.heap.size+2<=w2.heap.size:=a2z hW d.size;have b5:w.heap.size<w2.heap.size:=Ac E.out
   have qb:∀X:Obj,(w2.alloc X).cell? ⟨w.heap.size+1,0,none⟩=some (.pointer (some ⟨w.heap.size,0,none⟩)):=fun X=>Ab (Bw u.out) 0
   have qr:∀X:Obj,(w2.alloc X).cell? ⟨w.heap.size,1,none⟩=some (.bool r.ok):=fun X=>Ab (Bw E.out) 1
   have qf:∀X:Obj,(w2.alloc X).frozen? ⟨w.heap.size,1,none⟩=false:=fun X=>Ar (Bw E.out) 1
   have qd:∀X:Obj,(w2.alloc X).cell? ⟨B,1,none⟩=some (.int .u8 x.del):=fun X=>Ab (Bw bi.out) 1
   have qe:∀X:Obj,(w2.alloc X).cell? ⟨B,2,none⟩=some (.string x.val):=fun X=>Ab (Bw bi.out) 2
   have qv:∀X:Obj,(w2.alloc X).cell? ⟨w.heap.size+1+1,0,none⟩=some v:=fun X=>Ab (Bw ap.out) 0
   have qg:∀X:Obj,(w2.alloc X).frozen? ⟨w.heap.size+1+1,0,none⟩=false:=fun X=>Ar (Bw ap.out) 0
   clear d bd
   by_cases Y:(Ea x.key).2=0
   ·obtain⟨i,m,ts,seq,ht,hq,he,b6,b7⟩:=fO Y;rw[he];rw[show Bm (Fo i m ts seq)=.agg #[.string i,.string m,.int .u64 ts,.int .u64 seq,.bool false,.string ⟨#[]⟩] from rfl];have bf:=a0z (fP Y bj);have a8:=a0z (fQ g.out Y)
    have aF:Oi x=⟨i,m,ts,seq,x.del==1,x.val⟩:=by unfold Oi;rw[he];rfl
    obtain⟨dl,bt⟩:∃dl,((x.del:Int)==1)=dl:=⟨_,rfl⟩
    have ac:(x.del==1)=dl:=by
     rw[<-bt]
     by_cases h1:x.del=1
     ·rw[h1];rfl
     ·rw[beq_eq_false_iff_ne.2 h1,beq_eq_false_iff_ne.2 (by omega)]
    rw[aF,ac] at bf a8;clear aF ac
    gi_wp2_with (fail)
    apply tJ
    ·intro Q' bv
     gi_region
     all_goals exact bv
    gi_wp2_with (gi_at_builtin;(refine tI rfl _ _ rfl (V.heap.size+2) _ acc rfl (((F.out.fp (Fp.alloc _ _) (by simp)).fp (Fp.drew _) (by simp)).fp (Fp.alloc _ _) (by simp)) _ _ _ [⟨i,m,ts,seq,dl,x.val⟩] rfl (Di.one (Ai (by simp) _) bf.out) (by simp;omega) (by simp;omega) ?_);intro v3 w3 ai ay ao;obtain⟨a3,a7,n3,rfl⟩:=tH ai;have b0:=a0z ai;have b2:=a0z ay;have O:=a0z ao;have Q:=(ao.block (w.heap.size+2) (by omega)).trans (Bw (Bw ap.out));have ca:w3.cell? ⟨w.heap.size+1+1,0,none⟩=some v:=Ab Q 0;have cc:w3.frozen? ⟨w.heap.size+1+1,0,none⟩=false:=Ar Q 0;have bx:=a0z Q;clear ai ay ao Q)
    have br:=(Aq.of ((o.out.alloc' (.cells #[.string i,.string m,.int .u64 ts,.int .u64 seq,.bool dl,.string x.val] 80)).drew'.alloc' (.cells #[.string i,.string m,.int .u64 ts,.int .u64 seq,.bool dl,.string x.val] 80)) (by simp):Aq 209 (V.heap.size+2) [] W _).trans (tG (by decide) (((F.out.fp (Fp.alloc _ _) (by simp)).fp (Fp.drew _) (by simp)).fp (Fp.alloc _ _) (by simp)) b2.out (by simp;omega)) (by simp);have T:=Fp.setCell w3 ⟨w.heap.size+1+1,0,none⟩ (.slice a3 n3 a7);refine⟨(br.mono (by simp)).trans (Aq.of T (by simp;omega)) (by simp),⟨⟨_,_,a8.out,(Bd bx.out _).trans rfl,b0.out.fp T (by simp;omega)⟩,?_,⟨r,?_⟩,?_⟩⟩
    ·exact(T.block _ (Nat.lt_of_lt_of_le (Ac u.out) (by have:=O.out.size;simp at this;omega)) (by simp)).trans ((O.out.block _ (by omega)).trans (Bw (Bw u.out)))
    ·exact(T.block _ (Nat.lt_of_lt_of_le (Ac E.out) (by have:=O.out.size;simp at this;omega)) (by simp;omega)).trans ((O.out.block _ (by omega)).trans (Bw (Bw E.out)))
    ·exact((((I.out.fp.trans o.out (by simp)).alloc' _).drew'.alloc' _).belowTrans (O.out.mono (by omega))).setCell' (Or.inr (by show w.heap.size<=w.heap.size+1+1;omega)) _
   ·have he:Ea x.key=(Az,1):=by
     rcases iH x.key with e|⟨i,m,ts,seq,_,_,e,_⟩
     ·exact e
     ·rw[e] at Y;exact absurd rfl Y
    rw[he];rw[show Bm Az=.agg #[.string ⟨#[]⟩,.string ⟨#[]⟩,.int .u64 0,.int .u64 0,.bool false,.string ⟨#[]⟩] from rfl]
    gi_wp2_with (fail)
    have ak:=((o.out.mono (by simp):Fp [w.heap.size] W w2).setCell' (p:=⟨w.heap.size,1,none⟩) (Or.inl (by simp)) (.bool false)).alloc' (.cells #[.string ⟨#[]⟩,.string ⟨#[]⟩,.int .u64 0,.int .u64 0,.bool false,.string ⟨#[]⟩] 80);refine⟨Aq.of ak (by simp;omega),by rw[j];exact fR L Y,⟨r.rest,?_⟩,?_,I.out.fp.trans ak (by simp)⟩
    ·exact Bw ((Bd E.out _).trans rfl)
    ·exact(ak.block _ (Ac I.out.box) (by simp)).trans I.out.box
  ·rintro xs W ⟨rfl,S⟩ P D;have q0:W.cell? ⟨w.heap.size+1,0,none⟩=some (.pointer (some ⟨w.heap.size,0,none⟩)):=Ab P.box 0;obtain⟨acc,v,f,Z,ho⟩:=P.ex
   obtain⟨rf,ag⟩:∃rf,(D7 many ByteArray.empty r1).2=rf:=⟨_,rfl⟩
   rw[ag] at S;have q1:W.cell? ⟨w.heap.size,1,none⟩=some (.bool rf.ok):=Ab S 1;have q2:W.cell? ⟨w.heap.size+1+1,0,none⟩=some v:=Ab Z 0;have a9:=a0z ag;have HK:=a0z D;have I:=a0z P;have HV:=a0z Z;have HO:=a0z ho;have g:=a0z f;clear S P D f Z ho ag;cases hok:rf.ok
   ·rw[hok] at q1
    gi_wp2_with (fail)
    refine⟨by simp,.inl ⟨_,_,rfl,run_takeDeferred HK.out,?_⟩⟩;have y:Ej s=none:=fS (by rw[Xc ar.out,a9.out,hok];rfl);exact⟨.tuple #[.slice none 0 0,.int .i64 50],by simp[results,Tryz.results76,go_sem],.slice none 0 0,by rw[U9 y],by rw[y];exact Ao.nil _ _,I.out.fp.trans (Fp.putObj _ _ _) (by simp;omega)⟩
   ·rw[hok] at q1
    have ax:Ls s=some acc:=by rw[Xc ar.out,a9.out,hok,<-g.out];rfl
    have a5:=Z7 g.out;have M:=Z6 many ByteArray.empty r1;have aa:=Z8 (fun x hx=>by have:=(Xb _ _ _ x hx).2;have:ByteArray.empty.size=0:=rfl;omega) g.out;obtain⟨a,cap,rfl,az⟩:=HO.out.at aa;have av:=a0z (fG W a acc.length cap acc az (by omega) (HM.out.fp I.out.fp (by simp)))
    obtain⟨⟨bs,be⟩,hb⟩:∃t,Da acc=t:=⟨_,rfl⟩
    rw[hb] at av;have aq:=a0z ax;have HB:=a0z hb;clear az ax hb aa a5 M
    gi_wp2_with (fail)
    refine⟨trivial,?_⟩;(with_reducible refine((callsIn_wide (n:=4)).2 av.out).mono ?_);rintro e w2 ⟨rfl,d⟩;have o:=a0z d;have au:=a0z ((d.block _ (Ac HK.out) (by simp)).trans HK.out);have F:=a0z (HO.out.fp d (by simp));have q3:w2.cell? ⟨w.heap.size+1+1,0,none⟩=some (.slice a acc.length cap):=Ab ((d.block _ (Ac HV.out) (by simp)).trans HV.out) 0;clear d av
    by_cases a4:be=0
    ·subst a4
     by_cases am:bs=s
     ·subst am
      gi_wp2_with (fail)
      refine⟨by simp,.inl ⟨_,_,rfl,run_takeDeferred au.out,?_⟩⟩;have y:Ej bs=some acc:=fU aq.out (by rw[HB.out]) (by rw[HB.out]);exact⟨.tuple #[.slice a acc.length cap,.int .i64 0],by simp[results,Tryz.results76,go_sem],.slice a acc.length cap,by rw[fW y],by rw[y];exact(F.out.mono (by omega)).kept (fun k hk=>(Fp.putObj _ _ _).block k ((F.out.lt k hk).2) (by have:=(F.out.lt k hk).1;simp;omega)),(I.out.fp.trans o.out (by simp)).trans (Fp.putObj _ _ _) (by simp;omega)⟩
     ·have an:(bs.toList==s.toList)=false:=by rw[beq_eq_false_iff_ne];exact fun e=>am (Xl e)
      gi_wp2_with (fail)
      refine⟨by simp,.inl ⟨_,_,rfl,run_takeDeferred au.out,?_⟩⟩;have y:Ej s=none:=fV aq.out (fun h=>am (by have:=h.2;rw[HB.out] at this;exact this));exact⟨.tuple #[.slice none 0 0,.int .i64 50],by simp[results,Tryz.results76,go_sem],.slice none 0 0,by rw[U9 y],by rw[y];exact Ao.nil _ _,(I.out.fp.trans o.out (by simp)).trans (Fp.putObj _ _ _) (by simp;omega)⟩
    ·have cf:¬(be:Int)=0:=by omega
     gi_wp2_with (fail)
     refine⟨by simp,.inl ⟨_,_,rfl,run_takeDeferred au.out,?_⟩⟩;have y:Ej s=none:=fV aq.out (fun h=>a4 (by have:=h.1;rw[HB.out] at this;exact this));exact⟨.tuple #[.slice none 0 0,.int .i64 50],by simp[results,Tryz.results76,go_sem],.slice none 0 0,by rw[U9 y],by rw[y];exact Ao.nil _ _,(I.out.fp.trans o.out (by simp)).trans (Fp.putObj _ _ _) (by simp;omega)⟩
  ·rintro ae W hX D;have q0:W.cell? ⟨w.heap.size+1,0,none⟩=some (.pointer (some ⟨w.heap.size,0,none⟩)):=Ab hX.box 0;obtain⟨rest,S⟩:=hX.rd;have q1:W.cell? ⟨w.heap.size,1,none⟩=some (.bool false):=Ab S 1;have HK:=a0z D;have HX:=a0z hX;clear S hX D
   gi_wp2_with (fail)
   refine⟨by simp,.inl ⟨_,_,rfl,run_takeDeferred HK.out,?_⟩⟩;have y:Ej s=none:=fS (by rw[Xc ar.out,HX.out.bad];split<;>rfl);exact⟨.tuple #[.slice none 0 0,.int .i64 50],by simp[results,Tryz.results76,go_sem],.slice none 0 0,by rw[U9 y],by rw[y];exact Ao.nil _ _,HX.out.fp.trans (Fp.putObj _ _ _) (by simp;omega)⟩
end
section
section
open Go.RowKit
def Db(w:World)(base:Nat)(v:Value)(l:List ByteArray):Prop:=w.ownsRow base 9 1 v l.length (l.map Value.string)
theorem Db.nil(w:World)(base:Nat):Db w base (.slice none 0 0) []:=World.ownsRow_nil w base _ _
theorem Db.mono{w:World}{base a:Nat}{v:Value}{l:List ByteArray}(h:Db w base v l)(j:a<=base):Db w a v l:=by
 obtain⟨k,b⟩:=h;refine⟨k,?_⟩
 rcases b with b|⟨g,cap,d,f,i,r⟩
 ·exact Or.inl b
 ·exact Or.inr ⟨g,cap,d,f,a2z j i,r⟩
theorem Db.lt{w:World}{base:Nat}{v:Value}{l:List ByteArray}(h:Db w base v l):∀k,v.ownBlock=some k->base<=k/\k<w.heap.size:=World.ownsRow.lt h
theorem Db.kept{w w':World}{base:Nat}{v:Value}{l:List ByteArray}(h:Db w base v l)(j:∀k,v.ownBlock=some k->w'.heap[k]?=w.heap[k]?):Db w' base v l:=by
 obtain⟨m,a⟩:=h;refine⟨m,?_⟩
 rcases a with a|⟨g,cap,b,d,i,f,r⟩
 ·exact Or.inl a
 ·exact Or.inr ⟨g,cap,b,d,i,(j g (by rw[d];rfl)).trans f,r⟩
theorem Db.fp{w w':World}{base:Nat}{v:Value}{l:List ByteArray}{S:List Nat}(h:Db w base v l)(d:Fp S w w')(f:∀i∈S,i<base):Db w' base v l:=
 h.kept fun k a=>d.block k (h.lt k a).2 (fun b=>by have:=f k b;have:=(h.lt k a).1;omega)
theorem Db.made(w:World)(base:Nat)(a:base<=w.heap.size):Db (w.alloc (.cells #[] 9)) base (.slice (some ⟨w.heap.size,0,none⟩) 0 0) []:=
 World.ownsRow_made w #[] 0 a (by decide) rfl
theorem Db.at{w:World}{base:Nat}{v:Value}{l:List ByteArray}(h:Db w base v l):(∃a cap,v=.slice a l.length cap)∧(l=[]∨∃g cap,v=.slice (some ⟨g,0,none⟩) l.length cap∧base≤g∧g<w.heap.size∧∀i (d:i<l.length),w.cell? ⟨g,i,none⟩=some (.string l[i])):=by
 obtain⟨s,n⟩:=h
 rcases n with⟨rfl,o⟩|⟨g,cap,b,rfl,m,f,q,r,p,k⟩
 ·have:l=[]:=a1z o;subst this;exact⟨⟨_,_,rfl⟩,Or.inl rfl⟩
 ·refine⟨⟨_,_,rfl⟩,Or.inr ⟨g,cap,rfl,m,Ac f,fun i d=>?_⟩⟩
  have j:(b.toList.take (l.length*1))[i]?=(l.map Value.string)[i]?:=by rw[k]
  rw[List.getElem?_take,if_pos (by omega),List.getElem?_map,a1v d,a1u] at j;rw[Ab f,j];rfl
theorem Tryz.info9:(Tryz.prog.info? 9).map (fun i=>(i.zero,i.size,i.bytes))=some (some (.string ⟨#[]⟩),1,16):=by kernel_rfl
theorem tN{w:World}{i:Array Oper}{rest:List Oper}{o:Oper}{a:Act}{Q:Exit→Act→World→Prop}(r:o.guard=none)(s x:Operand)
  (C:o.op=.call {callee:=.builtin .append,args:=#[s,x],argTypes:=#[22,22]})(base:Nat)(v:Value)(l:List ByteArray)(B:a.eval s=v)(d:Db w base v l)
  (g:Nat)(t:ByteArray)(A:a.eval x=.slice (some ⟨g,0,none⟩) 1 1)(G:w.cell? ⟨g,0,none⟩=some (.string t))(y:l.length+1<=1000000000)(b:base<=w.heap.size)
  (h:∀m w',Db w' base m (l++[t])->Below base w w'->wpList Tryz.prog i Q rest (a.put o.dst m) w'):wpList Tryz.prog i Q (o::rest) a w:=by
 obtain⟨z,F,q,p,n⟩:=info_parts Tryz.info9;refine wpList_append_own w r s x 22 C base 9 z _ 1 16 Tryz.underlying22 F q p n rfl (by decide) v l.length (l.map Value.string) B d ⟨g,0,none⟩ 1 1 [.string t] A rfl ?_ (by intro u f;simp at f;subst f;rfl) (by unfold maxLen;omega) (by omega) b ?_
 ·intro j u f
  have E:j=0:=by
   have:=(List.getElem?_eq_some_iff.1 f).1
   simpa using this
  subst E;simp at f;subst f
  have K:(⟨g,0,none⟩:Addr).add 0=⟨g,0,none⟩:=by unfold Addr.add;split<;>simp_all
  rw[K];exact G
 ·intro m w' J I _;refine h m w' ?_ ((Below.refl base w).grown I b (fun k D=>(d.lt k D).1));unfold Db;rw[List.length_append,List.map_append];exact J
end
section
open Go.RowKit
def Bg(e:TypeId)(w:World)(base:Nat)(v:Value)(l:List Value):Prop:=w.ownsRow base e 1 v l.length l
theorem Bg.nil(e:TypeId)(w:World)(base:Nat):Bg e w base (.slice none 0 0) []:=World.ownsRow_nil w base _ _
theorem Bg.mono{e:TypeId}{w:World}{base a:Nat}{v:Value}{l:List Value}(h:Bg e w base v l)(j:a<=base):Bg e w a v l:=by
 obtain⟨k,b⟩:=h;refine⟨k,?_⟩
 rcases b with b|⟨g,cap,d,f,i,r⟩
 ·exact Or.inl b
 ·exact Or.inr ⟨g,cap,d,f,a2z j i,r⟩
theorem Bg.lt{e:TypeId}{w:World}{base:Nat}{v:Value}{l:List Value}(h:Bg e w base v l):∀k,v.ownBlock=some k->base<=k/\k<w.heap.size:=World.ownsRow.lt h
theorem Bg.kept{e:TypeId}{w w':World}{base:Nat}{v:Value}{l:List Value}(h:Bg e w base v l)(j:∀k,v.ownBlock=some k->w'.heap[k]?=w.heap[k]?):Bg e w' base v l:=by
 obtain⟨m,a⟩:=h;refine⟨m,?_⟩
 rcases a with a|⟨g,cap,b,d,i,f,r⟩
 ·exact Or.inl a
 ·exact Or.inr ⟨g,cap,b,d,i,(j g (by rw[d];rfl)).trans f,r⟩
theorem Bg.fp{e:TypeId}{w w':World}{base:Nat}{v:Value}{l:List Value}{S:List Nat}(h:Bg e w base v l)(d:Fp S w w')(f:∀i∈S,i<base):Bg e w' base v l:=
 h.kept fun k a=>d.block k (h.lt k a).2 (fun b=>by have:=f k b;have:=(h.lt k a).1;omega)
theorem Bg.made(e:TypeId)(w:World)(base:Nat)(a:base<=w.heap.size):Bg e (w.alloc (.cells #[] e)) base (.slice (some ⟨w.heap.size,0,none⟩) 0 0) []:=
 World.ownsRow_made w #[] 0 a (by decide) rfl
theorem Bg.at{e:TypeId}{w:World}{base:Nat}{v:Value}{l:List Value}(h:Bg e w base v l):(∃a cap,v=.slice a l.length cap)∧(l=[]∨∃g cap,v=.slice (some ⟨g,0,none⟩) l.length cap∧base≤g∧g<w.heap.size∧∀i (d:i<l.length),w.cell? ⟨g,i,none⟩=some l[i]):=by
 obtain⟨s,n⟩:=h
 rcases n with⟨rfl,o⟩|⟨g,cap,b,rfl,m,f,q,r,p,k⟩
 ·have:l=[]:=a1z o;subst this;exact⟨⟨_,_,rfl⟩,Or.inl rfl⟩
 ·refine⟨⟨_,_,rfl⟩,Or.inr ⟨g,cap,rfl,m,Ac f,fun i d=>?_⟩⟩
  have j:(b.toList.take (l.length*1))[i]?=l[i]?:=by rw[k]
  rw[List.getElem?_take,if_pos (by omega),a1v d,a1u] at j;rw[Ab f,j]
end
end
section
open Go.RowKit Go.Lib
def Dv(sz len i:Nat):List (Nat × Nat):=if i<len/\0<sz then(i,min sz (len-i))::Dv sz len (i+sz) else[]
 termination_by len-i
theorem P1{a len i:Nat}(h:i<len)(b:0<a):Dv a len i=(i,min a (len-i))::Dv a len (i+a):=by
 rw[Dv];exact if_pos ⟨h,b⟩
theorem Xe{a len i:Nat}(h:¬i<len):Dv a len i=[]:=by
 rw[Dv];exact if_neg (fun c=>h c.1)
theorem Xf(a len i:Nat):(Dv a len i).length<=len-i:=by
 rw[Dv];split
 ·rename_i h;have:=Xf a len (i+a);rw[a0v];omega
 ·simp
 termination_by len-i
def Va(b o:Nat)(x:Nat × Nat):Value:=.slice (some ⟨b,o+x.1*7,none⟩) x.2 x.2
def Xg(b o:Nat)(x:Nat × Nat):Array Value:=#[Va b o x]
theorem tO(base L n bs I p:Nat)(S:0<p)(an:p<2^63)(w:World)(b o len cap:Nat)(hn:1≤n)(ab:w.heap[bs]?=some (.cells #[.slice (some ⟨b,o,none⟩) len cap] 162 (0,0)))(ac:w.heap[I]?=some (.cells #[.int .i64 p] 3 (0,0)))
  (aq:len<=cap)(av:len<=1000000000)(aa:bs<base)(D:I<base)(ah:bs≠L)(U:I≠L)
  (S0:List Nat)(ad:∀k∈S0,k<base/\k≠bs/\k≠I)(J Jx:List (Nat × Nat)->World->Prop)
  (hJ:∀s A B,J s A->Fp [] A B->J s B)
  (hy:∀f x W,(∃Q,Dv p len 0=f++x::Q)->J f W->YieldAt Fence.wide (n-1) Tryz.prog L (Xg b o x) W fun e W'=>(e=.returned (.bool true)/\J (f++[x]) W'/\Aq 221 base (L::S0) W W')∨(e=.returned (.bool false)/\Jx (f++[x]) W'))
  (h0:J [] w):
  CallsIn Fence.wide n Tryz.prog 215 #[.func (.yield L) #[] #[],.pointer (some ⟨bs,0,none⟩),.pointer (some ⟨I,0,none⟩)] w fun e w'=>(∃v,e=.returned v)/\((∃xs,xs=Dv p len 0/\J xs w')∨∃f,Jx f w'):=by
 rw[callsIn_wide];have HY:=a0z hy;have HJ:=a0z hJ;have M:=a0z ad;have ag:=a0z ab;have z:=a0z ac;clear hy hJ ad ab ac;go_enter Tryz.func215,Tryz.ntmps215;go_wp2_with (fail)
 go_loopg [4] len (fun g vi wr=>∃(i:Nat) (f:List (Nat × Nat)),g=len-i/\(i=0∨p<=i)/\vi=.int .i64 i/\Dv p len 0=f++Dv p len i/\J f wr/\Aq 221 base (L::S0) w wr)
 case atStart=>exact⟨0,[],rfl,.inl rfl,rfl,rfl,h0,Aq.of (Fp.refl [] _) (by simp) |>.mono (by simp)⟩
 case round=>
  obtain⟨i,f,hg,Y,rfl,l,hj,hf⟩:=hrel;have O:=a0z hf;have af:=a0z hj;clear hf hj;have t:wr.heap[bs]?=some (.cells #[.slice (some ⟨b,o,none⟩) len cap] 162 (0,0)):=(O.out.low _ aa (Ac ag.out) (by intro h;rcases List.mem_cons.1 h with h|h;exact ah h;exact(M.out _ h).2.1 rfl)).trans ag.out;have E:wr.heap[I]?=some (.cells #[.int .i64 p] 3 (0,0)):=(O.out.low _ D (Ac z.out) (by intro h;rcases List.mem_cons.1 h with h|h;exact U h;exact(M.out _ h).2.2 rfl)).trans z.out;have q0:wr.cell? ⟨bs,0,none⟩=some (.slice (some ⟨b,o,none⟩) len cap):=Ab t 0;have q:=a0z t;have r:=a0z E;clear t E
  by_cases X:i<len
  ·have z0:(i:Int)<(len:Int):=by omega
   have z1:(i:Int)<=(len:Int):=by omega
   have z2:(len:Int)<=(cap:Int):=by omega
   have aw:¬cap=i:=by omega
   rw[P1 X S] at l
   obtain⟨m,hm⟩:∃m,min p (len-i)=m:=⟨_,rfl⟩
   have V:min (p:Int) ((len-i:Nat):Int)=(m:Int):=by omega
   have ap:0<m:=by omega
   rw[hm] at l;have ae:=a0z l
   obtain⟨d,hd⟩:∃d,len-i=d:=⟨_,rfl⟩
   rw[hd] at V
   obtain⟨e2,Z⟩:∃e2,i+m=e2:=⟨_,rfl⟩
   have n1:IntKind.i64.wrap ((i:Int)+(m:Int))=(e2:Int):=by rw[IntKind.wrap_i64];omega
   have z3:(e2:Int)<=(cap:Int):=by omega
   have z4:(i:Int)<=(e2:Int):=by omega
   have au:e2-i=m:=by omega
   have ar:¬e2=i:=by omega
   have n2:IntKind.i64.wrap ((i:Int)+(p:Int))=((i+p:Nat):Int):=by rw[IntKind.wrap_i64];omega
   obtain⟨j,G⟩:∃j,i+p=j:=⟨_,rfl⟩
   rw[G] at n2;have HG:=a0z hg;have a2:=a0z Z;have N:=a0z G;clear hg Y l hm Z G;go_wp2_with (fail);refine C9 (by kernel_rfl) (by kernel_rfl) ?_
   iterate 7
    apply Aw rfl rfl rfl
    ·intro a w u y K hK
     try have P:=y.fr 2 rfl
     try have h1:=y.fr 1 rfl
     try have h4:=y.fr 4 rfl
     try have aS:=y.eq 1 14 rfl
     try have aF:=y.eq 2 15 rfl
     try have az:=y.eq 3 16 rfl
     try have a0:=y.eq 0 13 rfl
     try have ay:=y.eq 4 17 rfl
     try have ax:=y.eq 5 18 rfl
     have r0:=Ab ((u.block _ (Ac q.out) (by simp)).trans q.out) 0;have r1:=Ab ((u.block _ (Ac r.out) (by simp)).trans r.out) 0;simp only[List.getElem?_toArray,List.getElem?_cons_zero] at r0 r1;simp only[Oper.wp,execOp];go_simp;exact hK _ u (Fp.refl _ _)
   refine⟨?_,?_⟩
   ·repeat(first|exact trivial|refine B7 _ ?_ |refine⟨fun w1 w2 v _ hf ⟨g,h1,P⟩=>⟨g,h1,(hf.block g (Ac P) (by simp)).trans P⟩,?_⟩)
   ·intro w' u;simp only[List.reverse_cons,List.reverse_nil,a0u,a0w]
    iterate 7 (refine Am ?_)
    refine A0 ?_;simp only[Aj,Act.put,a1x,List.set_cons_succ,List.set_cons_zero];have am:=a0z (O.out.trans (Aq.of (u.mono (by simp):Fp [] wr w') (by simp)) (by simp));have al:=a0z (HJ.out _ _ _ af.out u);have C:=(u.block _ (Ac q.out) (by simp)).trans q.out;have q1:w'.cell? ⟨bs,0,none⟩=some (.slice (some ⟨b,o,none⟩) len cap):=Ab C 0;have ao:=a0z ((u.block _ (Ac r.out) (by simp)).trans r.out);clear u C;obtain⟨fn,tm,a1,bd,R,T⟩:=HY.out f (i,m) w' ⟨_,ae.out⟩ al.out;have ai:=a0z T;clear T;unfold Xg Va at R;simp only at R
    go_upto_region 4 with(fail)
    refine(wpIn_wide (n:=n)).1 ?_
    gi_wp2_with (fail)
    (with_reducible refine ai.out.mono ?_);rintro e W1 (⟨rfl,hj1,hf1⟩|⟨rfl,hjx⟩)
    ·have ak:=a0z hj1;have F:=a0z (am.out.trans hf1 (by intro i hi;exact hi));have r2:W1.cell? ⟨I,0,none⟩=some (.int .i64 p):=Ab ((F.out.low _ D (Ac z.out) (by intro h;rcases List.mem_cons.1 h with h|h;exact U h;exact(M.out _ h).2.2 rfl)).trans z.out) 0;clear hj1 hf1
     gi_wp2_with (fail)
     go_wp2_with (fail)
     go_roundg (len-j)
     case measure=>have:=HG.out;have:=N.out;omega
     case rel=>
      refine⟨j,f++[(i,m)],rfl,.inr (by have:=N.out;omega),rfl,?_,ak.out,F.out⟩;have P:=ae.out;rw[N.out] at P;rw[P,List.append_assoc];rfl
    ·have aj:=a0z hjx;clear hjx
     gi_wp2_with (fail)
     go_wp2_with (fail);refine bodyPost_ret (results_none rfl _ _ _) rfl ?_;exact⟨⟨_,rfl⟩,Or.inr ⟨_,aj.out⟩⟩
  ·have z0:¬(i:Int)<(len:Int):=by omega
   rw[Xe X,List.append_nil] at l;have HP:=a0z l;have HG:=a0z hg;clear l hg Y;go_wp2_with (fail);go_end0;refine⟨⟨_,rfl⟩,Or.inl ?_⟩;rw[HP.out];exact af.out
theorem tP(w:World)(b:Nat)(d:0<b)(v:Value)(a:Option Addr)(len cap:Nat)(f:v=.slice a len cap):Calls Tryz.prog 140 #[v,.int .i64 b] w fun e w'=>e=.returned (.func (.func 215) #[] #[.pointer (some ⟨w.heap.size,0,none⟩),.pointer (some ⟨w.heap.size+1,0,none⟩)])∧
  w'.heap[w.heap.size]?=some (.cells #[v] 162 (0,0))/\w'.heap[w.heap.size+1]?=some (.cells #[.int .i64 b] 3 (0,0))/\Fp [] w w':=by
 subst f
 have z1:¬(b:Int)<1:=by omega
 have q:((w.alloc (.cells #[.slice a len cap] 162)).alloc (.cells #[.int .i64 b] 3)).cell? ⟨w.heap.size+1,0,none⟩=some (.int .i64 b):=Ab (Ai (by simp) _) 0;go_enter Tryz.func140,Tryz.ntmps140;go_wp2_with (fail);go_ret;exact⟨rfl,Bw (Ai rfl _),Ai (by simp) _,(Fp.alloc _ _).alloc' _⟩
end
section
def fY:Nat:=3988292384
def Gh(n:Nat):Nat:=(n/2) ^^^ (if n%2=1 then fY else 0)
def Iy:List Nat:=[0,498536548,997073096,651767980,1994146192,1802195444,1303535960,1342533948,3988292384,4027552580,3604390888,3412177804,2607071920,2262029012,2685067896,3183342108]
def Nk(n:Nat):Nat:=(n/16) ^^^ Iy.getD (n%16) 0
theorem tQ(a b:Nat):(a ^^^ b)/2=(a/2) ^^^ (b/2):=by
 have:=Nat.shiftRight_xor_distrib (a:=a) (b:=b) (i:=1)
 simpa [Nat.shiftRight_eq_div_pow] using this
theorem tR(a b:Nat):(a ^^^ b)%2=(a%2+b%2)%2:=by
 have h:=Nat.xor_mod_two_pow (a:=a) (b:=b) (n:=1);rw[Nat.pow_one] at h;rw[h]
 rcases a0x a with f|f<;>rcases a0x b with d|d<;>rw[f,d]<;>rfl
theorem Xh(a b:Nat):Gh (a ^^^ b)=Gh a ^^^ Gh b:=by
 unfold Gh;rw[tQ,tR]
 rcases a0x a with f|f<;>rcases a0x b with d|d<;>rw[f,d]
 ·simp
 ·simp[a1w]
 ·simp[a1w,Nat.xor_comm (b/2)]
 ·simp only[Nat.reduceAdd,Nat.reduceMod,Nat.reduceEqDiff,if_false,if_true,Nat.xor_zero];rw[a1w,Nat.xor_comm fY,a1w,Nat.xor_self,Nat.xor_zero]
theorem Xi(m:Nat):Gh (2*m)=m:=by
 unfold Gh;rw[Nat.mul_div_cancel_left m (by decide),Nat.mul_mod_right,if_neg (by decide),Nat.xor_zero]
theorem tS(n:Nat):n=(16*(n/16)) ^^^ (n%16):=by
 have h:=Nat.two_pow_add_eq_or_of_lt (i:=4) (b:=n%16) (Nat.mod_lt _ (by decide)) (n/16)
 have d:(16*(n/16)) ^^^ (n%16)=2^4*(n/16)+n%16:=by
  apply Nat.eq_of_testBit_eq;intro i;rw[Nat.testBit_two_pow_mul_add _ (Nat.mod_lt _ (by decide)),Nat.testBit_xor,show(16:Nat)=2^4 from rfl,Nat.testBit_two_pow_mul,Nat.testBit_mod_two_pow]
  by_cases a:i<4
  ·have:¬4<=i:=by omega
   simp[a,this]
  ·simp[a];omega
 omega
theorem fZ(n:Nat):Nk n=Gh (Gh (Gh (Gh n))):=by
 conv=>rhs;rw[tS n]
 rw[Xh,show 16*(n/16)=2*(8*(n/16)) by omega,Xi,Xh,show 8*(n/16)=2*(4*(n/16)) by omega,Xi,Xh,show 4*(n/16)=2*(2*(n/16)) by omega,Xi,Xh,Xi];unfold Nk;congr 1;have h:n%16<16:=Nat.mod_lt _ (by decide);generalize n%16=r at h
 have a:∀r,r<16->Iy.getD r 0=Gh (Gh (Gh (Gh r))):=by decide
 exact a r h
def Z9(n:Nat)(b:UInt8):Nat:=Nk (Nk (n ^^^ b.toNat))
def P2(n:Nat)(b:UInt8):Nat:=Gh (Gh (Gh (Gh (Gh (Gh (Gh (Gh (n ^^^ b.toNat))))))))
theorem tT(n:Nat)(b:UInt8):Z9 n b=P2 n b:=by unfold Z9 P2;rw[fZ,fZ]
def P3(n:Nat)(l:List UInt8):Nat:=l.foldl P2 n
theorem P4{n:Nat}(h:n<4294967296):Gh n<4294967296:=by
 unfold Gh;refine Nat.xor_lt_two_pow (n:=32) (by omega) ?_
 split<;>decide
theorem tU{n:Nat}{b:UInt8}(h:n<4294967296):P2 n b<4294967296:=by
 have a:=b.toNat_lt;unfold P2;exact P4 (P4 (P4 (P4 (P4 (P4 (P4 (P4 (Nat.xor_lt_two_pow (n:=32) h (by omega)))))))))
end
end Go.Proofs.YtkagolpnaicdoaaGreatDoor
