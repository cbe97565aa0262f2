/-
 job.Driver: tell, Submit, Move. job.Open, where the journal opens well. wal: what is read back of a log, whole or cut; a disk that has one log alone (plain). job: a job is told by its bytes; a journal on a disk of its own: what tell and Open make of it (plain).
-/
import Derived.Test.YtkagolpnaicdoaaGreatDoorPWalE
set_option maxRecDepth 100000
set_option maxHeartbeats 8000000
open Go.Lib renaming hid->a0z
open UInt8 renaming ofNat->a0x,toNat_ofNat'->a0u
open List renaming length_append->a0w,append_assoc->a1z,not_mem_nil->a1x,append_nil->a2z,mem_cons->a2w,all_cons->a2v
open Nat renaming le_refl->a0v,not_lt_zero->a1u
open Int renaming sub_self->a1w,add_zero->a1v
open ByteArray renaming size_append->a2x
namespace Go.Proofs.YtkagolpnaicdoaaGreatDoor
section
open Go.RowKit Go.Lib Go.Maps Go.MapKept Go.ChangeMaps
variable {w w' : World} {base b bm L V : Nat} {v : Value} {d : Dk} {lg : Lg} {l : List A4}
theorem Og.ahead{r:Uz}{A B:World}(h:Og base b bm L V r A B)(f:Fp [] w A):Og base b bm L V r w B:=⟨h.1,((Tf.of f:Tf base [42] [] w A).mono (by simp)).trans h.2 (by intro i a;exact Or.inl a)⟩
theorem jV(w:World)(base b bm L V:Nat)(v:Value)(d:Dk)(lg:Lg)(l:List A4)(j:A4)(hD:E5 w base b bm L V v d lg l)(G:Av d)(hj:Pv j)(ht:Dl w)
  (P:lg.name.size<=1000)(I:lg.many<=100000)(hn:l.length<=100000):
  Calls Tryz.prog 63 #[.pointer (some ⟨V,0,none⟩),Hm j] w fun e w'=>e=.returned (.int .i64 (Eg d lg l j).e)/\Og base b bm L V (Eg d lg l j) w w':=by
 obtain⟨W,M⟩:∃W,W=(w.alloc (.cells #[.pointer (some ⟨V,0,none⟩)] 54)).alloc (.cells (F4 j).toArray 42):=⟨_,rfl⟩
 have o:Fp [] w W:=by rw[M];exact(Fp.alloc _ _).alloc' _
 have t:W.heap[w.heap.size]?=some (.cells #[.pointer (some ⟨V,0,none⟩)] 54 (0,0)):=by rw[M];exact Bw (Ai rfl _)
 have s:W.heap[w.heap.size+1]?=some (.cells (F4 j).toArray 42 (0,0)):=by rw[M];exact Ai (by simp) _
 have a:=hD.calm o
 have n:Hid (Calls Tryz.prog 45 #[.func (.func 116) #[] #[.pointer (some ⟨w.heap.size+1,0,none⟩),.pointer (some ⟨w.heap.size,0,none⟩)]] W fun e w'=>e=.returned (.int .i64 (Eg d lg l j).e)∧Og base b bm L V (Eg d lg l j) W w'):=a0z (by
  refine(mY W 116 _ (enters_of Tryz.func116 (by kernel_rfl) rfl)
   (fun A=>(Eg d lg l j).e=0/\(∃f,E5 A base b bm L V f (Eg d lg l j).d (Eg d lg l j).lg (Eg d lg l j).l/\W.heap.size∉Nh f)/\Tf base [42] [b,bm,L,V] W A)
   (fun x A=>(Eg d lg l j).e=x/\(∃f,E5 A base b bm L V f (Eg d lg l j).d (Eg d lg l j).lg (Eg d lg l j).l/\W.heap.size∉Nh f)/\Tf base [42] [b,bm,L,V] W A) ?_ ?_ ?_).mono ?_
  ·intro W2 g aa q;have S:=o.trans g (by simp);have T:=a.calm g;refine(Ai2 W2 base b bm L V (w.heap.size+1) w.heap.size v d lg l j T G hj (ht.fp S (by simp)) P I hn ((g.block _ (Ac s) (by simp)).trans s) ((g.block _ (Ac t) (by simp)).trans t)).mono ?_;rintro e W3 ⟨⟨⟨f,y⟩,D⟩,he⟩
   have Q:W.heap.size∉[b,bm,L,V]:=by
    have l1:=Ac a.disk.cells;have Z:=a.disk.files.lt;have Y:=Ac a.log;have X:=Ac a.drv;simp only[a2w,a1x,or_false];omega
   have K:=D.cells q Q (by decide);have E:Tf base [42] [b,bm,L,V] W W3:=((Tf.of g:Tf base [42] [] W W2).mono (by simp)).trans D (by intro i J;exact Or.inl J);have p:=own_off y.own K (by decide);refine⟨K,?_⟩
   rcases he with⟨m,u,rfl⟩|⟨m,rfl⟩
   ·exact Or.inl ⟨⟨u,rfl⟩,m,⟨f,y,p⟩,E⟩
   ·exact Or.inr ⟨_,m,rfl,rfl,⟨f,y,p⟩,E⟩
  ·rintro A B ⟨m,⟨f,C,N⟩,z⟩ g;refine⟨m,⟨f,C.of_fp g ?_,N⟩,z.trans (Tf.of g) (by intro i J;right;rw[List.mem_singleton.1 J];exact a0v _)⟩;intro k R I;obtain rfl:=List.mem_singleton.1 I
   rcases List.mem_append.1 R with h|h
   ·have l1:=Ac a.disk.cells;have Z:=a.disk.files.lt;have Y:=Ac a.log;have X:=Ac a.drv;simp only[a2w,a1x,or_false] at h;omega
   ·exact N h
  ·rintro x A B ⟨m,⟨f,C,N⟩,z⟩ g;refine⟨m,⟨f,C.of_fp g ?_,N⟩,z.trans (Tf.of g) (by intro i J;right;rw[List.mem_singleton.1 J];exact a0v _)⟩;intro k R I;obtain rfl:=List.mem_singleton.1 I
   rcases List.mem_append.1 R with h|h
   ·have l1:=Ac a.disk.cells;have Z:=a.disk.files.lt;have Y:=Ac a.log;have X:=Ac a.drv;simp only[a2w,a1x,or_false] at h;omega
   ·exact N h
  ·rintro e A (⟨rfl,m,⟨f,C,_⟩,z⟩|⟨x,_,rfl,m,⟨f,C,_⟩,z⟩)
   ·exact⟨by rw[m],⟨f,C⟩,z⟩
   ·exact⟨by rw[m],⟨f,C⟩,z⟩)
 have O:=a0z o;rw[M] at n O
 obtain⟨r,hr⟩:∃r,Eg d lg l j=r:=⟨_,rfl⟩
 rw[hr] at n ⊢;obtain⟨ji,jp,jx,jn⟩:=j;unfold F4 at n O;unfold Hm F4;simp only at n O ⊢
 have ab:∀(fn:Fn) (first cap:Array Value) (w:World),(Instr.makeFunc fn first cap).run Tryz.prog w=.ok (.func fn first cap) w:=fun _ _ _ _=>rfl
 clear hr M a t s o hD ht hj G;go_enter Tryz.func63,Tryz.ntmps63;go_wp2_with (fail);(with_reducible refine n.out.mono ?_);rintro e w2 ⟨rfl,F⟩;have U:=a0z (F.ahead O.out);clear F;go_wp2_with (fail);go_ret;exact⟨rfl,U.out⟩
def Ot(d:Dk)(lg:Lg)(l:List A4)(id:Nat)(input:ByteArray):Uz:=match Zu l id input with
 |.inl j=>Eg d lg l j
 |.inr e=>⟨d,lg,l,e⟩
def Ou(d:Dk)(lg:Lg)(l:List A4)(id:Nat)(phase e:Int):Uz:=match Zv l id phase e with
 |.inl j=>Eg d lg l j
 |.inr e=>⟨d,lg,l,e⟩
theorem jW{id:Nat}{j:A4}(h:K4 l id=some j):Pz l id=j/\P0 l id=true/\j∈l/\j.id=id:=by
 unfold Pz P0;rw[h];unfold K4 at h;exact⟨rfl,rfl,List.mem_of_find?_eq_some h,by simpa using List.find?_some h⟩
theorem jX{id:Nat}(h:K4 l id=none):Pz l id=Nc/\P0 l id=false:=by
 unfold Pz P0;rw[h];exact⟨rfl,rfl⟩
theorem wP{s t:ByteArray}(h:s≠t):(s.toList==t.toList)=false:=by
 rw[beq_eq_false_iff_ne]
 exact fun e=>h (Xl e)
theorem wQ(w:World)(base b bm L V:Nat)(v:Value)(d:Dk)(lg:Lg)(l:List A4)(id:Nat)(a:ByteArray)(q:E5 w base b bm L V v d lg l)(x:Av d)(z:id<18446744073709551616)(y:a.size≤1000000000)(F:Dl w)
  (u:lg.name.size<=1000)(M:lg.many<=100000)(K:l.length<=100000):
  Calls Tryz.prog 23 #[.pointer (some ⟨V,0,none⟩),.int .u64 id,.string a] w fun e w'=>e=.returned (.int .i64 (Ot d lg l id a).e)/\Og base b bm L V (Ot d lg l id a) w w':=by
 have f:=a0z (sD w base V L id v l q.drv q.own (by omega));have I:=a0z q;have i:=a0z (fun W (k:Fp [] w W)=>jV W base b bm L V v d lg l ⟨id,1,0,a⟩ (q.calm k) x ⟨z,(show(-9223372036854775808:Int)<=1 by decide),(show(1:Int)<=9223372036854775807 by decide),(show(-9223372036854775808:Int)<=0 by decide),(show(0:Int)<=9223372036854775807 by decide),y⟩ (F.fp k (by simp)) u M K);clear q F
 cases k:K4 l id with
 |none=>
  obtain⟨o,n⟩:=jX k;rw[o,n] at f;unfold Nc Hm F4 at f;simp only at f
  have m:Hid (Ot d lg l id a=Eg d lg l ⟨id,1,0,a⟩):=by unfold Hid Ot Zu;rw[k]
  rw[m.out]
  obtain⟨r,G⟩:∃r,Eg d lg l ⟨id,1,0,a⟩=r:=⟨_,rfl⟩
  rw[G] at i ⊢;unfold Hm F4 at i;simp only at i;clear k o n G m;go_enter Tryz.func23,Tryz.ntmps23;go_wp2_with (fail);(with_reducible refine f.out.mono ?_);rintro e B ⟨rfl,g⟩;have h:=a0z (g.alloc' (.cells #[.int .u64 0,.int .i64 0,.int .i64 0,.string ⟨#[]⟩] 42));clear g;go_wp2_with (fail);(with_reducible refine(i.out _ h.out).mono ?_);rintro e w2 ⟨rfl,p⟩;have A:=a0z (p.ahead h.out);clear p;go_wp2_with (fail);go_ret;exact⟨rfl,A.out⟩
 |some j=>
  obtain⟨o,n,-,-⟩:=jW k;rw[o,n] at f;obtain⟨E,D,C,s⟩:=j;unfold Hm F4 at f;simp only at f
  by_cases t:s=a
  ·subst t
   have m:Hid (Ot d lg l id s=⟨d,lg,l,0⟩):=by unfold Hid Ot Zu;rw[k];simp
   rw[m.out];clear k o n m i;go_enter Tryz.func23,Tryz.ntmps23;go_wp2_with (fail);(with_reducible refine f.out.mono ?_);rintro e B ⟨rfl,g⟩;have h:=a0z (g.alloc' (.cells #[.int .u64 E,.int .i64 D,.int .i64 C,.string s] 42));clear g;go_wp2_with (fail);go_ret;exact⟨rfl,⟨v,I.out.calm h.out⟩,(Tf.of h.out).mono (by simp)⟩
  ·have J:=wP t
   have m:Hid (Ot d lg l id a=⟨d,lg,l,191⟩):=by unfold Hid Ot Zu;rw[k];simp[t]
   rw[m.out];clear k o n m i t;go_enter Tryz.func23,Tryz.ntmps23;go_wp2_with (fail);(with_reducible refine f.out.mono ?_);rintro e B ⟨rfl,g⟩;have h:=a0z (g.alloc' (.cells #[.int .u64 E,.int .i64 D,.int .i64 C,.string s] 42));clear g;go_wp2_with (fail);go_ret;exact⟨rfl,⟨v,I.out.calm h.out⟩,(Tf.of h.out).mono (by simp)⟩
theorem wR(w:World)(base b bm L V:Nat)(v:Value)(d:Dk)(lg:Lg)(l:List A4)(id:Nat)(phase x:Int)(y:E5 w base b bm L V v d lg l)(C:Av d)(D:∀j∈l,Pv j)
  (M: -9223372036854775808<=phase)(K:phase<=9223372036854775807)(S: -9223372036854775808<=x)(R:x<=9223372036854775807)(P:Dl w)
  (B:lg.name.size<=1000)(Z:lg.many<=100000)(Y:l.length<=100000):
  Calls Tryz.prog 24 #[.pointer (some ⟨V,0,none⟩),.int .u64 id,.int .i64 phase,.int .i64 x] w fun e w'=>e=.returned (.int .i64 (Ou d lg l id phase x).e)/\Og base b bm L V (Ou d lg l id phase x) w w':=by
 have a:=a0z (sD w base V L id v l y.drv y.own (by omega));have U:=a0z y;have m:=a0z (fun j (hj:Pv j) W (k:Fp [] w W)=>jV W base b bm L V v d lg l j (y.calm k) C hj (P.fp k (by simp)) B Z Y);clear y P
 cases k:K4 l id with
 |none=>
  obtain⟨p,o⟩:=jX k;rw[p,o] at a;unfold Nc Hm F4 at a;simp only at a
  have n:Hid (Ou d lg l id phase x=⟨d,lg,l,3⟩):=by unfold Hid Ou Zv;rw[k]
  rw[n.out];clear k p o n m;go_enter Tryz.func24,Tryz.ntmps24;go_wp2_with (fail);(with_reducible refine a.out.mono ?_);rintro e J ⟨rfl,f⟩;have g:=a0z (f.alloc' (.cells #[.int .u64 0,.int .i64 0,.int .i64 0,.string ⟨#[]⟩] 42));clear f;go_wp2_with (fail);go_ret;exact⟨rfl,⟨v,U.out.calm g.out⟩,(Tf.of g.out).mono (by simp)⟩
 |some j=>
  obtain⟨p,o,u,-⟩:=jW k;have E:=D j u;rw[p,o] at a;obtain⟨s,jp,X,q⟩:=j;obtain⟨A,O,N,o4,o5,z⟩:=E;simp only at A O N z;unfold Hm F4 at a;simp only at a
  by_cases h:4<=jp∨phase<1∨5<phase
  ·have n:Hid (Ou d lg l id phase x=⟨d,lg,l,5⟩):=by unfold Hid Ou Zv;rw[k];simp only[h,if_true]
   rw[n.out]
   have F:4<=jp∨(¬4<=jp/\phase<1)∨(¬4<=jp/\¬phase<1/\5<phase):=by omega
   clear k p o n m h
   rcases F with G|⟨G,T⟩|⟨G,T,c3⟩
   all_goals
    go_enter Tryz.func24,Tryz.ntmps24;go_wp2_with (fail);(with_reducible refine a.out.mono ?_);rintro e J ⟨rfl,f⟩;have g:=a0z (f.alloc' (.cells #[.int .u64 s,.int .i64 jp,.int .i64 X,.string q] 42));clear f;go_wp2_with (fail);go_ret;exact⟨rfl,⟨v,U.out.calm g.out⟩,(Tf.of g.out).mono (by simp)⟩
  ·have n:Hid (Ou d lg l id phase x=Eg d lg l ⟨s,phase,x,q⟩):=by unfold Hid Ou Zv;rw[k];simp only[h,if_false]
   rw[n.out];have i:=a0z (m.out ⟨s,phase,x,q⟩ ⟨A,M,K,S,R,z⟩)
   obtain⟨r,Q⟩:∃r,Eg d lg l ⟨s,phase,x,q⟩=r:=⟨_,rfl⟩
   rw[Q] at i ⊢;unfold Hm F4 at i;simp only at i
   have G:¬4<=jp:=by omega
   have T:¬phase<1:=by omega
   have c3:¬5<phase:=by omega
   clear k p o n m h Q A O N z M K S R;go_enter Tryz.func24,Tryz.ntmps24;go_wp2_with (fail);(with_reducible refine a.out.mono ?_);rintro e J ⟨rfl,f⟩;have g:=a0z (f.alloc' (.cells #[.int .u64 s,.int .i64 phase,.int .i64 x,.string q] 42));clear f;go_wp2_with (fail);(with_reducible refine(i.out _ g.out).mono ?_);rintro e w2 ⟨rfl,t⟩;have I:=a0z (t.ahead g.out);clear t;go_wp2_with (fail);go_ret;exact⟨rfl,I.out⟩
end
section
open Go.RowKit Go.Lib Go.Maps Go.MapKept Go.ChangeMaps
def Hz:ByteArray:=⟨#[74,79,66,83]⟩
def wS(w:World)(b bm:Nat)(d2:Dk)(n:Nat)(l:List A4)(e:Ending)(w':World):Prop:=
 ∃L V v,e=.returned (.tuple #[.pointer (some ⟨V,0,none⟩),.int .i64 0])/\E5 w' w.heap.size b bm L V v d2 ⟨⟨#[74,79,66,83]⟩,n,false⟩ l/\w.heap.size<=L/\w.heap.size<=V/\Fp [b,bm] w w'
theorem jY(w:World)(b bm:Nat)(d d2:Dk)(texts:List ByteArray)(hd:Ak w b bm d)(S:Av d)(ht:Dl w)(ai:(d.read Hz).1.size≤100000000)
  (ho:d.wOpen Hz=(d2,0,texts))(C:∀t∈texts,(Ha t).2=0/\t.size<=1000000000)(hn:texts.length<=90000):
  Calls Tryz.prog 22 #[.pointer (some ⟨b,0,none⟩)] w fun e w'=>wS w b bm d2 texts.length (Ef texts) e w':=by
 have HC:=a0z (Ait w b bm d Hz hd S (by decide) ht ai);rw[ho] at HC;have ar:=Ac hd.cells;have aq:=hd.files.lt;have ae:=a0z C;clear hd S ht ho C;rw[show Hz=⟨#[74,79,66,83]⟩ from rfl] at HC;go_enter Tryz.func22,Tryz.ntmps22;go_wp2_with (fail);(with_reducible refine HC.out.mono ?_);rintro e m ⟨G,F,h2⟩
 have h2:∃L v,e=.returned (.tuple #[.pointer (some ⟨L,0,none⟩),v,.int .i64 0])/\w.heap.size<=L/\Dh m L b ⟨⟨#[74,79,66,83]⟩,texts.length,false⟩/\Db m w.heap.size v texts:=by
  rcases h2 with⟨O,_⟩|⟨_,O⟩
  ·exact absurd rfl O
  ·exact O
 obtain⟨L,v,rfl,hL,X,U⟩:=h2;simp only at G
 have ah:∃a cap,v=.slice a texts.length cap/\(texts=[]∨∃g f,a=some ⟨g,0,none⟩/\m.heap[g]?=some (.cells f 9 (0,0))/\∀i (A:i<texts.length),f[i]?=some (.string texts[i])):=by
  rcases U.2 with⟨rfl,h0⟩|⟨g,cap,f,rfl,_,B,_,_,_,q⟩
  ·exact⟨none,0,by rw[h0],Or.inl (List.eq_nil_of_length_eq_zero h0)⟩
  ·refine⟨_,_,rfl,Or.inr ⟨g,f,rfl,B,fun i A=>?_⟩⟩;have O:=congrArg (fun l=>l[i]?) q;simp only[Nat.mul_one,List.getElem?_take,A,if_true,Array.getElem?_toList,List.getElem?_map,List.getElem?_eq_getElem A,Option.map_some] at O;exact O
 obtain⟨a,cap,rfl,n⟩:=ah;have ag:w.heap.size<=m.heap.size:=F.size
 have ac:E5 (m.alloc (.cells #[.pointer (some ⟨L,0,none⟩),.slice none 0 0] 123)) w.heap.size b bm L m.heap.size (.slice none 0 0) d2 ⟨⟨#[74,79,66,83]⟩,texts.length,false⟩ []:=
  ⟨G.of_fp (Fp.alloc _ _) (by simp) (by simp),X.fp (Fp.alloc _ _) (by simp),Ai rfl _,Ae.nil _ _,by simp;omega⟩
 have z:texts=[]∨∃g f,a=some ⟨g,0,none⟩/\g≠m.heap.size/\(m.alloc (.cells #[.pointer (some ⟨L,0,none⟩),.slice none 0 0] 123)).heap[g]?=some (.cells f 9 (0,0))/\∀i (A:i<texts.length),f[i]?=some (.string texts[i]):=by
  rcases n with h|⟨g,f,e,B,hc⟩
  ·exact Or.inl h
  ·exact Or.inr ⟨g,f,e,by have:=Ac B;omega,Bw B,hc⟩
 have aa:Fp [b,bm] w (m.alloc (.cells #[.pointer (some ⟨L,0,none⟩),.slice none 0 0] 123)):=F.alloc' _
 obtain⟨V,hV⟩:∃V,m.heap.size=V:=⟨_,rfl⟩
 have P:w.heap.size<=V:=by omega
 have N:=a0z ac;have o:=a0z z;have ad:=a0z aa;have HL:=a0z hL;clear G F X U n ac z aa hL;go_wp2_with (fail);rw[hV] at N o
 try rw[hV]
 obtain⟨w2,D⟩:∃x,m.alloc (.cells #[.pointer (some ⟨L,0,none⟩),.slice none 0 0] 123)=x:=⟨_,rfl⟩
 rw[D] at N o ad
 try rw[D]
 clear D hV ag
 go_loopg [26] texts.length (fun g vi W=>∃(k:Nat) (v:Value),g+k=texts.length/\vi=.int .i64 k/\E5 W w.heap.size b bm L V v d2 ⟨⟨#[74,79,66,83]⟩,texts.length,false⟩ (Ef (texts.take k))/\Fp [b,bm] w W/\
  (texts=[]∨∃g f,a=some ⟨g,0,none⟩/\g≠V/\W.heap[g]?=some (.cells f 9 (0,0))/\∀i (A:i<texts.length),f[i]?=some (.string texts[i])))
 case atStart=>exact⟨0,_,by omega,rfl,N.out,ad.out,o.out⟩
 case round=>
  obtain⟨k,v,hg,rfl,hD,hf,n⟩:=hrel;have HD:=a0z hD;have HF:=a0z hf;clear hD hf
  by_cases Y:k<texts.length
  ·have zk:(k:Int)<(texts.length:Int):=by omega
   obtain⟨g,f,rfl,Z,B,hc⟩:∃g f,a=some ⟨g,0,none⟩/\g≠V/\wr.heap[g]?=some (.cells f 9 (0,0))/\∀i (A:i<texts.length),f[i]?=some (.string texts[i]):=by
    rcases n with h|h
    ·rw[h] at Y;exact absurd Y (a1u _)
    ·exact h
   have J:wr.cell? ⟨g,k,none⟩=some (.string texts[k]):=(Ab B k).trans (hc k Y);obtain⟨I,E⟩:=ae.out texts[k] (List.getElem_mem Y)
   have u:Ef (texts.take (k+1))=He (Ef (texts.take k)) (Ha texts[k]).1:=by rw[List.take_succ_eq_append_getElem Y,rL]
   have aj:(Ef (texts.take k)).length<=100000:=by
    have h1:=Ahl (texts.take k);rw[List.length_take] at h1;omega
   obtain⟨t,R⟩:∃t,texts[k]=t:=⟨_,rfl⟩
   rw[R] at J I E u;have y:=a0z (fun w=>Aac w t E)
   obtain⟨⟨j,x⟩,hj⟩:∃r,Ha t=r:=⟨_,rfl⟩
   rw[hj] at y I u;obtain rfl:x=0:=I;have HH:=a0z B;have ap:=a0z hc;have ak:=a0z u;have p:=a0z (fun W v l (h1:E5 W w.heap.size b bm L V v d2 ⟨⟨#[74,79,66,83]⟩,texts.length,false⟩ l) (h2:l.length<=100000)=>sE W w.heap.size V L v l j h1.drv h1.own h1.base h2);obtain⟨ji,jp,jx,jn⟩:=j;unfold Hm F4 at y p;simp only at y p;clear B hc u R hj E n;go_wp2_with (fail);(with_reducible refine(y.out _).mono ?_);rintro e w3 ⟨rfl,ab⟩;have M:=a0z (ab.alloc' (.cells #[.int .u64 ji,.int .i64 jp,.int .i64 jx,.string jn] 42));clear ab;have af:=a0z (HD.out.calm M.out);go_wp2_with (fail);(with_reducible refine(p.out _ _ _ af.out aj).mono ?_);rintro e w4 ⟨rfl,⟨v4,Q,T⟩,s⟩;have an:=a0z (af.out.putted s Q T);have am:Hid (Fp [b,bm] w w4):=a0z (s.onto (HF.out.trans M.out (by simp)) (a0v _) (by intro i A;right;rw[List.mem_singleton.1 A];exact P));have al:=a0z (s.cells ((M.out.block _ (Ac HH.out) (by simp)).trans HH.out) (by simpa using Z) (by decide));clear Q T s;go_wp2_with (fail)
   go_roundg (gk-1)
   case measure=>omega
   case rel=>exact⟨k+1,v4,by omega,by go_num,by rw[ak.out];exact an.out,am.out,Or.inr ⟨g,f,rfl,Z,al.out,ap.out⟩⟩
  ·have zk:¬(k:Int)<(texts.length:Int):=by omega
   have q:texts.take k=texts:=by rw[List.take_of_length_le (by omega)]
   have K:=HD.out;rw[q] at K;have ao:=a0z K;clear q K;go_wp2_with (fail);go_ret2;exact⟨L,V,v,rfl,ao.out,HL.out,P,HF.out⟩
end
section
open Go.RowKit Go.Maps Go.MapKept Go.ChangeMaps
def Kq:Nat->List ByteArray->List (Nat × ByteArray)
 |_,[]=>[]
 |a,x::r=>(a+(6+x.size),x)::Kq (a+(6+x.size)) r
theorem jZ:∀(a:Nat) (xs:List ByteArray),(Kq a xs).map (·.2)=xs
 |_,[]=>rfl
 |a,x::r=>by show x::(Kq _ r).map (·.2)=_;rw[jZ]
theorem kA:∀(a:Nat) (x:ByteArray) (xs:List ByteArray),(Kq a (x::xs)).getLast?.map (·.1)=some (a+Cm (x::xs))
 |a,x,[]=>by show some (a+(6+x.size))=some (a+(6+x.size+0));rfl
 |a,x,y::r=>by
  have f:=kA (a+(6+x.size)) y r;show((a+(6+x.size),x)::Kq (a+(6+x.size)) (y::r)).getLast?.map (·.1)=_;rw[show Kq (a+(6+x.size)) (y::r)=(a+(6+x.size)+(6+y.size),y)::Kq (a+(6+x.size)+(6+y.size)) r from rfl,List.getLast?_cons_cons];rw[show Kq (a+(6+x.size)) (y::r)=(a+(6+x.size)+(6+y.size),y)::Kq (a+(6+x.size)+(6+y.size)) r from rfl] at f;rw[f];congr 1
  show _ =a+(6+x.size+Cm (y::r))
  omega
theorem wT(xs:List ByteArray):Gm (Kq 0 xs)=Cm xs:=by
 unfold Gm
 cases xs with
 |nil=>rfl
 |cons x r=>rw[kA];show 0+_ =_;omega
theorem kB:∀(xs:List ByteArray) (P T:List UInt8) (n:Nat),(∀x∈xs,x.size≤65535)→(B4 (bl T)).2.2≠0→(B9 xs).length<n→Jq n P.length (bl (P++(B9 xs++T)))=Kq P.length xs
 |[],P,T,0,_,_,h=>absurd h (a1u _)
 |_ ::_,_,_,0,_,_,h=>absurd h (a1u _)
 |[],P,T,n+1,_,hT,_=>by
  obtain⟨⟨t,k,e⟩,g⟩:∃x,B4 (bl T)=x:=⟨_,rfl⟩
  rw[g] at hT
  have a:B4 ((bl (P++T)).extract P.length (bl (P++T)).size)=(t,k,e):=by
   rw[Oz P T P.length rfl];exact g
  show Jq (n+1) P.length (bl (P++([]++T)))=[]
  rw[List.nil_append,Pg a hT]
 |x::xs,P,T,n+1,hs,hT,hn=>by
  have j:=hs x (by simp);rw[eH,a1z]
  have a:B4 ((bl (P++(C3 x++(B9 xs++T)))).extract P.length (bl (P++(C3 x++(B9 xs++T)))).size)=(x,6+x.size,0):=by
   rw[Oz P _ P.length rfl];exact Zi x _ j
  rw[eH,a0w,Pm] at hn;rw[Pe a];have f:=kB xs (P++C3 x) T n (fun y i=>hs y (List.mem_cons_of_mem _ i)) hT (by omega);rw[a0w,Pm,a1z] at f;rw[f];rfl
theorem kC(xs:List ByteArray)(T:List UInt8)(h:∀x∈xs,x.size<=65535)(a:(B4 (bl T)).2.2≠0):Dy (bl (B9 xs++T))=Kq 0 xs:=by
 have f:=kB xs [] T ((bl (B9 xs++T)).size+1) h a (by rw[Dm,a0w];omega);exact f
theorem wU(xs:List ByteArray)(h:∀x∈xs,x.size<=65535):Dy (bl (B9 xs))=Kq 0 xs:=by
 have a:=kC xs [] h (by rw[show B4 (bl [])=(⟨#[]⟩,0,3) from Vo rfl];decide)
 rwa [a2z] at a
theorem X8{d:Dk}(h:d.left=0):d.tick=d:=by
 obtain⟨c,z,F,o,l,k⟩:=d;simp only at h;subst h;rfl
theorem bE{d:Dk}(h:d.left=0)(b:Bool):d.does b=true:=by
 unfold Dk.does;rw[h]
 cases b<;>rfl
theorem kD{d:Dk}(h:d.left=0)(x:Dk):d.burnt x=x:=by
 unfold Dk.burnt;rw[h,if_neg (by decide)]
theorem kE{d:Dk}(h:d.left=0):d.told=0:=by
 unfold Dk.told;rw[h,if_neg (by decide)]
theorem Tj{d:Dk}{x:ByteArray}(f:d.off=false)(a:D9 x=true):d.named [x]=0:=eO f (by rw[a2v,a];rfl)
theorem wV{d:Dk}{x y:ByteArray}(g:d.off=false)(f:D9 x=true)(a:D9 y=true):d.named [x,y]=0:=eO g (by rw[a2v,a2v,f,a];rfl)
theorem wW{d:Dk}{x:ByteArray}{f:A7}(h:d.off=false)(a:D9 x=true)(i:Au d.files x=some f)(g:A7->Dk):d.thereD x g=d.burnt (g f)/\d.thereE x=d.told:=by
 unfold Dk.thereD Dk.thereE;rw[Tj h a,i];exact⟨if_neg (by decide),if_neg (by decide)⟩
theorem wX{d:Dk}{x:ByteArray}(f:d.off=false)(a:D9 x=true)(h:Au d.files x=none)(g:A7->Dk):d.thereD x g=d/\d.thereE x=3:=by
 unfold Dk.thereD Dk.thereE;rw[Tj f a,h];exact⟨if_neg (by decide),if_neg (by decide)⟩
theorem bF{d:Dk}{x:ByteArray}{f:A7}(i:d.off=false)(a:d.left=0)(h:D9 x=true)(j:Au d.files x=some f)(g:A7->Dk):d.thereD x g=g f/\d.thereE x=0:=by
 obtain⟨m,k⟩:=wW i h j g;rw[m,k,kD a,kE a];exact⟨rfl,rfl⟩
theorem bG{d:Dk}{x:ByteArray}{f:A7}(h:d.off=false)(a:d.left=0)(g:D9 x=true)(i:Au d.files x=some f):d.sync x=d.set x (synced f) false/\d.thereE x=0:=by
 obtain⟨k,j⟩:=bF h a g i (d.syncG x);refine⟨k.trans ?_,j⟩;unfold Dk.syncG;rw[bE a,X8 a];rfl
theorem bH{d:Dk}{x s:ByteArray}{f:A7}(g:d.off=false)(h:d.left=0)(j:D9 x=true)(i:Au d.files x=some f)(k:d.size+s.size≤d.cap):d.append x s=d.set x (Hv s f) false∧d.appendE x s=0:=by
 have a:d.full x s=false:=by
  unfold Dk.full;rw[i,g]
  simpa using k
 obtain⟨n,m⟩:=bF g h j i (fun f=>d.tick.set x (Hv s f) false);unfold Dk.append Dk.appendE;rw[a];refine⟨(n.trans ?_),m⟩;rw[X8 h]
theorem kF{d:Dk}{x:ByteArray}(f:d.off=false)(a:D9 x=true)(g:Au d.files x=none):d.delete x=d/\d.thereE x=3:=wX f a g _
theorem kG{d:Dk}{x:ByteArray}(g:d.off=false)(a:d.left=0)(f:D9 x=true)(h:Au d.files x=none)(j:d.files.length<200):d.create x=d.set x A6 false∧d.createE x=0:=by
 have i:¬200<=d.files.length:=by omega
 refine⟨?_,?_⟩
 case refine_2=>
  unfold Dk.createE;rw[Tj g f,h,if_neg (by decide),if_neg (by decide),if_neg i,kE a]
 unfold Dk.create;rw[Tj g f,h,if_neg (by decide),if_neg (by decide),if_neg i,kD a];unfold Dk.createG;rw[bE a,X8 a];rfl
theorem kH{d:Dk}{a b:ByteArray}{f:A7}(h:d.off=false)(g:d.left=0)(i:D9 a=true)(k:D9 b=true)(j:Au d.files a=some f):d.rename a b=(d.set a A6 true).set b f false/\d.renameE a b=0:=by
 obtain⟨n,m⟩:=bF h g i j (d.renameG a b);unfold Dk.rename Dk.renameE;rw[wV h i k,if_neg (by decide),if_neg (by decide)];refine⟨n.trans ?_,m⟩;unfold Dk.renameG;rw[bE g,X8 g];rfl
def Ei(nm:ByteArray)(c:Int)(f:A7):Dk:={cap:=c,size:=f.s.size,files:=[(nm,f)],off:=false,left:=0,keep:=0}
def Qb(c:Int):Dk:={cap:=c,size:=0,files:=[],off:=false,left:=0,keep:=0}
theorem kI(s:ByteArray):(⟨#[]⟩:ByteArray)++s=s:=by
 rw[show(⟨#[]⟩:ByteArray)=ByteArray.empty from rfl,ByteArray.empty_append]
theorem kJ{nm:ByteArray}{c:Int}{f:A7}(a:D9 nm=true):(Ei nm c f).read nm=(f.s,0):=by
 unfold Dk.read;rw[Tj rfl a,if_neg (by decide),show Au (Ei nm c f).files nm=some f from I8 rfl]
theorem wY{nm:ByteArray}{c:Int}(a:D9 nm=true):(Qb c).read nm=(⟨#[]⟩,3):=by
 unfold Dk.read;rw[Tj rfl a,if_neg (by decide)];rfl
theorem kK{nm:ByteArray}{c:Int}{f:A7}(a:D9 nm=true):(Ei nm c f).sync nm=Ei nm c (synced f)/\(Ei nm c f).thereE nm=0:=by
 obtain⟨h,g⟩:=bG (d:=Ei nm c f) rfl rfl a (f:=f) (I8 rfl);refine⟨h.trans ?_,g⟩;unfold Dk.set B5;rw[show Au (Ei nm c f).files nm=some f from I8 rfl];show Dk.mk c ((f.s.size:Int)+((f.s.size:Nat)-(f.s.size:Nat))) (Bf [(nm,f)] nm (synced f)) false 0 0=_;rw[a1w,a1v];unfold Bf;rw[if_pos rfl];rfl
theorem wZ{nm s:ByteArray}{c:Int}{f:A7}(M:D9 nm=true)(h:D9 (nm++J8)=true)(g:nm≠nm++J8)(N:(f.s.size:Int)+s.size≤c):(Ei nm c f).wWrite nm s=(Ei nm c ⟨s,s.size⟩,0):=by
 obtain⟨a,k⟩:∃o,nm++J8=o:=⟨_,rfl⟩
 unfold Dk.wWrite;rw[k] at h g ⊢;have u:(A6.s.size:Int)=0:=rfl
 have m:Au [(nm,f)] a=none:=by rw[Kt g];rfl
 have i:∀x:A7,Au [(nm,f),(a,x)] a=some x:=fun x=>by rw[Kt g,I8 rfl]
 have K:∀x:A7,Bf [(nm,f)] a x=[(nm,f),(a,x)]:=fun x=>by unfold Bf;rw[if_neg g];rfl
 have j:∀x y:A7,Bf [(nm,f),(a,x)] a y=[(nm,f),(a,y)]:=fun x y=>by unfold Bf;rw[if_neg g];unfold Bf;rw[if_pos rfl]
 have J:∀x:A7,Dt [(nm,f),(a,x)] a=[(nm,f)]:=fun x=>by
  unfold Dt;rw[List.filter_cons_of_pos (by simpa using g),List.filter_cons_of_neg (by simp)];rfl
 have I:∀x:A7,Bf [(nm,f)] nm x=[(nm,x)]:=fun x=>by unfold Bf;rw[if_pos rfl]
 obtain⟨Q,t⟩:=kF (d:=Ei nm c f) rfl h m;obtain⟨C,r⟩:=kG (d:=Ei nm c f) rfl rfl h m (by show 1<200;decide)
 have G:(Ei nm c f).set a A6 false=Dk.mk c f.s.size [(nm,f),(a,A6)] false 0 0:=by
  unfold Dk.set B5;rw[show Au (Ei nm c f).files a=none from m];show Dk.mk c ((f.s.size:Int)+((A6.s.size:Nat)-(A6.s.size:Nat))) (Bf [(nm,f)] a A6) false 0 0=_;rw[a1w,a1v,K]
 rw[G] at C;obtain⟨B,q⟩:=bH (d:=Dk.mk c f.s.size [(nm,f),(a,A6)] false 0 0) rfl rfl h (i _) (s:=s) N
 have F:(Dk.mk c f.s.size [(nm,f),(a,A6)] false 0 0).set a (Hv s A6) false=Dk.mk c ((f.s.size:Int)+s.size) [(nm,f),(a,⟨s,0⟩)] false 0 0:=by
  have O:Hv s A6=⟨s,0⟩:=by
   unfold Hv A6;rw[kI]
  rw[O];unfold Dk.set B5;rw[show Au (Dk.mk c f.s.size [(nm,f),(a,A6)] false 0 0).files a=some A6 from i _];show Dk.mk c ((f.s.size:Int)+((s.size:Nat)-(A6.s.size:Nat))) (Bf [(nm,f),(a,A6)] a ⟨s,0⟩) false 0 0=_;rw[u,Int.sub_zero,j]
 rw[F] at B;obtain⟨A,p⟩:=bG (d:=Dk.mk c ((f.s.size:Int)+s.size) [(nm,f),(a,⟨s,0⟩)] false 0 0) rfl rfl h (i _)
 have E:(Dk.mk c ((f.s.size:Int)+s.size) [(nm,f),(a,⟨s,0⟩)] false 0 0).set a (synced ⟨s,0⟩) false=Dk.mk c ((f.s.size:Int)+s.size) [(nm,f),(a,⟨s,s.size⟩)] false 0 0:=by
  unfold Dk.set B5;rw[show Au (Dk.mk c ((f.s.size:Int)+s.size) [(nm,f),(a,⟨s,0⟩)] false 0 0).files a=some ⟨s,0⟩ from i _];show Dk.mk c ((f.s.size:Int)+s.size+((s.size:Nat)-(s.size:Nat))) (Bf [(nm,f),(a,⟨s,0⟩)] a ⟨s,s.size⟩) false 0 0=_;rw[a1w,a1v,j]
 rw[E] at A;obtain⟨z,n⟩:=kH (d:=Dk.mk c ((f.s.size:Int)+s.size) [(nm,f),(a,⟨s,s.size⟩)] false 0 0) rfl rfl h M (i _)
 have D:((Dk.mk c ((f.s.size:Int)+s.size) [(nm,f),(a,⟨s,s.size⟩)] false 0 0).set a A6 true).set nm ⟨s,s.size⟩ false=Ei nm c ⟨s,s.size⟩:=by
  have P:(Dk.mk c ((f.s.size:Int)+s.size) [(nm,f),(a,⟨s,s.size⟩)] false 0 0).set a A6 true=Dk.mk c f.s.size [(nm,f)] false 0 0:=by
   unfold Dk.set B5;rw[show Au (Dk.mk c ((f.s.size:Int)+s.size) [(nm,f),(a,⟨s,s.size⟩)] false 0 0).files a=some ⟨s,s.size⟩ from i _];show Dk.mk c ((f.s.size:Int)+s.size+((A6.s.size:Nat)-(s.size:Nat))) (Dt (Bf [(nm,f),(a,⟨s,s.size⟩)] a A6) a) false 0 0=_;rw[u,j,J];congr 1;omega
  rw[P];unfold Dk.set B5;rw[show Au (Dk.mk c f.s.size [(nm,f)] false 0 0).files nm=some f from I8 rfl];show Dk.mk c ((f.s.size:Int)+((s.size:Nat)-(f.s.size:Nat))) (Bf [(nm,f)] nm ⟨s,s.size⟩) false 0 0=_;rw[I];unfold Ei;congr 1
  show(f.s.size:Int)+((s.size:Nat)-(f.s.size:Nat))=(s.size:Nat)
  omega
 rw[D] at z;unfold R5;simp only[Il,Q,t,C,r,B,q,A,p,z,n,if_true]
theorem xA{nm s:ByteArray}{c:Int}(F:D9 nm=true)(f:D9 (nm++J8)=true)(K:(s.size:Int)≤c):(Qb c).wWrite nm s=(Ei nm c ⟨s,s.size⟩,0):=by
 obtain⟨a,j⟩:∃o,nm++J8=o:=⟨_,rfl⟩
 unfold Dk.wWrite;rw[j] at f ⊢;have i:(A6.s.size:Int)=0:=rfl
 have g:∀x:A7,Au [(a,x)] a=some x:=fun x=>I8 rfl
 have h:∀x y:A7,Bf [(a,x)] a y=[(a,y)]:=fun x y=>by unfold Bf;rw[if_pos rfl]
 have E:∀x:A7,Dt [(a,x)] a=[]:=fun x=>by
  unfold Dt;rw[List.filter_cons_of_neg (by simp)];rfl
 obtain⟨J,q⟩:=kF (d:=Qb c) rfl f rfl;obtain⟨z,p⟩:=kG (d:=Qb c) rfl rfl f rfl (by show 0<200;decide);have D:(Qb c).set a A6 false=Dk.mk c 0 [(a,A6)] false 0 0:=rfl;rw[D] at z;obtain⟨u,n⟩:=bH (d:=Dk.mk c 0 [(a,A6)] false 0 0) rfl rfl f (g _) (s:=s) (by show(0:Int)+_ <=c;omega)
 have C:(Dk.mk c 0 [(a,A6)] false 0 0).set a (Hv s A6) false=Dk.mk c s.size [(a,⟨s,0⟩)] false 0 0:=by
  have G:Hv s A6=⟨s,0⟩:=by
   unfold Hv A6;rw[kI]
  rw[G];unfold Dk.set B5;rw[show Au (Dk.mk c 0 [(a,A6)] false 0 0).files a=some A6 from g _];show Dk.mk c ((0:Int)+((s.size:Nat)-(A6.s.size:Nat))) (Bf [(a,A6)] a ⟨s,0⟩) false 0 0=_;rw[i,Int.sub_zero,Int.zero_add,h]
 rw[C] at u;obtain⟨t,m⟩:=bG (d:=Dk.mk c s.size [(a,⟨s,0⟩)] false 0 0) rfl rfl f (g _)
 have B:(Dk.mk c s.size [(a,⟨s,0⟩)] false 0 0).set a (synced ⟨s,0⟩) false=Dk.mk c s.size [(a,⟨s,s.size⟩)] false 0 0:=by
  unfold Dk.set B5;rw[show Au (Dk.mk c s.size [(a,⟨s,0⟩)] false 0 0).files a=some ⟨s,0⟩ from g _];show Dk.mk c ((s.size:Int)+((s.size:Nat)-(s.size:Nat))) (Bf [(a,⟨s,0⟩)] a ⟨s,s.size⟩) false 0 0=_;rw[a1w,a1v,h]
 rw[B] at t;obtain⟨r,k⟩:=kH (d:=Dk.mk c s.size [(a,⟨s,s.size⟩)] false 0 0) rfl rfl f F (g _)
 have A:((Dk.mk c s.size [(a,⟨s,s.size⟩)] false 0 0).set a A6 true).set nm ⟨s,s.size⟩ false=Ei nm c ⟨s,s.size⟩:=by
  have I:(Dk.mk c s.size [(a,⟨s,s.size⟩)] false 0 0).set a A6 true=Dk.mk c 0 [] false 0 0:=by
   unfold Dk.set B5;rw[show Au (Dk.mk c s.size [(a,⟨s,s.size⟩)] false 0 0).files a=some ⟨s,s.size⟩ from g _];show Dk.mk c ((s.size:Int)+((A6.s.size:Nat)-(s.size:Nat))) (Dt (Bf [(a,⟨s,s.size⟩)] a A6) a) false 0 0=_;rw[i,h,E];congr 1;omega
  rw[I];unfold Dk.set B5;show Dk.mk c ((0:Int)+((s.size:Nat)-(A6.s.size:Nat))) [(nm,⟨s,s.size⟩)] false 0 0=_;rw[i,Int.sub_zero,Int.zero_add];rfl
 rw[A] at r;unfold R5;simp only[Il,J,q,z,p,u,n,t,m,r,k,if_true]
theorem kL{nm:ByteArray}(h:¬(nm.size=0∨59<nm.size)):D9 nm=true/\D9 (nm++J8)=true/\nm≠nm++J8:=by
 have a:(nm++J8).size=nm.size+1:=by rw[a2x];rfl
 refine⟨eP (by omega) (by omega),eP (by omega) (by omega),fun e=>?_⟩;have:=congrArg ByteArray.size e;omega
theorem xB{nm:ByteArray}{c:Int}(f:¬(nm.size=0∨59<nm.size))(i:0<=c):(Qb c).wOpen nm=(Ei nm c ⟨⟨#[]⟩,0⟩,0,[]):=by
 obtain⟨a,g,-⟩:=kL f;have h:Dy ⟨#[]⟩=[]:=wU [] (by simp);unfold Dk.wOpen;rw[if_neg f,wY a,if_neg (by decide)];simp only[h,true_or,if_true];rw[show(⟨#[]⟩:ByteArray).extract 0 (Gm [])=⟨#[]⟩ from rfl,xA a g (s:=⟨#[]⟩) (by show(0:Int)<=c;omega)];rfl
theorem xC{nm:ByteArray}{c:Int}{xs:List ByteArray}{T:List UInt8}{k:Nat}(o:¬(nm.size=0∨59<nm.size))(h:∀x∈xs,x.size≤65535)(s:(B4 (bl T)).2.2≠0)(y:2*((Cm xs:Int)+T.length)≤c):
  (Ei nm c ⟨bl (B9 xs++T),k⟩).wOpen nm=(Ei nm c ⟨bl (B9 xs),Cm xs⟩,0,xs):=by
 obtain⟨j,q,m⟩:=kL o;have r:=kC xs T h s
 have g:(bl (B9 xs++T)).size=Cm xs+T.length:=by rw[Dm,a0w,Nb]
 have a:(bl (B9 xs)).size=Cm xs:=by rw[Dm,Nb]
 unfold Dk.wOpen;rw[if_neg o,kJ j,if_neg (fun h=>h.1 rfl)];simp only[r,wT,g,jZ]
 by_cases i:T=[]
 ·subst i;rw[if_neg (by simp)];obtain⟨u,t⟩:=kK (nm:=nm) (c:=c) (f:=⟨bl (B9 xs++[]),k⟩) j;simp only[u,t,if_true];unfold synced;simp only[a2z,a]
 ·have p:0<T.length:=List.length_pos_iff.2 i;have n:(bl (B9 xs++T)).extract 0 (Cm xs)=bl (B9 xs):=Vv _ _ _ (Nb xs).symm;rw[if_pos (Or.inr (by omega)),n,wZ j q m (by rw[a];show((bl (B9 xs++T)).size:Int)+_ <=c;rw[g];omega),a];simp only[if_true]
theorem xE{nm:ByteArray}{c:Int}{xs:List ByteArray}{k:Nat}(a:¬(nm.size=0∨59<nm.size))(h:∀x∈xs,x.size≤65535)(f:2*(Cm xs:Int)≤c):
  (Ei nm c ⟨bl (B9 xs),k⟩).wOpen nm=(Ei nm c ⟨bl (B9 xs),Cm xs⟩,0,xs):=by
 have g:=xC (nm:=nm) (c:=c) (xs:=xs) (T:=[]) (k:=k) a h (by rw[show B4 (bl [])=(⟨#[]⟩,0,3) from Vo rfl];decide) (by simpa using f)
 rwa [a2z] at g
theorem xF{nm:ByteArray}{c z:Int}{f g:A7}{l k:Int}(a:z=f.s.size):(Dk.mk c z [(nm,f)] false l k).set nm g false=Dk.mk c g.s.size [(nm,g)] false l k:=by
 unfold Dk.set B5;rw[show Au (Dk.mk c z [(nm,f)] false l k).files nm=some f from I8 rfl];show Dk.mk c (z+((g.s.size:Nat)-(f.s.size:Nat))) (Bf [(nm,f)] nm g) false l k=_;unfold Bf;rw[if_pos rfl];congr 1;omega
end
section
open Go.RowKit
theorem xG(id p e:Nat)(y:List UInt8):A5 (bl (Jv id p e++y)) 8=a0x p/\A5 (bl (Jv id p e++y)) 9=a0x e/\A5 (bl (Jv id p e++y)) 10=a0x (e/256):=by
 refine⟨?_,?_,?_⟩<;>rw[K8]<;>rfl
theorem xH(id p e:Nat)(y:List UInt8)(h:id<18446744073709551616):Bn (bl (Jv id p e++y)) 8=id:=by
 have a:=aN id ([a0x p,a0x e,a0x (e/256)]++y) 8 (a0v _);rw[show bl (Jv id p e++y)=bl (Gx id++([a0x p,a0x e,a0x (e/256)]++y)) by unfold Jv;rw[a1z],a];exact Nat.mod_eq_of_lt (by simpa using h)
theorem xI(j:A4):Bj j=bl (Jv j.id j.phase.toNat j.e.toNat++j.input.data.toList):=by
 unfold Bj
 conv=>lhs;rw[<-L1 j.input]
 rw[Q3]
theorem xJ{j:A4}(y:Pv j)(m:Of j=false)(u:¬60000<j.input.size):Ha (Bj j)=(j,0):=by
 obtain⟨id,p,x,inp⟩:=j;unfold Of at m;simp only[Bool.or_eq_false_iff,decide_eq_false_iff_not] at m;obtain⟨⟨⟨C,B⟩,A⟩,z⟩:=m;simp only at u;have i:id<18446744073709551616:=y.id;have a:=Zs ⟨id,p,x,inp⟩;simp only at a
 obtain⟨pn,rfl⟩:∃n:Nat,p=n:=⟨p.toNat,by omega⟩
 obtain⟨xn,rfl⟩:∃n:Nat,x=n:=⟨x.toNat,by omega⟩
 have g:=xI ⟨id,pn,xn,inp⟩;simp only[Int.toNat_natCast] at g;obtain⟨r,q,f⟩:=xG id pn xn inp.data.toList;rw[<-g] at r q f;have o:=xH id pn xn inp.data.toList i;rw[<-g] at o
 have t:(a0x pn).toNat=pn:=by rw[a0u];omega
 have s:(a0x xn).toNat=xn%256:=by rw[a0u]
 have h:(a0x (xn/256)).toNat=xn/256:=by rw[a0u];omega
 have k:(Bj ⟨id,pn,xn,inp⟩).extract 11 (Bj ⟨id,pn,xn,inp⟩).size=inp:=by
  rw[g,Oz _ _ _ (eK _ _ _).symm,L1]
 unfold Ha Zr eJ;rw[o,k,r,q,f,t,s,h,a];rw[if_neg]
 ·have:xn%256+xn/256*256=xn:=by omega
  rw[this]
 ·simp only[Bool.or_eq_true,decide_eq_true_eq];omega
theorem xK{nm:ByteArray}{c:Int}{s r:ByteArray}(h:D9 nm=true)(m:(s.size:Int)+r.size≤c):
  (Ei nm c ⟨s,s.size⟩).wAppend nm r=(Ei nm c ⟨s++r,(s++r).size⟩,0):=by
 have k:(s++r).size=s.size+r.size:=a2x;obtain⟨i,g⟩:=bH (d:=Ei nm c ⟨s,s.size⟩) (x:=nm) (s:=r) rfl rfl h (I8 rfl) m
 have j:(Ei nm c ⟨s,s.size⟩).set nm (Hv r ⟨s,s.size⟩) false=Ei nm c ⟨s++r,s.size⟩:=by
  show(Dk.mk c s.size [(nm,⟨s,s.size⟩)] false 0 0).set nm ⟨s++r,s.size⟩ false=_;rw[xF (f:=⟨s,s.size⟩) rfl];rfl
 rw[j] at i;obtain⟨n,a⟩:=kK (nm:=nm) (c:=c) (f:=⟨s++r,s.size⟩) h;unfold Dk.wAppend Uw;simp only[Il,i,g,n,a,if_true];rfl
def Fa(c:Int)(texts:List ByteArray):Dk:=Ei Hz c ⟨bl (B9 texts),Cm texts⟩
def H7(texts:List ByteArray):Lg:=⟨Hz,texts.length,false⟩
def Vs(texts:List ByteArray):Prop:=∀t∈texts,(Ha t).2=0/\t.size<=65535
theorem kM:D9 Hz=true:=by decide
theorem kN:¬(Hz.size=0∨59<Hz.size):=by decide
theorem bI{c:Int}{texts:List ByteArray}(i:c≤1000000000)(h:(Cm texts:Int)≤c):Av (Fa c texts):=by
 have a:(bl (B9 texts)).size=Cm texts:=by rw[Dm,Nb]
 have f:total [(Hz,(⟨bl (B9 texts),Cm texts⟩:A7))]=Cm texts:=by simp[total,a]
 refine⟨?_,?_,i,by simp[Fa,Ei,Br],?_,by simp[Fa,Ei],Int.le_refl _,(by show(0:Int)<=9223372036854775807;decide),(by show(-9223372036854775808:Int)<=0;decide),(by show(0:Int)<=9223372036854775807;decide)⟩
 ·show((bl (B9 texts)).size:Int)=((total [(Hz,(⟨bl (B9 texts),Cm texts⟩:A7))]:Nat):Int)
  rw[f,a]
 ·show((total [(Hz,(⟨bl (B9 texts),Cm texts⟩:A7))]:Nat):Int)<=c;rw[f];exact h
 ·intro p g
  have:p=(Hz,(⟨bl (B9 texts),Cm texts⟩:A7)):=by simpa [Fa,Ei] using g
  subst this;show Cm texts<=(bl (B9 texts)).size;rw[a];exact a0v _
theorem xM{c:Int}{texts:List ByteArray}:((Fa c texts).read Hz).1.size=Cm texts:=by
 unfold Fa;rw[kJ kM];show(bl (B9 texts)).size=_;rw[Dm,Nb]
theorem xN{c:Int}{texts:List ByteArray}(h:Vs texts)(f:2*(Cm texts:Int)<=c):(Fa c texts).wOpen Hz=(Fa c texts,0,texts):=
 xE kN (fun x a=>(h x a).2) f
theorem xO{c:Int}(a:0<=c):(Dk.new c).wOpen Hz=(Fa c [],0,[]):=by
 have h:=xB (nm:=Hz) (c:=c) kN a
 have e:Dk.new c=Qb c:=by unfold Dk.new Qb;rw[Int.max_eq_left a]
 rw[e,h];rfl
theorem xP{c:Int}{texts:List ByteArray}{s:ByteArray}(m:s.size≤65535)(o:(Cm texts:Int)+6+s.size≤c):
  Hl (H7 texts) (Fa c texts) [s]=(H7 (texts++[s]),Fa c (texts++[s]),0):=by
 have f:(bl (B9 texts)).size=Cm texts:=by rw[Dm,Nb]
 have n:(bl (B9 [s])).size=6+s.size:=by rw[Dm,Nb];rfl
 have i:=xK (nm:=Hz) (c:=c) (s:=bl (B9 texts)) (r:=bl (B9 [s])) kM (by rw[f,n];omega);have h:Ju [s]=(bl (B9 [s]),0):=rW (by intro t k;rw[List.mem_singleton.1 k];exact m)
 have g:bl (B9 texts)++bl (B9 [s])=bl (B9 (texts++[s])):=by rw[Q3,<-rI]
 rw[g] at i
 have a:(bl (B9 (texts++[s]))).size=Cm (texts++[s]):=by rw[Dm,Nb]
 rw[f,a] at i;unfold Hl K3;rw[show(H7 texts).off=false from rfl,h,if_neg (by decide),if_neg (by simp)];have j:(Fa c texts).wAppend (H7 texts).name (bl (B9 [s]))=(Fa c (texts++[s]),0):=i;simp only[j,if_true];unfold H7;simp only[a0w,List.length_cons,List.length_nil]
theorem kO{c:Int}{texts:List ByteArray}{j:A4}(o:Pv j)(k:Of j=false)(g:¬60000<j.input.size)(h:Vs texts)(r:(Cm texts:Int)+17+j.input.size≤c):
  Eg (Fa c texts) (H7 texts) (Ef texts) j=⟨Fa c (texts++[Bj j]),H7 (texts++[Bj j]),Ef (texts++[Bj j]),0⟩/\Vs (texts++[Bj j])/\Ef (texts++[Bj j])=He (Ef texts) j:=by
 have p:En j=(Bj j,0):=by unfold En;rw[k,if_neg (by decide),if_neg g]
 have n:=Zs j;have i:=xJ o k g;have q:=xP (c:=c) (texts:=texts) (s:=Bj j) (by omega) (by omega)
 have a:Ef (texts++[Bj j])=He (Ef texts) j:=by rw[rL,i]
 refine⟨?_,?_,a⟩
 ·rw[sF p q,a]
 ·intro t m
  rcases List.mem_append.1 m with f|f
  ·exact h t f
  ·rw[List.mem_singleton.1 f,i];exact⟨rfl,by omega⟩
theorem kP(texts:List ByteArray)(j:A4):Cm (texts++[Bj j])=Cm texts+17+j.input.size:=by
 rw[Zq];show Cm texts+(6+(Bj j).size+0)=_;rw[Zs];omega
end
end Go.Proofs.YtkagolpnaicdoaaGreatDoor
