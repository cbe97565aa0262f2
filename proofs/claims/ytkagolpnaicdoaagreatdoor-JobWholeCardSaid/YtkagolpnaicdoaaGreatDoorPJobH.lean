/-
 job.hex, job.Name. layer 20's small case (plain). layer 20: shown, walked. A slice of cells that came in (as in XTabFrame, for a base that has the rest of it elsewhere). What every Parse law's frame needs: the laid variables handed on. names of files: numbers at base sixteen, digit by digit; how names stand (plain). What the laws of layer 20 take out of the laid variables.
-/
import Derived.Test.YtkagolpnaicdoaaGreatDoorPJobD
import Derived.Test.YtkagolpnaicdoaaGreatDoorPDrvD
import Derived.Stop.LaidErr
set_option maxRecDepth 100000
set_option maxHeartbeats 8000000
open Go.Lib renaming hid->a0z
open List renaming not_mem_nil->a0x,mem_cons->a0w
open Nat renaming zero_le->a0v
namespace Go.Proofs.YtkagolpnaicdoaaGreatDoor
section
open Go.RowKit Go.Lib
theorem yX(u:Nat)(d:u<18446744073709551616)(w:World)(a:I4 w):
  Calls Tryz.prog 121 #[.int .u64 u,.int .i64 16] w fun e w'=>e=.returned (.string ⟨(Ek u).toArray⟩)/\Fp [] w w':=by
 have H:=a0z (yW u d w a);clear a;go_enter Tryz.func121,Tryz.ntmps121;go_wp2_with (fail);(with_reducible refine H.out.mono ?_);rintro e g ⟨rfl,b⟩;have f:=a0z b;clear b;go_wp2_with (fail);go_ret;exact⟨rfl,f.out⟩
theorem yY(u:Nat)(d:u<18446744073709551616)(w:World)(a:I4 w):
  Calls Tryz.prog 69 #[.int .u64 u,.int .i64 16] w fun e w'=>e=.returned (.string ⟨(Ek u).toArray⟩)/\Fp [] w w':=by
 have H:=a0z (yX u d w a);clear a;go_enter Tryz.func69,Tryz.ntmps69;go_wp2_with (fail);(with_reducible refine H.out.mono ?_);rintro e g ⟨rfl,b⟩;have f:=a0z b;clear b;go_wp2_with (fail);go_ret;exact⟨rfl,f.out⟩
theorem bT:∀(k u:Nat),1≤k→u<16^k→(Ek u).length≤k
 |0,_,h,_=>absurd h (by decide)
 |k+1,u,_,hu=>by
  by_cases h:u<16
  ·rw[Vx h];exact Nat.succ_le_succ (a0v _)
  ·rw[bS h,List.length_append,List.length_singleton];rw[Nat.pow_succ] at hu
   have a:1<=k:=by
    rcases Nat.eq_zero_or_pos k with rfl|b
    ·simp at hu;omega
    ·exact b
   have:=bT k (u/16) a (by omega);omega
def J2(u many:Nat):ByteArray:=L4 (many-(Ek u).length)++⟨(Ek u).toArray⟩
theorem bU(u many:Nat)(o:many≤16)(p:1≤many)(i:u<16^many)(w:World)(d:I4 w):
  Calls Tryz.prog 58 #[.int .u64 u,.int .i64 many] w fun e w'=>e=.returned (.string (J2 u many))/\Fp [] w w':=by
 have b:u<18446744073709551616:=Nat.lt_of_lt_of_le i (Nat.pow_le_pow_right (by decide) o);have f:=bT many u p i
 obtain⟨n,h⟩:∃n,(Ek u).length=n:=⟨_,rfl⟩
 have g:(⟨(Ek u).toArray⟩:ByteArray).size=n:=by rw[<-h];rfl
 have H:=a0z (yY u b w d);have s:=a0z (fun w=>yS w (many-n) (by omega))
 have t:Hid (J2 u many=L4 (many-n)++⟨(Ek u).toArray⟩):=by rw[<-h];exact a0z rfl
 rw[t.out]
 have z1:(many:Int)-(n:Int)=((many-n:Nat):Int):=by omega
 obtain⟨r,j⟩:∃r:ByteArray,(⟨(Ek u).toArray⟩:ByteArray)=r:=⟨_,rfl⟩
 rw[j] at H g ⊢
 have a:(L4 (many-n)).size=many-n:=by unfold L4;exact Array.size_replicate ..
 have m:(L4 (many-n)).size+r.size<=9223372036854775807:=by omega
 have q:=a0z a;clear d h f j a
 have k:¬9223372036854775807<(L4 (many-n)).size+r.size:=by omega
 go_enter Tryz.func58,Tryz.ntmps58;go_wp2_with (fail);(with_reducible refine H.out.mono ?_);rintro e x ⟨rfl,l⟩;have v:=a0z l;clear l;go_wp2_with (fail);(with_reducible refine(s.out _).mono ?_);rintro e w2 ⟨rfl,rfl⟩;go_wp2_with (fail);go_ret;exact⟨rfl,v.out⟩
theorem bV(u many:Nat)(b:1<=many)(a:u<16^many):(J2 u many).size=many:=by
 have h:=bT many u b a;unfold J2;rw[ByteArray.size_append]
 have f:(L4 (many-(Ek u).length)).size=many-(Ek u).length:=by unfold L4;exact Array.size_replicate ..
 have d:(⟨(Ek u).toArray⟩:ByteArray).size=(Ek u).length:=rfl;omega
def Yb(id ep k:Nat):ByteArray:=((((⟨#[115]⟩:ByteArray)++J2 id 16)++⟨#[45]⟩)++J2 ep 16)++⟨#[45]⟩++J2 k 4
theorem yZ(id a k:Nat)(d:id<18446744073709551616)(j:a<18446744073709551616)(s:k<65536)(w:World)(b:I4 w):
  Calls Tryz.prog 15 #[.int .u64 id,.int .u64 a,.int .u16 k] w fun e w'=>e=.returned (.string (Yb id a k))/\Fp [] w w':=by
 have v:Hid (∀w,I4 w->Calls Tryz.prog 58 #[.int .u64 id,.int .i64 16] w fun e w'=>e=.returned (.string (J2 id 16))/\Fp [] w w'):=a0z (fun w h=>bU id 16 (by decide) (by decide) (by simpa using d) w h);have u:Hid (∀w,I4 w->Calls Tryz.prog 58 #[.int .u64 a,.int .i64 16] w fun e w'=>e=.returned (.string (J2 a 16))/\Fp [] w w'):=a0z (fun w h=>bU a 16 (by decide) (by decide) (by simpa using j) w h);have t:Hid (∀w,I4 w->Calls Tryz.prog 58 #[.int .u64 k,.int .i64 4] w fun e w'=>e=.returned (.string (J2 k 4))/\Fp [] w w'):=a0z (fun w h=>bU k 4 (by decide) (by decide) (by simpa using s) w h);have B:=bV id 16 (by decide) (by simpa using d);have A:=bV a 16 (by decide) (by simpa using j);have z:=bV k 4 (by decide) (by simpa using s);have q:=a0z b;unfold Yb
 obtain⟨E,p⟩:∃x,J2 id 16=x:=⟨_,rfl⟩
 obtain⟨D,o⟩:∃x,J2 a 16=x:=⟨_,rfl⟩
 obtain⟨C,n⟩:∃x,J2 k 4=x:=⟨_,rfl⟩
 rw[p] at v B;rw[o] at u A;rw[n] at t z;rw[p,o,n];clear b p o n;go_enter Tryz.func15,Tryz.ntmps15;go_wp2_with (fail);(with_reducible refine(v.out _ q.out).mono ?_);rintro e G ⟨rfl,i⟩;have m:=a0z i;clear i
 have y:IntKind.u64.wrap (k:Int)=(k:Int):=by rw[IntKind.wrap_u64];omega
 go_wp2_with (fail);(with_reducible refine(u.out _ (q.out.fp m.out (by simp))).mono ?_);rintro e w2 ⟨rfl,g⟩;have l:=a0z (m.out.trans g (by simp));clear g;go_wp2_with (fail);(with_reducible refine(t.out _ (q.out.fp l.out (by simp))).mono ?_);rintro e F ⟨rfl,f⟩;have r:=a0z (l.out.trans f (by simp));clear f;go_wp2_with (fail);go_ret;exact⟨rfl,r.out⟩
end
section
open Go.RowKit
def Q9:ByteArray:=⟨#[122,32,99,32,49,32,61,118,10,97,32,99,32,49,32,61,119,10]⟩
def Qf:ByteArray:=⟨#[109]⟩
def F6:Aa:=⟨⟨#[122]⟩,⟨#[99]⟩,1,0,false,⟨#[118]⟩⟩
def Fv:Aa:=⟨⟨#[97]⟩,⟨#[99]⟩,1,0,false,⟨#[119]⟩⟩
theorem zA:Et Q9=([F6,Fv],0,0):=by kernel_rfl
theorem zB:B3 F6:=⟨by decide,by decide,by decide,by decide,by decide⟩
theorem zC:B3 Fv:=⟨by decide,by decide,by decide,by decide,by decide⟩
theorem zD:Bv (Dj [F6,Fv]) [⟨Fv,1⟩,⟨F6,0⟩]:=by
 have j:Dj [F6,Fv]=[⟨F6,0⟩,⟨Fv,1⟩]:=rfl
 have i:Ba ⟨Fv,1⟩ ⟨F6,0⟩=false:=by kernel_rfl
 have g:Ba ⟨F6,0⟩ ⟨Fv,1⟩=false:=by kernel_rfl
 have f:Ba ⟨Fv,1⟩ ⟨Fv,1⟩=true:=by kernel_rfl
 have d:Ba ⟨F6,0⟩ ⟨F6,0⟩=true:=by kernel_rfl
 rw[j];refine⟨?_,?_,?_,?_⟩
 ·refine List.Pairwise.cons ?_ (List.Pairwise.cons (by simp) List.Pairwise.nil);intro y a;rw[List.mem_singleton.1 a];exact of_decide_eq_true (by kernel_rfl)
 ·intro x b;simp only[a0w,a0x,or_false] at b ⊢
  rcases b with rfl|rfl
  ·exact Or.inr rfl
  ·exact Or.inl rfl
 ·intro x b y a h;simp only[a0w,a0x,or_false] at b a
  rcases b with rfl|rfl<;>rcases a with rfl|rfl
  ·rw[i] at h;cases h
  ·exact Nat.le_refl _
  ·exact Nat.le_refl _
  ·rw[g] at h;cases h
 ·intro y a;simp only[a0w,a0x,or_false] at a
  rcases a with rfl|rfl
  ·exact⟨_,by simp,d⟩
  ·exact⟨⟨Fv,1⟩,by simp,f⟩
theorem lL(l:List Aa):aT (Dj l):=by
 intro x d y b _ h;have k:(Dj l).length=l.length:=Qq l _;obtain⟨i,g,e⟩:=List.mem_iff_getElem.1 d;obtain⟨j,f,a⟩:=List.mem_iff_getElem.1 b;rw[show(Dj l)[i]=⟨l.getD i Az,i⟩ from Y3 l l.length i g] at e;rw[show(Dj l)[j]=⟨l.getD j Az,j⟩ from Y3 l l.length j f] at a;subst e;subst a;simp only at h;subst h;rfl
theorem zE{a:List (List Aa)}(h:Gf [Fv,F6] [Qf] a):a=[[Fv],[F6]]:=by
 cases h with
 |cons _ _ _ out2 h hle h1 h2 h3=>
  have b:Ic F6.row Qf=false:=by kernel_rfl
  have f:Ic Fv.row Qf=true:=by kernel_rfl
  have d:h=0∨h=1∨h=2:=by simp at hle;omega
  rcases d with rfl|rfl|rfl
  ·have:=h1 (by decide);rw[show([Fv,F6].getD 0 Az)=Fv from rfl,f] at this;cases this
  ·cases h3;rfl
  ·have:=h2 (by decide);rw[show([Fv,F6].getD (2-1) Az)=F6 from rfl,b] at this;cases this
theorem lM(c:Aa):Ld [c] 9=[[c]]:=by
 have b:Jz [c] 0=true:=by
  unfold Jz;simp
 have a:Eh [c] 0 0=[(0,1)]:=by
  rw[Ta (by simp) b,Td (by simp)]
 unfold Ld;rw[a];rfl
theorem lN:Hg 9 [[Fv],[F6]]=[(0,[Fv]),(1,[F6])]:=by
 unfold Hg;rw[show[[Fv],[F6]].length=0+1+1 from rfl,Ti,Ti];rw[show([[Fv],[F6]].getD 0 [])=[Fv] from rfl,show([[Fv],[F6]].getD (0+1) [])=[F6] from rfl,lM,lM];rfl
theorem zF:K2 [(0,[Fv]),(1,[F6])]=[0,0]:=by kernel_rfl
theorem lO{k:Nat}{files:List ByteArray}(h:G2 Q9 [Qf] 9 2 9 k files):k=0∧files.length=2:=by
 have j:=zA
 have f:∀{r:List Ad} {d:List (List Aa)} {a:Nat},(9:Int)=(a:Int)->Bv (Dj (Et Q9).1) r->Gf (r.map (·.c)) [Qf] d->a=9/\d=[[Fv],[F6]]:=by
  intro r d a b g i;rw[j] at g;have n:=Bv.unique (Ul (l:=[F6,Fv]) (by intro c m;simp only[a0w,a0x,or_false] at m;rcases m with rfl|rfl;exact zB;exact zC) (by decide)) (lL _) g zD;subst n;exact⟨by omega,zE i⟩
 cases h with
 |parse b=>rw[j] at b;exact absurd rfl b
 |none _ b=>rw[j] at b;cases b
 |sort _ _ b=>omega
 |cut _ _ _ _ b=>
  rcases b with b|b
  ·rw[show G8 [Qf]=true by kernel_rfl] at b;cases b
  ·omega
 |build r d a _ _ _ _ _ _ b g i h4=>
  obtain⟨rfl,rfl⟩:=f b g i;rw[lN,zF] at h4;exact absurd rfl h4
 |ok r d a _ _ _ _ _ _ b g i h4=>
  obtain⟨rfl,rfl⟩:=f b g i;rw[lN];exact⟨rfl,rfl⟩
theorem zG:Yb 255 1 2=⟨#[115,48,48,48,48,48,48,48,48,48,48,48,48,48,48,102,102,45,48,48,48,48,48,48,48,48,48,48,48,48,48,48,48,49,45,48,48,48,50]⟩:=by
 have d:Ek 255=[102,102]:=by rw[bS (by decide),Vx (by decide)];rfl
 have b:Ek 1=[49]:=by rw[Vx (by decide)];rfl
 have a:Ek 2=[50]:=by rw[Vx (by decide)];rfl
 unfold Yb J2;rw[d,b,a]
 decide+kernel
end
section
open Go.RowKit Go.Lib Go.Maps Go.MapKept Go.ChangeMaps
def Vy:ByteArray:=⟨#[120]⟩
def Dw:A4:=⟨7,1,0,Vy⟩
def Jg:A4:=⟨7,2,0,Vy⟩
theorem lP:Pv Dw:=⟨by decide,by decide,by decide,by decide,by decide,by decide⟩
theorem zH:Pv Jg:=⟨by decide,by decide,by decide,by decide,by decide,by decide⟩
theorem bW:Eg (Fa 10000 []) (H7 []) (Ef []) Dw=⟨Fa 10000 ([]++[Bj Dw]),H7 ([]++[Bj Dw]),Ef ([]++[Bj Dw]),0⟩/\Vs ([]++[Bj Dw])/\Ef ([]++[Bj Dw])=He (Ef []) Dw:=
 kO lP (by decide) (by decide) (by intro t a;cases a) (by decide)
theorem Yc:Ef [Bj Dw]=[Dw]:=by
 have h:=bW.2.2;exact h
theorem zI:Ot (Fa 10000 []) (H7 []) (Ef []) 7 Vy=⟨Fa 10000 [Bj Dw],H7 [Bj Dw],Ef [Bj Dw],0⟩:=by
 have h:=bW.1;exact h
theorem bX:Cm [Bj Dw]=18:=by
 have h:=kP [] Dw;exact h
theorem Vz:Eg (Fa 10000 [Bj Dw]) (H7 [Bj Dw]) (Ef [Bj Dw]) Jg=⟨Fa 10000 ([Bj Dw]++[Bj Jg]),H7 ([Bj Dw]++[Bj Jg]),Ef ([Bj Dw]++[Bj Jg]),0⟩/\Vs ([Bj Dw]++[Bj Jg])/\Ef ([Bj Dw]++[Bj Jg])=He (Ef [Bj Dw]) Jg:=
 kO zH (by decide) (by decide) bW.2.1 (by rw[bX];decide)
theorem zJ:Ef ([Bj Dw]++[Bj Jg])=[Jg]:=by
 have h:=Vz.2.2;rw[Yc] at h;exact h
theorem zK:Ou (Fa 10000 [Bj Dw]) (H7 [Bj Dw]) (Ef [Bj Dw]) 7 2 0=⟨Fa 10000 ([Bj Dw]++[Bj Jg]),H7 ([Bj Dw]++[Bj Jg]),Ef ([Bj Dw]++[Bj Jg]),0⟩:=by
 have h:=Vz.1;rw[<-h,Yc];rfl
theorem bY:Cm ([Bj Dw]++[Bj Jg])=36:=by
 rw[kP,bX];rfl
theorem Og.behind{a w w':World}{base b d L V:Nat}{r:Uz}(h:Og base b d L V r w w')(g:Fp [] a w)(j:a.heap.size<=base)(n:a.heap.size<=b)(m:a.heap.size<=d)(l:a.heap.size<=L)(k:a.heap.size<=V):Fp [] a w':=by
 refine h.2.onto g j ?_;intro i f;right;simp only[a0w,a0x,or_false] at f;omega
theorem zL(w:World)(hp:Jm w)(k:Dl w)(hz:I4 w):Calls Tryz.prog 10 #[] w fun e w'=>e=.returned (.bool true)∧Fp [] w w':=by
 have HP:=a0z hp;have HT:=a0z k;have HZ:=a0z hz;have b:=Fp.alloc w (.cells #[.string ⟨#[109]⟩] 9)
 have R:Eq (w.alloc (.cells #[.string ⟨#[109]⟩] 9)) (some ⟨w.heap.size,0,none⟩) 1 [Qf]:=⟨rfl,Or.inr ⟨w.heap.size,0,rfl,fun i X=>by
  have:i=0:=by simpa using X
  subst this
  rw[Ab (Ai rfl _)];rfl⟩,by intro s hs;rw[List.mem_singleton.1 hs];decide⟩
 have E:=a0z (lH (w.alloc (.cells #[.string ⟨#[109]⟩] 9)) Q9 9 2 9 3 (some ⟨w.heap.size,0,none⟩) 1 1 [Qf] (by decide) R (by decide) (by decide) (by decide) (by decide) ⟨hp.mx.fp b (by simp),hp.er.fp b (by simp) (by simp)⟩ (k.fp b (by simp)));have ax:=a0z b;unfold Q9 at E;clear hp k hz b R;go_enter Tryz.func10,Tryz.ntmps10;go_wp2_with (fail);(with_reducible refine E.out.mono ?_);rintro e w1 ⟨ab,he⟩
 have he:∃a c Q sn P,e=.returned (.tuple #[.agg #[.int .u32 (Eb 0 Q9),.int .u64 3,.slice a 2 c,.slice Q sn P],.int .i64 0]):=by
  rcases he with⟨files,vF,vS,rfl,hm,ho,aw⟩|⟨x,hx,_,hm⟩
  ·have h2:=(lO hm).2;obtain⟨⟨a,c,e1⟩,-⟩:=ho.at;obtain⟨⟨Q,P,e2⟩,-⟩:=aw.at;rw[List.length_map,h2] at e1;subst e1;subst e2;exact⟨_,_,_,_,_,rfl⟩
  ·exact absurd (lO hm).1 hx
 obtain⟨a,c,Q,sn,P,rfl⟩:=he
 obtain⟨O,l⟩:∃n,Eb 0 Q9=n:=⟨_,rfl⟩
 rw[l];have J:=a0z (ax.out.trans ab (by simp));clear ab l;go_wp2_with (fail)
 obtain⟨w2,d⟩:∃x,w1.alloc (.cells #[.int .u32 O,.int .u64 3,.slice a 2 c,.slice Q sn P] 29)=x:=⟨_,rfl⟩
 have aa:Fp [] w w2:=by rw[<-d];exact J.out.alloc' _
 have B:w2.heap[w1.heap.size]?=some (.cells #[.int .u32 O,.int .u64 3,.slice a 2 c,.slice Q sn P] 29 (0,0)):=by rw[<-d];exact Ai rfl _
 have av:w.heap.size<=w1.heap.size:=J.out.size
 obtain⟨q,hq⟩:∃q,w1.heap.size=q:=⟨_,rfl⟩
 rw[hq] at B av
 try rw[hq]
 try rw[d]
 have an:=a0z aa;have M:=a0z B;clear d aa B hq J E;go_wp2_with (fail);(with_reducible refine(Ahr 10000 _).mono ?_);rintro e N ⟨rfl,A,z⟩;have au:=Ac M.out;have I:=a0z (an.out.trans z (by simp));have K:=a0z ((z.block _ (Ac M.out) (by simp)).trans M.out)
 obtain⟨bm,f⟩:∃x,w2.heap.size=x:=⟨_,rfl⟩
 have o:w.heap.size<=bm:=by rw[<-f];exact an.out.size
 rw[f] at A au
 try rw[f]
 have af:=a0z (jY N (bm+1) bm (Dk.new 10000) (Fa 10000 []) [] A (Av.new (by decide)) (HT.out.fp I.out (by simp)) (by decide) (xO (by decide)) (by intro t k;cases k) (by decide));clear A z f;go_wp2_with (fail);(with_reducible refine af.out.mono ?_);rintro e w4 ⟨L,V,v,rfl,ae,a6,a4,y⟩;have a0:w.heap.size<=N.heap.size:=I.out.size;have S:q<N.heap.size:=Ac K.out;have am:Hid (Fp [] w w4):=a0z (I.out.trans y (by intro i X;right;simp at X;omega));have ar:=a0z ((y.block _ (Ac K.out) (by simp;omega)).trans K.out);have ay:Hid (E5 w4 N.heap.size (bm+1) bm L V v (Fa 10000 []) (H7 []) (Ef [])):=a0z ae;have h:=a0z (wQ w4 N.heap.size (bm+1) bm L V v (Fa 10000 []) (H7 []) (Ef []) 7 Vy ay.out (bI (by decide) (by decide)) (by decide) (by decide) (HT.out.fp am.out (by simp)) (by decide) (by decide) (by decide));rw[zI,show((7:Nat):Int)=7 from rfl] at h;unfold Vy at h;clear ae y af;go_wp2_with (fail);(with_reducible refine h.out.mono ?_);rintro e w5 ⟨rfl,r⟩;have al:=a0z (r.behind am.out (by omega) (by omega) o (by omega) (by omega))
 have a1:q≠L/\q≠V:=by omega
 have aq:=a0z (r.2.low (Ac ar.out) S (by simp;omega) |>.trans ar.out);obtain⟨⟨v5,C⟩,-⟩:=r;have a8:=a0z C;have F:=a0z (wR w5 N.heap.size (bm+1) bm L V v5 (Fa 10000 [Bj Dw]) (H7 [Bj Dw]) (Ef [Bj Dw]) 7 2 0 C (bI (by decide) (by rw[bX];decide)) (by rw[Yc];intro j hj;rw[List.mem_singleton.1 hj];exact lP) (by decide) (by decide) (by decide) (by decide) (HT.out.fp al.out (by simp)) (by decide) (by decide) (by rw[Yc];decide));rw[zK,show((7:Nat):Int)=7 from rfl] at F;clear C h;go_wp2_with (fail);(with_reducible refine F.out.mono ?_);rintro e w6 ⟨rfl,p⟩;have G:=a0z (p.behind al.out (by omega) (by omega) o (by omega) (by omega));have ap:=a0z (p.2.low (Ac aq.out) S (by simp;omega) |>.trans aq.out);obtain⟨⟨v6,ad⟩,-⟩:=p;have D:=a0z (jY w6 (bm+1) bm _ _ _ ad.disk (bI (by decide) (by rw[bY];decide)) (HT.out.fp G.out (by simp)) (by rw[xM,bY];decide) (xN (c:=10000) Vz.2.1 (by rw[bY];decide)) (fun t k=>⟨(Vz.2.1 t k).1,by have:=(Vz.2.1 t k).2;omega⟩) (by decide));rw[zJ] at D;clear ad F;go_wp2_with (fail);(with_reducible refine D.out.mono ?_);rintro e w7 ⟨L7,V7,v7,rfl,g,a5,a3,u⟩;have aS:w.heap.size<=w6.heap.size:=G.out.size;have ak:Hid (Fp [] w w7):=a0z (G.out.trans u (by intro i X;right;simp at X;omega));have az:=a0z ((u.block _ (Ac ap.out) (by simp;omega)).trans ap.out);have a7:=a0z g;have ah:=a0z (fun W (hf:Fp [] w7 W)=>Aiy W w6.heap.size V7 L7 v7 [Jg] (g.drv.fp hf (by simp)) (g.own.fp hf (by simp)) (by decide));have r2:w7.cell? ⟨q,2,none⟩=some (.slice a 2 c):=Ab az.out 2;clear g u D;go_wp2_with (fail);(with_reducible refine(ah.out _ (Fp.refl _ _)).mono ?_);rintro e w8 ⟨v8,rfl,U,Z⟩;obtain⟨g8,c8,rfl,-,-,-⟩:=W4 U (i:=0) (by decide);have aj:=a0z Z;clear U Z;go_wp2_with (fail);(with_reducible refine(ah.out _ aj.out).mono ?_);rintro e w9 ⟨v9,rfl,T,Y⟩;obtain⟨g9,c9,rfl,a2,-,ac⟩:=W4 T (i:=0) (by decide);obtain⟨-,k1,-,-⟩:=ac w9 (Fp.refl _ _);have k1:w9.cell? ⟨g9,1,none⟩=some (.int .i64 2):=k1;have ai:=a0z (aj.out.trans Y (by simp));have ag:=a0z (yZ 255 1 2 (by decide) (by decide) (by decide) w9 (HZ.out.fp (ak.out.trans ai.out (by simp)) (by simp)));rw[zG,show((255:Nat):Int)=255 from rfl,show((1:Nat):Int)=1 from rfl,show((2:Nat):Int)=2 from rfl] at ag;clear T Y ac;go_wp2_with (fail);(with_reducible refine ag.out.mono ?_);rintro e aF ⟨rfl,m⟩;have ao:=a0z ((ak.out.trans ai.out (by simp)).trans m (by simp));clear m;go_wp2_with (fail);go_ret;exact⟨rfl,ao.out⟩
end
section
section
open Go.RowKit Go.ChangeShapes Go.WideShapes Go.Deep
theorem zM{b o:Nat}(k:Nat):(⟨b,o,none⟩:Addr).add k=⟨b,o+k,none⟩:=by unfold Addr.add;split<;>simp_all
def lQ(W:World)(y:Addr)(X:Aa):Prop:=
 (W.cell? y=some (.string X.row)/\W.cell? (y.add 1)=some (.string X.col)/\W.cell? (y.add 2)=some (.int .u64 X.ts)/\W.cell? (y.add 3)=some (.int .u64 X.seq)/\W.cell? (y.add 4)=some (.bool X.del)/\W.cell? (y.add 5)=some (.string X.val))/\B3 X
theorem zN{W:World}{b o k:Nat}{X:Aa}(h:lQ W ((⟨b,o,none⟩:Addr).add k) X):Jl W b (o+k) X:=by
 obtain⟨⟨q0,q1,g,f,d,a⟩,_⟩:=h;simp only[zM] at q0 q1 g f d a;exact⟨q0,q1,g,f,d,a⟩
theorem zO(y:Addr):y.add 0=y:=by
 obtain⟨b,o,s⟩:=y
 unfold Addr.add;split<;>simp_all
theorem zP{H:Type}{enc:TypeId × Value→H}{W:World}{p:Nat}{a:Option Addr}{len cap:Nat}{x:DataW H × List MemPlace}
  (h:DataW.trod enc Tryz.prog W 0 (fun _=>true) true p 78 [.slice a len cap]=some x):∃l,Bh W a len l/\len<=maxLen/\len<=cap/\cap<=maxLen:=by
 rcases open_slice Tryz.underlying78 h with⟨f,_⟩|⟨y,z,E,m,n,D,Pl,f,J,C,B,o,I,u⟩
 ·simp only[List.cons.injEq,Value.slice.injEq,and_true] at f;obtain⟨rfl,rfl,rfl⟩:=f;exact⟨[],⟨rfl,Or.inl rfl,by simp⟩,a0v _,Nat.le_refl _,a0v _⟩
 ·simp only[List.cons.injEq,Value.slice.injEq,and_true] at f;obtain⟨rfl,rfl,rfl⟩:=f;simp only[if_true] at o;subst o
  have g:∀i,i<len->∃X:Aa,lQ W (y.add (i*6)) X:=by
   intro i F;obtain⟨G,q,r⟩:=u i (by omega);rw[Ab0] at q;obtain⟨_,v,d⟩:=World.cells?_some q;obtain⟨c,w,ok,_⟩:=Ab1 v r;subst w;exact⟨c,⟨by have:=d 0 (by decide);rw[zO] at this;exact this,d 1 (by decide),d 2 (by decide),d 3 (by decide),d 4 (by decide),d 5 (by decide)⟩,ok⟩
  by_cases s:len=0
  ·subst s;exact⟨[],⟨rfl,Or.inl rfl,by simp⟩,a0v _,C,B⟩
  ·obtain⟨b,off,k⟩:=y;obtain⟨K,⟨A,_⟩,_⟩:=g 0 (by omega)
   have j:k=none:=by simpa [Addr.add] using World.cell?_spot A
   subst j;refine⟨List.ofFn (fun i:Fin len=>Classical.choose (g i.1 i.2)),⟨by simp,Or.inr ⟨b,off,rfl,?_,fun i u=>?_⟩,fun c q=>?_⟩,by omega,C,B⟩
   ·exact World.block_lt_of_cell? _ _ A
   ·have t:i<len:=by simpa using u
    have:=Classical.choose_spec (g i t);rw[List.getElem_ofFn];exact zN this
   ·obtain⟨i,rfl⟩:=(List.mem_ofFn.1 q)
    exact(Classical.choose_spec (g i.1 i.2)).2
theorem zQ{H:Type}{enc:TypeId × Value→H}{W:World}{b:Nat}{a:Option Addr}{len cap:Nat}{x:DataW H × List MemPlace}
  (h:DataW.trod enc Tryz.prog W 0 (fun _=>true) true b 78 [.slice a len cap]=some x):∃l,Bh W a len l/\len<=maxLen:=by
 obtain⟨l,f,d,_⟩:=zP h;exact⟨l,f,d⟩
end
section
open Go.ChangeShapes Go.WideShapes Go.ChangeAt Go.RowKit Go.Lib
theorem zR{w:World}(h:TabIs Tryz.prog w "rickyard/crc.four" .u32 (Iy.map fun(n:Nat)=>(n:Int))):Dl w:=by
 intro i b;have:=h.cell (g:=0) (by kernel_rfl) i (by rw[List.length_map];exact b);rw[this]
 have a:∀r,r<16->(Iy.map fun(n:Nat)=>(n:Int)).getD r 0=((Iy.getD r 0:Nat):Int):=by decide
 rw[a i b]
theorem zS{W:World}{r:List (String × DataW Unit)}(h:laidMet Tryz.prog (("rickyard/crc.four",tabData .u32 (Iy.map fun(n:Nat)=>(n:Int)))::r) W.memory):Dl W:=
 zR (show TabIs Tryz.prog W.memory "rickyard/crc.four" .u32 (Iy.map fun(n:Nat)=>(n:Int)) from tabIs_of_head (show Tryz.prog.globalNamed "rickyard/crc.four" =some 0 by kernel_rfl) (show(Tryz.prog.globals[0]?).map (·.type)=some 237 by kernel_rfl) Tryz.underlying237 Tryz.underlying26 (by kernel_rfl) (by kernel_rfl) h)
end
end
section
open Go.ChangeShapes Go.WideShapes Go.ChangeAt Go.RowKit
section
variable {H : Type} {enc : TypeId × Value -> H}
theorem zT{a:Assume}{C:Checked}{os:Os}{f:FuncId}{fn:Func}{s:ChangeSpec}{m:List PathCond}{b fresh g n:Bool}{X:World→Array Value→Prop}
  (own:ownKnob C.prog.godebug=none)(l:os.Started)(o:C.prog.inits.idxOf? f=none)(z:C.prog.funcs[f]?=some fn)
  (k:∃(w:World) (d:Tape) (i:Input),w.os=os/\(w.forCall d i).Shaped C.prog/\i.vars=[]/\Input.okWide C.prog (w.forCall d i) .any w.heap.size f i/\
   ((s.pre enc C.prog fn m b (w.forCall d i).memory i.args/\X (w.forCall d i).memory i.args)/\sizedMet enc C.prog fn (OpenSpec.ofChange s) b (w.forCall d i).memory i.args)/\a.holds C.prog (lone (Frame.enter C.prog f i.args .normal) [] (w.forCall d i)))
  (h:∀(W:World) (args:Array Value) (D A:List (DataW H)) (before:List MemPlace),
   (∀(j:Nat) t v,fn.params[j]?=some t->args[j]?=some v->∃base,Value.okWide C.prog W .any base t v)->
   DataW.Whole enc C.prog fn.params.toList s.vars b W args.toList D A before->W.ShapedOpen C.prog->X W.memory args->
   Calls C.prog f args W fun e W'=>∃v,e=.returned v/\s.post enc C.prog fn b fresh g n W args v W'):
  ReturnsInHanded a C os f .any (fun w args=>(s.pre enc C.prog fn m b w args/\X w args)/\sizedMet enc C.prog fn (OpenSpec.ofChange s) b w args) (s.post enc C.prog fn b fresh g n):=by
 refine returnsInHanded_of_calls own l o k ?_;intro w d i _ x _ y q _;obtain⟨_,_,_,B,r,_,_,_,_,p⟩:=y;have e:B=fn:=Option.some.inj (r.symm.trans z);subst e;obtain⟨⟨⟨D,A,before,F,_⟩,E⟩,_⟩:=q;have u:=DataW.Whole.of_heap (w':=w.forCall d i) (by rfl) F
 refine(h (w.forCall d i) i.args D A before (fun j t v K J=>⟨_,p j t v K J⟩) u x E).mono fun e W' ⟨v,I,G⟩=>?_
 subst I;exact ChangeSpec.post_blind G
end
theorem lR: "*" ++ "errors.errorString" = "*errors.errorString" :=by decide
theorem lS(u:TypeId)(h:Tryz.prog.typeName? 3 u=some "*errors.errorString"):u=350:=
 typeName_ptr_named (nm:= "errors.errorString") (by rw[lR];kernel_rfl) (by kernel_rfl) (by decide) u (by rw[lR];exact h)
theorem zU{W:World}{f d:List UInt8}{r:List (String × DataW Unit)}(h:laidMet Tryz.prog (("strconv.ErrRange",.iface "*errors.errorString" (.ptr (.agg [.lit (.string f)])))::("strconv.ErrSyntax",.iface "*errors.errorString" (.ptr (.agg [.lit (.string d)])))::r) W):Rt W:=by
 obtain⟨k,i,b,_⟩:=laid_sentinel h (show Tryz.prog.globalNamed "strconv.ErrRange" =some 4 by kernel_rfl) (show(Tryz.prog.globals[4]?).map (·.type)=some 136 by kernel_rfl) Tryz.underlying136 lS Tryz.underlying350 Tryz.underlying352 rfl rfl Tryz.underlying9 (by kernel_rfl) (by kernel_rfl);obtain⟨j,g,a,_⟩:=laid_sentinel h.tail (show Tryz.prog.globalNamed "strconv.ErrSyntax" =some 3 by kernel_rfl) (show(Tryz.prog.globals[3]?).map (·.type)=some 136 by kernel_rfl) Tryz.underlying136 lS Tryz.underlying350 Tryz.underlying352 rfl rfl Tryz.underlying9 (by kernel_rfl) (by kernel_rfl);exact⟨⟨_,_,by simpa using World.var?_cell (show Tryz.prog.globalNamed "strconv.ErrSyntax" =some 3 by kernel_rfl) a 0⟩,⟨_,_,by simpa using World.var?_cell (show Tryz.prog.globalNamed "strconv.ErrRange" =some 4 by kernel_rfl) b 0⟩⟩
theorem zV{W:World}{f d:List UInt8}{r:List (String × DataW Unit)}(a:W.ShapedOpen Tryz.prog)(h:laidMet Tryz.prog (("strconv.ErrRange",.iface "*errors.errorString" (.ptr (.agg [.lit (.string f)])))::("strconv.ErrSyntax",.iface "*errors.errorString" (.ptr (.agg [.lit (.string d)])))::r) W.memory):Jm W:=by
 have b:=zU h;exact⟨Abw a,b.sy,b.rg⟩
end
section
open Go.RowKit Go.Lib
def lT:List Int:=[0,1,56,2,57,49,28,3,61,58,42,50,38,29,17,4,62,47,59,36,45,43,51,22,53,39,33,30,24,18,12,5,63,55,48,27,60,41,37,16,46,35,44,21,52,32,23,11,54,26,40,15,34,20,31,10,25,14,19,9,13,8,7,6]
theorem zW{W:World}{r:List (String × DataW Unit)}(h:laidMet Tryz.prog (("math/bits.deBruijn64tab",tabData .u8 lT)::r) W.memory):I4 W:=by
 have a:TabIs Tryz.prog W.memory "math/bits.deBruijn64tab" .u8 lT:=tabIs_of_head (show Tryz.prog.globalNamed "math/bits.deBruijn64tab" =some 6 by kernel_rfl) (show(Tryz.prog.globals[6]?).map (·.type)=some 349 by kernel_rfl) Tryz.underlying349 Tryz.underlying5 (by kernel_rfl) (by kernel_rfl) h;exact a.cell (g:=6) (by kernel_rfl) 15 (by decide)
end
end Go.Proofs.YtkagolpnaicdoaaGreatDoor
