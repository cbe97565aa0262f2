/-
 job.hex, job.Name. layer 20's small case (plain). layer 20: shown, walked. What every Parse law's frame needs: the laid variables handed on. names of files: numbers at base sixteen, digit by digit; how names stand (plain). What the laws of layer 20 take out of the laid variables. A job, and a slice of acts, that came in. The same cell? The same job?
-/
import Derived.Test.YtkagolpnaicdoaaGreatDoorPJobD
import Derived.Test.YtkagolpnaicdoaaGreatDoorPWalQ
import Derived.Test.YtkagolpnaicdoaaGreatDoorPTabG
import Derived.Test.YtkagolpnaicdoaaGreatDoorPParLine
import Derived.Stop.LaidErr
import Derived.Deep.Slices
import Derived.Deep.Fields
import Derived.ChangeSame
import Derived.Test.YtkagolpnaicdoaaGreatDoorPBuild
import Derived.Test.YtkagolpnaicdoaaGreatDoorPJobP
set_option maxRecDepth 100000
set_option maxHeartbeats 8000000
open Go.Lib renaming hid→a0z
open Nat renaming pow_succ→a0x,div_lt_of_lt_mul→a0v,mod_lt→a1z
open List renaming not_mem_nil→a0w,mem_cons→a0u,length_append→a1x,length_singleton→a1w
namespace Go.Proofs.YtkagolpnaicdoaaGreatDoor
section
open Go.RowKit Go.Lib
theorem qH(u:Nat)(hu:u<18446744073709551616)(w:World)(htz:G4 w):
  Calls Tryz.prog 121 #[.int .u64 u,.int .i64 16] w fun e w'=>e=.returned (.string ⟨(Db u).toArray⟩)∧Fp [] w w':=by
 have H:=a0z (qG u hu w htz);clear htz;go_enter Tryz.func121,Tryz.ntmps121;go_wp2_with (fail);(with_reducible refine H.out.mono ?_);rintro e w1 ⟨rfl,hf⟩;have HF:=a0z hf;clear hf;go_wp2_with (fail);go_ret;exact⟨rfl,HF.out⟩
theorem qI(u:Nat)(hu:u<18446744073709551616)(w:World)(htz:G4 w):
  Calls Tryz.prog 69 #[.int .u64 u,.int .i64 16] w fun e w'=>e=.returned (.string ⟨(Db u).toArray⟩)∧Fp [] w w':=by
 have H:=a0z (qH u hu w htz);clear htz;go_enter Tryz.func69,Tryz.ntmps69;go_wp2_with (fail);(with_reducible refine H.out.mono ?_);rintro e w1 ⟨rfl,hf⟩;have HF:=a0z hf;clear hf;go_wp2_with (fail);go_ret;exact⟨rfl,HF.out⟩
theorem Xk:∀(k u:Nat),1≤k→u<16^k→(Db u).length≤k
 |0,_,h,_=>absurd h (by decide)
 |k+1,u,_,hu=>by
  by_cases h:u<16
  ·rw[P8 h];exact Nat.succ_le_succ (Nat.zero_le _)
  ·rw[Ux h,a1x,a1w];rw[a0x] at hu
   have hk:1≤k:=by
    rcases Nat.eq_zero_or_pos k with rfl|h1
    ·simp at hu;omega
    ·exact h1
   have:=Xk k (u/16) hk (by omega);omega
def Hz(u many:Nat):ByteArray:=J3 (many-(Db u).length)++⟨(Db u).toArray⟩
theorem Xl(u many:Nat)(hm:many≤16)(h1:1≤many)(hu:u<16^many)(w:World)(htz:G4 w):
  Calls Tryz.prog 58 #[.int .u64 u,.int .i64 many] w fun e w'=>e=.returned (.string (Hz u many))∧Fp [] w w':=by
 have hu64:u<18446744073709551616:=Nat.lt_of_lt_of_le hu (Nat.pow_le_pow_right (by decide) hm);have hlen:=Xk many u h1 hu
 obtain⟨n,hn⟩:∃n,(Db u).length=n:=⟨_,rfl⟩
 have hsz:(⟨(Db u).toArray⟩:ByteArray).size=n:=by rw[←hn];rfl
 have H:=a0z (qI u hu64 w htz);have HZ:=a0z (fun w=>qC w (many-n) (by omega))
 have HN:Hid (Hz u many=J3 (many-n)++⟨(Db u).toArray⟩):=by rw[←hn];exact a0z rfl
 rw[HN.out]
 have z1:(many:Int)-(n:Int)=((many-n:Nat):Int):=by omega
 obtain⟨r,hr⟩:∃r:ByteArray,(⟨(Db u).toArray⟩:ByteArray)=r:=⟨_,rfl⟩
 rw[hr] at H hsz ⊢
 have hzs:(J3 (many-n)).size=many-n:=by unfold J3;exact Array.size_replicate ..
 have hno:(J3 (many-n)).size+r.size≤9223372036854775807:=by omega
 have HZS:=a0z hzs;clear htz hn hlen hr hzs
 have hno2:¬9223372036854775807<(J3 (many-n)).size+r.size:=by omega
 go_enter Tryz.func58,Tryz.ntmps58;go_wp2_with (fail);(with_reducible refine H.out.mono ?_);rintro e w1 ⟨rfl,hf⟩;have HF:=a0z hf;clear hf;go_wp2_with (fail);(with_reducible refine(HZ.out _).mono ?_);rintro e w2 ⟨rfl,rfl⟩;go_wp2_with (fail);go_ret;exact⟨rfl,HF.out⟩
theorem Xm(u many:Nat)(h1:1≤many)(hu:u<16^many):(Hz u many).size=many:=by
 have h:=Xk many u h1 hu;unfold Hz;rw[ByteArray.size_append]
 have e1:(J3 (many-(Db u).length)).size=many-(Db u).length:=by unfold J3;exact Array.size_replicate ..
 have e2:(⟨(Db u).toArray⟩:ByteArray).size=(Db u).length:=rfl;omega
def Lr(id ep k:Nat):ByteArray:=((((⟨#[115]⟩:ByteArray)++Hz id 16)++⟨#[45]⟩)++Hz ep 16)++⟨#[45]⟩++Hz k 4
theorem Xn(id ep k:Nat)(hid:id<18446744073709551616)(hep:ep<18446744073709551616)(hk:k<65536)(w:World)(htz:G4 w):
  Calls Tryz.prog 15 #[.int .u64 id,.int .u64 ep,.int .u16 k] w fun e w'=>e=.returned (.string (Lr id ep k))∧Fp [] w w':=by
 have H1:Hid (∀w,G4 w→Calls Tryz.prog 58 #[.int .u64 id,.int .i64 16] w fun e w'=>e=.returned (.string (Hz id 16))∧Fp [] w w'):=a0z (fun w h=>Xl id 16 (by decide) (by decide) (by simpa using hid) w h);have H2:Hid (∀w,G4 w→Calls Tryz.prog 58 #[.int .u64 ep,.int .i64 16] w fun e w'=>e=.returned (.string (Hz ep 16))∧Fp [] w w'):=a0z (fun w h=>Xl ep 16 (by decide) (by decide) (by simpa using hep) w h);have H3:Hid (∀w,G4 w→Calls Tryz.prog 58 #[.int .u64 k,.int .i64 4] w fun e w'=>e=.returned (.string (Hz k 4))∧Fp [] w w'):=a0z (fun w h=>Xl k 4 (by decide) (by decide) (by simpa using hk) w h);have s1:=Xm id 16 (by decide) (by simpa using hid);have s2:=Xm ep 16 (by decide) (by simpa using hep);have s3:=Xm k 4 (by decide) (by simpa using hk);have HT:=a0z htz;unfold Lr
 obtain⟨x1,e1⟩:∃x,Hz id 16=x:=⟨_,rfl⟩
 obtain⟨x2,e2⟩:∃x,Hz ep 16=x:=⟨_,rfl⟩
 obtain⟨x3,e3⟩:∃x,Hz k 4=x:=⟨_,rfl⟩
 rw[e1] at H1 s1;rw[e2] at H2 s2;rw[e3] at H3 s3;rw[e1,e2,e3];clear htz e1 e2 e3;go_enter Tryz.func15,Tryz.ntmps15;go_wp2_with (fail);(with_reducible refine(H1.out _ HT.out).mono ?_);rintro e w1 ⟨rfl,hf1⟩;have HF1:=a0z hf1;clear hf1
 have z16:IntKind.u64.wrap (k:Int)=(k:Int):=by rw[IntKind.wrap_u64];omega
 go_wp2_with (fail);(with_reducible refine(H2.out _ (HT.out.fp HF1.out (by simp))).mono ?_);rintro e w2 ⟨rfl,hf2⟩;have HF2:=a0z (HF1.out.trans hf2 (by simp));clear hf2;go_wp2_with (fail);(with_reducible refine(H3.out _ (HT.out.fp HF2.out (by simp))).mono ?_);rintro e w3 ⟨rfl,hf3⟩;have HF3:=a0z (HF2.out.trans hf3 (by simp));clear hf3;go_wp2_with (fail);go_ret;exact⟨rfl,HF3.out⟩
end
section
open Go.RowKit
def Oq:ByteArray:=⟨#[122,32,99,32,49,32,61,118,10,97,32,99,32,49,32,61,119,10]⟩
def Nz:ByteArray:=⟨#[109]⟩
def E0:Ac:=⟨⟨#[122]⟩,⟨#[99]⟩,1,0,false,⟨#[118]⟩⟩
def Ep:Ac:=⟨⟨#[97]⟩,⟨#[99]⟩,1,0,false,⟨#[119]⟩⟩
theorem dD:Ed Oq=([E0,Ep],0,0):=by kernel_rfl
theorem qJ:Dn E0:=⟨by decide,by decide,by decide,by decide,by decide⟩
theorem qK:Dn Ep:=⟨by decide,by decide,by decide,by decide,by decide⟩
theorem qL:B7 (Ds [E0,Ep]) [⟨Ep,1⟩,⟨E0,0⟩]:=by
 have hi:Ds [E0,Ep]=[⟨E0,0⟩,⟨Ep,1⟩]:=rfl
 have n1:Bl ⟨Ep,1⟩ ⟨E0,0⟩=false:=by kernel_rfl
 have n2:Bl ⟨E0,0⟩ ⟨Ep,1⟩=false:=by kernel_rfl
 have y1:Bl ⟨Ep,1⟩ ⟨Ep,1⟩=true:=by kernel_rfl
 have y2:Bl ⟨E0,0⟩ ⟨E0,0⟩=true:=by kernel_rfl
 rw[hi];refine⟨?_,?_,?_,?_⟩
 ·refine List.Pairwise.cons ?_ (List.Pairwise.cons (by simp) List.Pairwise.nil);intro y hy;rw[List.mem_singleton.1 hy];exact of_decide_eq_true (by kernel_rfl)
 ·intro x hx;simp only[a0u,a0w,or_false] at hx ⊢
  rcases hx with rfl|rfl
  ·exact Or.inr rfl
  ·exact Or.inl rfl
 ·intro x hx y hy h;simp only[a0u,a0w,or_false] at hx hy
  rcases hx with rfl|rfl<;>rcases hy with rfl|rfl
  ·rw[n1] at h;cases h
  ·exact Nat.le_refl _
  ·exact Nat.le_refl _
  ·rw[n2] at h;cases h
 ·intro y hy;simp only[a0u,a0w,or_false] at hy
  rcases hy with rfl|rfl
  ·exact⟨_,by simp,y2⟩
  ·exact⟨⟨Ep,1⟩,by simp,y1⟩
theorem qM(l:List Ac):Yn (Ds l):=by
 intro x hx y hy _ h;have hl:(Ds l).length=l.length:=O9 l _;obtain⟨i,hi,e⟩:=List.mem_iff_getElem.1 hx;obtain⟨j,hj,e2⟩:=List.mem_iff_getElem.1 hy;rw[show(Ds l)[i]=⟨l.getD i Bv,i⟩ from Vs l l.length i hi] at e;rw[show(Ds l)[j]=⟨l.getD j Bv,j⟩ from Vs l l.length j hj] at e2;subst e;subst e2;simp only at h;subst h;rfl
theorem qN{out:List (List Ac)}(h:Fo [Ep,E0] [Nz] out):out=[[Ep],[E0]]:=by
 cases h with
 |cons _ _ _ out2 h hle h1 h2 h3=>
  have hz:I0 E0.row Nz=false:=by kernel_rfl
  have ha:I0 Ep.row Nz=true:=by kernel_rfl
  have hc:h=0∨h=1∨h=2:=by simp at hle;omega
  rcases hc with rfl|rfl|rfl
  ·have:=h1 (by decide);rw[show([Ep,E0].getD 0 Bv)=Ep from rfl,ha] at this;cases this
  ·cases h3;rfl
  ·have:=h2 (by decide);rw[show([Ep,E0].getD (2-1) Bv)=E0 from rfl,hz] at this;cases this
theorem dE(c:Ac):Lp [c] 9=[[c]]:=by
 have h1:Jb [c] 0=true:=by
  unfold Jb;simp
 have h2:D8 [c] 0 0=[(0,1)]:=by
  rw[Rq (by simp) h1,P5 (by simp)]
 unfold Lp;rw[h2];rfl
theorem dF:Lq 9 [[Ep],[E0]]=[(0,[Ep]),(1,[E0])]:=by
 unfold Lq;rw[show[[Ep],[E0]].length=0+1+1 from rfl,Rt,Rt];rw[show([[Ep],[E0]].getD 0 [])=[Ep] from rfl,show([[Ep],[E0]].getD (0+1) [])=[E0] from rfl,dE,dE];rfl
theorem qO:J9 [(0,[Ep]),(1,[E0])]=[0,0]:=by kernel_rfl
theorem dG{k:Nat}{files:List ByteArray}(h:Gv Oq [Nz] 9 2 9 k files):k=0∧files.length=2:=by
 have hp:=dD
 have hout:∀{r:List Ad} {out:List (List Ac)} {most:Nat},(9:Int)=(most:Int)→B7 (Ds (Ed Oq).1) r→Fo (r.map (·.c)) [Nz] out→most=9∧out=[[Ep],[E0]]:=by
  intro r out most h1 h2 h3;rw[hp] at h2;have hr:=B7.unique (Vt (l:=[E0,Ep]) (by intro c hc;simp only[a0u,a0w,or_false] at hc;rcases hc with rfl|rfl;exact qJ;exact qK) (by decide)) (qM _) h2 qL;subst hr;exact⟨by omega,qN h3⟩
 cases h with
 |parse h1=>rw[hp] at h1;exact absurd rfl h1
 |none _ h1=>rw[hp] at h1;cases h1
 |sort _ _ h1=>omega
 |cut _ _ _ _ h1=>
  rcases h1 with h1|h1
  ·rw[show G8 [Nz]=true by kernel_rfl] at h1;cases h1
  ·omega
 |build r out most _ _ _ _ _ _ h1 h2 h3 h4=>
  obtain⟨rfl,rfl⟩:=hout h1 h2 h3;rw[dF,qO] at h4;exact absurd rfl h4
 |ok r out most _ _ _ _ _ _ h1 h2 h3 h4=>
  obtain⟨rfl,rfl⟩:=hout h1 h2 h3;rw[dF];exact⟨rfl,rfl⟩
theorem qP:Lr 255 1 2=⟨#[115,48,48,48,48,48,48,48,48,48,48,48,48,48,48,102,102,45,48,48,48,48,48,48,48,48,48,48,48,48,48,48,48,49,45,48,48,48,50]⟩:=by
 have h1:Db 255=[102,102]:=by rw[Ux (by decide),P8 (by decide)];rfl
 have h2:Db 1=[49]:=by rw[P8 (by decide)];rfl
 have h3:Db 2=[50]:=by rw[P8 (by decide)];rfl
 unfold Lr Hz;rw[h1,h2,h3]
 decide+kernel
end
section
open Go.RowKit Go.Lib Go.Maps Go.MapKept Go.ChangeMaps
def Rx:ByteArray:=⟨#[120]⟩
def Dc:Aj:=⟨7,1,0,Rx⟩
def Im:Aj:=⟨7,2,0,Rx⟩
theorem dH:Gy Dc:=⟨by decide,by decide,by decide,by decide,by decide,by decide⟩
theorem qQ:Gy Im:=⟨by decide,by decide,by decide,by decide,by decide,by decide⟩
theorem Xo:Dp (Br 10000 []) (Cf []) (An []) Dc=⟨Br 10000 ([]++[Aw Dc]),Cf ([]++[Aw Dc]),An ([]++[Aw Dc]),0⟩∧Q6 ([]++[Aw Dc])∧An ([]++[Aw Dc])=Eb (An []) Dc:=
 lI dH (by decide) (by decide) (by intro t ht;cases ht) (by decide)
theorem Uy:An [Aw Dc]=[Dc]:=by
 have h:=Xo.2.2;exact h
theorem qR:J0 (Br 10000 []) (Cf []) (An []) 7 Rx=⟨Br 10000 [Aw Dc],Cf [Aw Dc],An [Aw Dc],0⟩:=by
 have h:=Xo.1;exact h
theorem Xp:Be [Aw Dc]=18:=by
 have h:=Z8 [] Dc;exact h
theorem Ry:Dp (Br 10000 [Aw Dc]) (Cf [Aw Dc]) (An [Aw Dc]) Im=⟨Br 10000 ([Aw Dc]++[Aw Im]),Cf ([Aw Dc]++[Aw Im]),An ([Aw Dc]++[Aw Im]),0⟩∧Q6 ([Aw Dc]++[Aw Im])∧An ([Aw Dc]++[Aw Im])=Eb (An [Aw Dc]) Im:=
 lI qQ (by decide) (by decide) Xo.2.1 (by rw[Xp];decide)
theorem qS:An ([Aw Dc]++[Aw Im])=[Im]:=by
 have h:=Ry.2.2;rw[Uy] at h;exact h
theorem qT:J1 (Br 10000 [Aw Dc]) (Cf [Aw Dc]) (An [Aw Dc]) 7 2 0=⟨Br 10000 ([Aw Dc]++[Aw Im]),Cf ([Aw Dc]++[Aw Im]),An ([Aw Dc]++[Aw Im]),0⟩:=by
 have h:=Ry.1;rw[←h,Uy];rfl
theorem Xq:Be ([Aw Dc]++[Aw Im])=36:=by
 rw[Z8,Xp];rfl
theorem Kz.behind{w0 w w':World}{base b bm L V:Nat}{r:Jz}(h:Kz base b bm L V r w w')(hf:Fp [] w0 w)(hb:w0.heap.size≤base)(h1:w0.heap.size≤b)(h2:w0.heap.size≤bm)(h3:w0.heap.size≤L)(h4:w0.heap.size≤V):Fp [] w0 w':=by
 refine h.2.onto hf hb ?_;intro i hi;right;simp only[a0u,a0w,or_false] at hi;omega
theorem Xr(w:World)(hp:Iq w)(ht:Ce w)(hz:G4 w):Calls Tryz.prog 10 #[] w fun e w'=>e=.returned (.bool true)∧Fp [] w w':=by
 have HP:=a0z hp;have HT:=a0z ht;have HZ:=a0z hz;have hfa:=Fp.alloc w (.cells #[.string ⟨#[109]⟩] 9)
 have hst:F4 (w.alloc (.cells #[.string ⟨#[109]⟩] 9)) (some ⟨w.heap.size,0,none⟩) 1 [Nz]:=⟨rfl,Or.inr ⟨w.heap.size,0,rfl,fun i hi=>by
  have:i=0:=by simpa using hi
  subst this
  rw[Aa (Ai rfl _)];rfl⟩,by intro s hs;rw[List.mem_singleton.1 hs];decide⟩
 have HMK:=a0z (pY (w.alloc (.cells #[.string ⟨#[109]⟩] 9)) Oq 9 2 9 3 (some ⟨w.heap.size,0,none⟩) 1 1 [Nz] (by decide) (by rw[dD];decide) hst (by decide) (by decide) (by decide) (by decide) ⟨hp.mx.fp hfa (by simp),hp.er.fp hfa (by simp) (by simp)⟩ (ht.fp hfa (by simp)));have HFA:=a0z hfa;unfold Oq at HMK;clear hp ht hz hfa hst;go_enter Tryz.func10,Tryz.ntmps10;go_wp2_with (fail);(with_reducible refine HMK.out.mono ?_);rintro e w1 ⟨hf1,he⟩
 have he:∃a c sa sn sc,e=.returned (.tuple #[.agg #[.int .u32 (D5 0 Oq),.int .u64 3,.slice a 2 c,.slice sa sn sc],.int .i64 0]):=by
  rcases he with⟨files,vF,vS,rfl,hm,ho,ho2⟩|⟨x,hx,_,hm⟩
  ·have h2:=(dG hm).2;obtain⟨⟨a,c,e1⟩,-⟩:=ho.at;obtain⟨⟨sa,sc,e2⟩,-⟩:=ho2.at;rw[List.length_map,h2] at e1;subst e1;subst e2;exact⟨_,_,_,_,_,rfl⟩
  ·exact absurd (dG hm).1 hx
 obtain⟨a,c,sa,sn,sc,rfl⟩:=he
 obtain⟨sum,hsum⟩:∃n,D5 0 Oq=n:=⟨_,rfl⟩
 rw[hsum];have HF1:=a0z (HFA.out.trans hf1 (by simp));clear hf1 hsum;go_wp2_with (fail)
 obtain⟨w2,hw2⟩:∃x,w1.alloc (.cells #[.int .u32 sum,.int .u64 3,.slice a 2 c,.slice sa sn sc] 29)=x:=⟨_,rfl⟩
 have hf2:Fp [] w w2:=by rw[←hw2];exact HF1.out.alloc' _
 have hb2:w2.heap[w1.heap.size]?=some (.cells #[.int .u32 sum,.int .u64 3,.slice a 2 c,.slice sa sn sc] 29 (0,0)):=by rw[←hw2];exact Ai rfl _
 have hp1:w.heap.size≤w1.heap.size:=HF1.out.size
 obtain⟨q,hq⟩:∃q,w1.heap.size=q:=⟨_,rfl⟩
 rw[hq] at hb2 hp1
 try rw[hq]
 try rw[hw2]
 have HF2:=a0z hf2;have HB2:=a0z hb2;clear hw2 hf2 hb2 hq HF1 HMK;go_wp2_with (fail);(with_reducible refine(eX 10000 _).mono ?_);rintro e w3 ⟨rfl,hd3,hf3⟩;have hq3:=Ab HB2.out;have HF3:=a0z (HF2.out.trans hf3 (by simp));have HB3:=a0z ((hf3.block _ (Ab HB2.out) (by simp)).trans HB2.out)
 obtain⟨bm,hbm⟩:∃x,w2.heap.size=x:=⟨_,rfl⟩
 have hbmw:w.heap.size≤bm:=by rw[←hbm];exact HF2.out.size
 rw[hbm] at hd3 hq3
 try rw[hbm]
 have HO3:=a0z (Ru w3 (bm+1) bm (Dk.new 10000) (Br 10000 []) [] hd3 (Ak.new (by decide)) (HT.out.fp HF3.out (by simp)) (by decide) (lH (by decide)) (by intro t ht;cases ht) (by decide));clear hd3 hf3 hbm;go_wp2_with (fail);(with_reducible refine HO3.out.mono ?_);rintro e w4 ⟨L,V,v,rfl,hD4,hL4,hV4,hf4⟩;have hw3:w.heap.size≤w3.heap.size:=HF3.out.size;have hq4:q<w3.heap.size:=Ab HB3.out;have HF4:Hid (Fp [] w w4):=a0z (HF3.out.trans hf4 (by intro i hi;right;simp at hi;omega));have HB4:=a0z ((hf4.block _ (Ab HB3.out) (by simp;omega)).trans HB3.out);have HD4:Hid (C7 w4 w3.heap.size (bm+1) bm L V v (Br 10000 []) (Cf []) (An [])):=a0z hD4;have HS4:=a0z (cN w4 w3.heap.size (bm+1) bm L V v (Br 10000 []) (Cf []) (An []) 7 Rx HD4.out (Q7 (by decide) (by decide)) (by decide) (by decide) (HT.out.fp HF4.out (by simp)) (by decide) (by decide) (by decide));rw[qR,show((7:Nat):Int)=7 from rfl] at HS4;unfold Rx at HS4;clear hD4 hf4 HO3;go_wp2_with (fail);(with_reducible refine HS4.out.mono ?_);rintro e w5 ⟨rfl,ht5⟩;have HF5:=a0z (ht5.behind HF4.out (by omega) (by omega) hbmw (by omega) (by omega))
 have hnL:q≠L∧q≠V:=by omega
 have HB5:=a0z (ht5.2.low (Ab HB4.out) hq4 (by simp;omega) |>.trans HB4.out);obtain⟨⟨v5,hD5⟩,-⟩:=ht5;have HD5:=a0z hD5;have HM5:=a0z (cO w5 w3.heap.size (bm+1) bm L V v5 (Br 10000 [Aw Dc]) (Cf [Aw Dc]) (An [Aw Dc]) 7 2 0 hD5 (Q7 (by decide) (by rw[Xp];decide)) (by rw[Uy];intro j hj;rw[List.mem_singleton.1 hj];exact dH) (by decide) (by decide) (by decide) (by decide) (HT.out.fp HF5.out (by simp)) (by decide) (by decide) (by rw[Uy];decide));rw[qT,show((7:Nat):Int)=7 from rfl] at HM5;clear hD5 HS4;go_wp2_with (fail);(with_reducible refine HM5.out.mono ?_);rintro e w6 ⟨rfl,ht6⟩;have HF6:=a0z (ht6.behind HF5.out (by omega) (by omega) hbmw (by omega) (by omega));have HB6:=a0z (ht6.2.low (Ab HB5.out) hq4 (by simp;omega) |>.trans HB5.out);obtain⟨⟨v6,hD6⟩,-⟩:=ht6;have HO6:=a0z (Ru w6 (bm+1) bm _ _ _ hD6.disk (Q7 (by decide) (by rw[Xq];decide)) (HT.out.fp HF6.out (by simp)) (by rw[lF,Xq];decide) (lG (c:=10000) Ry.2.1 (by rw[Xq];decide)) (fun t ht=>⟨(Ry.2.1 t ht).1,by have:=(Ry.2.1 t ht).2;omega⟩) (by decide));rw[qS] at HO6;clear hD6 HM5;go_wp2_with (fail);(with_reducible refine HO6.out.mono ?_);rintro e w7 ⟨L7,V7,v7,rfl,hD7,hL7,hV7,hf7⟩;have hw6:w.heap.size≤w6.heap.size:=HF6.out.size;have HF7:Hid (Fp [] w w7):=a0z (HF6.out.trans hf7 (by intro i hi;right;simp at hi;omega));have HB7:=a0z ((hf7.block _ (Ab HB6.out) (by simp;omega)).trans HB6.out);have HD7:=a0z hD7;have HJ7:=a0z (fun W (hf:Fp [] w7 W)=>Re W w6.heap.size V7 L7 v7 [Im] (hD7.drv.fp hf (by simp)) (hD7.own.fp hf (by simp)) (by decide));have r2:w7.cell? ⟨q,2,none⟩=some (.slice a 2 c):=Aa HB7.out 2;clear hD7 hf7 HO6;go_wp2_with (fail);(with_reducible refine(HJ7.out _ (Fp.refl _ _)).mono ?_);rintro e w8 ⟨v8,rfl,ho8,hf8⟩;obtain⟨g8,c8,rfl,-,-,-⟩:=Q9 ho8 (i:=0) (by decide);have HF8:=a0z hf8;clear ho8 hf8;go_wp2_with (fail);(with_reducible refine(HJ7.out _ HF8.out).mono ?_);rintro e w9 ⟨v9,rfl,ho9,hf9⟩;obtain⟨g9,c9,rfl,hg9,-,hc9⟩:=Q9 ho9 (i:=0) (by decide);obtain⟨-,k1,-,-⟩:=hc9 w9 (Fp.refl _ _);have k1:w9.cell? ⟨g9,1,none⟩=some (.int .i64 2):=k1;have HF9:=a0z (HF8.out.trans hf9 (by simp));have HN9:=a0z (Xn 255 1 2 (by decide) (by decide) (by decide) w9 (HZ.out.fp (HF7.out.trans HF9.out (by simp)) (by simp)));rw[qP,show((255:Nat):Int)=255 from rfl,show((1:Nat):Int)=1 from rfl,show((2:Nat):Int)=2 from rfl] at HN9;clear ho9 hf9 hc9;go_wp2_with (fail);(with_reducible refine HN9.out.mono ?_);rintro e w10 ⟨rfl,hf10⟩;have HF10:=a0z ((HF7.out.trans HF9.out (by simp)).trans hf10 (by simp));clear hf10;go_wp2_with (fail);go_ret;exact⟨rfl,HF10.out⟩
end
section
open Go.ChangeShapes Go.WideShapes Go.ChangeAt Go.RowKit
section
variable {H : Type} {enc : TypeId × Value → H}
theorem Xs{a:Assume}{C:Checked}{os:Os}{f:FuncId}{fn:Func}{s:ChangeSpec}{conds:List PathCond}{apart fresh handsOn again:Bool}{X:World→Array Value→Prop}
  (own:ownKnob C.prog.godebug=none)(started:os.Started)(noInit:C.prog.inits.idxOf? f=none)(hfn:C.prog.funcs[f]?=some fn)
  (witness:∃(w:World) (tape:Tape) (i:Input),w.os=os∧(w.forCall tape i).Shaped C.prog∧i.vars=[]∧Input.okWide C.prog (w.forCall tape i) .any w.heap.size f i∧
   ((s.pre enc C.prog fn conds apart (w.forCall tape i).memory i.args∧X (w.forCall tape i).memory i.args)∧sizedMet enc C.prog fn (OpenSpec.ofChange s) apart (w.forCall tape i).memory i.args)∧a.holds C.prog (lone (Frame.enter C.prog f i.args .normal) [] (w.forCall tape i)))
  (contract:∀(W:World) (args:Array Value) (ds gs:List (DataW H)) (before:List MemPlace),
   (∀(j:Nat) t v,fn.params[j]?=some t→args[j]?=some v→∃base,Value.okWide C.prog W .any base t v)→
   DataW.Whole enc C.prog fn.params.toList s.vars apart W args.toList ds gs before→W.ShapedOpen C.prog→X W.memory args→
   Calls C.prog f args W fun e W'=>∃v,e=.returned v∧s.post enc C.prog fn apart fresh handsOn again W args v W'):
  ReturnsInHanded a C os f .any (fun w args=>(s.pre enc C.prog fn conds apart w args∧X w args)∧sizedMet enc C.prog fn (OpenSpec.ofChange s) apart w args) (s.post enc C.prog fn apart fresh handsOn again):=by
 refine returnsInHanded_of_calls own started noInit witness ?_;intro w tape i _ hsh _ hok hpre _;obtain⟨_,_,_,fn',hfn',_,_,_,_,hval⟩:=hok;have e:fn'=fn:=Option.some.inj (hfn'.symm.trans hfn);subst e;obtain⟨⟨⟨ds,gs,before,hw,_⟩,hx⟩,_⟩:=hpre;have hw':=DataW.Whole.of_heap (w':=w.forCall tape i) (by rfl) hw
 refine(contract (w.forCall tape i) i.args ds gs before (fun j t v h1 h2=>⟨_,hval j t v h1 h2⟩) hw' hsh hx).mono fun e W' ⟨v,he,hp⟩=>?_
 subst he;exact ChangeSpec.post_blind hp
end
theorem dI: "*" ++ "errors.errorString" = "*errors.errorString" :=by decide
theorem dJ(u:TypeId)(h:Tryz.prog.typeName? 3 u=some "*errors.errorString"):u=350:=
 typeName_ptr_named (nm:= "errors.errorString") (by rw[dI];kernel_rfl) (by kernel_rfl) (by decide) u (by rw[dI];exact h)
theorem qU{W:World}{x1 x2:List UInt8}{r:List (String × DataW Unit)}(h:laidMet Tryz.prog (("strconv.ErrRange",.iface "*errors.errorString" (.ptr (.agg [.lit (.string x1)])))::("strconv.ErrSyntax",.iface "*errors.errorString" (.ptr (.agg [.lit (.string x2)])))::r) W):Oo W:=by
 obtain⟨a1,s1,hv1,_⟩:=laid_sentinel h (show Tryz.prog.globalNamed "strconv.ErrRange" =some 4 by kernel_rfl) (show(Tryz.prog.globals[4]?).map (·.type)=some 136 by kernel_rfl) Tryz.underlying136 dJ Tryz.underlying350 Tryz.underlying352 rfl rfl Tryz.underlying9 (by kernel_rfl) (by kernel_rfl);obtain⟨a2,s2,hv2,_⟩:=laid_sentinel h.tail (show Tryz.prog.globalNamed "strconv.ErrSyntax" =some 3 by kernel_rfl) (show(Tryz.prog.globals[3]?).map (·.type)=some 136 by kernel_rfl) Tryz.underlying136 dJ Tryz.underlying350 Tryz.underlying352 rfl rfl Tryz.underlying9 (by kernel_rfl) (by kernel_rfl);exact⟨⟨_,_,by simpa using World.var?_cell (show Tryz.prog.globalNamed "strconv.ErrSyntax" =some 3 by kernel_rfl) hv2 0⟩,⟨_,_,by simpa using World.var?_cell (show Tryz.prog.globalNamed "strconv.ErrRange" =some 4 by kernel_rfl) hv1 0⟩⟩
theorem Xt{W:World}{x1 x2:List UInt8}{r:List (String × DataW Unit)}(hsh:W.ShapedOpen Tryz.prog)(h:laidMet Tryz.prog (("strconv.ErrRange",.iface "*errors.errorString" (.ptr (.agg [.lit (.string x1)])))::("strconv.ErrSyntax",.iface "*errors.errorString" (.ptr (.agg [.lit (.string x2)])))::r) W.memory):Iq W:=by
 have he:=qU h;exact⟨yR hsh,he.sy,he.rg⟩
end
section
open Go.RowKit Go.Lib
def F5:Nat→Nat→List UInt8
 |0,_=>[]
 |k+1,u=>C5 (u/16^k)::F5 k (u%16^k)
theorem P9:∀(k u:Nat),(F5 k u).length=k
 |0,_=>rfl
 |k+1,u=>by show(F5 k _).length+1=k+1;rw[P9]
theorem qV:∀(k u:Nat),u<16^(k+1)→F5 (k+1) u=F5 k (u/16)++[C5 (u%16)]:=by
 intro k
 induction k with
 |zero=>
  intro u hu
  have h1:u<16:=by simpa using hu
  show[C5 (u/16^0)]=[]++[C5 (u%16)]
  rw[Nat.pow_zero,Nat.div_one,Nat.mod_eq_of_lt h1];rfl
 |succ k ih=>
  intro u hu;have hp:0<16^(k+1):=Nat.pow_pos (by decide);show C5 (u/16^(k+1))::F5 (k+1) (u%16^(k+1))=C5 (u/16/16^k)::(F5 k (u/16%16^k)++[C5 (u%16)])
  have e1:u/16/16^k=u/16^(k+1):=by rw[Nat.div_div_eq_div_mul,a0x,Nat.mul_comm]
  have e2:u%16^(k+1)/16=u/16%16^k:=by
   rw[a0x,Nat.mul_comm,Nat.mod_mul_right_div_self]
  have e3:u%16^(k+1)%16=u%16:=by
   rw[a0x,Nat.mod_mul_left_mod]
  rw[ih _ (a1z _ hp),e1,e2,e3]
theorem dK:∀(k:Nat),F5 k 0=List.replicate k 48
 |0=>rfl
 |k+1=>by
  show C5 (0/16^k)::F5 k (0%16^k)=_;rw[Nat.zero_div,Nat.zero_mod,dK k];rfl
theorem dL:∀(k u:Nat),u<16^k→1≤k→List.replicate (k-(Db u).length) 48++Db u=F5 k u
 |0,_,_,h=>absurd h (by decide)
 |k+1,u,hu,_=>by
  rw[qV k u hu]
  by_cases h:u<16
  ·rw[P8 h,Nat.div_eq_of_lt h,dK,Nat.mod_eq_of_lt h];rfl
  ·rw[Ux h,a1x,a1w,←List.append_assoc]
   have hk:1≤k:=by
    rcases Nat.eq_zero_or_pos k with rfl|h1
    ·simp at hu;omega
    ·exact h1
   have hu2:u/16<16^k:=by rw[a0x] at hu;omega
   rw[show k+1-((Db (u/16)).length+1)=k-(Db (u/16)).length by omega,dL k (u/16) hu2 hk]
theorem Xu{u k:Nat}(hu:u<16^k)(hk:1≤k):Hz u k=bl (F5 k u):=by
 unfold Hz J3;rw[←dL k u hu hk];show _ ++bl (Db u)=_;rw[←Ln];congr 1
theorem qW:∀a,a<16→∀b,b<16→(C5 a<C5 b↔a<b):=by decide
theorem dM:∀a,a<16→∀b,b<16→(C5 a=C5 b↔a=b):=by decide
theorem qX{u v p:Nat}(h1:u/p=v/p)(h2:u%p=v%p):u=v:=by rw[←Nat.div_add_mod u p,←Nat.div_add_mod v p,h1,h2]
theorem dN:∀(k u v:Nat) (X Y:List UInt8),u<16^k→v<16^k→Op.bytesLess (F5 k u++X) (F5 k v++Y)=if u=v then Op.bytesLess X Y else decide (u<v)
 |0,u,v,X,Y,hu,hv=>by
  have e:u=v:=by simp at hu hv;omega
  rw[if_pos e];rfl
 |k+1,u,v,X,Y,hu,hv=>by
  have hp:0<16^k:=Nat.pow_pos (by decide);have ha:u/16^k<16:=a0v (by rw[a0x] at hu;exact hu);have hb:v/16^k<16:=a0v (by rw[a0x] at hv;exact hv);show(decide (C5 (u/16^k)<C5 (v/16^k))||(C5 (u/16^k)==C5 (v/16^k)&&Op.bytesLess (F5 k (u%16^k)++X) (F5 k (v%16^k)++Y)))=_;rw[dN k _ _ X Y (a1z _ hp) (a1z _ hp)];have hd:=qW _ ha _ hb;have hi:=dM _ ha _ hb;have du:=Nat.div_add_mod' u (16^k);have dv:=Nat.div_add_mod' v (16^k);have mu:=a1z u hp;have mv:=a1z v hp
  rcases Nat.lt_trichotomy (u/16^k) (v/16^k) with h|h|h
  ·have hlt:u<v:=by
    have h3:(u/16^k+1)*16^k≤(v/16^k)*16^k:=Nat.mul_le_mul_right _ h;rw[Nat.succ_mul] at h3;omega
   have hR:(if u=v then Op.bytesLess X Y else decide (u<v))=true:=by rw[if_neg (by omega)];exact decide_eq_true hlt
   rw[hR,decide_eq_true (hd.2 h)];rfl
  ·have e1:(C5 (u/16^k)==C5 (v/16^k))=true:=by rw[h];simp
   have e2:decide (C5 (u/16^k)<C5 (v/16^k))=false:=decide_eq_false (fun h2=>by have:=hd.1 h2;omega);rw[e1,e2,Bool.false_or,Bool.true_and];rw[h] at du
   by_cases hm:u%16^k=v%16^k
   ·rw[if_pos hm,if_pos (by omega)]
   ·rw[if_neg hm,if_neg (by omega)];congr 1;exact propext ⟨fun _=>by omega,fun _=>by omega⟩
  ·have hlt:v<u:=by
    have h3:(v/16^k+1)*16^k≤(u/16^k)*16^k:=Nat.mul_le_mul_right _ h;rw[Nat.succ_mul] at h3;omega
   have e1:(C5 (u/16^k)==C5 (v/16^k))=false:=beq_eq_false_iff_ne.2 (fun h2=>by have:=hi.1 h2;omega);have e2:decide (C5 (u/16^k)<C5 (v/16^k))=false:=decide_eq_false (fun h2=>by have:=hd.1 h2;omega)
   have hR:(if u=v then Op.bytesLess X Y else decide (u<v))=false:=by rw[if_neg (by omega)];exact decide_eq_false (by omega)
   rw[hR,e1,e2];rfl
theorem Uz:∀(k u v:Nat),u<16^k→v<16^k→F5 k u=F5 k v→u=v
 |0,u,v,hu,hv,_=>by simp at hu hv;omega
 |k+1,u,v,hu,hv,h=>by
  have hp:0<16^k:=Nat.pow_pos (by decide);have ha:u/16^k<16:=a0v (by rw[a0x] at hu;exact hu);have hb:v/16^k<16:=a0v (by rw[a0x] at hv;exact hv);obtain⟨h1,h2⟩:=List.cons.inj h;exact qX ((dM _ ha _ hb).1 h1) (Uz k _ _ (a1z _ hp) (a1z _ hp) h2)
def J4(id ep k:Nat):List UInt8:=115::(F5 16 id++(45::(F5 16 ep++(45::F5 4 k))))
theorem dO{id ep k:Nat}(h1:id<18446744073709551616)(h2:ep<18446744073709551616)(h3:k<65536):Lr id ep k=bl (J4 id ep k):=by
 unfold Lr J4;rw[Xu (by simpa using h1) (by decide),Xu (by simpa using h2) (by decide),Xu (by simpa using h3) (by decide)];rw[show(⟨#[115]⟩:ByteArray)=bl [115] from rfl,show(⟨#[45]⟩:ByteArray)=bl [45] from rfl];simp only[Ln,List.append_assoc];rfl
theorem dP(id ep k:Nat):(J4 id ep k).length=39:=by
 unfold J4;simp only[List.length_cons,a1x,P9]
theorem qY{a b ep ot k l:Nat}(ha:a<18446744073709551616)(hb:b<18446744073709551616)(he:ep<18446744073709551616)(ho:ot<18446744073709551616)(hk:k<65536)(hl:l<65536)
  (h:J4 a ep k=J4 b ot l):a=b∧ep=ot∧k=l:=by
 unfold J4 at h;have h1:=(List.cons.inj h).2;obtain⟨e1,h2⟩:=List.append_inj h1 (by rw[P9,P9]);obtain⟨e2,h3⟩:=List.append_inj (List.cons.inj h2).2 (by rw[P9,P9]);exact⟨Uz 16 a b (by simpa using ha) (by simpa using hb) e1,Uz 16 ep ot (by simpa using he) (by simpa using ho) e2,Uz 4 k l (by simpa using hk) (by simpa using hl) (List.cons.inj h3).2⟩
theorem qZ{a b ep ot k l:Nat}(ha:a<18446744073709551616)(hb:b<18446744073709551616)(hne:a≠b):Op.bytesLess (J4 a ep k) (J4 b ot l)=decide (a<b):=by
 unfold J4;show(decide ((115:UInt8)<115)||((115:UInt8)==115&&Op.bytesLess (F5 16 a++_) (F5 16 b++_)))=_;rw[dN 16 a b _ _ (by simpa using ha) (by simpa using hb),if_neg hne];rfl
def dQ:List Int:=[0,1,56,2,57,49,28,3,61,58,42,50,38,29,17,4,62,47,59,36,45,43,51,22,53,39,33,30,24,18,12,5,63,55,48,27,60,41,37,16,46,35,44,21,52,32,23,11,54,26,40,15,34,20,31,10,25,14,19,9,13,8,7,6]
theorem Xv{W:World}{r:List (String × DataW Unit)}(h:laidMet Tryz.prog (("math/bits.deBruijn64tab",tabData .u8 dQ)::r) W.memory):G4 W:=by
 have ht:TabIs Tryz.prog W.memory "math/bits.deBruijn64tab" .u8 dQ:=tabIs_of_head (show Tryz.prog.globalNamed "math/bits.deBruijn64tab" =some 6 by kernel_rfl) (show(Tryz.prog.globals[6]?).map (·.type)=some 349 by kernel_rfl) Tryz.underlying349 Tryz.underlying5 (by kernel_rfl) (by kernel_rfl) h;exact ht.cell (g:=6) (by kernel_rfl) 15 (by decide)
end
section
open Go.RowKit Go.ChangeShapes Go.WideShapes Go.Deep
theorem rA:Tryz.prog.cellsOf 42=4:=by kernel_rfl
theorem dR:Tryz.prog.cellsOf 3=1:=by kernel_rfl
theorem dS:Tryz.prog.cellsOf 30=1:=by kernel_rfl
structure Xw(j:Aj):Prop where
 ok:j.input.size≤1000000000→Gy j
 size:j.input.size≤9223372036854775807
theorem rB{H:Type}{enc:TypeId × Value→H}{W:World}{fuel:Nat}{l:List Value}(hl:l.length=4){x:DataW H × List MemPlace}
  (h:DataW.trod enc Tryz.prog W 0 (fun _=>true) true fuel 42 l=some x):∃j:Aj,l=Bo j∧Xw j:=by
 obtain⟨ys,n',hn',hy,hlen,hyl,hf⟩:=DataW.trod_struct Tryz.underlying42 h;have hyl4:ys.length=4:=hyl
 match l,hl,ys,hyl4 with
 |[v0,v1,v2,v3],_,[y0,y1,y2,y3],_=>
  have g0:DataW.trod enc Tryz.prog W 0 (fun _=>true) true n' 23 (List.take (Tryz.prog.cellsOf 23) [v0,v1,v2,v3])=some y0:=hf 0 _ rfl;have g1:DataW.trod enc Tryz.prog W 0 (fun _=>true) true n' 3 (List.take (Tryz.prog.cellsOf 3) [v1,v2,v3])=some y1:=hf 1 _ rfl;have g2:DataW.trod enc Tryz.prog W 0 (fun _=>true) true n' 30 (List.take (Tryz.prog.cellsOf 30) [v2,v3])=some y2:=hf 2 _ rfl;have g3:DataW.trod enc Tryz.prog W 0 (fun _=>true) true n' 9 (List.take (Tryz.prog.cellsOf 9) [v3])=some y3:=hf 3 _ rfl;rw[jF] at g0;rw[dR] at g1;rw[dS] at g2;rw[jE] at g3;obtain⟨z0,h0,_,w0⟩:=DataW.trod_int Tryz.underlying23 g0;obtain⟨z1,h1,_,w1⟩:=DataW.trod_int Tryz.underlying3 g1;obtain⟨z2,h2,_,w2⟩:=DataW.trod_int Tryz.underlying30 g2;obtain⟨z3,h3,_,w3⟩:=DataW.trod_string Tryz.underlying9 g3;simp only[List.take_succ_cons,List.take_zero,List.cons.injEq,and_true] at h0 h1 h2 h3;subst h0 h1 h2 h3;have b0:=L6 w0;have b1:=Q1 w1;have b2:=Q1 w2;unfold maxLen at w3
  obtain⟨n0,rfl⟩:∃n:Nat,z0=n:=⟨z0.toNat,by omega⟩
  exact⟨⟨n0,z1,z2,z3⟩,rfl,fun hs=>⟨by show n0<_;omega,b1.1,b1.2,b2.1,b2.2,hs⟩,by simp only;omega⟩
theorem rC{H:Type}{enc:TypeId × Value→H}{W:World}{r:Reach}{b0:Nat}{v:Value}{d:DataW H}{p:List MemPlace}(hv:Value.okWide Tryz.prog W r b0 42 v)
  (h:DataW.Trod enc Tryz.prog W 0 (fun _=>true) true 42 v d p):∃j:Aj,v=Bq j∧Xw j:=by
 obtain⟨cs,rfl,hsz⟩:=okWide_struct Tryz.underlying42 hv;obtain⟨fuel,hf⟩:=h;obtain⟨l⟩:=cs;have hl:l.length=4:=hsz.trans rA;obtain⟨c,hc,ok⟩:=rB hl hf;exact⟨c,by rw[hc];rfl,ok⟩
structure K0 where
 kind:Int
 n:Int
 keep:Int
 phase:Int
 id:Nat
 e:Int
 input:ByteArray
structure U0(x:K0):Prop where
 n1:x.n≤9223372036854775807
 k0: -9223372036854775808≤x.keep
 k1:x.keep≤9223372036854775807
 p0: -9223372036854775808≤x.phase
 p1:x.phase≤9223372036854775807
 id:x.id<18446744073709551616
 e0: -9223372036854775808≤x.e
 e1:x.e≤9223372036854775807
 input:x.input.size≤9223372036854775807
def Io(x:K0):List Value:=[.int .i64 x.kind,.int .i64 x.n,.int .i64 x.keep,.int .i64 x.phase,.int .u64 x.id,.int .i64 x.e,.string x.input]
def dT:Gx K0:=⟨66,7,Io,fun _=>rfl,by decide,by intro x v hv;simp only[Io,a0u,a0w,or_false] at hv;rcases hv with rfl|rfl|rfl|rfl|rfl|rfl|rfl<;>rfl⟩
theorem rD{H:Type}{enc:TypeId × Value→H}{W:World}{fuel:Nat}{l:List Value}(hl:l.length=7){x:DataW H × List MemPlace}
  (h:DataW.trod enc Tryz.prog W 0 (fun _=>true) true fuel 66 l=some x):∃j:K0,l=Io j∧U0 j:=by
 obtain⟨ys,n',hn',hy,hlen,hyl,hf⟩:=DataW.trod_struct Tryz.underlying66 h;have hyl7:ys.length=7:=hyl
 match l,hl,ys,hyl7 with
 |[v0,v1,v2,v3,v4,v5,v6],_,[y0,y1,y2,y3,y4,y5,y6],_=>
  have g0:DataW.trod enc Tryz.prog W 0 (fun _=>true) true n' 3 (List.take (Tryz.prog.cellsOf 3) [v0,v1,v2,v3,v4,v5,v6])=some y0:=hf 0 _ rfl;have g1:DataW.trod enc Tryz.prog W 0 (fun _=>true) true n' 3 (List.take (Tryz.prog.cellsOf 3) [v1,v2,v3,v4,v5,v6])=some y1:=hf 1 _ rfl;have g2:DataW.trod enc Tryz.prog W 0 (fun _=>true) true n' 3 (List.take (Tryz.prog.cellsOf 3) [v2,v3,v4,v5,v6])=some y2:=hf 2 _ rfl;have g3:DataW.trod enc Tryz.prog W 0 (fun _=>true) true n' 3 (List.take (Tryz.prog.cellsOf 3) [v3,v4,v5,v6])=some y3:=hf 3 _ rfl;have g4:DataW.trod enc Tryz.prog W 0 (fun _=>true) true n' 23 (List.take (Tryz.prog.cellsOf 23) [v4,v5,v6])=some y4:=hf 4 _ rfl;have g5:DataW.trod enc Tryz.prog W 0 (fun _=>true) true n' 30 (List.take (Tryz.prog.cellsOf 30) [v5,v6])=some y5:=hf 5 _ rfl;have g6:DataW.trod enc Tryz.prog W 0 (fun _=>true) true n' 9 (List.take (Tryz.prog.cellsOf 9) [v6])=some y6:=hf 6 _ rfl;rw[dR] at g0 g1 g2 g3;rw[jF] at g4;rw[dS] at g5;rw[jE] at g6;obtain⟨z0,h0,_,w0⟩:=DataW.trod_int Tryz.underlying3 g0;obtain⟨z1,h1,_,w1⟩:=DataW.trod_int Tryz.underlying3 g1;obtain⟨z2,h2,_,w2⟩:=DataW.trod_int Tryz.underlying3 g2;obtain⟨z3,h3,_,w3⟩:=DataW.trod_int Tryz.underlying3 g3;obtain⟨z4,h4,_,w4⟩:=DataW.trod_int Tryz.underlying23 g4;obtain⟨z5,h5,_,w5⟩:=DataW.trod_int Tryz.underlying30 g5;obtain⟨z6,h6,_,w6⟩:=DataW.trod_string Tryz.underlying9 g6;simp only[List.take_succ_cons,List.take_zero,List.cons.injEq,and_true] at h0 h1 h2 h3 h4 h5 h6;subst h0 h1 h2 h3 h4 h5 h6;have b1:=Q1 w1;have b2:=Q1 w2;have b3:=Q1 w3;have b4:=L6 w4;have b5:=Q1 w5;unfold maxLen at w6
  obtain⟨n4,rfl⟩:∃n:Nat,z4=n:=⟨z4.toNat,by omega⟩
  exact⟨⟨z0,z1,z2,z3,n4,z5,z6⟩,rfl,b1.2,b2.1,b2.2,b3.1,b3.2,by simp only;omega,b5.1,b5.2,by simp only;omega⟩
theorem dU{b o:Nat}(k:Nat):(⟨b,o,none⟩:Addr).add k=⟨b,o+k,none⟩:=by unfold Addr.add;split<;>simp_all
def rE(W:World)(y:Addr)(X:K0):Prop:=(∀j u,(Io X)[j]?=some u→W.cell? (y.add j)=some u)∧U0 X
theorem rF{H:Type}{enc:TypeId × Value→H}{W:World}{fuel:Nat}{a:Option Addr}{len cap:Nat}{x:DataW H × List MemPlace}
  (h:DataW.trod enc Tryz.prog W 0 (fun _=>true) true fuel 63 [.slice a len cap]=some x):∃l,(Bf dT W a len l∧∀x∈l,U0 x)∧len≤maxLen:=by
 rcases open_slice Tryz.underlying63 h with⟨hcs,_⟩|⟨y,len',cap',m,n,D,Pl,hcs,hb,hl,hm,hmm,hx,hi⟩
 ·simp only[List.cons.injEq,Value.slice.injEq,and_true] at hcs;obtain⟨rfl,rfl,rfl⟩:=hcs;exact⟨[],⟨⟨rfl,Or.inl rfl⟩,by simp⟩,Nat.zero_le _⟩
 ·simp only[List.cons.injEq,Value.slice.injEq,and_true] at hcs;obtain⟨rfl,rfl,rfl⟩:=hcs;simp only[if_true] at hmm;subst hmm
  have hC:Tryz.prog.cellsOf 66=7:=by kernel_rfl
  have key:∀i,i<len→∃X:K0,rE W (y.add (i*7)) X:=by
   intro i hil;obtain⟨cs',hc,ht'⟩:=hi i (by omega);rw[hC] at hc;obtain⟨_,hcl,hat⟩:=World.cells?_some hc;obtain⟨X,hX,hW⟩:=rD hcl ht';refine⟨X,fun j u hu=>?_,hW⟩
   have hj:j<7:=by
    have:=(List.getElem?_eq_some_iff.1 hu).1
    simpa [Io] using this
   rw[hat j hj,hX,hu]
  by_cases hl0:len=0
  ·subst hl0;exact⟨[],⟨⟨rfl,Or.inl rfl⟩,by simp⟩,Nat.zero_le _⟩
  ·obtain⟨b,off,spot⟩:=y;obtain⟨X0,k0,_⟩:=key 0 (by omega);have k00:=k0 0 _ rfl
   have hspot:spot=none:=by simpa [Addr.add] using World.cell?_spot k00
   subst hspot;refine⟨List.ofFn (fun i:Fin len=>Classical.choose (key i.1 i.2)),⟨⟨by simp,Or.inr ⟨b,off,rfl,?_,fun i hi j u hu=>?_⟩⟩,fun X hX=>?_⟩,by omega⟩
   ·exact World.block_lt_of_cell? _ _ k00
   ·have hi':i<len:=by simpa using hi
    have:=(Classical.choose_spec (key i hi')).1 j u (by rw[List.getElem_ofFn] at hu;exact hu);rw[dU,dU] at this;exact this
   ·obtain⟨i,rfl⟩:=List.mem_ofFn.1 hX;exact(Classical.choose_spec (key i.1 i.2)).2
end
section
open Go.Lib
theorem toList_inj{a b:ByteArray}(h:a.toList=b.toList):a=b:=by
 rw[ByteArray.toList_eq,ByteArray.toList_eq] at h;obtain⟨⟨a⟩⟩:=a;obtain⟨⟨b⟩⟩:=b
 simpa using h
end
section
open Go.Lib
theorem rG{a b:Aj}(h:a≠b)(w:World):(if(a.id:Int)=(b.id:Int) then
   if a.phase=b.phase then
    if a.e=b.e then
     if a.input.toList=b.input.toList then Result.ok (Next.value (Value.bool false)) w
     else Result.ok (Next.value (Value.bool true)) w
    else Result.ok (Next.value (Value.bool true)) w
   else Result.ok (Next.value (Value.bool true)) w
  else Result.ok (Next.value (Value.bool true)) w:Result Next)=Result.ok (Next.value (Value.bool true)) w:=by
 repeat' split
 all_goals first|rfl|skip
 rename_i h1 h2 h3 h4;refine absurd ?_ h;obtain⟨i,p,e,s⟩:=a;obtain⟨i',p',e',s'⟩:=b;simp only at h1 h2 h3 h4;rw[toList_inj h4,h2,h3,Int.ofNat_inj.1 h1]
end
end Go.Proofs.YtkagolpnaicdoaaGreatDoor
