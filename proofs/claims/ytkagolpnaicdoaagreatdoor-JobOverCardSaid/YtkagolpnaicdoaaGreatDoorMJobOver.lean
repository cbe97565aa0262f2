import Derived.Test.YtkagolpnaicdoaaGreatDoorMJobO
open Go.Lib renaming hid→a0z
open ByteArray renaming size_append→a0x
namespace Go.Proofs.YtkagolpnaicdoaaGreatDoor
open Go.RowKit Go.Lib Go.Maps Go.MapKept Go.ChangeMaps
structure JD(w:World)(base b bm L V:Nat)(v:Value)(c:Int)(T:List ByteArray):Prop where
  drv:Dc w base b bm L V v (A6 c T) (Bh T) (A0 T)
structure JW(w0 w:World)(b bm:Nat):Prop where
  fp:Fp [] w0 w
  b0:w0.heap.size≤b
  bm0:w0.heap.size≤bm
set_option maxRecDepth 100000 in
set_option maxHeartbeats 4000000 in
theorem Wn(w0 w:World)(base b bm L V:Nat)(v:Value)(c:Int)(T T2:List ByteArray)(id:Nat)(input:ByteArray)(x:Int)(hD:Dc w base b bm L V v (A6 c T) (Bh T) (A0 T))(hw:JW w0 w b bm)(hL:w0.heap.size≤L)(hV:w0.heap.size≤V)(hb:w0.heap.size≤base)
    (hid:id<18446744073709551616)(hin:input.size≤1000000000)(ht:B0 w0)(hc0:c≤1000000000)(hc1:(Bd T:Int)≤c)(hm:T.length≤100000)
    (hr:Ho (A6 c T) (Bh T) (A0 T) id input=⟨A6 c T2,Bh T2,A0 T2,x⟩):
    Calls Tryz.prog 23 #[.pointer (some ⟨V,0,none⟩),.int .u64 id,.string input] w fun e w'=>e=.returned (.int .i64 x)∧(∃v',Dc w' base b bm L V v' (A6 c T2) (Bh T2) (A0 T2))∧JW w0 w' b bm:=by
  refine(aM w base b bm L V v (A6 c T) (Bh T) (A0 T) id input hD (Qh hc0 hc1) hid hin (ht.fp hw.fp (by simp)) (by show Fo.size≤_;decide) hm (Nat.le_trans (Ul T) hm)).mono ?_;rintro e w' ⟨rfl,ht2⟩;rw[hr] at ht2 ⊢;exact⟨rfl,ht2.1,ht2.behind hw.fp hb hw.b0 hw.bm0 hL hV,hw.b0,hw.bm0⟩
set_option maxRecDepth 100000 in
set_option maxHeartbeats 4000000 in
theorem Wp(w0 w:World)(base b bm L V:Nat)(v:Value)(c:Int)(T T2:List ByteArray)(id:Nat)(p q x:Int)(hD:Dc w base b bm L V v (A6 c T) (Bh T) (A0 T))(hw:JW w0 w b bm)(hL:w0.heap.size≤L)(hV:w0.heap.size≤V)(hb:w0.heap.size≤base)
    (hjs:∀j∈A0 T,Hi j)(p0: -9223372036854775808≤p)(p1:p≤9223372036854775807)(q0: -9223372036854775808≤q)(q1:q≤9223372036854775807)(ht:B0 w0)(hc0:c≤1000000000)(hc1:(Bd T:Int)≤c)(hm:T.length≤100000)
    (hr:F8 (A6 c T) (Bh T) (A0 T) id p q=⟨A6 c T2,Bh T2,A0 T2,x⟩):
    Calls Tryz.prog 24 #[.pointer (some ⟨V,0,none⟩),.int .u64 id,.int .i64 p,.int .i64 q] w fun e w'=>e=.returned (.int .i64 x)∧(∃v',Dc w' base b bm L V v' (A6 c T2) (Bh T2) (A0 T2))∧JW w0 w' b bm:=by
  refine(aN w base b bm L V v (A6 c T) (Bh T) (A0 T) id p q hD (Qh hc0 hc1) hjs p0 p1 q0 q1 (ht.fp hw.fp (by simp)) (by show Fo.size≤_;decide) hm (Nat.le_trans (Ul T) hm)).mono ?_;rintro e w' ⟨rfl,ht2⟩;rw[hr] at ht2 ⊢;exact⟨rfl,ht2.1,ht2.behind hw.fp hb hw.b0 hw.bm0 hL hV,hw.b0,hw.bm0⟩
def nX(w0:World)(b bm:Nat)(c:Int)(T:List ByteArray)(e:Ending)(w':World):Prop:=
  ∃L V v base,e=.returned (.tuple #[.pointer (some ⟨V,0,none⟩),.int .i64 0])∧Dc w' base b bm L V v (A6 c T) (Bh T) (A0 T)∧w0.heap.size≤L∧w0.heap.size≤V∧w0.heap.size≤base∧JW w0 w' b bm
theorem bL(w0 w:World)(b bm:Nat)(c:Int)(d:Dk)(T:List ByteArray)(hd:Ah w b bm d)(hok:Ap d)(hw:JW w0 w b bm)(ht:B0 w0)(hrs:(d.read Fo).1.size≤100000000)(ho:d.wOpen Fo=(A6 c T,0,T))(hg:O0 T)(hn:T.length≤90000):
    Calls Tryz.prog 22 #[.pointer (some ⟨b,0,none⟩)] w fun e w'=>nX w0 b bm c T e w':=by
  refine(V9 w b bm d (A6 c T) T hd hok (ht.fp hw.fp (by simp)) hrs ho (fun t ht=>⟨(hg t ht).1,by have:=(hg t ht).2;omega⟩) hn).mono ?_;rintro e w' ⟨L,V,v,rfl,hD,hL,hV,hf⟩;have hsz:=hw.fp.size;have hb:=hw.b0;have hbm:=hw.bm0;exact⟨L,V,v,w.heap.size,rfl,hD,by omega,by omega,hsz,hw.fp.trans hf (by intro i hi;right;simp at hi;omega),hw.b0,hw.bm0⟩
structure Wq(c:Int)(T T2:List ByteArray)(id:Nat)(phase arg x:Int)(j:Ar):Prop where
  mv:F8 (A6 c T) (Bh T) (A0 T) id phase arg=⟨A6 c T2,Bh T2,A0 T2,x⟩
  one:Gs c T2 j
  sums:Bd T2≤1000
  few:T2.length≤2
theorem nY(id:Nat)(input:ByteArray)(hid:id<18446744073709551616)(hin:¬300<input.size):
    Ho (A6 100000 []) (Bh []) (A0 []) id input=⟨A6 100000 [Au ⟨id,1,0,input⟩],Bh [Au ⟨id,1,0,input⟩],A0 [Au ⟨id,1,0,input⟩],0⟩∧Gs 100000 [Au ⟨id,1,0,input⟩] ⟨id,1,0,input⟩∧Bd [Au ⟨id,1,0,input⟩]≤400:=by
  have h:=nS (c:=100000) (id:=id) (input:=input) hid (by omega) (by omega);refine⟨h.1,h.2,?_⟩;have h2:=R5 [] ⟨id,1,0,input⟩;have h3:Bd ([]++[Au ⟨id,1,0,input⟩])=Bd [Au ⟨id,1,0,input⟩]:=rfl;have h4:Bd []=0:=rfl;rw[h3,h4] at h2;rw[h2];show _ +input.size≤400;omega
theorem Tn{T:List ByteArray}{j:Ar}{id:Nat}{phase arg:Int}(h:Gs 100000 T j)(hj:j.id=id)(hs:Bd T≤400)(hl:T.length≤1)(x:Int)
    (hx:(4≤j.phase∨phase<1∨5<phase)∧x=5∨¬(4≤j.phase∨phase<1∨5<phase)∧(arg<0∨65535<arg)∧x=1):Wq 100000 T T id phase arg x j:=by
  subst hj
  rcases hx with⟨h1,rfl⟩|⟨h1,h2,rfl⟩
  · exact⟨bJ h h1,h,by omega,by omega⟩
  · exact⟨nU h h1 h2,h,by omega,by omega⟩
theorem nZ{T:List ByteArray}{j:Ar}{id:Nat}{phase arg:Int}(h:Gs 100000 T j)(hj:j.id=id)(hs:Bd T≤400)(hl:T.length≤1)(hin:¬300<j.input.size)
    (h1:¬(4≤j.phase∨phase<1∨5<phase))(h2:¬(arg<0∨65535<arg)):Wq 100000 T (T++[Au ⟨id,phase,arg,j.input⟩]) id phase arg 0 ⟨id,phase,arg,j.input⟩:=by
  subst hj;have h3:=bK h h1 h2 (by omega);refine⟨h3.1,h3.2,?_,by simp;omega⟩;rw[R5];show _ +j.input.size≤1000;omega
theorem oC{T:List ByteArray}{j:Ar}(h:Gs 100000 T j)(hs:Bd T≤1000)(hin:¬300<j.input.size)(phase:Int):
    (4≤j.phase∨phase<1∨5<phase)∧F8 (A6 100000 T) (Bh T) (A0 T) j.id phase 0=⟨A6 100000 T,Bh T,A0 T,5⟩
    ∨¬(4≤j.phase∨phase<1∨5<phase)∧∃T3,F8 (A6 100000 T) (Bh T) (A0 T) j.id phase 0=⟨A6 100000 T3,Bh T3,A0 T3,0⟩∧Gs 100000 T3 ⟨j.id,phase,0,j.input⟩∧Bd T3≤2000∧T3.length=T.length+1:=by
  by_cases h1:4≤j.phase∨phase<1∨5<phase
  · exact Or.inl ⟨h1,bJ h h1⟩
  · have h3:=bK (x:=0) h h1 (by omega) (by omega)
    refine Or.inr ⟨h1,_,h3.1,h3.2,?_,by simp⟩;rw[R5];show _ +j.input.size≤2000;omega
theorem oD{a b c:Prop}(h:a∨b∨c):a∨(¬a∧b)∨(¬a∧¬b∧c):=by
  by_cases x:a
  · exact Or.inl x
  by_cases y:b
  · exact Or.inr (Or.inl ⟨x,y⟩)
  · exact Or.inr (Or.inr ⟨x,y,by rcases h with h|h|h<;>first|contradiction|exact h⟩)
theorem oE{a b c:Prop}(h:¬(a∨b∨c)):¬a∧¬b∧¬c:=⟨fun x=>h (Or.inl x),fun x=>h (Or.inr (Or.inl x)),fun x=>h (Or.inr (Or.inr x))⟩
theorem oF(s:ByteArray):s≠s++⟨#[120]⟩:=by
  intro h;have:=congrArg ByteArray.size h;rw[a0x] at this;have h2:(⟨#[120]⟩:ByteArray).size=1:=rfl;omega
set_option maxRecDepth 100000 in
set_option maxHeartbeats 8000000 in
theorem oG(w:World)(id:Nat)(input:ByteArray)(phase to_ arg:Int)(hid:id<18446744073709551616)(hin:input.size≤9223372036854775807)
    (p0: -9223372036854775808≤phase)(p1:phase≤9223372036854775807)(q0: -9223372036854775808≤to_)(q1:to_≤9223372036854775807)(r0: -9223372036854775808≤arg)(r1:arg≤9223372036854775807)(hp:Jt w)(ht:B0 w)(hz:Gw w):
    Calls Tryz.prog 5 #[.int .u64 id,.string input,.int .i64 phase,.int .i64 to_,.int .i64 arg] w fun e w'=>e=.returned (.bool true)∧Fp [] w w':=by
  have HSH:=a0z (bN w hp ht hz);have HT:=a0z ht;clear hp ht hz
  by_cases hl:300<input.size
  · go_enter Tryz.func5,Tryz.ntmps5
    go_wp2_with (fail);(with_reducible refine HSH.out.mono ?_);rintro e w1 ⟨rfl,hf1⟩;go_wp2_with (fail);go_ret;exact⟨rfl,hf1⟩
  · have hwr:IntKind.u64.wrap ((id:Int)+1)=((id:Int)+1)%18446744073709551616:=rfl
    obtain⟨idn,hidn⟩:∃n:Nat,IntKind.u64.wrap ((id:Int)+1)=(n:Int):=⟨(((id:Int)+1)%18446744073709551616).toNat,by rw[hwr];omega⟩
    rw[hwr] at hidn
    have hne:idn≠id:=by omega
    have hlt:idn<18446744073709551616:=by omega
    have HO:=a0z (nY id input hid hl)
    obtain⟨T1,hT1⟩:∃T,[Au ⟨id,1,0,input⟩]=T:=⟨_,rfl⟩
    rw[hT1] at HO
    have hl1:T1.length≤1:=by rw[←hT1];exact Nat.le_refl 1
    clear hT1;rw[←hwr] at hidn;clear hwr;go_enter Tryz.func5,Tryz.ntmps5;go_wp2_with (fail);(with_reducible refine HSH.out.mono ?_);rintro e w1 ⟨rfl,hf1⟩;have HF1:=a0z hf1;clear hf1;go_wp2_with (fail);(with_reducible refine(hO 100000 _).mono ?_);rintro e w2 ⟨rfl,hd2,hf2⟩;have HF2:=a0z (HF1.out.trans hf2 (by simp));have hsz2:=hf2.size
    obtain⟨bm,hbm⟩:∃x,w1.heap.size=x:=⟨_,rfl⟩
    have hbm0:w.heap.size≤bm:=by rw[←hbm];exact HF1.out.size
    rw[hbm] at hd2 hsz2
    try rw[hbm]
    have HO2:=a0z (bL w w2 (bm+1) bm 100000 (Dk.new 100000) [] hd2 (Ap.new (by decide)) ⟨HF2.out,by omega,by omega⟩ HT.out (by decide) (jD (by decide)) (by intro t ht;cases ht) (by decide));clear hd2 hf2 hbm;go_wp2_with (fail);(with_reducible refine HO2.out.mono ?_);rintro e w3 ⟨L,V,v,base,rfl,hD,hL,hV,hb,hJ⟩;have HS:=a0z (Wn w w3 base (bm+1) bm L V v 100000 [] T1 id input 0 hD hJ hL hV hb hid (by omega) HT.out (by decide) (by decide) (by decide) HO.out.1);clear HO2 hD hJ;go_wp2_with (fail);(with_reducible refine HS.out.mono ?_);rintro e w4 ⟨rfl,⟨v4,hD4⟩,hJ4⟩
    have hjs1:∀j∈A0 T1,Hi j:=by
      rw[HO.out.2.1.jobs];intro j hj;rw[List.mem_singleton.1 hj];exact HO.out.2.1.ok
    have hs1:=HO.out.2.2;have HM:=a0z (Wp w w4 base (bm+1) bm L V v4 100000 T1 T1 idn 1 0 3 hD4 hJ4 hL hV hb hjs1 (by decide) (by decide) (by decide) (by decide) HT.out (by decide) (by omega) (by omega) (nT HO.out.2.1 hne 1 0));rw[←hidn] at HM;clear HS hD4 hJ4 hidn;go_wp2_with (fail);(with_reducible refine HM.out.mono ?_);rintro e w5 ⟨rfl,⟨v5,hD5⟩,hJ5⟩;have HD5:=a0z hD5;have HJ5:=a0z hJ5;clear hD5 hJ5 HM
    obtain⟨T2,x,ph,ar,HX,hc⟩:∃T2 x ph ar,Hid (Wq 100000 T1 T2 id phase arg x ⟨id,ph,ar,input⟩)∧(phase<1∧x=5∧ph=1∧ar=0∨¬phase<1∧5<phase∧x=5∧ph=1∧ar=0∨¬phase<1∧¬5<phase∧arg<0∧x=1∧ph=1∧ar=0∨¬phase<1∧¬5<phase∧¬arg<0∧65535<arg∧x=1∧ph=1∧ar=0∨¬phase<1∧¬5<phase∧¬arg<0∧¬65535<arg∧x=0∧ph=phase∧ar=arg):=by
      have ho:=HO.out.2.1
      by_cases a1:phase<1
      · exact⟨T1,5,1,0,Tn ho rfl hs1 hl1 5 (Or.inl ⟨Or.inr (Or.inl a1),rfl⟩),Or.inl ⟨a1,rfl,rfl,rfl⟩⟩
      by_cases a2:5<phase
      · exact⟨T1,5,1,0,Tn ho rfl hs1 hl1 5 (Or.inl ⟨Or.inr (Or.inr a2),rfl⟩),Or.inr (Or.inl ⟨a1,a2,rfl,rfl,rfl⟩)⟩
      have a5:¬((4:Int)≤1∨phase<1∨5<phase):=by omega
      by_cases a3:arg<0
      · exact⟨T1,1,1,0,Tn ho rfl hs1 hl1 1 (Or.inr ⟨a5,Or.inl a3,rfl⟩),Or.inr (Or.inr (Or.inl ⟨a1,a2,a3,rfl,rfl,rfl⟩))⟩
      by_cases a4:65535<arg
      · exact⟨T1,1,1,0,Tn ho rfl hs1 hl1 1 (Or.inr ⟨a5,Or.inr a4,rfl⟩),Or.inr (Or.inr (Or.inr (Or.inl ⟨a1,a2,a3,a4,rfl,rfl,rfl⟩)))⟩
      · exact⟨_,0,phase,arg,nZ ho rfl hs1 hl1 hl a5 (by omega),Or.inr (Or.inr (Or.inr (Or.inr ⟨a1,a2,a3,a4,rfl,rfl,rfl⟩)))⟩
    have HM2:=a0z (Wp w w5 base (bm+1) bm L V v5 100000 T1 T2 id phase arg x HD5.out HJ5.out hL hV hb hjs1 p0 p1 r0 r1 HT.out (by decide) (by omega) (by omega) HX.out.mv)
    have HR:Hid ((-9223372036854775808≤ph∧ph≤9223372036854775807)):=by unfold Hid;omega
    rcases hc with⟨a1,rfl,rfl,rfl⟩|⟨a1,a2,rfl,rfl,rfl⟩|⟨a1,a2,a3,rfl,rfl,rfl⟩|⟨a1,a2,a3,a4,rfl,rfl,rfl⟩|⟨a1,a2,a3,a4,rfl,rfl,rfl⟩
    all_goals
      go_wp2_with (fail);(with_reducible refine HM2.out.mono ?_);rintro e w6 ⟨rfl,⟨v6,hD6⟩,hJ6⟩;have hs2:=HX.out.sums;have hl2:=HX.out.few;have HO6:=a0z (bL w w6 (bm+1) bm 100000 (A6 100000 T2) T2 hD6.disk (Qh (by decide) (by omega)) hJ6 HT.out (by rw[jB];omega) (jC HX.out.one.good (by omega)) HX.out.one.good (by omega));clear hD6 hJ6 HM2 HO;go_wp2_with (fail);(with_reducible refine HO6.out.mono ?_);rintro e w7 ⟨L7,V7,v7,base7,rfl,hD7,hL7,hV7,hb7,hJ7⟩;have hjl:=Ul T2;have HFI:=a0z (V6 w7 base7 V7 L7 id v7 (A0 T2) hD7.drv hD7.own (by omega));rw[(S8 (N0 HX.out.one)).1,(S8 (N0 HX.out.one)).2.1] at HFI;unfold Gf Eh at HFI;simp only at HFI;have HD7:=a0z hD7;have HJ7:=a0z hJ7;clear HO6 hD7 hJ7;go_wp2_with (fail);(with_reducible refine HFI.out.mono ?_);rintro e w8 ⟨rfl,hf8⟩;have HF8:=a0z hf8;clear hf8
      have hjs2:∀j∈A0 T2,Hi j:=by
        rw[HX.out.one.jobs];intro j hj;rw[List.mem_singleton.1 hj];exact HX.out.one.ok
      have HMM:=a0z (fun T3 x W (hf:Fp [] w7 W) hm=>Wp w W base7 (bm+1) bm L7 V7 v7 100000 T2 T3 id to_ 0 x (HD7.out.calm hf) ⟨HJ7.out.fp.trans hf (by simp),HJ7.out.b0,HJ7.out.bm0⟩ hL7 hV7 hb7 hjs2 q0 q1 (by decide) (by decide) HT.out (by decide) (by omega) (by omega) hm)
      rcases oC HX.out.one hs2 hl to_ with⟨hb8,hm⟩|⟨hb8,T3,hm,h3,hs3,hl3⟩
      · have HM8:=a0z (fun W (hf:Fp [] w7 W)=>HMM.out T2 5 W hf hm)
        simp only at hb8
        replace hb8:=oD hb8
        clear hm HMM HD7 HJ7 HFI
        rcases hb8 with c1|⟨c1,c2⟩|⟨c1,c2,c3⟩
        all_goals first
          |(exfalso;omega)
          |skip
        all_goals
          go_wp2_with (fail);(with_reducible refine(HM8.out _ (HF8.out.alloc' _)).mono ?_);rintro e w9 ⟨rfl,-,hJ9⟩;go_wp2_with (fail);go_ret;exact⟨rfl,hJ9.fp⟩
      · have HM8:=a0z (fun W (hf:Fp [] w7 W)=>HMM.out T3 0 W hf hm)
        have H3:=a0z h3;simp only at hb8;obtain⟨c1,c2,c3⟩:=oE hb8;clear hm HMM HD7 HJ7 HFI h3 hb8;go_wp2_with (fail);(with_reducible refine(HM8.out _ (HF8.out.alloc' _)).mono ?_);rintro e w9 ⟨rfl,⟨v9,hD9⟩,hJ9⟩;have HS9:=a0z (Wn w w9 base7 (bm+1) bm L7 V7 v9 100000 T3 T3 id (input++⟨#[120]⟩) 191 hD9 hJ9 hL7 hV7 hb7 hid (by rw[a0x];have h2:(⟨#[120]⟩:ByteArray).size=1:=rfl;omega) HT.out (by decide) (by omega) (by omega) (nW H3.out (oF input)));clear hD9 hJ9 HM8;go_wp2_with (fail);(with_reducible refine HS9.out.mono ?_);rintro e w10 ⟨rfl,⟨v10,hD10⟩,hJ10⟩;have HS10:=a0z (Wn w w10 base7 (bm+1) bm L7 V7 v10 100000 T3 T3 id input 0 hD10 hJ10 hL7 hV7 hb7 hid (by omega) HT.out (by decide) (by omega) (by omega) (nV H3.out));clear hD10 hJ10 HS9;go_wp2_with (fail);(with_reducible refine HS10.out.mono ?_);rintro e w11 ⟨rfl,-,hJ11⟩;go_wp2_with (fail);go_ret;exact⟨rfl,hJ11.fp⟩
theorem oH(w:World)(id:Int)(input:ByteArray)(phase to_ arg:Int)(i0:0≤id)(i1:id≤18446744073709551615)(hin:input.size≤9223372036854775807)
    (p0: -9223372036854775808≤phase)(p1:phase≤9223372036854775807)(q0: -9223372036854775808≤to_)(q1:to_≤9223372036854775807)(r0: -9223372036854775808≤arg)(r1:arg≤9223372036854775807)(hp:Jt w)(ht:B0 w)(hz:Gw w):
    Calls Tryz.prog 5 #[.int .u64 id,.string input,.int .i64 phase,.int .i64 to_,.int .i64 arg] w fun e w'=>e=.returned (.bool true)∧Fp [] w w':=by
  obtain⟨id,rfl⟩:∃n:Nat,id=n:=⟨id.toNat,by omega⟩
  exact oG w id input phase to_ arg (by omega) hin p0 p1 q0 q1 r0 r1 hp ht hz
end Go.Proofs.YtkagolpnaicdoaaGreatDoor
