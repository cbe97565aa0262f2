/-
 JobActs: its walk.
-/
import Derived.Test.YtkagolpnaicdoaaGreatDoorPJobRf
set_option maxRecDepth 100000
set_option maxHeartbeats 8000000
open Go.Lib renaming hid→a0z
namespace Go.Proofs.YtkagolpnaicdoaaGreatDoor
open Go.RowKit Go.Lib Go.Maps Go.MapKept Go.ChangeMaps
theorem oW{T:List ByteArray}{m:Nat}{n k:Int}(h:G0 1000000 T m)(hm:m≤100)(hn0:n≤9223372036854775807)(hk0: -9223372036854775808≤k)(hk1:k≤9223372036854775807):Ak ((Br 1000000 T).fuse n k):=
 (Q7 (by decide) (by have:=h.sums;omega)).fuse hn0 hk0 hk1
theorem P6{T:List ByteArray}{m:Nat}(h:G0 1000000 T m)(hm:m≤100):(An T).length≤100000∧T.length≤100000:=by
 have h1:=dX T;have h2:=h.len;omega
theorem oY(w:World)(a:Option Addr)(len cap:Nat)(l:List K0)(hl:Bf dT w a len l∧∀x∈l,U0 x)(hlen:len≤maxLen)(hp:Iq w)(ht:Ce w)(hz:G4 w):
  Calls Tryz.prog 7 #[.slice a len cap] w fun e w'=>e=.returned (.bool true)∧Fp [] w w':=by
 have hsh:=fun W (hf:Fp [] w W)=>Xr W ⟨hp.mx.fp hf (by simp),hp.er.fp hf (by simp) (by simp)⟩ (ht.fp hf (by simp)) (hz.fp hf (by simp))
 have HSH:=a0z hsh;have HL:=a0z hl;have HLN:=a0z hl.1.len;have HT:=a0z ht;unfold maxLen at hlen;clear hp hz hsh ht hl
 by_cases c60:60<len
 ·have z60:(60:Int)<(len:Int):=by omega
  clear c60;go_enter Tryz.func7,Tryz.ntmps7;go_wp2_with (fail);(with_reducible refine(HSH.out _ (Fp.refl _ _)).mono ?_);rintro e w1 ⟨rfl,hf1⟩;have HF1:=a0z hf1;clear hf1;go_wp2_with (fail);go_ret;exact⟨rfl,HF1.out⟩
 have z60:¬(60:Int)<(len:Int):=by omega
 have hl60:l.length≤60:=by have:=HLN.out;omega
 clear c60;go_enter Tryz.func7,Tryz.ntmps7;go_wp2_with (fail);(with_reducible refine(HSH.out _ (Fp.refl _ _)).mono ?_);rintro e w1 ⟨rfl,hf1⟩;have HF1:=a0z hf1;clear hf1;go_wp2_with (fail);(with_reducible refine(eX 1000000 _).mono ?_);rintro e w2 ⟨rfl,hd2,hf2⟩;have HF2:=a0z (HF1.out.trans hf2 (by simp));have hsz2:=hf2.size
 obtain⟨bm,hbm⟩:∃x,w1.heap.size=x:=⟨_,rfl⟩
 have hbm0:w.heap.size≤bm:=by rw[←hbm];exact HF1.out.size
 rw[hbm] at hd2 hsz2
 try rw[hbm]
 have HO2:=a0z (Ru w2 (bm+1) bm (Dk.new 1000000) (Br 1000000 []) [] hd2 (Ak.new (by decide)) (HT.out.fp HF2.out (by simp)) (by decide) (lH (by decide)) (by intro t ht;cases ht) (by decide));clear hd2 hf2 hbm;go_wp2_with (fail);(with_reducible refine HO2.out.mono ?_);rintro e w3 ⟨L,V,v,rfl,hD,hL,hV,hf3⟩;have hz2:=HF2.out.size
 have hA0:E9 w (w3.alloc (.cells #[] 46)) (bm+1) bm L V w2.heap.size (Br 1000000 []) (Cf []) (An []) (.slice (some ⟨w3.heap.size,0,none⟩) 0 0) (An []) []:=by
  have hf:=HF2.out.trans hf3 (by intro i hi;right;simp at hi;omega);exact⟨⟨v,hD.calm (Fp.alloc _ _)⟩,Ae.made _ _ hf.size,by simp,hf.alloc' _,by omega,by omega,by omega,by omega,by omega⟩
 have HA0:=a0z hA0;clear HO2 hD hf3 hA0;go_wp2_with (fail)
 go_loopg [4,6,7] l.length (fun g v4 v6 v7 wr=>sA w (bm+1) bm l.length g v4 v6 v7 wr)
 case atStart=>exact⟨0,[],L,V,_,by omega,rfl,rfl,G0.nil,HA0.out⟩
 case round=>
  obtain⟨k,T,L,V,base,hg,rfl,rfl,hJ,hA⟩:=hrel;have HJ:=a0z hJ;have HA:=a0z hA;clear hJ hA
  by_cases hk:k<l.length
  ·have zk:(k:Int)<(len:Int):=by have:=HLN.out;omega
   obtain⟨b1,o1,rfl,hb1,hcells⟩:=HL.out.1.get hk;have hq:=hcells wr HA.out.fp;have hxw:=HL.out.2 _ (List.getElem_mem hk)
   obtain⟨x,hx⟩:∃x,l[k]=x:=⟨_,rfl⟩
   rw[hx] at hq hxw;obtain⟨kd,n,kp,ph,id,er,inp⟩:=x;obtain⟨x1,x2,x3,x4,x5,x6,x7,x8,x9⟩:=hxw;simp only at x1 x2 x3 x4 x5 x6 x7 x8 x9;have q0:wr.cell? ⟨b1,o1+k*7,none⟩=some (.int .i64 kd):=hq 0 _ rfl;have q1:wr.cell? ⟨b1,o1+k*7+1,none⟩=some (.int .i64 n):=hq 1 _ rfl;have q2:wr.cell? ⟨b1,o1+k*7+2,none⟩=some (.int .i64 kp):=hq 2 _ rfl;have q3:wr.cell? ⟨b1,o1+k*7+3,none⟩=some (.int .i64 ph):=hq 3 _ rfl;have q4:wr.cell? ⟨b1,o1+k*7+4,none⟩=some (.int .u64 id):=hq 4 _ rfl;have q5:wr.cell? ⟨b1,o1+k*7+5,none⟩=some (.int .i64 er):=hq 5 _ rfl;have q6:wr.cell? ⟨b1,o1+k*7+6,none⟩=some (.string inp):=hq 6 _ rfl;have hA1:=HA.out.made (x:=⟨kd,n,kp,ph,id,er,inp⟩);have hB1:=hA1.act (wr.heap.size,⟨kd,n,kp,ph,id,er,inp⟩) (by simp);unfold Io at hA1 hB1;simp only at hA1 hB1;have HA1:=a0z hA1;have HFA1:=a0z hA1.fp;clear hcells hq hx hA1
   by_cases c300:300<inp.size
   ·have zc:(300:Int)<(inp.size:Int):=by omega
    clear c300 hB1;go_wp2_with (fail);(with_reducible refine(HSH.out _ HFA1.out).mono ?_);rintro e w4 ⟨rfl,hf4⟩;have HF4:=a0z (HFA1.out.trans hf4 (by simp));clear hf4;go_wp2_with (fail);go_ret;exact⟨rfl,HF4.out⟩
   have zc:¬(300:Int)<(inp.size:Int):=by omega
   obtain⟨vd,hvd⟩:=HA1.out.drv;have HFU:=a0z (eY _ (bm+1) bm _ n kp hvd.disk);obtain⟨a6,c6,h6e,-,-,-⟩:=HA1.out.ref.at;subst h6e
   have hk100:k≤100:=by omega
   have hlen6:=(P6 HJ.out hk100).1;clear hvd hB1;go_wp2_with (fail);(with_reducible refine HFU.out.mono ?_);rintro e w4 ⟨rfl,hd4,hf4⟩;have hA4:=HA1.out.disk hf4 hd4;have hB4:=hA4.act _ (List.mem_singleton.2 rfl);unfold Io at hB4;simp only at hB4;have p0:w4.cell? ⟨wr.heap.size,0,none⟩=some (.int .i64 kd):=Aa hB4 0;have p3:w4.cell? ⟨wr.heap.size,3,none⟩=some (.int .i64 ph):=Aa hB4 3;have p4:w4.cell? ⟨wr.heap.size,4,none⟩=some (.int .u64 id):=Aa hB4 4;have p5:w4.cell? ⟨wr.heap.size,5,none⟩=some (.int .i64 er):=Aa hB4 5;have p6:w4.cell? ⟨wr.heap.size,6,none⟩=some (.string inp):=Aa hB4 6;have HA4:=a0z hA4;clear hA4 hB4 hd4 hf4 HFU q0 q1 q2 q3 q4 q5 q6
   go_upto_block 2 with(fail)
   go_cut [5,9,10,11] from 61 to 106 (fun v5 v9 v10 v11 wx=>sB w (bm+1) bm L V base wr.heap.size k T ⟨kd,n,kp,ph,id,er,inp⟩ (.slice a6 (An T).length c6) v5 v9 v10 v11 wx)
   case first=>
    obtain⟨vd4,hv4⟩:=HA4.out.drv;have hok:=oW HJ.out hk100 x1 x2 x3;have hl2:=(P6 HJ.out hk100).2
    by_cases s1:kd=0∨kd=1∨kd=2
    ·have HS:=a0z (cN w4 base (bm+1) bm L V vd4 _ (Cf T) (An T) id inp hv4 hok x6 (by omega) (HT.out.fp HA4.out.fp (by simp)) (by show Dv.size≤_;decide) hl2 hlen6);have HACT:=a0z (rV (input:=inp) HJ.out x6 (by omega) hk100 rfl x1 x2 x3);have HRS:=a0z (fun W (u:Ae D9 W w.heap.size (.slice a6 (An T).length c6) (An T)) hz=>rY W w.heap.size id _ (An T) inp u hz hlen6 x6 (by omega))
     obtain⟨R,hR⟩:∃R,J0 ((Br 1000000 T).fuse n kp) (Cf T) (An T) id inp=R:=⟨_,rfl⟩
     obtain⟨F,hF⟩:∃F,J5 (An T) id inp=F:=⟨_,rfl⟩
     rw[hR] at HS HACT;rw[hF] at HRS HACT;clear hR hF hv4 hok hl2
     rcases s1 with rfl|rfl|rfl
     all_goals
      go_wp2_with (fail);(with_reducible refine HS.out.mono ?_);rintro e w5 ⟨rfl,ht5⟩;have hA5:=HA4.out.told ht5;have hB5:=hA5.act _ (List.mem_singleton.2 rfl);unfold Io at hB5;simp only at hB5;clear p0 p3 p4 p5 p6;have p4:w5.cell? ⟨wr.heap.size,4,none⟩=some (.int .u64 id):=Aa hB5 4;have p6:w5.cell? ⟨wr.heap.size,6,none⟩=some (.string inp):=Aa hB5 6;have HA5:=a0z hA5;clear ht5 hA5 hB5;go_wp2_with (fail);(with_reducible refine(HRS.out _ HA5.out.ref HA5.out.fp.size).mono ?_);rintro e w6 ⟨v10,rfl,ho6,hf6⟩;have HO6:=a0z ho6;have HA6:=a0z (HA5.out.calm hf6);clear ho6 hf6;go_wp2_with (fail)
      go_meet
      case rel=>exact⟨R,F,HACT.out,fun _=>by simp,rfl,rfl,rfl,HO6.out,HA6.out⟩
    by_cases s2:kd=3∨kd=4∨kd=5
    ·have HS:=a0z (cO w4 base (bm+1) bm L V vd4 _ (Cf T) (An T) id ph er hv4 hok (fun j hj=>(HJ.out.ok j hj).1) x4 x5 x7 x8 (HT.out.fp HA4.out.fp (by simp)) (by show Dv.size≤_;decide) hl2 hlen6);have HACT:=a0z (rX (id:=id) HJ.out x4 x5 x7 x8 hk100 rfl x1 x2 x3);have HRS:=a0z (fun W (u:Ae D9 W w.heap.size (.slice a6 (An T).length c6) (An T)) hz=>rZ W w.heap.size id _ (An T) ph er u hz hlen6)
     obtain⟨R,hR⟩:∃R,J1 ((Br 1000000 T).fuse n kp) (Cf T) (An T) id ph er=R:=⟨_,rfl⟩
     obtain⟨F,hF⟩:∃F,J6 (An T) id ph er=F:=⟨_,rfl⟩
     rw[hR] at HS HACT;rw[hF] at HRS HACT;clear hR hF hv4 hok hl2 s1
     rcases s2 with rfl|rfl|rfl
     all_goals
      go_wp2_with (fail);(with_reducible refine HS.out.mono ?_);rintro e w5 ⟨rfl,ht5⟩;have hA5:=HA4.out.told ht5;have hB5:=hA5.act _ (List.mem_singleton.2 rfl);unfold Io at hB5;simp only at hB5;clear p0 p3 p4 p5 p6;have p3:w5.cell? ⟨wr.heap.size,3,none⟩=some (.int .i64 ph):=Aa hB5 3;have p4:w5.cell? ⟨wr.heap.size,4,none⟩=some (.int .u64 id):=Aa hB5 4;have p5:w5.cell? ⟨wr.heap.size,5,none⟩=some (.int .i64 er):=Aa hB5 5;have HA5:=a0z hA5;clear ht5 hA5 hB5;go_wp2_with (fail);(with_reducible refine(HRS.out _ HA5.out.ref HA5.out.fp.size).mono ?_);rintro e w6 ⟨v10,rfl,ho6,hf6⟩;have HO6:=a0z ho6;have HA6:=a0z (HA5.out.calm hf6);clear ho6 hf6;go_wp2_with (fail)
      go_meet
      case rel=>exact⟨R,F,HACT.out,fun _=>by simp,rfl,rfl,rfl,HO6.out,HA6.out⟩
    ·have z0:(kd==0)=false:=by rw[beq_eq_false_iff_ne];omega
     have z1:(kd==1)=false:=by rw[beq_eq_false_iff_ne];omega
     have z2:(kd==2)=false:=by rw[beq_eq_false_iff_ne];omega
     have z3:(kd==3)=false:=by rw[beq_eq_false_iff_ne];omega
     have z4:(kd==4)=false:=by rw[beq_eq_false_iff_ne];omega
     have z5:(kd==5)=false:=by rw[beq_eq_false_iff_ne];omega
     clear s1 s2 hv4 hok hl2;go_wp2_with (fail)
     go_meet
     case rel=>exact⟨⟨(Br 1000000 T).fuse n kp,Cf T,An T,0⟩,⟨An T,false,0⟩,sC,fun h=>(by cases h),rfl,rfl,rfl,HA4.out.ref,HA4.out⟩
   case rest=>
    obtain⟨⟨rd,rlg,rl,re⟩,⟨fl,ft,fe⟩,hact,hkd,rfl,rfl,rfl,ho,hA5⟩:=hcut;simp only at hkd ho hA5;obtain⟨a10,c10,h10e,-,-,-⟩:=ho.at;subst h10e;have hB5:=hA5.act _ (List.mem_singleton.2 rfl);unfold Io at hB5;simp only at hB5;clear p0 p3 p4 p5 p6;obtain⟨vd5,hv5⟩:=hA5.drv;have HF0:=a0z (eY wc (bm+1) bm rd 0 0 hv5.disk);have HRO:=a0z (hv5.roff ho);have HO:=a0z ho;have HA5:=a0z hA5;have hways:=sF hact HJ.out;clear hact ho hA5 hv5 hB5 HA4
    rcases hways with⟨T2,hS⟩|⟨T2,T3,hC⟩
    ·obtain⟨y1,y2,y3,y4,y5,y6,y7,y8⟩:=hS;simp only at y1 y2 y3 y4 y5 y6 y7;subst y2 y3 y4 y5;have HY:=a0z y8;have hlt2:=(P6 y8 (by omega)).1;have hlt3:=(P6 y8 (by omega)).2
     have z6:(re==6)=false:=by rw[beq_eq_false_iff_ne];exact y6
     obtain⟨⟨ji,jp,jx,jn⟩,hfj⟩:∃j,Gs (An T2) id=j:=⟨_,rfl⟩
     obtain⟨hb,hhb⟩:∃b,Gt (An T2) id=b:=⟨_,rfl⟩
     have HFI:=a0z (fun W V L v (h1:Ht W V L v) base (h2:Ae D2 W base v (An T2))=>T8 W base V L id v (An T2) h1 h2 (by omega));have HRF:=a0z (fun W (h:Bf D9 W a10 (An T2).length (An T2))=>X4 W a10 _ c10 id (An T2) h (by omega));rw[hfj,hhb] at HFI HRF;unfold Bq Bo at HFI HRF;simp only at HFI HRF;clear hfj hhb y8 hkd y6;go_wp2_with (fail);(with_reducible refine HF0.out.mono ?_);rintro e w6 ⟨rfl,hd6,hf6⟩;have hA6:=HA5.out.disk hf6 hd6;rw[y1] at hA6;have HO6:=a0z (HO.out.kept fun q hq=>hf6.block q (HO.out.lt q hq).2 (fun hm=>HRO.out q hq (by simp at hm;simp[hm])));have hB6:=hA6.act _ (List.mem_singleton.2 rfl);unfold Io at hB6;simp only at hB6;have p4:w6.cell? ⟨wr.heap.size,4,none⟩=some (.int .u64 id):=Aa hB6 4;have HA6:=a0z hA6;have HB6:=a0z hB6;obtain⟨vd6,hv6⟩:=hA6.drv;have HFI6:=a0z (HFI.out w6 V L vd6 hv6.drv base hv6.own);have HV6:=a0z hv6;clear hA6 hB6 hd6 hf6 HF0 HFI hv6 y1;go_wp2_with (fail);(with_reducible refine HFI6.out.mono ?_);rintro e w7 ⟨rfl,hf7⟩;have HF7:=a0z (hf7.alloc' (.cells #[.int .u64 ji,.int .i64 jp,.int .i64 jx,.string jn] 42));have HJ7:Hid ((w7.alloc (.cells #[.int .u64 ji,.int .i64 jp,.int .i64 jx,.string jn] 42)).heap[w7.heap.size]?=some (.cells #[.int .u64 ji,.int .i64 jp,.int .i64 jx,.string jn] 42 (0,0))):=a0z (Ai rfl _);have p4:(w7.alloc (.cells #[.int .u64 ji,.int .i64 jp,.int .i64 jx,.string jn] 42)).cell? ⟨wr.heap.size,4,none⟩=some (.int .u64 id):=Aa ((HF7.out.block _ (Ab HB6.out) (by simp)).trans HB6.out) 4
     have hat7:Bf D9 (w7.alloc (.cells #[.int .u64 ji,.int .i64 jp,.int .i64 jx,.string jn] 42)) a10 (An T2).length (An T2):=by
      obtain⟨a2,c2,e2,-,-,hat2⟩:=(HO6.out.fp HF7.out (by simp)).at;cases e2;exact hat2
     have HRF7:=a0z (HRF.out _ hat7);clear hf7 hat7 HFI6 HRF
     have htd:re=0∨(re==0)=false∧ft=false:=by
      by_cases h:re=0
      ·exact Or.inl h
      ·exact Or.inr ⟨by rw[beq_eq_false_iff_ne];exact h,by rcases y7 with h1|h1;exact absurd h1 h;exact h1⟩
     have HZ:Hid (re=re):=rfl
     rcases htd with rfl|⟨e0,rfl⟩
     all_goals
      go_wp2_with (fail);(with_reducible refine HRF7.out.mono ?_);rintro e w8 ⟨rfl,hf8⟩;have HF8:=a0z ((HF7.out.trans hf8 (by simp)).alloc' (.cells #[.int .u64 ji,.int .i64 jp,.int .i64 jx,.string jn] 46));have HJ8:=a0z (Cb (o':=.cells #[.int .u64 ji,.int .i64 jp,.int .i64 jx,.string jn] 46) ((hf8.block _ (Ab HJ7.out) (by simp)).trans HJ7.out));have HK8:Hid ((w8.alloc (.cells #[.int .u64 ji,.int .i64 jp,.int .i64 jx,.string jn] 46)).heap[w8.heap.size]?=some (.cells #[.int .u64 ji,.int .i64 jp,.int .i64 jx,.string jn] 46 (0,0))):=a0z (Ai rfl _);have HV8:=a0z (HV6.out.calm HF8.out);have HDJ:=a0z (Re _ base V L vd6 (An T2) HV8.out.drv HV8.out.own (by omega))
      have HAT8:Hid (∀W,Fp [] (w8.alloc (.cells #[.int .u64 ji,.int .i64 jp,.int .i64 jx,.string jn] 46)) W→Bf D9 W a10 (An T2).length (An T2)):=a0z (fun W hf=>by
       obtain⟨a2,c2,e2,-,-,hat2⟩:=((HO6.out.fp HF8.out (by simp)).fp hf (by simp)).at;cases e2
       exact hat2)
      clear hf8 HRF7 p4;go_wp2_with (fail);(with_reducible refine(HDJ.out).mono ?_);rintro e wa1 ⟨vj,rfl,hoj,hj1⟩;obtain⟨aj,cj,rfl,-,-,hatj⟩:=hoj.at;have HIa:=a0z (Qd wa1 aj _ cj (An T2) hatj (by omega));have HJa:=a0z hj1;clear hoj hatj hj1;go_wp2_with (fail);(with_reducible refine HIa.out.mono ?_);rintro e wa2 ⟨vi,rfl,hoi,hj2⟩;obtain⟨ai,ci,rfl,-,-,hati⟩:=hoi.at;have HKa:=a0z (HJa.out.trans hj2 (by simp));have HSa:=a0z (Qc wa2 ai a10 _ ci _ c10 (An T2) _ hati (HAT8.out _ HKa.out) (by omega) true (fun _=>rfl) (fun h=>absurd rfl h));clear hoi hati hj2 HIa HJa;go_wp2_with (fail);(with_reducible refine HSa.out.mono ?_);rintro e wa3 ⟨rfl,hj3⟩;have HFa:=a0z (HKa.out.trans hj3 (by simp));clear hj3 HSa HKa;have hj8:=(HFa.out.block _ (Ab HJ8.out) (by simp)).trans HJ8.out;have hk8:=(HFa.out.block _ (Ab HK8.out) (by simp)).trans HK8.out;have j0:wa3.cell? ⟨w7.heap.size,0,none⟩=some (.int .u64 ji):=Aa hj8 0;have j1:wa3.cell? ⟨w7.heap.size,1,none⟩=some (.int .i64 jp):=Aa hj8 1;have j2:wa3.cell? ⟨w7.heap.size,2,none⟩=some (.int .i64 jx):=Aa hj8 2;have j3:wa3.cell? ⟨w7.heap.size,3,none⟩=some (.string jn):=Aa hj8 3;have k0:wa3.cell? ⟨w8.heap.size,0,none⟩=some (.int .u64 ji):=Aa hk8 0;have k1:wa3.cell? ⟨w8.heap.size,1,none⟩=some (.int .i64 jp):=Aa hk8 1;have k2:wa3.cell? ⟨w8.heap.size,2,none⟩=some (.int .i64 jx):=Aa hk8 2;have k3:wa3.cell? ⟨w8.heap.size,3,none⟩=some (.string jn):=Aa hk8 3;have HFF:=a0z (HF8.out.trans HFa.out (by simp));have HA9:=a0z (HA6.out.calm HFF.out);have p0:wa3.cell? ⟨wr.heap.size,0,none⟩=some (.int .i64 kd):=Aa ((HFF.out.block _ (Ab HB6.out) (by simp)).trans HB6.out) 0;have HO9:=a0z (HO6.out.fp HFF.out (by simp));have HV9:=a0z (HV6.out.calm HFF.out);have HOF:=a0z (aD wa3 (bm+1) V L vd6 (Cf T2) HV9.out.drv HV9.out.log);clear hj8 hk8 HDJ;go_wp2_with (fail);(with_reducible refine HOF.out.mono ?_);rintro e wb ⟨rfl,hwb⟩;obtain rfl:=hwb.symm
      by_cases hk5:5<kd
      ·have hs2:=HY.out.sums;have HO12:=a0z (Ru wa3 (bm+1) bm (Br 1000000 T2) (Br 1000000 T2) T2 HV9.out.disk (Q7 (by decide) (by omega)) (HT.out.fp HA9.out.fp (by simp)) (by rw[lF];omega) (lG HY.out.good (by omega)) (fun t ht=>⟨(HY.out.good t ht).1,by have:=(HY.out.good t ht).2;omega⟩) (by have:=HY.out.len;omega));clear HOF;go_wp2_with (fail);(with_reducible refine HO12.out.mono ?_);rintro e w12 ⟨L2,V2,v2,rfl,hD2,hL2,hV2,hf12⟩;have hA12:=(HA9.out.swap HO9.out).again hf12 hD2 hL2 hV2;have HA12:=a0z hA12;have HDJ2:=a0z (Re w12 wa3.heap.size V2 L2 v2 (An T2) hD2.drv hD2.own (by omega))
       have HAT12:Hid (∀W,Fp [] w12 W→Bf D9 W a10 (An T2).length (An T2)):=a0z (fun W hf=>by
        obtain⟨a2,c2,e2,-,-,hat2⟩:=(HA12.out.ref.fp hf (by simp)).at;cases e2
        exact hat2)
       clear hA12 hD2 hf12 HO12;go_wp2_with (fail);(with_reducible refine(HDJ2.out).mono ?_);rintro e wc1 ⟨vj,rfl,hoj,hj1⟩;obtain⟨aj,cj,rfl,-,-,hatj⟩:=hoj.at;have HIc:=a0z (Qd wc1 aj _ cj (An T2) hatj (by omega));have HJc:=a0z hj1;clear hoj hatj hj1;go_wp2_with (fail);(with_reducible refine HIc.out.mono ?_);rintro e wc2 ⟨vi,rfl,hoi,hj2⟩;obtain⟨ai,ci,rfl,-,-,hati⟩:=hoi.at;have HKc:=a0z (HJc.out.trans hj2 (by simp));have HSc:=a0z (Qc wc2 ai a10 _ ci _ c10 (An T2) _ hati (HAT12.out _ HKc.out) (by omega) true (fun _=>rfl) (fun h=>absurd rfl h));clear hoi hati hj2 HIc HJc;go_wp2_with (fail);(with_reducible refine HSc.out.mono ?_);rintro e wc3 ⟨rfl,hj3⟩;have HFc:=a0z (HKc.out.trans hj3 (by simp));clear hj3 HSc HKc;go_wp2_with (fail)
       go_roundg (gk-1)
       case measure=>omega
       case rel=>exact⟨k+1,T2,L2,V2,_,by omega,by go_num,rfl,HY.out,(HA12.out.calm HFc.out).less⟩
      ·clear HOF;go_wp2_with (fail)
       go_roundg (gk-1)
       case measure=>omega
       case rel=>exact⟨k+1,T2,L,V,base,by omega,by go_num,rfl,HY.out,(HA9.out.swap HO9.out).less⟩
    ·obtain⟨y1,y2,y3,y4,y5,y6,y7,y8,y9,y10,y11⟩:=hC;simp only at y1 y2 y3 y4 y5 y6 y8 y9 y10;subst y1 y2 y5 y6;have HY:=a0z y11;have HT3:=a0z y7;have hlt2:=(P6 y11 (by omega)).1;have hlt3:=(P6 y11 (by omega)).2
     obtain⟨⟨ji,jp,jx,jn⟩,hfj⟩:∃j,Gs (An T) id=j:=⟨_,rfl⟩
     obtain⟨hb,hhb⟩:∃b,Gt (An T) id=b:=⟨_,rfl⟩
     have HFI:=a0z (fun W V L v (h1:Ht W V L v) base (h2:Ae D2 W base v (An T))=>T8 W base V L id v (An T) h1 h2 (by omega));rw[hfj,hhb] at HFI;unfold Bq Bo at HFI;simp only at HFI;have HOP:=a0z (fun W (h:Ah W (bm+1) bm (rd.fuse 0 0).on) (hT:Ce W)=>Ru W (bm+1) bm _ (Br 1000000 T3) T3 h y8 hT y10 y9 (fun t ht=>⟨(y11.good t ht).1,by have:=(y11.good t ht).2;omega⟩) (by have:=y11.len;omega));have HOFF:=a0z y3;clear hfj hhb y11 hkd y3 y4 y7 y8 y9 y10;go_wp2_with (fail);(with_reducible refine HF0.out.mono ?_);rintro e w6 ⟨rfl,hd6,hf6⟩;have hA6:=HA5.out.disk hf6 hd6;have HO6:=a0z (HO.out.kept fun q hq=>hf6.block q (HO.out.lt q hq).2 (fun hm=>HRO.out q hq (by simp at hm;simp[hm])));have hB6:=hA6.act _ (List.mem_singleton.2 rfl);unfold Io at hB6;simp only at hB6;have p4:w6.cell? ⟨wr.heap.size,4,none⟩=some (.int .u64 id):=Aa hB6 4;have HA6:=a0z hA6;obtain⟨vd6,hv6⟩:=hA6.drv;have HFI6:=a0z (HFI.out w6 V L vd6 hv6.drv base hv6.own);clear hA6 hB6 hd6 hf6 HF0 HFI hv6;go_wp2_with (fail);(with_reducible refine HFI6.out.mono ?_);rintro e w7 ⟨rfl,hf7⟩;have hfa:=hf7.alloc' (.cells #[.int .u64 ji,.int .i64 jp,.int .i64 jx,.string jn] 42);have HA7:=a0z (HA6.out.calm hfa);have HO7:=a0z (HO6.out.fp hfa (by simp));obtain⟨vd7,hv7⟩:=HA7.out.drv;have HOF:=a0z (aD _ (bm+1) V L vd7 rlg hv7.drv hv7.log);rw[HOFF.out] at HOF;have HON:=a0z (sX _ (bm+1) bm _ hv7.disk);have HRO7:=a0z (hv7.roff HO7.out);clear hf7 hfa hv7 HFI6 p4;go_wp2_with (fail);(with_reducible refine HOF.out.mono ?_);rintro e wb ⟨rfl,rfl⟩;go_wp2_with (fail);(with_reducible refine HON.out.mono ?_);rintro e w8 ⟨rfl,hd8,hf8⟩;have HA8:=a0z (HA7.out.disk hf8 hd8);have HO8:=a0z (HO7.out.kept fun q hq=>hf8.block q (HO7.out.lt q hq).2 (fun hm=>HRO7.out q hq (by simp at hm;simp[hm])));obtain⟨vd8,hv8⟩:=HA8.out.drv;have HRO8:=a0z (hv8.roff HO8.out);have HO12:=a0z (HOP.out w8 hd8 (HT.out.fp HA8.out.fp (by simp)));clear hd8 hf8 hv8 HOF HON HOP;go_wp2_with (fail);(with_reducible refine HO12.out.mono ?_);rintro e w12 ⟨L2,V2,v2,rfl,hD2,hL2,hV2,hf12⟩;have HA12:=a0z (HA8.out.again hf12 hD2 hL2 hV2);have HR12:=a0z (HO8.out.kept fun q hq=>hf12.block q (HO8.out.lt q hq).2 (fun hm=>HRO8.out q hq (by simp at hm ⊢;omega)));have HDJ2:=a0z (Re w12 w8.heap.size V2 L2 v2 (An T3) hD2.drv hD2.own (by omega));have HDJ3:=a0z (fun W (hf:Fp [] w12 W)=>Re W w8.heap.size V2 L2 v2 (An T3) (hD2.drv.fp hf (by simp)) (hD2.own.fp hf (by simp)) (by omega))
     have HAT12:Hid (∀W,Fp [] w12 W→Bf D9 W a10 (An T2).length (An T2)):=a0z (fun W hf=>by
      obtain⟨a2,c2,e2,-,-,hat2⟩:=(HR12.out.fp hf (by simp)).at;cases e2
      exact hat2)
     have HAT6:Hid (∀W,Fp [] w12 W→Bf D9 W a6 (An T).length (An T)):=a0z (fun W hf=>by
      obtain⟨a2,c2,e2,-,-,hat2⟩:=(HA12.out.ref.fp hf (by simp)).at;cases e2
      exact hat2)
     clear hD2 hf12 HO12;go_wp2_with (fail)
     by_cases heq:An T3=An T2
     ·have HE:=a0z heq;clear heq;(with_reducible refine(HDJ2.out).mono ?_);rintro e wc1 ⟨vj,rfl,hoj,hj1⟩;obtain⟨aj,cj,rfl,-,-,hatj⟩:=hoj.at;have HIc:=a0z (Qd wc1 aj _ cj (An T3) hatj (by omega));have HJc:=a0z hj1;clear hoj hatj hj1;go_wp2_with (fail);(with_reducible refine HIc.out.mono ?_);rintro e wc2 ⟨vi,rfl,hoi,hj2⟩;obtain⟨ai,ci,rfl,-,-,hati⟩:=hoi.at;have HKc:=a0z (HJc.out.trans hj2 (by simp));have HSc:=a0z (Qc wc2 ai a10 _ ci _ c10 (An T3) _ hati (HAT12.out _ HKc.out) (by omega) true (fun _=>rfl) (fun h=>absurd HE.out h));clear hoi hati hj2 HIc HJc;go_wp2_with (fail);(with_reducible refine HSc.out.mono ?_);rintro e wc3 ⟨rfl,hj3⟩;have HFc:=a0z (HKc.out.trans hj3 (by simp));clear hj3 HSc HKc;have HD4:=a0z (HDJ3.out _ HFc.out);clear HDJ3;go_wp2_with (fail);(with_reducible refine(HD4.out).mono ?_);rintro e wd1 ⟨vj,rfl,hoj,hj1⟩;obtain⟨aj,cj,rfl,-,-,hatj⟩:=hoj.at;have HId:=a0z (Qd wd1 aj _ cj (An T3) hatj (by omega));have HJd:=a0z hj1;clear hoj hatj hj1;go_wp2_with (fail);(with_reducible refine HId.out.mono ?_);rintro e wd2 ⟨vi,rfl,hoi,hj2⟩;obtain⟨ai,ci,rfl,-,-,hati⟩:=hoi.at;have HKd:=a0z (HJd.out.trans hj2 (by simp));have HSd:=a0z (Qc wd2 ai a10 _ ci _ c10 (An T3) _ hati (HAT12.out _ (HFc.out.trans HKd.out (by simp))) (by omega) true (fun _=>rfl) (fun h=>absurd HE.out h));clear hoi hati hj2 HId HJd;go_wp2_with (fail);(with_reducible refine HSd.out.mono ?_);rintro e wd3 ⟨rfl,hj3⟩;have HFd:=a0z (HKd.out.trans hj3 (by simp));clear hj3 HSd HKd;have HFD:=a0z (HFc.out.trans HFd.out (by simp));have hr:=HR12.out.fp HFD.out (by simp);rw[←HE.out] at hr;have HR:=a0z hr
      have hlen:(An T2).length=(An T3).length:=by rw[HE.out]
      clear hr;go_wp2_with (fail)
      go_roundg (gk-1)
      case measure=>omega
      case rel=>
       refine⟨k+1,T3,L2,V2,_,by omega,by go_num,rfl,HY.out,((HA12.out.calm HFD.out).swap ?_).less⟩
       first|exact HR.out|(rw[hlen];exact HR.out)
     ·have HTT:Hid (T3=T):=a0z (by rcases HT3.out with h|h;exact h;exact absurd (by rw[h]) heq);have HNE:=a0z heq;clear heq;(with_reducible refine(HDJ2.out).mono ?_);rintro e wc1 ⟨vj,rfl,hoj,hj1⟩;obtain⟨aj,cj,rfl,-,-,hatj⟩:=hoj.at;have HIc:=a0z (Qd wc1 aj _ cj (An T3) hatj (by omega));have HJc:=a0z hj1;clear hoj hatj hj1;go_wp2_with (fail);(with_reducible refine HIc.out.mono ?_);rintro e wc2 ⟨vi,rfl,hoi,hj2⟩;obtain⟨ai,ci,rfl,-,-,hati⟩:=hoi.at;have HKc:=a0z (HJc.out.trans hj2 (by simp));have HSc:=a0z (Qc wc2 ai a10 _ ci _ c10 (An T3) _ hati (HAT12.out _ HKc.out) (by omega) false (fun h=>absurd h HNE.out) (fun _=>rfl));clear hoi hati hj2 HIc HJc;go_wp2_with (fail);(with_reducible refine HSc.out.mono ?_);rintro e wc3 ⟨rfl,hj3⟩;have HFc:=a0z (HKc.out.trans hj3 (by simp));clear hj3 HSc HKc;have HD4:=a0z (HDJ3.out _ HFc.out);clear HDJ3;go_wp2_with (fail);(with_reducible refine(HD4.out).mono ?_);rintro e wd1 ⟨vj,rfl,hoj,hj1⟩;obtain⟨aj,cj,rfl,-,-,hatj⟩:=hoj.at;have HId:=a0z (Qd wd1 aj _ cj (An T3) hatj (by omega));have HJd:=a0z hj1;clear hoj hatj hj1;go_wp2_with (fail);(with_reducible refine HId.out.mono ?_);rintro e wd2 ⟨vi,rfl,hoi,hj2⟩;obtain⟨ai,ci,rfl,-,-,hati⟩:=hoi.at;have HKd:=a0z (HJd.out.trans hj2 (by simp));have HSd:=a0z (Qc wd2 ai a6 _ ci _ c6 (An T3) _ hati (HAT6.out _ (HFc.out.trans HKd.out (by simp))) (by omega) true (fun _=>rfl) (fun h=>absurd (by rw[HTT.out]) h));clear hoi hati hj2 HId HJd;go_wp2_with (fail);(with_reducible refine HSd.out.mono ?_);rintro e wd3 ⟨rfl,hj3⟩;have HFd:=a0z (HKd.out.trans hj3 (by simp));clear hj3 HSd HKd;have HFD:=a0z (HFc.out.trans HFd.out (by simp));go_wp2_with (fail)
      go_roundg (gk-1)
      case measure=>omega
      case rel=>
       have h3:=HA12.out.calm HFD.out;have h4:=HY.out;rw[HTT.out] at h3 h4;exact⟨k+1,T,L2,V2,_,by omega,by go_num,rfl,h4,h3.less⟩
  ·have zk:¬(k:Int)<(len:Int):=by have:=HLN.out;omega
   go_wp2_with (fail);go_ret;exact⟨rfl,HA.out.fp⟩
end Go.Proofs.YtkagolpnaicdoaaGreatDoor
