/-
 JobNames: files of unlike jobs, epochs, or places have unlike names.
-/
import Derived.Test.YtkagolpnaicdoaaGreatDoorPJobH
set_option maxRecDepth 100000
set_option maxHeartbeats 8000000
open Go.Lib renaming hid→a0z
namespace Go.Proofs.YtkagolpnaicdoaaGreatDoor
open Go.RowKit Go.Lib
theorem Qa{a b:Nat}(h:a=b):((a:Int)==(b:Int))=true:=by subst h;simp
theorem Ot{a b:Nat}(h:¬a=b):((a:Int)==(b:Int))=false:=beq_eq_false_iff_ne.2 (by omega)
structure rH(x y:ByteArray)(a b ep ot k l:Nat):Prop where
 hx:x.size=39
 hy:y.size=39
 h0:Aq x 0=115
 eq:(x.toList==y.toList)=(((a:Int)==(b:Int))&&(((ep:Int)==(ot:Int))&&((k:Int)==(l:Int))))
 lt:a≠b→Op.bytesLess x.toList y.toList=decide (a<b)
theorem rI{a b ep ot k l:Nat}(ha:a<18446744073709551616)(hb:b<18446744073709551616)(he:ep<18446744073709551616)(ho:ot<18446744073709551616)(hk:k<65536)(hl:l<65536):
  rH (Lr a ep k) (Lr b ot l) a b ep ot k l:=by
 rw[dO ha he hk,dO hb ho hl]
 have t1:∀l:List UInt8,(bl l).toList=l:=fun l=>by rw[ByteArray.toList_eq];exact Rn l
 refine⟨by rw[D1,dP],by rw[D1,dP],by rw[Ky];rfl,?_,fun hne=>by rw[t1,t1];exact qZ ha hb hne⟩;rw[t1,t1]
 by_cases h:J4 a ep k=J4 b ot l
 ·obtain⟨rfl,rfl,rfl⟩:=qY ha hb he ho hk hl h;simp
 ·rw[beq_eq_false_iff_ne.2 h]
  by_cases h1:a=b
  ·by_cases h2:ep=ot
   ·by_cases h3:k=l
    ·subst h1;subst h2;subst h3;exact absurd rfl h
    ·rw[Ot h3];simp
   ·rw[Ot h2];simp
  ·rw[Ot h1];rfl
theorem rJ(w:World)(a b ep ot k l:Nat)(ha:a<18446744073709551616)(hb:b<18446744073709551616)(he:ep<18446744073709551616)(ho:ot<18446744073709551616)(hk:k<65536)(hl:l<65536)(hp:Iq w)(ht:Ce w)(hz:G4 w):
  Calls Tryz.prog 6 #[.int .u64 a,.int .u64 b,.int .u64 ep,.int .u64 ot,.int .u16 k,.int .u16 l] w fun e w'=>e=.returned (.bool true)∧Fp [] w w':=by
 have HN1:=a0z (Xn a ep k ha he hk w hz);have HN2:=a0z (fun w hz=>Xn b ot l hb ho hl w hz);have hnm:=rI ha hb he ho hk hl
 obtain⟨x,hx⟩:∃x,Lr a ep k=x:=⟨_,rfl⟩
 obtain⟨y,hy⟩:∃x,Lr b ot l=x:=⟨_,rfl⟩
 rw[hx] at HN1 hnm;rw[hy] at HN2 hnm;obtain⟨sx,sy,hx0,heq,hlt⟩:=hnm
 have p0:0<x.size:=by omega
 have e0:x[0]=115:=(L4 x 0 p0).trans hx0;have HSH:=a0z (fun W (hf:Fp [] w W)=>Xr W ⟨hp.mx.fp hf (by simp),hp.er.fp hf (by simp) (by simp)⟩ (ht.fp hf (by simp)) (hz.fp hf (by simp)));have HZ:=a0z hz;clear hx hy hx0 hp ht hz ha hb he ho hk hl
 have hc:(a=b∧ep=ot∧k=l)∨(a=b∧ep=ot∧¬k=l)∨(a=b∧¬ep=ot)∨(¬a=b∧a<b)∨(¬a=b∧¬a<b):=by omega
 rcases hc with⟨c1,c2,c3⟩|⟨c1,c2,c3⟩|⟨c1,c2⟩|⟨c1,c2⟩|⟨c1,c2⟩
 ·have q1:=Qa c1;have q2:=Qa c2;have q3:=Qa c3;rw[q1,q2,q3] at heq
  change (x.toList==y.toList)=true at heq
  clear hlt c1 c2 c3;go_enter Tryz.func6,Tryz.ntmps6;go_wp2_with (fail);(with_reducible refine HN1.out.mono ?_);rintro e w1 ⟨rfl,hf1⟩;have HF1:=a0z hf1;clear hf1;go_wp2_with (fail);(with_reducible refine(HN2.out _ (HZ.out.fp HF1.out (by simp))).mono ?_);rintro e w2 ⟨rfl,hf2⟩;have HF2:=a0z (HF1.out.trans hf2 (by simp));clear hf2;go_wp2_with (fail);(with_reducible refine(HSH.out _ HF2.out).mono ?_);rintro e w3 ⟨rfl,hf3⟩;have HF3:=a0z (HF2.out.trans hf3 (by simp));clear hf3;go_wp2_with (fail);go_ret;exact⟨rfl,HF3.out⟩
 ·have q1:=Qa c1;have q2:=Qa c2;have q3:=Ot c3;rw[q1,q2,q3] at heq
  change (x.toList==y.toList)=false at heq
  clear hlt c1 c2 c3;go_enter Tryz.func6,Tryz.ntmps6;go_wp2_with (fail);(with_reducible refine HN1.out.mono ?_);rintro e w1 ⟨rfl,hf1⟩;have HF1:=a0z hf1;clear hf1;go_wp2_with (fail);(with_reducible refine(HN2.out _ (HZ.out.fp HF1.out (by simp))).mono ?_);rintro e w2 ⟨rfl,hf2⟩;have HF2:=a0z (HF1.out.trans hf2 (by simp));clear hf2;go_wp2_with (fail);(with_reducible refine(HSH.out _ HF2.out).mono ?_);rintro e w3 ⟨rfl,hf3⟩;have HF3:=a0z (HF2.out.trans hf3 (by simp));clear hf3;go_wp2_with (fail);go_ret;exact⟨rfl,HF3.out⟩
 ·have q1:=Qa c1;have q2:=Ot c2;rw[q1,q2] at heq
  change (x.toList==y.toList)=false at heq
  clear hlt c1 c2;go_enter Tryz.func6,Tryz.ntmps6;go_wp2_with (fail);(with_reducible refine HN1.out.mono ?_);rintro e w1 ⟨rfl,hf1⟩;have HF1:=a0z hf1;clear hf1;go_wp2_with (fail);(with_reducible refine(HN2.out _ (HZ.out.fp HF1.out (by simp))).mono ?_);rintro e w2 ⟨rfl,hf2⟩;have HF2:=a0z (HF1.out.trans hf2 (by simp));clear hf2;go_wp2_with (fail);(with_reducible refine(HSH.out _ HF2.out).mono ?_);rintro e w3 ⟨rfl,hf3⟩;have HF3:=a0z (HF2.out.trans hf3 (by simp));clear hf3;go_wp2_with (fail);go_ret;exact⟨rfl,HF3.out⟩
 ·have q1:=Ot c1;rw[q1] at heq
  change (x.toList==y.toList)=false at heq
  have hl2:=hlt c1;rw[decide_eq_true c2] at hl2
  have z:(a:Int)<(b:Int):=by omega
  clear hlt c1 c2;go_enter Tryz.func6,Tryz.ntmps6;go_wp2_with (fail);(with_reducible refine HN1.out.mono ?_);rintro e w1 ⟨rfl,hf1⟩;have HF1:=a0z hf1;clear hf1;go_wp2_with (fail);(with_reducible refine(HN2.out _ (HZ.out.fp HF1.out (by simp))).mono ?_);rintro e w2 ⟨rfl,hf2⟩;have HF2:=a0z (HF1.out.trans hf2 (by simp));clear hf2;go_wp2_with (fail);(with_reducible refine(HSH.out _ HF2.out).mono ?_);rintro e w3 ⟨rfl,hf3⟩;have HF3:=a0z (HF2.out.trans hf3 (by simp));clear hf3;go_wp2_with (fail);go_ret;exact⟨rfl,HF3.out⟩
 ·have q1:=Ot c1;rw[q1] at heq
  change (x.toList==y.toList)=false at heq
  have hl2:=hlt c1;rw[decide_eq_false c2] at hl2
  have z:¬(a:Int)<(b:Int):=by omega
  clear hlt c1;go_enter Tryz.func6,Tryz.ntmps6;go_wp2_with (fail);(with_reducible refine HN1.out.mono ?_);rintro e w1 ⟨rfl,hf1⟩;have HF1:=a0z hf1;clear hf1;go_wp2_with (fail);(with_reducible refine(HN2.out _ (HZ.out.fp HF1.out (by simp))).mono ?_);rintro e w2 ⟨rfl,hf2⟩;have HF2:=a0z (HF1.out.trans hf2 (by simp));clear hf2;go_wp2_with (fail);(with_reducible refine(HSH.out _ HF2.out).mono ?_);rintro e w3 ⟨rfl,hf3⟩;have HF3:=a0z (HF2.out.trans hf3 (by simp));clear hf3;go_wp2_with (fail);go_ret;exact⟨rfl,HF3.out⟩
theorem rK(w:World)(a b ep ot k l:Int)(a0:0≤a)(a1:a≤18446744073709551615)(b0:0≤b)(b1:b≤18446744073709551615)(e0:0≤ep)(e1:ep≤18446744073709551615)(o0:0≤ot)(o1:ot≤18446744073709551615)(k0:0≤k)(k1:k≤65535)(l0:0≤l)(l1:l≤65535)(hp:Iq w)(ht:Ce w)(hz:G4 w):
  Calls Tryz.prog 6 #[.int .u64 a,.int .u64 b,.int .u64 ep,.int .u64 ot,.int .u16 k,.int .u16 l] w fun e w'=>e=.returned (.bool true)∧Fp [] w w':=by
 obtain⟨a,rfl⟩:∃n:Nat,a=n:=⟨a.toNat,by omega⟩
 obtain⟨b,rfl⟩:∃n:Nat,b=n:=⟨b.toNat,by omega⟩
 obtain⟨ep,rfl⟩:∃n:Nat,ep=n:=⟨ep.toNat,by omega⟩
 obtain⟨ot,rfl⟩:∃n:Nat,ot=n:=⟨ot.toNat,by omega⟩
 obtain⟨k,rfl⟩:∃n:Nat,k=n:=⟨k.toNat,by omega⟩
 obtain⟨l,rfl⟩:∃n:Nat,l=n:=⟨l.toNat,by omega⟩
 exact rJ w a b ep ot k l (by omega) (by omega) (by omega) (by omega) (by omega) (by omega) hp ht hz
end Go.Proofs.YtkagolpnaicdoaaGreatDoor
