/-
 A block's bytes (plain); whether some cell may not be; two bytes of a number.
-/
import Derived.Test.YtkagolpnaicdoaaGreatDoorPBlkS
import Derived.Test.YtkagolpnaicdoaaGreatDoorPBuild
import Derived.Test.YtkagolpnaicdoaaGreatDoorPCellKey
set_option maxRecDepth 100000
set_option maxHeartbeats 8000000
open Go.Lib renaming hid→a0z
open UInt8 renaming ofNat→a0x
open List renaming length_append→a0w
namespace Go.Proofs.YtkagolpnaicdoaaGreatDoor
open Go.RowKit Go.Lib
def two(n:Nat):List UInt8:=[a0x n,a0x (n/256)]
def Ij(last:List UInt8)(c:Ac):List UInt8:=
 two (Kw last (Em c))++two ((Em c).length-Kw last (Em c))++(Em c).drop (Kw last (Em c))++[Rm c.del,a0x c.val.size]++c.val.data.toList
def G3(i:Nat)(last:List UInt8):List UInt8:=if i%4=0 then[] else last
def Hi:Nat→List UInt8→List Ac→List UInt8
 |_,_,[]=>[]
 |i,last,c::r=>Ij (G3 i last) c++Hi (i+1) (Em c) r
def Ek(l:List Ac):ByteArray × Nat:=
 if l.length>255 then(⟨#[]⟩,71) else if l.all Di=false then(⟨#[]⟩,1) else if risC l=false then(⟨#[]⟩,40) else(bl (a0x l.length::Hi 0 [] l),0)
theorem Wx:∀l:List UInt8,(C0 l).length≤2*l.length
 |[]=>Nat.le_refl _
 |x::l=>by
  have:=Wx l;have h2:=mG [x] l
  have h1:(C0 [x]).length≤2:=by
   by_cases e:x=0
   ·subst e;decide
   ·have:C0 [x]=[x]:=by simp[C0,e]
    rw[this];exact Nat.le_succ 1
  show(C0 ([x]++l)).length≤_;rw[h2,a0w,List.length_cons];omega
theorem lR(c:Ac):(Em c).length≤2*c.row.size+2*c.col.size+20:=by
 have h1:=Wx c.row.data.toList;have h2:=Wx c.col.data.toList;have e1:c.row.data.toList.length=c.row.size:=rfl;have e2:c.col.data.toList.length=c.col.size:=rfl;unfold Em;simp only[a0w,List.length_cons,mI];omega
theorem T9{c:Ac}(h:Di c=true):c.row.size≤40∧c.col.size≤40∧c.val.size≤100:=by
 unfold Di Il at h;simp only[Bool.and_eq_true,decide_eq_true_eq] at h;exact⟨h.1.1.1.2,h.1.1.2.2,h.1.2⟩
theorem aJ{c:Ac}(h:Di c=true):(Em c).length≤180:=by
 have:=lR c;have:=T9 h;omega
theorem lS(c:Ac)(w:World)(hc:Dn c):Calls Tryz.prog 148 #[D4 c] w fun e w'=>e=.returned (.bool (!Di c))∧Fp [] w w':=by
 have HM:=a0z (fun w=>aS c w hc)
 obtain⟨m,hm⟩:∃m,Di c=m:=⟨_,rfl⟩
 rw[hm] at HM;rw[hm];clear hm;obtain⟨row,col,ts,seq,del,val⟩:=c;rw[show D4 (⟨row,col,ts,seq,del,val⟩:Ac)=.agg #[.string row,.string col,.int .u64 ts,.int .u64 seq,.bool del,.string val] from rfl] at*;go_enter Tryz.func148,Tryz.ntmps148;go_wp2_with (fail);(with_reducible refine(HM.out _).mono ?_);rintro e w1 ⟨rfl,hf⟩;have HF:Hid (Fp [] w w1):=(Fp.alloc w _).trans hf (by simp);clear hf;go_wp2_with (fail);go_ret;exact⟨rfl,HF.out⟩
theorem lT(w:World)(a:Option Addr)(len cap:Nat)(l:List Ac)(hl:Bt w a len l)(hn:len≤9223372036854775807):
  Calls Tryz.prog 225 #[.slice a len cap,.func (.func 148) #[] #[]] w fun e w'=>(∃r:Int,e=.returned (.int .i64 r)∧decide (r≥0)=!l.all Di)∧Fp [] w w':=by
 have HL:=a0z hl;have HLEN:=a0z hl.len;have HW:=a0z (fun c w h=>lS c w h);clear hl;go_enter Tryz.func225,Tryz.ntmps225;go_wp2_with (fail)
 go_loopg [8] len (fun g vi wr=>∃k:Nat,g+k=len∧vi=.int .i64 k∧Fp [] w wr∧∀i (hi:i<l.length),i<k→Di l[i]=true)
 case atStart=>exact⟨0,rfl,rfl,Fp.refl _ _,by intro i _ h;omega⟩
 case round=>
  obtain⟨k,hg,rfl,hf,hall⟩:=hrel;have HF:=a0z hf;have HALL:=a0z hall;clear hf hall
  by_cases hk:k<len
  ·have hkl:k<l.length:=by rw[←HLEN.out];exact hk
   obtain⟨b1,o1,rfl,hb1,hcells⟩:=P1 HL.out hkl
   obtain⟨c,hc⟩:∃c,l[k]=c:=⟨_,rfl⟩
   have hcm:c∈l:=by rw[←hc];exact List.getElem_mem hkl
   have HOK:=a0z (HL.out.ok c hcm)
   have HNO:Hid (Di c=false→l.all Di=false):=fun h=>by
    rw[List.all_eq_false];exact⟨c,hcm,by simp[h]⟩
   have HYES:Hid (Di c=true→∀i (hi:i<l.length),i<k+1→Di l[i]=true):=fun h i hi hik=>by
    by_cases e:i=k
    ·subst e;rw[hc];exact h
    ·exact HALL.out i hi (by omega)
   rw[hc] at hcells;obtain⟨q0,q1,q2,q3,q4,q5⟩:=hcells wr HF.out;clear hcells hc hcm;have HWC:=a0z (fun w=>HW.out c w HOK.out)
   obtain⟨m,hm⟩:∃m,Di c=m:=⟨_,rfl⟩
   rw[hm] at HNO HYES HWC;clear hm;obtain⟨row,col,ts,seq,del,val⟩:=c;rw[show D4 (⟨row,col,ts,seq,del,val⟩:Ac)=.agg #[.string row,.string col,.int .u64 ts,.int .u64 seq,.bool del,.string val] from rfl] at HWC;go_wp2_with (fail);(with_reducible refine(HWC.out _).mono ?_);rintro e w2 ⟨rfl,hf⟩;have HF2:=a0z (HF.out.trans hf (by simp));clear hf;cases m
   ·have HA:=a0z (HNO.out rfl);go_wp2_with (fail);go_ret;exact⟨⟨k,rfl,by rw[HA.out,decide_eq_true (by omega)];rfl⟩,HF2.out⟩
   ·have HA:=a0z (HYES.out rfl);go_wp2_with (fail)
    go_roundg (gk-1)
    case measure=>omega
    case rel=>exact⟨k+1,by omega,by simp,HF2.out,HA.out⟩
  ·have HA:Hid (l.all Di=true):=by
    unfold Hid;rw[List.all_eq_true];intro x hx;obtain⟨i,hi,rfl⟩:=List.getElem_of_mem hx;exact HALL.out i hi (by have:=HLEN.out;omega)
   go_wp2_with (fail);go_ret;exact⟨⟨-1,rfl,by rw[HA.out];rfl⟩,HF.out⟩
theorem lU(w:World)(a:Option Addr)(len cap:Nat)(l:List Ac)(hl:Bt w a len l)(hn:len≤9223372036854775807):
  Calls Tryz.prog 150 #[.slice a len cap,.func (.func 148) #[] #[]] w fun e w'=>e=.returned (.bool (!l.all Di))∧Fp [] w w':=by
 have H:=a0z (lT w a len cap l hl hn);clear hl;go_enter Tryz.func150,Tryz.ntmps150;go_wp2_with (fail);(with_reducible refine H.out.mono ?_);rintro e w1 ⟨⟨r,rfl,hr⟩,hf⟩;have HF:=a0z hf;have HR:=a0z hr;clear hf hr;go_wp2_with (fail);go_ret;exact⟨Ls HR.out,HF.out⟩
theorem Wy:liesAt Tryz.prog Tryz.prog.depth 232 (2/Tryz.prog.cellsOf 232) 0 131 1=true:=by kernel_rfl
theorem Ua(n:Nat):IntKind.u8.wrap (n:Int)=((a0x n).toNat:Int):=by
 rw[IntKind.wrap_u8,UInt8.toNat_ofNat'];omega
theorem lV(B b:Nat)(l:List UInt8)(n:Nat)(w:World)(h:Da 232 B b l w)(hlen:l.length+2≤1000000000)(_hn:n≤1000000):
  Calls Tryz.prog 154 #[.pointer (some ⟨b,0,none⟩),.int .i64 n] w fun e w'=>e=.returned (.tuple #[])∧Da 232 B b (l++two n) w'∧Jq B b w w':=by
 have HB:=a0z h;have HW:=a0z (fun l c w h1 h2=>aM Wy (show 232≠5 by decide) B b l c w h1 h2);have z1:=Ua n;have z2:=Ua (n/256)
 have z3:(n:Int)/256=((n/256:Nat):Int):=by omega
 obtain⟨c1,hc1⟩:∃c,a0x n=c:=⟨_,rfl⟩
 obtain⟨c2,hc2⟩:∃c,a0x (n/256)=c:=⟨_,rfl⟩
 have HT:Hid (two n=[c1]++[c2]):=by unfold Hid two;rw[hc1,hc2];rfl
 obtain⟨d,hd⟩:∃d,n/256=d:=⟨_,rfl⟩
 rw[hc1] at z1;rw[hc2,hd] at z2;rw[hd] at z3;clear h hc1 hc2 hd;go_enter Tryz.func154,Tryz.ntmps154;go_wp2_with (fail);(with_reducible refine(HW.out l c1 _ HB.out (by omega)).mono ?_);rintro e w1 ⟨rfl,hb1,hf1⟩;have HB1:=a0z hb1;have HF1:=a0z hf1;clear hb1 hf1;go_wp2_with (fail);(with_reducible refine(HW.out (l++[c1]) c2 _ HB1.out (by rw[a0w,List.length_singleton];omega)).mono ?_);rintro e w2 ⟨rfl,hb2,hf2⟩;have HB2:=a0z hb2;have HF2:=a0z (HF1.out.trans hf2);clear hb2 hf2;go_wp2_with (fail);go_end0;exact⟨rfl,by rw[HT.out,←List.append_assoc];exact HB2.out,HF2.out⟩
end Go.Proofs.YtkagolpnaicdoaaGreatDoor
