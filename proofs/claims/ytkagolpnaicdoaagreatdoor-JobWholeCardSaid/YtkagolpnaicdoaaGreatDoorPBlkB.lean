/-
 A block's bytes (plain); whether some cell may not be; two bytes of a number.
-/
import Derived.Test.YtkagolpnaicdoaaGreatDoorPBlkS
import Derived.Test.YtkagolpnaicdoaaGreatDoorPCellLaw6
set_option maxRecDepth 100000
set_option maxHeartbeats 8000000
open Go.Lib renaming hid->a0z
open UInt8 renaming ofNat->a0x
open List renaming length_append->a0w
namespace Go.Proofs.YtkagolpnaicdoaaGreatDoor
open Go.RowKit Go.Lib
def two(n:Nat):List UInt8:=[a0x n,a0x (n/256)]
def G3(last:List UInt8)(c:Aa):List UInt8:=
 two (Eo last (Bq c))++two ((Bq c).length-Eo last (Bq c))++(Bq c).drop (Eo last (Bq c))++[Np c.del,a0x c.val.size]++c.val.data.toList
def Dq(i:Nat)(last:List UInt8):List UInt8:=if i%4=0 then[] else last
def E6:Nat->List UInt8->List Aa->List UInt8
 |_,_,[]=>[]
 |i,last,c::r=>G3 (Dq i last) c++E6 (i+1) (Bq c) r
def Da(l:List Aa):ByteArray × Nat:=
 if l.length>255 then(⟨#[]⟩,71) else if l.all B8=false then(⟨#[]⟩,1) else if risC l=false then(⟨#[]⟩,40) else(bl (a0x l.length::E6 0 [] l),0)
theorem Z2:∀l:List UInt8,(Cj l).length≤2*l.length
 |[]=>Nat.le_refl _
 |x::l=>by
  have:=Z2 l;have a:=tZ [x] l
  have b:(Cj [x]).length≤2:=by
   by_cases e:x=0
   ·subst e;decide
   ·have:Cj [x]=[x]:=by simp[Cj,e]
    rw[this];exact Nat.le_succ 1
  show(Cj ([x]++l)).length<=_;rw[a,a0w,List.length_cons];omega
theorem sS(c:Aa):(Bq c).length<=2*c.row.size+2*c.col.size+20:=by
 have b:=Z2 c.row.data.toList;have a:=Z2 c.col.data.toList;have f:c.row.data.toList.length=c.row.size:=rfl;have d:c.col.data.toList.length=c.col.size:=rfl;unfold Bq;simp only[a0w,List.length_cons,P7];omega
theorem Sl{c:Aa}(h:B8 c=true):c.row.size<=40/\c.col.size<=40/\c.val.size<=100:=by
 unfold B8 Im at h;simp only[Bool.and_eq_true,decide_eq_true_eq] at h;exact⟨h.1.1.1.2,h.1.1.2.2,h.1.2⟩
theorem Z3{c:Aa}(h:B8 c=true):(Bq c).length<=180:=by
 have:=sS c;have:=Sl h;omega
theorem sT(c:Aa)(w:World)(l:B3 c):Calls Tryz.prog 148 #[Bm c] w fun e w'=>e=.returned (.bool (!B8 c))/\Fp [] w w':=by
 have j:=a0z (fun w=>cT c w l)
 obtain⟨m,g⟩:∃m,B8 c=m:=⟨_,rfl⟩
 rw[g] at j;rw[g];clear g;obtain⟨b,f,h,seq,d,a⟩:=c;rw[show Bm (⟨b,f,h,seq,d,a⟩:Aa)=.agg #[.string b,.string f,.int .u64 h,.int .u64 seq,.bool d,.string a] from rfl] at*;go_enter Tryz.func148,Tryz.ntmps148;go_wp2_with (fail);(with_reducible refine(j.out _).mono ?_);rintro e k ⟨rfl,i⟩;have n:Hid (Fp [] w k):=(Fp.alloc w _).trans i (by simp);clear i;go_wp2_with (fail);go_ret;exact⟨rfl,n.out⟩
theorem sU(w:World)(a:Option Addr)(len cap:Nat)(l:List Aa)(E:Bh w a len l)(W:len≤9223372036854775807):
  Calls Tryz.prog 225 #[.slice a len cap,.func (.func 148) #[] #[]] w fun e w'=>(∃r:Int,e=.returned (.int .i64 r)/\decide (r≥0)=!l.all B8)/\Fp [] w w':=by
 have K:=a0z E;have j:=a0z E.len;have Q:=a0z (fun c w h=>sT c w h);clear E;go_enter Tryz.func225,Tryz.ntmps225;go_wp2_with (fail)
 go_loopg [8] len (fun g L wr=>∃k:Nat,g+k=len/\L=.int .i64 k/\Fp [] w wr/\∀i (u:i<l.length),i<k->B8 l[i]=true)
 case atStart=>exact⟨0,rfl,rfl,Fp.refl _ _,by intro i _ h;omega⟩
 case round=>
  obtain⟨k,X,rfl,v,d⟩:=hrel;have G:=a0z v;have n:=a0z d;clear v d
  by_cases N:k<len
  ·have t:k<l.length:=by rw[←j.out];exact N
   obtain⟨Y,V,rfl,P,b⟩:=Lj K.out t
   obtain⟨c,D⟩:∃c,l[k]=c:=⟨_,rfl⟩
   have o:c∈l:=by rw[<-D];exact List.getElem_mem t
   have F:=a0z (K.out.ok c o)
   have A:Hid (B8 c=false->l.all B8=false):=fun h=>by
    rw[List.all_eq_false];exact⟨c,o,by simp[h]⟩
   have f:Hid (B8 c=true->∀i (u:i<l.length),i<k+1->B8 l[i]=true):=fun h i u O=>by
    by_cases e:i=k
    ·subst e;rw[D];exact h
    ·exact n.out i u (by omega)
   rw[D] at b;obtain⟨q0,q1,U,T,S,R⟩:=b wr G.out;clear b D o;have p:=a0z (fun w=>Q.out c w F.out)
   obtain⟨m,J⟩:∃m,B8 c=m:=⟨_,rfl⟩
   rw[J] at A f p;clear J;obtain⟨s,z,I,seq,y,q⟩:=c;rw[show Bm (⟨s,z,I,seq,y,q⟩:Aa)=.agg #[.string s,.string z,.int .u64 I,.int .u64 seq,.bool y,.string q] from rfl] at p;go_wp2_with (fail);(with_reducible refine(p.out _).mono ?_);rintro e w2 ⟨rfl,v⟩;have B:=a0z (G.out.trans v (by simp));clear v;cases m
   ·have C:=a0z (A.out rfl);go_wp2_with (fail);go_ret;exact⟨⟨k,rfl,by rw[C.out,decide_eq_true (by omega)];rfl⟩,B.out⟩
   ·have C:=a0z (f.out rfl);go_wp2_with (fail)
    go_roundg (gk-1)
    case measure=>omega
    case rel=>exact⟨k+1,by omega,by simp,B.out,C.out⟩
  ·have C:Hid (l.all B8=true):=by
    unfold Hid;rw[List.all_eq_true];intro x M;obtain⟨i,u,rfl⟩:=List.getElem_of_mem M;exact n.out i u (by have:=j.out;omega)
   go_wp2_with (fail);go_ret;exact⟨⟨-1,rfl,by rw[C.out];rfl⟩,G.out⟩
theorem sV(w:World)(a:Option Addr)(len cap:Nat)(l:List Aa)(d:Bh w a len l)(g:len≤9223372036854775807):
  Calls Tryz.prog 150 #[.slice a len cap,.func (.func 148) #[] #[]] w fun e w'=>e=.returned (.bool (!l.all B8))/\Fp [] w w':=by
 have H:=a0z (sU w a len cap l d g);clear d;go_enter Tryz.func150,Tryz.ntmps150;go_wp2_with (fail);(with_reducible refine H.out.mono ?_);rintro e j ⟨⟨r,rfl,b⟩,f⟩;have i:=a0z f;have h:=a0z b;clear f b;go_wp2_with (fail);go_ret;exact⟨Ks h.out,i.out⟩
theorem Z4:liesAt Tryz.prog Tryz.prog.depth 232 (2/Tryz.prog.cellsOf 232) 0 131 1=true:=by kernel_rfl
theorem W8(n:Nat):IntKind.u8.wrap (n:Int)=((a0x n).toNat:Int):=by
 rw[IntKind.wrap_u8,UInt8.toNat_ofNat'];omega
theorem sW(B b:Nat)(l:List UInt8)(n:Nat)(w:World)(h:Dp 232 B b l w)(t:l.length+2≤1000000000)(_hn:n≤1000000):
  Calls Tryz.prog 154 #[.pointer (some ⟨b,0,none⟩),.int .i64 n] w fun e w'=>e=.returned (.tuple #[])/\Dp 232 B b (l++two n) w'/\K5 B b w w':=by
 have C:=a0z h;have v:=a0z (fun l c w z y=>gC Z4 (show 232≠5 by decide) B b l c w z y);have z1:=W8 n;have z2:=W8 (n/256)
 have x:(n:Int)/256=((n/256:Nat):Int):=by omega
 obtain⟨o,f⟩:∃c,a0x n=c:=⟨_,rfl⟩
 obtain⟨u,a⟩:∃c,a0x (n/256)=c:=⟨_,rfl⟩
 have A:Hid (two n=[o]++[u]):=by unfold Hid two;rw[f,a];rfl
 obtain⟨d,m⟩:∃d,n/256=d:=⟨_,rfl⟩
 rw[f] at z1;rw[a,m] at z2;rw[m] at x;clear h f a m;go_enter Tryz.func154,Tryz.ntmps154;go_wp2_with (fail);(with_reducible refine(v.out l o _ C.out (by omega)).mono ?_);rintro e D ⟨rfl,k,i⟩;have s:=a0z k;have q:=a0z i;clear k i;go_wp2_with (fail);(with_reducible refine(v.out (l++[o]) u _ s.out (by rw[a0w,List.length_singleton];omega)).mono ?_);rintro e w2 ⟨rfl,j,g⟩;have r:=a0z j;have p:=a0z (q.out.trans g);clear j g;go_wp2_with (fail);go_end0;exact⟨rfl,by rw[A.out,<-List.append_assoc];exact r.out,p.out⟩
end Go.Proofs.YtkagolpnaicdoaaGreatDoor
