/- Lemmas. -/
import Derived.Test.YtkagolpnaicdoaaGreatDoorQBlkS
import Derived.Test.YtkagolpnaicdoaaGreatDoorQBuild
set_option maxRecDepth 100000
set_option maxHeartbeats 8000000
open Go.Lib renaming hid->X
open UInt8 renaming ofNat->Y
open List renaming length_append->Z
namespace Go.Proofs.YtkagolpnaicdoaaGreatDoor
open Go.RowKit Go.Lib
def two(n:Nat):List UInt8:=[Y n,Y (n/256)]
def Fg(last:List UInt8)(c:Ac):List UInt8:=
 two (L6 last (B7 c))++two ((B7 c).length-L6 last (B7 c))++(B7 c).drop (L6 last (B7 c))++[On c.del,Y c.val.size]++c.val.data.toList
def D9(i:Nat)(last:List UInt8):List UInt8:=if i%4=0 then[] else last
def Ef:Nat->List UInt8->List Ac->List UInt8
 |_,_,[]=>[]
 |i,last,c::r=>Fg (D9 i last) c++Ef (i+1) (B7 c) r
def Ec(l:List Ac):ByteArray × Nat:=
 if l.length>255 then(⟨#[]⟩,71) else if l.all Bh=false then(⟨#[]⟩,1) else if risC l=false then(⟨#[]⟩,40) else(bl (Y l.length::Ef 0 [] l),0)
theorem Y7:∀l:List UInt8,(B3 l).length≤2*l.length
 |[]=>Nat.le_refl _
 |x::l=>by
  have:=Y7 l;have a:=gB [x] l;have b:(B3 [x]).length≤2:=by
   by_cases e:x=0
   .subst e;decide
   .have:B3 [x]=[x]:=(by simp[B3,e])
    rw[this];exact Nat.le_succ 1
  show(B3 ([x]++l)).length<=_;rw[a,Z,List.length_cons];omega
theorem qX(c:Ac):(B7 c).length<=2*c.row.size+2*c.col.size+20:=by
 have b:=Y7 c.row.data.toList;have a:=Y7 c.col.data.toList;have g:c.row.data.toList.length=c.row.size:=rfl;have d:c.col.data.toList.length=c.col.size:=rfl;unfold B7;simp only[Z,List.length_cons,tC];omega
theorem Rz{c:Ac}(h:Bh c=true):c.row.size<=40/\c.col.size<=40/\c.val.size<=100:=by
 unfold Bh Jg at h;simp only[Bool.and_eq_true,decide_eq_true_eq] at h;exact⟨h.1.1.1.2,h.1.1.2.2,h.1.2⟩
theorem Un{c:Ac}(h:Bh c=true):(B7 c).length<=180:=by
 have:=qX c;have:=Rz h;omega
theorem qY(c:Ac)(w:World)(n:Di c):Calls Tryz.prog 148 #[A7 c] w fun e w'=>e=.returned (.bool (!Bh c))/\Fp [] w w':=by
 have k:=X (fun w=>gK c w n);obtain⟨m,h⟩:=Aa (Bh c);rw[h] at k;rw[h];clear h;obtain⟨b,g,i,seq,d,a⟩:=c;rw[show A7 (⟨b,g,i,seq,d,a⟩:Ac)=.agg #[.string b,.string g,.int .u64 i,.int .u64 seq,.bool d,.string a] from rfl] at*;go_in;go_wp2_with fail;refine(k.o _).mono ?_;rintro e l ⟨rfl,j⟩;have p:Hid (Fp [] w l):=(Fp.alloc w _).trans j;clear j;go_wp2_with fail;go_ret;exact⟨rfl,p.o⟩
theorem qZ(w:World)(a:Option Addr)(len cap:Nat)(l:List Ac)(G:Ba w a len l)(hn:len≤9223372036854775807):
  Calls Tryz.prog 225 #[.slice a len cap,.func (.func 148) #[] #[]] w fun e w'=>(∃r:Int,e=.returned (.int .i64 r)/\decide (r≥0)=!l.all Bh)/\Fp [] w w':=by
 have M:=X G;have n:=X G.len;have S:=X (fun c w h=>qY c w h);clear G;go_in;go_wp2_with fail
 go_loopg [8] len (fun g N wr=>∃k:Nat,g+k=len/\N=.int .i64 k/\Fp [] w wr/\∀i (y:i<l.length),i<k->Bh l[i]=true)
 case atStart=>exact⟨0,rfl,rfl,Fp.refl _ _,by intro i _ h;omega⟩
 case round=>
  obtain⟨k,hg,rfl,z,d⟩:=hrel;have J:=X z;have p:=X d;clear z d;by_cases P:k<len
  .have v:k<l.length:=(by rw[←n.o];exact P)
   obtain⟨b1,o1,rfl,R,b⟩:=J2 M.o v;obtain⟨c,F⟩:=Aa (l[k])
   have q:c∈l:=(by rw[<-F];exact List.getElem_mem v)
   have I:=X (M.o.ok c q);have C:Hid (Bh c=false->l.all Bh=false):=fun h=>by
    rw[List.all_eq_false];exact⟨c,q,by simp[h]⟩
   have j:Hid (Bh c=true->∀i (y:i<l.length),i<k+1->Bh l[i]=true):=fun h i y Q=>by
    by_cases e:i=k
    .subst e;rw[F];exact h
    .exact p.o i y (by omega)
   rw[F] at b;obtain⟨q0,q1,W,V,U,T⟩:=b wr J.o;clear b F q;have s:=X (fun w=>S.o c w I.o);obtain⟨m,L⟩:=Aa (Bh c);rw[L] at C j s;clear L;obtain⟨u,B,K,seq,A,t⟩:=c;rw[show A7 (⟨u,B,K,seq,A,t⟩:Ac)=.agg #[.string u,.string B,.int .u64 K,.int .u64 seq,.bool A,.string t] from rfl] at s;go_wp2_with fail;refine(s.o _).mono ?_;rintro e w2 ⟨rfl,z⟩;have D:=X (J.o.trans z);clear z;cases m
   .have E:=X (C.o rfl);go_wp2_with fail;go_ret;exact⟨⟨k,rfl,by rw[E.o,decide_eq_true (by omega)];rfl⟩,D.o⟩
   .have E:=X (j.o rfl);go_wp2_with fail
    go_roundg (gk-1)
    case measure=>omega
    case rel=>exact⟨k+1,by omega,by simp,D.o,E.o⟩
  .have E:Hid (l.all Bh=true):=by
    unfold Hid;rw[List.all_eq_true];intro x O;obtain⟨i,y,rfl⟩:=List.getElem_of_mem O;exact p.o i y (by have:=n.o;omega)
   go_wp2_with fail;go_ret;exact⟨⟨-1,rfl,by rw[E.o];rfl⟩,J.o⟩
theorem rA(w:World)(a:Option Addr)(len cap:Nat)(l:List Ac)(c:Ba w a len l)(g:len≤9223372036854775807):
  Calls Tryz.prog 150 #[.slice a len cap,.func (.func 148) #[] #[]] w fun e w'=>e=.returned (.bool (!l.all Bh))/\Fp [] w w':=by
 have H:=X (qZ w a len cap l c g);clear c;go_in;go_wp2_with fail;refine H.o.mono ?_;rintro e j ⟨⟨r,rfl,b⟩,d⟩;have i:=X d;have h:=X b;clear d b;go_wp2_with fail;go_ret;exact⟨G9 h.o,i.o⟩
theorem Y8:liesAt Tryz.prog Tryz.prog.depth 232 (2/Tryz.prog.cellsOf 232) 0 131 1=true:=by kernel_rfl
theorem Wa(n:Nat):IntKind.u8.wrap (n:Int)=((Y n).toNat:Int):=by
 rw[IntKind.wrap_u8,UInt8.toNat_ofNat'];omega
theorem rB(B b:Nat)(l:List UInt8)(n:Nat)(w:World)(h:D5 232 B b l w)(v:l.length+2≤1000000000)(_hn:n≤1000000):
  Calls Tryz.prog 154 #[.pointer (some ⟨b,0,none⟩),.int .i64 n] w fun e w'=>e=.returned (.tuple #[])/\D5 232 B b (l++two n) w'/\Lp B b w w':=by
 have F:=X h;have y:=X (fun l c w D C=>fZ Y8 (show 232≠5 by decide) B b l c w D C);have z1:=Wa n;have A:=Wa (n/256)
 have z:(n:Int)/256=((n/256:Nat):Int):=by omega
 obtain⟨q,g⟩:=Aa (Y n);obtain⟨x,a⟩:=Aa (Y (n/256))
 have E:Hid (two n=[q]++[x]):=by unfold Hid two;rw[g,a];rfl
 obtain⟨d,p⟩:=Aa (n/256);rw[g] at z1;rw[a,p] at A;rw[p] at z;clear h g a p;go_in;go_wp2_with fail;refine(y.o l q _ F.o (by omega)).mono ?_;rintro e G ⟨rfl,m,j⟩;have u:=X m;have s:=X j;clear m j;go_wp2_with fail;refine(y.o (l++[q]) x _ u.o (by rw[Z,List.length_singleton];omega)).mono ?_;rintro e w2 ⟨rfl,k,i⟩;have t:=X k;have r:=X (s.o.trans i);clear k i;go_wp2_with fail;go_end0;exact⟨rfl,by rw[E.o,<-List.append_assoc];exact t.o,r.o⟩
end Go.Proofs.YtkagolpnaicdoaaGreatDoor
