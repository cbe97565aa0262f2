import Derived.Test.YtkagolpnaicdoaaGreatDoorMJobSh
namespace Go.Proofs.YtkagolpnaicdoaaGreatDoor
open Go.RowKit
variable {c : Int} {T : List ByteArray} {j : Ar}
theorem Aag:A0 []=[]:=rfl
structure Gs(c:Int)(T:List ByteArray)(j:Ar):Prop where
  jobs:A0 T=[j]
  good:O0 T
  ok:Hi j
  fine:Ig j=false
  small:¬60000<j.input.size
theorem N0(h:Gs c T j):Hj (A0 T) j.id=some j:=by
  rw[h.jobs];unfold Hj;rw[List.find?_cons,show(j.id==j.id)=true by simp]
theorem nP(h:Gs c T j){id:Nat}(hn:id≠j.id):Hj (A0 T) id=none:=by
  rw[h.jobs];unfold Hj;rw[List.find?_cons,show(j.id==id)=false by simpa using Ne.symm hn];rfl
theorem nQ(h:Gs c T j){k:Ar}(hk:Hi k)(hid:k.id=j.id)(hb:Ig k=false)(hs:¬60000<k.input.size)(hc:(Bd T:Int)+17+k.input.size≤c):
    Df (A6 c T) (Bh T) (A0 T) k=⟨A6 c (T++[Au k]),Bh (T++[Au k]),A0 (T++[Au k]),0⟩∧Gs c (T++[Au k]) k:=by
  obtain⟨h1,h2,h3⟩:=Vr hk hb hs h.good hc;refine⟨h1,?_,h2,hk,hb,hs⟩;rw[h3,h.jobs];unfold Fv;rw[if_pos hid.symm]
theorem nR{k:Ar}(hk:Hi k)(hb:Ig k=false)(hs:¬60000<k.input.size)(hc:(17:Int)+k.input.size≤c):
    Df (A6 c []) (Bh []) (A0 []) k=⟨A6 c [Au k],Bh [Au k],A0 [Au k],0⟩∧Gs c [Au k] k:=by
  obtain⟨h1,h2,h3⟩:=Vr (texts:=[]) hk hb hs (by intro t ht;cases ht) (by show((0:Nat):Int)+17+_ ≤c;omega);exact⟨h1,h3,h2,hk,hb,hs⟩
theorem nS{id:Nat}{input:ByteArray}(hid:id<18446744073709551616)(hs:input.size≤60000)(hc:(17:Int)+input.size≤c):
    Ho (A6 c []) (Bh []) (A0 []) id input=⟨A6 c [Au ⟨id,1,0,input⟩],Bh [Au ⟨id,1,0,input⟩],A0 [Au ⟨id,1,0,input⟩],0⟩∧Gs c [Au ⟨id,1,0,input⟩] ⟨id,1,0,input⟩:=by
  have hk:Hi ⟨id,1,0,input⟩:=⟨hid,(show(-9223372036854775808:Int)≤1 by decide),(show(1:Int)≤9223372036854775807 by decide),(show(-9223372036854775808:Int)≤0 by decide),(show(0:Int)≤9223372036854775807 by decide),by show input.size≤_;omega⟩
  exact nR hk rfl (by show ¬60000<input.size;omega) hc
theorem nT(h:Gs c T j){id:Nat}(hn:id≠j.id)(p x:Int):F8 (A6 c T) (Bh T) (A0 T) id p x=⟨A6 c T,Bh T,A0 T,3⟩:=by
  unfold F8 Nh;rw[nP h hn]
theorem bJ(h:Gs c T j){p x:Int}(hb:4≤j.phase∨p<1∨5<p):F8 (A6 c T) (Bh T) (A0 T) j.id p x=⟨A6 c T,Bh T,A0 T,5⟩:=by
  unfold F8 Nh;rw[N0 h];simp only[hb,if_true]
theorem nU(h:Gs c T j){p x:Int}(hb:¬(4≤j.phase∨p<1∨5<p))(hx:x<0∨65535<x):F8 (A6 c T) (Bh T) (A0 T) j.id p x=⟨A6 c T,Bh T,A0 T,1⟩:=by
  unfold F8 Nh;rw[N0 h];simp only[hb,if_false];refine aI (s:=⟨#[]⟩) ?_ (by decide);unfold Dx;rw[if_pos];unfold Ig;simp only[Bool.or_eq_true,decide_eq_true_eq];omega
theorem bK(h:Gs c T j){p x:Int}(hb:¬(4≤j.phase∨p<1∨5<p))(hx:¬(x<0∨65535<x))(hc:(Bd T:Int)+17+j.input.size≤c):
    F8 (A6 c T) (Bh T) (A0 T) j.id p x=⟨A6 c (T++[Au ⟨j.id,p,x,j.input⟩]),Bh (T++[Au ⟨j.id,p,x,j.input⟩]),A0 (T++[Au ⟨j.id,p,x,j.input⟩]),0⟩∧Gs c (T++[Au ⟨j.id,p,x,j.input⟩]) ⟨j.id,p,x,j.input⟩:=by
  have hk:Hi ⟨j.id,p,x,j.input⟩:=⟨h.ok.id,by show -9223372036854775808≤p;omega,by show p≤_;omega,by show -9223372036854775808≤x;omega,by show x≤_;omega,h.ok.input⟩
  have ht:=nQ h hk rfl (by unfold Ig;simp only[Bool.or_eq_false_iff,decide_eq_false_iff_not];omega) h.small hc;refine⟨?_,ht.2⟩;rw[←ht.1];unfold F8 Nh;rw[N0 h];simp only[hb,if_false]
theorem nV(h:Gs c T j):Ho (A6 c T) (Bh T) (A0 T) j.id j.input=⟨A6 c T,Bh T,A0 T,0⟩:=by
  unfold Ho P2;rw[N0 h];simp
theorem nW(h:Gs c T j){s:ByteArray}(hs:j.input≠s):Ho (A6 c T) (Bh T) (A0 T) j.id s=⟨A6 c T,Bh T,A0 T,191⟩:=by
  unfold Ho P2;rw[N0 h];simp[hs]
end Go.Proofs.YtkagolpnaicdoaaGreatDoor
