/- Lemmas. -/
import Derived.Test.YtkagolpnaicdoaaGreatDoorQWalC
import Derived.Lib.SmallJoins
set_option maxRecDepth 100000
set_option maxHeartbeats 8000000
open Go.Lib renaming hid->X
open List renaming length_append->Y,getElem?_toArray->a0x,append_nil->a0v,getElem?_cons_zero->a0u,getElem?_cons_succ->a1z,append_assoc->a1x,getElem?_append_right->a1w,getElem_map->a2z,not_mem_nil->a2x,length_replicate->a2v,setIfInBounds_toArray->a3z,mem_cons->a3x,getD_eq_getElem?_getD->a3v,getElem?_eq_getElem->a4x,take_length->a4w,nil_append->a5z,map_append->a5x,length_map->a5w,mem_append->a5u,mem_append_right->a6x,mem_append_left->a6w,all_cons->a6v
open UInt8 renaming ofNat->Z,toNat_ofNat'->a2u
open Nat renaming le_refl->a0z,lt_of_lt_of_le->a0w,lt_irrefl->a3w,not_lt_zero->a4u,zero_le->a6z,le_trans->a6u
open Go.IntKind renaming u64->a1v,wrap_i64->a1u,wrap_u64->a4v
open ByteArray renaming size_append->a2w
open Int renaming sub_self->a3u,add_zero->a4z
open Array renaming replicate->a5v
namespace Go.Proofs.YtkagolpnaicdoaaGreatDoor
section
open Go.RowKit Go.Maps Go.MapKept Go.ChangeMaps
def Ll:Nat->List ByteArray->List (Nat × ByteArray)
 |_,[]=>[]
 |a,x::r=>(a+(6+x.size),x)::Ll (a+(6+x.size)) r
theorem pS:∀(a:Nat) (xs:List ByteArray),(Ll a xs).map (·.2)=xs
 |_,[]=>rfl
 |a,x::r=>by show x::(Ll _ r).map (·.2)=_;rw[pS]
theorem pT:∀(a:Nat) (x:ByteArray) (xs:List ByteArray),(Ll a (x::xs)).getLast?.map (·.1)=some (a+Ci (x::xs))
 |a,x,[]=>by show some (a+(6+x.size))=some (a+(6+x.size+0));rfl
 |a,x,y::r=>by
  have b:=pT (a+(6+x.size)) y r;show((a+(6+x.size),x)::Ll (a+(6+x.size)) (y::r)).getLast?.map (·.1)=_;rw[show Ll (a+(6+x.size)) (y::r)=(a+(6+x.size)+(6+y.size),y)::Ll (a+(6+x.size)+(6+y.size)) r from rfl,List.getLast?_cons_cons];rw[show Ll (a+(6+x.size)) (y::r)=(a+(6+x.size)+(6+y.size),y)::Ll (a+(6+x.size)+(6+y.size)) r from rfl] at b;rw[b];congr 1
  show _ =a+(6+x.size+Ci (y::r))
  omega
theorem Agl(xs:List ByteArray):Gy (Ll 0 xs)=Ci xs:=by
 unfold Gy
 cases xs with
 |nil=>rfl
 |cons x r=>rw[pT];show 0+_ =_;omega
theorem pU:∀(xs:List ByteArray) (P T:List UInt8) (n:Nat),(∀x∈xs,x.size≤65535)→(Dq (bl T)).2.2≠0→(B4 xs).length<n→L2 n P.length (bl (P++(B4 xs++T)))=Ll P.length xs
 |[],P,T,0,_,_,h=>absurd h (a4u _)
 |_ ::_,_,_,0,_,_,h=>absurd h (a4u _)
 |[],P,T,n+1,_,hT,_=>by
  obtain⟨⟨t,k,e⟩,c⟩:∃x,Dq (bl T)=x:=⟨_,rfl⟩
  rw[c] at hT;have a:Dq ((bl (P++T)).extract P.length (bl (P++T)).size)=(t,k,e):=by
   rw[Zg P T P.length rfl];exact c
  show L2 (n+1) P.length (bl (P++([]++T)))=[]
  rw[a5z,Uc a hT]
 |x::xs,P,T,n+1,hs,hT,hn=>by
  have g:=hs x (by simp);rw[dK,a1x];have a:Dq ((bl (P++(Et x++(B4 xs++T)))).extract P.length (bl (P++(Et x++(B4 xs++T)))).size)=(x,6+x.size,0):=by
   rw[Zg P _ P.length rfl];exact sA x _ g
  rw[dK,Y,Uu] at hn;rw[Ub a];have b:=pU xs (P++Et x) T n (fun y d=>hs y (List.mem_cons_of_mem _ d)) hT (by omega);rw[Y,Uu,a1x] at b;rw[b];rfl
theorem pV(xs:List ByteArray)(T:List UInt8)(h:∀x∈xs,x.size<=65535)(a:(Dq (bl T)).2.2≠0):Ey (bl (B4 xs++T))=Ll 0 xs:=by
 have b:=pU xs [] T ((bl (B4 xs++T)).size+1) h a (by rw[Dt,Y];omega);exact b
theorem Agm(xs:List ByteArray)(h:∀x∈xs,x.size<=65535):Ey (bl (B4 xs))=Ll 0 xs:=by
 have a:=pV xs [] h (by rw[show Dq (bl [])=(⟨#[]⟩,0,3) from Wl rfl];decide)
 rwa [a0v] at a
theorem Y5{d:Dk}(h:d.left=0):d.tick=d:=by
 obtain⟨c,z,F,o,l,k⟩:=d;simp only at h;subst h;rfl
theorem dW{d:Dk}(h:d.left=0)(b:Bool):d.does b=true:=by
 unfold Dk.does;rw[h]
 cases b<;>rfl
theorem pW{d:Dk}(h:d.left=0)(x:Dk):d.burnt x=x:=by
 unfold Dk.burnt;rw[h,if_neg (by decide)]
theorem pX{d:Dk}(h:d.left=0):d.told=0:=by
 unfold Dk.told;rw[h,if_neg (by decide)]
theorem Uj{d:Dk}{x:ByteArray}(b:d.off=false)(a:Ed x=true):d.named [x]=0:=bE b (by rw[a6v,a];rfl)
theorem Agn{d:Dk}{x y:ByteArray}(c:d.off=false)(b:Ed x=true)(a:Ed y=true):d.named [x,y]=0:=bE c (by rw[a6v,a6v,b,a];rfl)
theorem Ago{d:Dk}{x:ByteArray}{f:A9}(b:d.off=false)(a:Ed x=true)(c:Ar d.files x=some f)(g:A9->Dk):d.thereD x g=d.burnt (g f)/\d.thereE x=d.told:=by
 unfold Dk.thereD Dk.thereE;rw[Uj b a,c];exact⟨if_neg (by decide),if_neg (by decide)⟩
theorem Agp{d:Dk}{x:ByteArray}(b:d.off=false)(a:Ed x=true)(c:Ar d.files x=none)(g:A9->Dk):d.thereD x g=d/\d.thereE x=3:=by
 unfold Dk.thereD Dk.thereE;rw[Uj b a,c];exact⟨if_neg (by decide),if_neg (by decide)⟩
theorem dX{d:Dk}{x:ByteArray}{f:A9}(c:d.off=false)(a:d.left=0)(b:Ed x=true)(h:Ar d.files x=some f)(g:A9->Dk):d.thereD x g=g f/\d.thereE x=0:=by
 obtain⟨j,i⟩:=Ago c b h g;rw[j,i,pW a,pX a];exact⟨rfl,rfl⟩
theorem dY{d:Dk}{x:ByteArray}{f:A9}(c:d.off=false)(a:d.left=0)(b:Ed x=true)(g:Ar d.files x=some f):d.sync x=d.set x (synced f) false/\d.thereE x=0:=by
 obtain⟨i,h⟩:=dX c a b g (d.syncG x);refine⟨i.trans ?_,h⟩;unfold Dk.syncG;rw[dW a,Y5 a];rfl
theorem dZ{d:Dk}{x s:ByteArray}{f:A9}(b:d.off=false)(c:d.left=0)(h:Ed x=true)(g:Ar d.files x=some f)(i:d.size+s.size≤d.cap):d.append x s=d.set x (Ib s f) false∧d.appendE x s=0:=by
 have a:d.full x s=false:=by
  unfold Dk.full;rw[g,b]
  simpa using i
 obtain⟨k,j⟩:=dX b c h g (fun f=>d.tick.set x (Ib s f) false);unfold Dk.append Dk.appendE;rw[a];refine⟨(k.trans ?_),j⟩;rw[Y5 c]
theorem pY{d:Dk}{x:ByteArray}(b:d.off=false)(a:Ed x=true)(c:Ar d.files x=none):d.delete x=d/\d.thereE x=3:=Agp b a c _
theorem pZ{d:Dk}{x:ByteArray}(c:d.off=false)(a:d.left=0)(b:Ed x=true)(g:Ar d.files x=none)(i:d.files.length<200):d.create x=d.set x A6 false∧d.createE x=0:=by
 have h:¬200<=d.files.length:=by omega
 refine⟨?_,?_⟩
 case refine_2=>
  unfold Dk.createE;rw[Uj c b,g,if_neg (by decide),if_neg (by decide),if_neg h,pX a]
 unfold Dk.create;rw[Uj c b,g,if_neg (by decide),if_neg (by decide),if_neg h,pW a];unfold Dk.createG;rw[dW a,Y5 a];rfl
theorem qA{d:Dk}{a b:ByteArray}{f:A9}(g:d.off=false)(c:d.left=0)(h:Ed a=true)(j:Ed b=true)(i:Ar d.files a=some f):d.rename a b=(d.set a A6 true).set b f false/\d.renameE a b=0:=by
 obtain⟨l,k⟩:=dX g c h i (d.renameG a b);unfold Dk.rename Dk.renameE;rw[Agn g h j,if_neg (by decide),if_neg (by decide)];refine⟨l.trans ?_,k⟩;unfold Dk.renameG;rw[dW c,Y5 c];rfl
def Eo(nm:ByteArray)(c:Int)(f:A9):Dk:={cap:=c,size:=f.s.size,files:=[(nm,f)],off:=false,left:=0,keep:=0}
def Qj(c:Int):Dk:={cap:=c,size:=0,files:=[],off:=false,left:=0,keep:=0}
theorem qB(s:ByteArray):(⟨#[]⟩:ByteArray)++s=s:=by
 rw[show(⟨#[]⟩:ByteArray)=ByteArray.empty from rfl,ByteArray.empty_append]
theorem qC{nm:ByteArray}{c:Int}{f:A9}(a:Ed nm=true):(Eo nm c f).read nm=(f.s,0):=by
 unfold Dk.read;rw[Uj rfl a,if_neg (by decide),show Ar (Eo nm c f).files nm=some f from Jl rfl]
theorem Agq{nm:ByteArray}{c:Int}(a:Ed nm=true):(Qj c).read nm=(⟨#[]⟩,3):=by
 unfold Dk.read;rw[Uj rfl a,if_neg (by decide)];rfl
theorem qD{nm:ByteArray}{c:Int}{f:A9}(a:Ed nm=true):(Eo nm c f).sync nm=Eo nm c (synced f)/\(Eo nm c f).thereE nm=0:=by
 obtain⟨g,b⟩:=dY (d:=Eo nm c f) rfl rfl a (f:=f) (Jl rfl);refine⟨g.trans ?_,b⟩;unfold Dk.set Bw;rw[show Ar (Eo nm c f).files nm=some f from Jl rfl];show Dk.mk c ((f.s.size:Int)+((f.s.size:Nat)-(f.s.size:Nat))) (Bg [(nm,f)] nm (synced f)) false 0 0=_;rw[a3u,a4z];unfold Bg;rw[if_pos rfl];rfl
theorem Agr{nm s:ByteArray}{c:Int}{f:A9}(G:Ed nm=true)(g:Ed (nm++Kz)=true)(b:nm≠nm++Kz)(I:(f.s.size:Int)+s.size≤c):(Eo nm c f).wWrite nm s=(Eo nm c ⟨s,s.size⟩,0):=by
 obtain⟨a,j⟩:=Aa (nm++Kz);unfold Dk.wWrite;rw[j] at g b ⊢;have r:(A6.s.size:Int)=0:=rfl
 have k:Ar [(nm,f)] a=none:=by rw[K6 b];rfl
 have h:∀x:A9,Ar [(nm,f),(a,x)] a=some x:=fun x=>by rw[K6 b,Jl rfl]
 have F:∀x:A9,Bg [(nm,f)] a x=[(nm,f),(a,x)]:=fun x=>by unfold Bg;rw[if_neg b];rfl
 have i:∀x y:A9,Bg [(nm,f),(a,x)] a y=[(nm,f),(a,y)]:=fun x y=>by unfold Bg;rw[if_neg b];unfold Bg;rw[if_pos rfl]
 have E:∀x:A9,Dx [(nm,f),(a,x)] a=[(nm,f)]:=fun x=>by
  unfold Dx;rw[List.filter_cons_of_pos (by simpa using b),List.filter_cons_of_neg (by simp)];rfl
 have D:∀x:A9,Bg [(nm,f)] nm x=[(nm,x)]:=fun x=>by unfold Bg;rw[if_pos rfl]
 obtain⟨L,q⟩:=pY (d:=Eo nm c f) rfl g k;obtain⟨w,p⟩:=pZ (d:=Eo nm c f) rfl rfl g k (by show 1<200;decide);have C:(Eo nm c f).set a A6 false=Dk.mk c f.s.size [(nm,f),(a,A6)] false 0 0:=by
  unfold Dk.set Bw;rw[show Ar (Eo nm c f).files a=none from k];show Dk.mk c ((f.s.size:Int)+((A6.s.size:Nat)-(A6.s.size:Nat))) (Bg [(nm,f)] a A6) false 0 0=_;rw[a3u,a4z,F]
 rw[C] at w;obtain⟨v,n⟩:=dZ (d:=Dk.mk c f.s.size [(nm,f),(a,A6)] false 0 0) rfl rfl g (h _) (s:=s) I;have B:(Dk.mk c f.s.size [(nm,f),(a,A6)] false 0 0).set a (Ib s A6) false=Dk.mk c ((f.s.size:Int)+s.size) [(nm,f),(a,⟨s,0⟩)] false 0 0:=by
  have J:Ib s A6=⟨s,0⟩:=by
   unfold Ib A6;rw[qB]
  rw[J];unfold Dk.set Bw;rw[show Ar (Dk.mk c f.s.size [(nm,f),(a,A6)] false 0 0).files a=some A6 from h _];show Dk.mk c ((f.s.size:Int)+((s.size:Nat)-(A6.s.size:Nat))) (Bg [(nm,f),(a,A6)] a ⟨s,0⟩) false 0 0=_;rw[r,Int.sub_zero,i]
 rw[B] at v;obtain⟨u,m⟩:=dY (d:=Dk.mk c ((f.s.size:Int)+s.size) [(nm,f),(a,⟨s,0⟩)] false 0 0) rfl rfl g (h _);have A:(Dk.mk c ((f.s.size:Int)+s.size) [(nm,f),(a,⟨s,0⟩)] false 0 0).set a (synced ⟨s,0⟩) false=Dk.mk c ((f.s.size:Int)+s.size) [(nm,f),(a,⟨s,s.size⟩)] false 0 0:=by
  unfold Dk.set Bw;rw[show Ar (Dk.mk c ((f.s.size:Int)+s.size) [(nm,f),(a,⟨s,0⟩)] false 0 0).files a=some ⟨s,0⟩ from h _];show Dk.mk c ((f.s.size:Int)+s.size+((s.size:Nat)-(s.size:Nat))) (Bg [(nm,f),(a,⟨s,0⟩)] a ⟨s,s.size⟩) false 0 0=_;rw[a3u,a4z,i]
 rw[A] at u;obtain⟨t,l⟩:=qA (d:=Dk.mk c ((f.s.size:Int)+s.size) [(nm,f),(a,⟨s,s.size⟩)] false 0 0) rfl rfl g G (h _);have z:((Dk.mk c ((f.s.size:Int)+s.size) [(nm,f),(a,⟨s,s.size⟩)] false 0 0).set a A6 true).set nm ⟨s,s.size⟩ false=Eo nm c ⟨s,s.size⟩:=by
  have K:(Dk.mk c ((f.s.size:Int)+s.size) [(nm,f),(a,⟨s,s.size⟩)] false 0 0).set a A6 true=Dk.mk c f.s.size [(nm,f)] false 0 0:=by
   unfold Dk.set Bw;rw[show Ar (Dk.mk c ((f.s.size:Int)+s.size) [(nm,f),(a,⟨s,s.size⟩)] false 0 0).files a=some ⟨s,s.size⟩ from h _];show Dk.mk c ((f.s.size:Int)+s.size+((A6.s.size:Nat)-(s.size:Nat))) (Dx (Bg [(nm,f),(a,⟨s,s.size⟩)] a A6) a) false 0 0=_;rw[r,i,E];congr 1;omega
  rw[K];unfold Dk.set Bw;rw[show Ar (Dk.mk c f.s.size [(nm,f)] false 0 0).files nm=some f from Jl rfl];show Dk.mk c ((f.s.size:Int)+((s.size:Nat)-(f.s.size:Nat))) (Bg [(nm,f)] nm ⟨s,s.size⟩) false 0 0=_;rw[D];unfold Eo;congr 1
  show(f.s.size:Int)+((s.size:Nat)-(f.s.size:Nat))=(s.size:Nat)
  omega
 rw[z] at t;unfold Rq;simp only[Iw,L,q,w,p,v,n,u,m,t,l,if_true]
theorem Ags{nm s:ByteArray}{c:Int}(C:Ed nm=true)(b:Ed (nm++Kz)=true)(G:(s.size:Int)≤c):(Qj c).wWrite nm s=(Eo nm c ⟨s,s.size⟩,0):=by
 obtain⟨a,j⟩:=Aa (nm++Kz);unfold Dk.wWrite;rw[j] at b ⊢;have i:(A6.s.size:Int)=0:=rfl;have g:∀x:A9,Ar [(a,x)] a=some x:=fun x=>Jl rfl
 have h:∀x y:A9,Bg [(a,x)] a y=[(a,y)]:=fun x y=>by unfold Bg;rw[if_pos rfl]
 have B:∀x:A9,Dx [(a,x)] a=[]:=fun x=>by
  unfold Dx;rw[List.filter_cons_of_neg (by simp)];rfl
 obtain⟨F,p⟩:=pY (d:=Qj c) rfl b rfl;obtain⟨u,n⟩:=pZ (d:=Qj c) rfl rfl b rfl (by show 0<200;decide);have A:(Qj c).set a A6 false=Dk.mk c 0 [(a,A6)] false 0 0:=rfl;rw[A] at u;obtain⟨t,m⟩:=dZ (d:=Dk.mk c 0 [(a,A6)] false 0 0) rfl rfl b (g _) (s:=s) (by show(0:Int)+_ ≤c;omega);have z:(Dk.mk c 0 [(a,A6)] false 0 0).set a (Ib s A6) false=Dk.mk c s.size [(a,⟨s,0⟩)] false 0 0:=by
  have D:Ib s A6=⟨s,0⟩:=by
   unfold Ib A6;rw[qB]
  rw[D];unfold Dk.set Bw;rw[show Ar (Dk.mk c 0 [(a,A6)] false 0 0).files a=some A6 from g _];show Dk.mk c ((0:Int)+((s.size:Nat)-(A6.s.size:Nat))) (Bg [(a,A6)] a ⟨s,0⟩) false 0 0=_;rw[i,Int.sub_zero,Int.zero_add,h]
 rw[z] at t;obtain⟨r,l⟩:=dY (d:=Dk.mk c s.size [(a,⟨s,0⟩)] false 0 0) rfl rfl b (g _);have w:(Dk.mk c s.size [(a,⟨s,0⟩)] false 0 0).set a (synced ⟨s,0⟩) false=Dk.mk c s.size [(a,⟨s,s.size⟩)] false 0 0:=by
  unfold Dk.set Bw;rw[show Ar (Dk.mk c s.size [(a,⟨s,0⟩)] false 0 0).files a=some ⟨s,0⟩ from g _];show Dk.mk c ((s.size:Int)+((s.size:Nat)-(s.size:Nat))) (Bg [(a,⟨s,0⟩)] a ⟨s,s.size⟩) false 0 0=_;rw[a3u,a4z,h]
 rw[w] at r;obtain⟨q,k⟩:=qA (d:=Dk.mk c s.size [(a,⟨s,s.size⟩)] false 0 0) rfl rfl b C (g _);have v:((Dk.mk c s.size [(a,⟨s,s.size⟩)] false 0 0).set a A6 true).set nm ⟨s,s.size⟩ false=Eo nm c ⟨s,s.size⟩:=by
  have E:(Dk.mk c s.size [(a,⟨s,s.size⟩)] false 0 0).set a A6 true=Dk.mk c 0 [] false 0 0:=by
   unfold Dk.set Bw;rw[show Ar (Dk.mk c s.size [(a,⟨s,s.size⟩)] false 0 0).files a=some ⟨s,s.size⟩ from g _];show Dk.mk c ((s.size:Int)+((A6.s.size:Nat)-(s.size:Nat))) (Dx (Bg [(a,⟨s,s.size⟩)] a A6) a) false 0 0=_;rw[i,h,B];congr 1;omega
  rw[E];unfold Dk.set Bw;show Dk.mk c ((0:Int)+((s.size:Nat)-(A6.s.size:Nat))) [(nm,⟨s,s.size⟩)] false 0 0=_;rw[i,Int.sub_zero,Int.zero_add];rfl
 rw[v] at q;unfold Rq;simp only[Iw,F,p,u,n,t,m,r,l,q,k,if_true]
theorem qE{nm:ByteArray}(h:¬(nm.size=0∨59<nm.size)):Ed nm=true/\Ed (nm++Kz)=true/\nm≠nm++Kz:=by
 have a:(nm++Kz).size=nm.size+1:=by rw[a2w];rfl
 refine⟨bF (by omega) (by omega),bF (by omega) (by omega),fun e=>?_⟩;have:=congrArg ByteArray.size e;omega
theorem Agt{nm:ByteArray}{c:Int}(b:¬(nm.size=0∨59<nm.size))(h:0<=c):(Qj c).wOpen nm=(Eo nm c ⟨⟨#[]⟩,0⟩,0,[]):=by
 obtain⟨a,d,-⟩:=qE b;have g:Ey ⟨#[]⟩=[]:=Agm [] (by simp);unfold Dk.wOpen;rw[if_neg b,Agq a,if_neg (by decide)];simp only[g,true_or,if_true];rw[show(⟨#[]⟩:ByteArray).extract 0 (Gy [])=⟨#[]⟩ from rfl,Ags a d (s:=⟨#[]⟩) (by show(0:Int)<=c;omega)];rfl
theorem Agu{nm:ByteArray}{c:Int}{xs:List ByteArray}{T:List UInt8}{k:Nat}(l:¬(nm.size=0∨59<nm.size))(h:∀x∈xs,x.size≤65535)(q:(Dq (bl T)).2.2≠0)(t:2*((Ci xs:Int)+T.length)≤c):
  (Eo nm c ⟨bl (B4 xs++T),k⟩).wOpen nm=(Eo nm c ⟨bl (B4 xs),Ci xs⟩,0,xs):=by
 obtain⟨g,n,i⟩:=qE l;have p:=pV xs T h q
 have b:(bl (B4 xs++T)).size=Ci xs+T.length:=by rw[Dt,Y,Nb]
 have a:(bl (B4 xs)).size=Ci xs:=by rw[Dt,Nb]
 unfold Dk.wOpen;rw[if_neg l,qC g,if_neg (fun h=>h.1 rfl)];simp only[p,Agl,b,pS]
 by_cases d:T=[]
 .subst d;rw[if_neg (by simp)];obtain⟨s,r⟩:=qD (nm:=nm) (c:=c) (f:=⟨bl (B4 xs++[]),k⟩) g;simp only[s,r,if_true];unfold synced;simp only[a0v,a]
 .have m:0<T.length:=List.length_pos_iff.2 d;have j:(bl (B4 xs++T)).extract 0 (Ci xs)=bl (B4 xs):=eY _ _ _ (Nb xs).symm;rw[if_pos (Or.inr (by omega)),j,Agr g n i (by rw[a];show((bl (B4 xs++T)).size:Int)+_ <=c;rw[b];omega),a];simp only[if_true]
theorem Agv{nm:ByteArray}{c:Int}{xs:List ByteArray}{k:Nat}(a:¬(nm.size=0∨59<nm.size))(h:∀x∈xs,x.size≤65535)(b:2*(Ci xs:Int)≤c):
  (Eo nm c ⟨bl (B4 xs),k⟩).wOpen nm=(Eo nm c ⟨bl (B4 xs),Ci xs⟩,0,xs):=by
 have d:=Agu (nm:=nm) (c:=c) (xs:=xs) (T:=[]) (k:=k) a h (by rw[show Dq (bl [])=(⟨#[]⟩,0,3) from Wl rfl];decide) (by simpa using b)
 rwa [a0v] at d
theorem Agw{nm:ByteArray}{c z:Int}{f g:A9}{l k:Int}(a:z=f.s.size):(Dk.mk c z [(nm,f)] false l k).set nm g false=Dk.mk c g.s.size [(nm,g)] false l k:=by
 unfold Dk.set Bw;rw[show Ar (Dk.mk c z [(nm,f)] false l k).files nm=some f from Jl rfl];show Dk.mk c (z+((g.s.size:Nat)-(f.s.size:Nat))) (Bg [(nm,f)] nm g) false l k=_;unfold Bg;rw[if_pos rfl];congr 1;omega
end
section
open Go.RowKit
theorem Agx(id p e:Nat)(y:List UInt8):A4 (bl (Kr id p e++y)) 8=Z p/\A4 (bl (Kr id p e++y)) 9=Z e/\A4 (bl (Kr id p e++y)) 10=Z (e/256):=by
 refine⟨?_,?_,?_⟩<;>rw[P4]<;>rfl
theorem Agy(id p e:Nat)(y:List UInt8)(h:id<18446744073709551616):F9 (bl (Kr id p e++y)) 8=id:=by
 have a:=hU id ([Z p,Z e,Z (e/256)]++y) 8 (a0z _);rw[show bl (Kr id p e++y)=bl (Hg id++([Z p,Z e,Z (e/256)]++y)) by unfold Kr;rw[a1x],a];exact Nat.mod_eq_of_lt (by simpa using h)
theorem Agz(j:A0):Bi j=bl (Kr j.id j.phase.toNat j.e.toNat++j.input.data.toList):=by
 unfold Bi
 conv=>lhs;rw[<-Oo j.input]
 rw[Lq]
theorem Ag0{j:A0}(t:Ph j)(i:Oc j=false)(s:¬60000<j.input.size):Hq (Bi j)=(j,0):=by
 obtain⟨id,p,x,inp⟩:=j;unfold Oc at i;simp only[Bool.or_eq_false_iff,decide_eq_false_iff_not] at i;obtain⟨⟨⟨y,w⟩,v⟩,u⟩:=i;simp only at s;have g:id<18446744073709551616:=t.id;have a:=Y1 ⟨id,p,x,inp⟩;simp only at a
 obtain⟨pn,rfl⟩:∃n:Nat,p=n:=⟨p.toNat,by omega⟩
 obtain⟨xn,rfl⟩:∃n:Nat,x=n:=⟨x.toNat,by omega⟩
 have c:=Agz ⟨id,pn,xn,inp⟩;simp only[Int.toNat_natCast] at c;obtain⟨m,l,b⟩:=Agx id pn xn inp.data.toList;rw[<-c] at m l b;have k:=Agy id pn xn inp.data.toList g;rw[<-c] at k
 have r:(Z pn).toNat=pn:=by rw[a2u];omega
 have q:(Z xn).toNat=xn%256:=by rw[a2u]
 have d:(Z (xn/256)).toNat=xn/256:=by rw[a2u];omega
 have h:(Bi ⟨id,pn,xn,inp⟩).extract 11 (Bi ⟨id,pn,xn,inp⟩).size=inp:=by
  rw[c,Zg _ _ _ (dN _ _ _).symm,Oo]
 unfold Hq Y0 dM;rw[k,h,m,l,b,r,q,d,a];rw[if_neg]
 .have:xn%256+xn/256*256=xn:=by omega
  rw[this]
 .simp only[Bool.or_eq_true,decide_eq_true_eq];omega
theorem Ag1{nm:ByteArray}{c:Int}{s r:ByteArray}(g:Ed nm=true)(k:(s.size:Int)+r.size≤c):
  (Eo nm c ⟨s,s.size⟩).wAppend nm r=(Eo nm c ⟨s++r,(s++r).size⟩,0):=by
 have j:(s++r).size=s.size+r.size:=a2w;obtain⟨h,b⟩:=dZ (d:=Eo nm c ⟨s,s.size⟩) (x:=nm) (s:=r) rfl rfl g (Jl rfl) k;have i:(Eo nm c ⟨s,s.size⟩).set nm (Ib r ⟨s,s.size⟩) false=Eo nm c ⟨s++r,s.size⟩:=by
  show(Dk.mk c s.size [(nm,⟨s,s.size⟩)] false 0 0).set nm ⟨s++r,s.size⟩ false=_;rw[Agw (f:=⟨s,s.size⟩) rfl];rfl
 rw[i] at h;obtain⟨l,a⟩:=qD (nm:=nm) (c:=c) (f:=⟨s++r,s.size⟩) g;unfold Dk.wAppend Ug;simp only[Iw,h,b,l,a,if_true];rfl
def F2(c:Int)(texts:List ByteArray):Dk:=Eo Iz c ⟨bl (B4 texts),Ci texts⟩
def I0(texts:List ByteArray):Lg:=⟨Iz,texts.length,false⟩
def V6(texts:List ByteArray):Prop:=∀t∈texts,(Hq t).2=0/\t.size<=65535
theorem qF:Ed Iz=true:=by decide
theorem qG:¬(Iz.size=0∨59<Iz.size):=by decide
theorem eA{c:Int}{texts:List ByteArray}(h:c≤1000000000)(g:(Ci texts:Int)≤c):Au (F2 c texts):=by
 have a:(bl (B4 texts)).size=Ci texts:=by rw[Dt,Nb]
 have b:total [(Iz,(⟨bl (B4 texts),Ci texts⟩:A9))]=Ci texts:=by simp[total,a]
 refine⟨?_,?_,h,by simp[F2,Eo,Br],?_,by simp[F2,Eo],Int.le_refl _,(by show(0:Int)<=9223372036854775807;decide),(by show(-9223372036854775808:Int)<=0;decide),(by show(0:Int)<=9223372036854775807;decide)⟩
 .show((bl (B4 texts)).size:Int)=((total [(Iz,(⟨bl (B4 texts),Ci texts⟩:A9))]:Nat):Int)
  rw[b,a]
 .show((total [(Iz,(⟨bl (B4 texts),Ci texts⟩:A9))]:Nat):Int)<=c;rw[b];exact g
 .intro p d
  have:p=(Iz,(⟨bl (B4 texts),Ci texts⟩:A9)):=by simpa [F2,Eo] using d
  subst this;show Ci texts<=(bl (B4 texts)).size;rw[a];exact a0z _
theorem Ag2{c:Int}{texts:List ByteArray}:((F2 c texts).read Iz).1.size=Ci texts:=by
 unfold F2;rw[qC qF];show(bl (B4 texts)).size=_;rw[Dt,Nb]
theorem Ag3{c:Int}{texts:List ByteArray}(h:V6 texts)(b:2*(Ci texts:Int)<=c):(F2 c texts).wOpen Iz=(F2 c texts,0,texts):=
 Agv qG (fun x a=>(h x a).2) b
theorem Ag4{c:Int}(a:0<=c):(Dk.new c).wOpen Iz=(F2 c [],0,[]):=by
 have h:=Agt (nm:=Iz) (c:=c) qG a
 have e:Dk.new c=Qj c:=by unfold Dk.new Qj;rw[Int.max_eq_left a]
 rw[e,h];rfl
theorem Ag5{c:Int}{texts:List ByteArray}{s:ByteArray}(k:s.size≤65535)(m:(Ci texts:Int)+6+s.size≤c):
  H7 (I0 texts) (F2 c texts) [s]=(I0 (texts++[s]),F2 c (texts++[s]),0):=by
 have b:(bl (B4 texts)).size=Ci texts:=by rw[Dt,Nb]
 have l:(bl (B4 [s])).size=6+s.size:=by rw[Dt,Nb];rfl
 have h:=Ag1 (nm:=Iz) (c:=c) (s:=bl (B4 texts)) (r:=bl (B4 [s])) qF (by rw[b,l];omega);have g:Kq [s]=(bl (B4 [s]),0):=pE (by intro t j;rw[List.mem_singleton.1 j];exact k)
 have d:bl (B4 texts)++bl (B4 [s])=bl (B4 (texts++[s])):=by rw[Lq,<-oZ]
 rw[d] at h
 have a:(bl (B4 (texts++[s]))).size=Ci (texts++[s]):=by rw[Dt,Nb]
 rw[b,a] at h;unfold H7 Lh;rw[show(I0 texts).off=false from rfl,g,if_neg (by decide),if_neg (by simp)];have i:(F2 c texts).wAppend (I0 texts).name (bl (B4 [s]))=(F2 c (texts++[s]),0):=h;simp only[i,if_true];unfold I0;simp only[Y,List.length_cons,List.length_nil]
theorem qH{c:Int}{texts:List ByteArray}{j:A0}(m:Ph j)(i:Oc j=false)(d:¬60000<j.input.size)(h:V6 texts)(q:(Ci texts:Int)+17+j.input.size≤c):
  Ek (F2 c texts) (I0 texts) (Ej texts) j=⟨F2 c (texts++[Bi j]),I0 (texts++[Bi j]),Ej (texts++[Bi j]),0⟩/\V6 (texts++[Bi j])/\Ej (texts++[Bi j])=Hr (Ej texts) j:=by
 have n:Eq j=(Bi j,0):=by unfold Eq;rw[i,if_neg (by decide),if_neg d]
 have l:=Y1 j;have g:=Ag0 m i d;have p:=Ag5 (c:=c) (texts:=texts) (s:=Bi j) (by omega) (by omega)
 have a:Ej (texts++[Bi j])=Hr (Ej texts) j:=by rw[pC,g]
 refine⟨?_,?_,a⟩
 .rw[pN n p,a]
 .intro t k;rcases List.mem_append.1 k with b|b
  .exact h t b
  .rw[List.mem_singleton.1 b,g];exact⟨rfl,by omega⟩
theorem qI(texts:List ByteArray)(j:A0):Ci (texts++[Bi j])=Ci texts+17+j.input.size:=by
 rw[Yz];show Ci texts+(6+(Bi j).size+0)=_;rw[Y1];omega
end
section
open Go.RowKit Go.Lib
theorem eB{a:List (Nat × List Ac)}{i:Nat}{x:Nat × List Ac}{f:ByteArray}{e:Nat}(h:i<a.length)(b:a[i]=x)(c:F7 x.2 0=(f,e)):F8 (a.take (i+1))=F8 (a.take i)++[f]:=by
 unfold F8;rw[List.take_add_one,a4x h,b,a5x];simp[c]
theorem Ag6(w:World)(x:Int)(h:x=0):Calls Tryz.prog 48 #[.int .i64 x] w fun e w'=>(∃v,e=.returned v)/\w'=w:=by
 subst h;exact mU w
def H9(f:ByteArray):Value:=.int .u32 (B0 0 f)
theorem Ag7(w:World)(bi bm bw bb bo p:Nat)(s:ByteArray)(m wid mo:Int)(a2:Option Addr)(n2 N:Nat)(borders:List ByteArray)(ar ep:Value)
  (cu:w.heap[bi]?=some (.cells #[.string s] 9 (0,0)))(ct:w.heap[bm]?=some (.cells #[.int .i64 m] 3 (0,0)))(cp:w.heap[bw]?=some (.cells #[.int .i64 wid] 3 (0,0)))(Q:w.heap[bb]?=some (.cells #[.slice a2 n2 N] 22 (0,0)))(cr:w.heap[bo]?=some (.cells #[.int .i64 mo] 3 (0,0)))
  (cq:w.heap[p]?=some (.cells #[ar,ep,.slice none 0 0,.slice none 0 0] 29 (0,0)))(hs:s.size<=100000000)(u:D6 w a2 n2 borders)(b3:n2<=900000)(hm:m<2^63)(d0:wid<2^63)(d9:mo<2^63)(be:Kw w)(a9:Dp w)(aa:0≠p)(ai:2≠p):
  Calls Tryz.prog 46 #[.pointer (some ⟨bi,0,none⟩),.pointer (some ⟨bm,0,none⟩),.pointer (some ⟨bw,0,none⟩),.pointer (some ⟨bb,0,none⟩),.pointer (some ⟨bo,0,none⟩),.pointer (some ⟨p,0,none⟩)] w fun e w'=>Fp [p] w w'∧
   (((∃v,e=.returned v)/\∃files vF vS,D3 s borders m wid mo 0 files/\w'.heap[p]?=some (.cells #[ar,ep,vF,vS] 29 (0,0))/\An 9 w' w.heap.size vF (files.map Value.string)/\An 26 w' w.heap.size vS (files.map H9))∨
    ∃x:Nat,x≠0/\e=.panicked (Tj (x:Int))/\D3 s borders m wid mo x []):=by
 obtain⟨M,line,ec,az⟩:∃M line ec,C0 s=(M,line,ec):=⟨_,_,_,rfl⟩
 have ch:=S1 s hs;have bj:=sL s;rw[az] at ch bj;obtain⟨ag,-,cj,dl⟩:=ch;simp only at ag cj dl bj;have cz:=X (fun w h=>Aar s w hs h);rw[az] at cz;have a4:=X Ag6;have ab:=X mV;have n:=X az;have b8:=X ag;have c9:=X ct;have c7:=X cp;have da:=X Q;have c8:=X cr;have a6:=X cq;have dr:=X u;have bv:=X be;have br:=X a9;have q0:w.cell? ⟨bi,0,none⟩=some (.string s):=Ab cu 0;clear az ag cu ct cp Q cr cq u be a9;go_in;go_wp2_with fail;refine(cz.o _ bv.o).mono ?_;rintro e w1 ⟨⟨v1,rfl,ci⟩,co⟩;obtain⟨a1,c1,rfl,d1,cg,bq⟩:=Ap.at4 ci b8.o;have ac:=X co;have c6:=X bq;simp only;clear ci co bq q0;go_wp2_with fail;by_cases t:ec=0
 .refine(a4.o _ (ec:Int) (by omega)).mono ?_;rintro e w2 ⟨⟨vv,rfl⟩,rfl⟩
  by_cases ay:M=[]
  .subst ay;go_wp2_with fail;refine(ab.o _ 1 (by decide)).mono ?_;rintro e w3 ⟨rfl,rfl⟩;go_wp2_with fail;refine⟨rfl,(ac.o.mono (by simp)),Or.inr ⟨1,by decide,rfl,?_⟩⟩;exact D3.none (by rw[n.o];exact t) (by rw[n.o])
  .have bd:0<M.length:=List.length_pos_iff.2 ay;have hz:(((M.length:Nat):Int)==0)=false:=beq_eq_false_iff_ne.2 (by omega);have q1:w2.cell? ⟨bm,0,none⟩=some (.int .i64 m):=Ab ((ac.o.block _ (Ae c9.o) (by simp)).trans c9.o) 0;have q2:w2.cell? ⟨bw,0,none⟩=some (.int .i64 wid):=Ab ((ac.o.block _ (Ae c7.o) (by simp)).trans c7.o) 0;have al:=X ay;clear ay;have db:Hid (Ba w2 a1 M.length M):=c6;by_cases z:1≤m∧2≤wid
   .obtain⟨V,aw⟩:=z
    obtain⟨mn,rfl⟩:∃k:Nat,m=k:=⟨m.toNat,by omega⟩
    obtain⟨wn,rfl⟩:∃k:Nat,wid=k:=⟨wid.toNat,by omega⟩
    have dv:=X (fun w (h:Ba w a1 M.length M)=>zP w a1 M.length c1 mn wn M h (by omega) bd (by omega) (by omega) (by omega) (by omega));go_wp2_with fail;refine(dv.o _ db.o).mono ?_;rintro e w3 ⟨v3,r,kp,rfl,F,b2,aj⟩;have ae:∀c∈r.map (·.c),Di c:=by
     intro c hc;obtain⟨x,hx,rfl⟩:=List.mem_map.1 hc;exact b8.o _ (fO (F.sub x hx))
    obtain⟨sl,ad⟩:=Aa (r.map (·.c));have b0:sl.length<=4001:=by
     have E:=F.len (Nx b8.o (by omega));have h2:(C4 M).length=M.length:=O9 M _;rw[<-ad,a5w];omega
    have ba:risC sl=true:=(by rw[<-ad];exact F.ris.risC)
    rw[ad] at b2 ae;obtain⟨a3,c3,rfl,bg,bc,bp⟩:=Ap.at4 b2 ae;have bt:=X F;have cy:=X ad;have aq:=X bp;have C:=X (ac.o.trans aj);have bs:=X bc;clear F b2 ae ad bp aj q1 q2 bc cg;go_wp2_with fail;refine(a4.o _ 0 rfl).mono ?_;rintro e w4 ⟨⟨d4,rfl⟩,rfl⟩;have q3:w4.cell? ⟨bb,0,none⟩=some (.slice a2 n2 N):=Ab ((C.o.block _ (Ae da.o) (by simp)).trans da.o) 0;have q4:w4.cell? ⟨bo,0,none⟩=some (.int .i64 mo):=Ab ((C.o.block _ (Ae c8.o) (by simp)).trans c8.o) 0;have ak:=X (dr.o.of_fp C.o);go_wp2_with fail;by_cases L:Ee borders=true
    .by_cases dg:1≤mo
     .obtain⟨A,rfl⟩:∃k:Nat,mo=k:=⟨mo.toNat,by omega⟩
      refine(vN w4 a3 sl.length c3 a2 n2 N sl borders A aq.o bs.o bg ak.o (by omega) b3 L ba (by omega) (by omega)).mono ?_;rintro e w5 ⟨v5,B,rfl,b1,bz,I⟩;obtain⟨pa,pc,rfl⟩:=b1.slice;have O:=X (C.o.trans I);have a0:=X bz;have bx:=X L;have c0:=X b1;have df:(G7 A B).length<=4001:=by
       have E:=Sr A B B.length (a0z _);rw[a4w,bz.flat] at E;exact a6u E b0
      obtain⟨ps,af⟩:=Aa (G7 A B);rw[af] at df;have a5:=X af
      have du:Hid (Gk w5 w4.heap.size (.slice pa ps.length pc) ps):=(by rw[<-af];exact c0)
      rw[af];clear I bz L b1 c0 af q3 q4;go_wp2_with fail;refine(a4.o _ 0 rfl).mono ?_;rintro e w6 ⟨⟨d3,rfl⟩,rfl⟩;go_wp2_with fail
      go_loopg [47] ps.length (fun g vi W=>∃(i:Nat) (vF vS:Value),g=ps.length-i/\vi=.int .i64 i/\i<=ps.length/\(∀j (_ :j<i) (h:j<ps.length),(F7 ps[j].2 0).2=0)/\W.heap[p]?=some (.cells #[ar,ep,vF,vS] 29 (0,0))/\An 9 W w6.heap.size vF ((F8 (ps.take i)).map Value.string)/\An 26 W w6.heap.size vS ((F8 (ps.take i)).map H9)/\Fp [p] w W/\w6.heap.size<=W.heap.size/\(∀D,D≠9->D≠26->Ao D w6.heap.size [p] w6 W))
      case atStart=>exact⟨0,_,_,rfl,rfl,a6z _,fun j h=>absurd h (a4u _),(O.o.block _ (Ae a6.o) (by simp)).trans a6.o,An.nil _ _ _,An.nil _ _ _,O.o.mono (by simp),a0z _,fun _ _ _=>Ao.of ((Fp.refl [] _).mono (by simp)) (by simp;exact a0w (Ae a6.o) O.o.size)⟩
      case round=>
       obtain⟨i,vF,vS,hg,rfl,hi,bk,bn,hF,hS,cl,de,ck⟩:=hrel;have ao:=X bk;have ap:=X bn;have b9:=X hF;have b7:=X hS;have an:=X cl;have c4:=X ck;have HG:=X hg;clear bk bn hF hS cl ck hg;have d8:p<w.heap.size:=Ae a6.o;have dz:w.heap.size<=w4.heap.size:=C.o.size;have a8:w.heap.size<=w6.heap.size:=O.o.size;by_cases ax:i<ps.length
       .have zi:(i:Int)<(ps.length:Int):=(by omega)
        have n1:IntKind.i64.wrap ((i:Int)+1)=((i+1:Nat):Int):=(by rw[a1u];omega)
        obtain⟨i1,b4⟩:=Aa (i+1);rw[b4] at n1;have bf:Gk wr w4.heap.size (.slice pa ps.length pc) ps:=du.o.low fun k E h2=>(c4.o 0 (by decide) (by decide)).low k h2 h2 (by simp;omega);obtain⟨g,gc,xa,xn,xc,dj,av,ce,au⟩:=bf.get ax;cases dj;have ah:∀y∈ps,y∈Gt A B B.length:=by
         rw[<-a5.o];exact fun y h=>h
        have U:=ah ps[i] (List.getElem_mem _);clear ah
        obtain⟨⟨xi,x⟩,hx⟩:∃x,ps[i]=x:=⟨_,rfl⟩
        rw[hx] at av au U;simp only at av au;have cd:=sN U;rw[a0.o.flat] at cd;simp only at cd
        have a7:∀c∈x,Di c:=fun c hc=>aq.o.ok c (by
         have:=sM U hc;rw[a0.o.flat] at this
         exact this)
        obtain⟨ya,yc,dc,dd,-,cc⟩:=Ap.at4 au a7;cases dc
        obtain⟨f,fe,b5⟩:∃f fe,F7 x 0=(f,fe):=⟨_,_,rfl⟩
        have b6:∀W,Fp [] wr W->Calls Tryz.prog 51 #[.slice xa x.length xc,.int .u64 0] W fun e w'=>e=.returned (.tuple #[.string (F7 x 0).1,.int .i64 ((F7 x 0).2:Nat)])/\Fp [] W w':=fun W hf=>rZ W xa x.length xc x 0 (cc.fp hf) dd (by omega) (by decide) (bv.o.mx.fp (an.o.trans hf) (by simpa using ai)) (br.o.fp (an.o.trans hf) (by simpa using aa));rw[b5] at b6;have dy:=X b6;have HX:=X hx;have R:=X b5;have am:=X b4;have q5:wr.cell? ⟨g,i*2,none⟩=some (.int .i64 xi):=av;have q6:wr.cell? ⟨g,i*2+1,none⟩=some (.slice xa x.length xc):=ce;clear bf av ce au U hx a7 cc b5 b6 b4;go_wp2_with fail;refine(dy.o _ (Fp.alloc _ _)).mono ?_;rintro e w7 ⟨rfl,cn⟩;have S:=X ((Fp.alloc wr (.cells #[.int .i64 xi,.slice xa x.length xc] 106)).trans cn);simp only;clear cn q5 q6;go_wp2_with fail;by_cases G:fe=0
        .refine(a4.o _ (fe:Int) (by omega)).mono ?_;rintro e w8 ⟨⟨d2,rfl⟩,rfl⟩;have z:Py x:=sB (seq:=0) (by rw[R.o];exact G);have cm:f=Jy x 0:=by
          have E:=Zo 0 z;rw[R.o] at E;exact(Prod.mk.inj E).1
         have dk:f.size<=100000000:=(by rw[cm];exact fL 0 z)
         have ds:=X (fun W (h:Fp [p] w W)=>Ur f W dk (br.o.fp h (by simpa using aa)));obtain⟨fa,fn,fc,rfl⟩:=b9.o.sl;obtain⟨sa,sn,sc,rfl⟩:=b7.o.sl;have dw:=X (b9.o.fp S.o);have dt:=X (b7.o.fp S.o);have dx:=X ((S.o.block _ (Ae ap.o) (by simp)).trans ap.o);have c5:=X (an.o.trans S.o);have cf:w6.heap.size<=w8.heap.size:=a6u de S.o.size;have dq:Hid (((F8 (ps.take i)).map Value.string).length+1<=1000000000):=X (by simp[F8];omega);have cw:Hid (((F8 (ps.take i)).map H9).length+1<=1000000000):=X (by simp[F8];omega);clear z cm;go_wp2_with fail;refine Qb (E5 w w8 w6.heap.size p ar ep (.slice fa fn fc) (.slice sa sn sc) ((F8 (ps.take i)).map Value.string) ((F8 (ps.take i)).map H9) (.string f) (H9 f)) (fun _ _=>True) (by kernel_rfl) (by kernel_rfl) (fun _=>E5.start dw.o dt.o dx.o c5.o cf (by omega)) ?_;apply Cm (fun _ _ _ h _=>h.plain (by decide)) rfl rfl rfl
         .intro b a w l d K q;have h5:=d.f 5;simp only[Oper.wp,execOp];go_simp;exact q _ l trivial
         apply Cm (fun _ _ _ h _=>h.plain (by decide)) rfl rfl rfl
         .intro b a w l d K q;have el:=d.e 0 59;have J:=l.cel;rw[d.post 12 (by kernel_rfl),cond_false] at J;have q0:=Ab J 2;simp only[a0x,a0u,a1z] at q0;simp only[Oper.wp,execOp];go_simp;exact q _ l trivial
         apply Cm (fun _ _ _ h _=>h.plain (by decide)) rfl rfl rfl
         .intro b a w l d K q;have dp:=d.f 12;simp only[Oper.wp,execOp];go_simp;exact q _ l trivial
         apply Dw (fun _ _=>True) rfl rfl rfl
         .intro b a w l d K q;have ek:=d.e 2 61;have u:=l.bldF d.self;simp only[Oper.wp,execOp];go_simp;exact q _ _ u trivial trivial
         apply Dw (fun _ _=>True) rfl rfl rfl
         .intro b a w l d K q;have dn:=d.e 1 60;have ej:=d.dep 3 62 _ (by kernel_rfl) rfl;obtain⟨g,aa,-,ai⟩:=l.fb (d.pre 3 (by kernel_rfl)) d.self;refine aU 22 9 Tryz.underlying22 Tryz.info9 rfl (by decide) (.tmp 60) (.tmp 62) rfl _ _ _ (Ei dn) (l.f0 d.self) g _ rfl (Ei ((d.val 3 62 (by kernel_rfl)).trans aa)) (Ab ai 0) dq.o l.sz ?_;intro v' w' E h2 h3;exact q _ _ (l.appF (d.pre 3 (by kernel_rfl)) d.self E h2 h3 (by omega) (by omega)) trivial trivial
         apply Cm (fun _ _ _ h _=>h.plain (by decide)) rfl rfl rfl
         .intro b a w l d K q;have h5:=d.f 5;simp only[Oper.wp,execOp];go_simp;exact q _ l trivial
         apply Cm (fun _ _ _ h _=>h.plain (by decide)) rfl rfl rfl
         .intro b a w l d K q;have eh:=d.e 5 64;have J:=l.cel;rw[d.post 14 (by kernel_rfl),cond_false] at J;have q0:=Ab J 3;simp only[a0x,a0u,a1z] at q0;simp only[Oper.wp,execOp];go_simp;exact q _ l trivial
         apply Cm (fun _ _ _ h _=>h.plain (by decide)) rfl rfl rfl
         .intro b a w l d K q;have dp:=d.f 12;simp only[Oper.wp,execOp];go_simp;exact q _ l trivial
         apply Dw (Cc (H9 f)) rfl rfl rfl
         .intro b a w l d K q;have eg:=d.e 7 66;simp only[Oper.wp,execOp];go_simp;refine(ds.o _ l.fp).mono ?_;rintro e w4 ⟨rfl,hf⟩;exact q _ _ ((l.on hf).plain (by decide)) trivial rfl
         apply Dw (fun _ _=>True) rfl rfl rfl
         .intro b a w l d K q;have ef:=d.e 8 67;have u:=l.bldS d.self;simp only[Oper.wp,execOp];go_simp;exact q _ _ u trivial trivial
         apply Dw (fun _ _=>True) rfl rfl rfl
         .intro b a w l d K q;have dm:=d.e 6 65;have ee:=d.dep 9 68 _ (by kernel_rfl) rfl;obtain⟨g,aa,-,ai⟩:=l.sb (d.pre 9 (by kernel_rfl)) d.self;refine aU 27 26 Tryz.underlying27 Tryz.infoU32 rfl (by decide) (.tmp 65) (.tmp 68) rfl _ _ _ (Ei dm) (l.s0 d.self) g _ rfl (Ei ((d.val 9 68 (by kernel_rfl)).trans aa)) (Ab ai 0) cw.o l.sz ?_;intro v' w' E h2 h3;exact q _ _ (l.appS (d.pre 9 (by kernel_rfl)) d.self E h2 h3 (by omega) (by omega)) trivial trivial
         apply Cm (fun _ _ _ h _=>h.plain (by decide)) rfl rfl rfl
         .intro b a w l d K q;have h5:=d.f 5;simp only[Oper.wp,execOp];go_simp;exact q _ l trivial
         apply J3 (fun _=>True) rfl rfl rfl
         .intro b a w l d K q;have eb:=d.e 11 70;have ei:=d.dep 4 63 _ (by kernel_rfl) rfl;obtain⟨a2,n2,c2,e2⟩:=(l.f1 (d.pre 4 (by kernel_rfl))).sl;have hv:=(d.val 4 63 (by kernel_rfl)).trans e2;have u:=l.stoF (d.pre 4 (by kernel_rfl)) (by omega) rfl;rw[e2] at u;have f0:=Av l.cel 2;have q0:=Ab l.cel 2;simp only[a0x,a0u,a1z] at q0;simp only[Oper.wp,execOp];go_simp;exact q undef _ u trivial trivial
         apply Cm (fun _ _ _ h _=>h.plain (by decide)) rfl rfl rfl
         .intro b a w l d K q;have h5:=d.f 5;simp only[Oper.wp,execOp];go_simp;exact q _ l trivial
         apply J3 (fun _=>True) rfl rfl rfl
         .intro b a w l d K q;have ea:=d.e 13 71;have ed:=d.dep 10 69 _ (by kernel_rfl) rfl;obtain⟨a2,n2,c2,e2⟩:=(l.s1 (d.pre 10 (by kernel_rfl))).sl;have hv:=(d.val 10 69 (by kernel_rfl)).trans e2;have u:=l.stoS (d.pre 10 (by kernel_rfl)) (by omega) rfl;rw[e2] at u;have f0:=Av l.cel 3;have q0:=Ab l.cel 3;simp only[a0x,a0u,a1z] at q0;simp only[Oper.wp,execOp];go_simp;exact q undef _ u trivial trivial
         refine⟨?_,?_⟩
         .refine⟨fun _ _ _ _ _=>trivial,?_⟩;refine E4 _ ?_;refine⟨fun _ _ _ _ _=>trivial,?_⟩;refine E4 _ ?_;refine⟨fun _ _ _ _ _=>trivial,?_⟩;refine⟨fun _ _ _ _ _=>trivial,?_⟩;refine⟨fun _ _ _ _ h=>h,?_⟩
          iterate 3 refine E4 _ ?_
          refine⟨fun _ _ _ _ _=>trivial,?_⟩;refine⟨fun _ _ _ _ _=>trivial,?_⟩
          iterate 3 refine E4 _ ?_
          exact trivial
         .intro w' bb Q;simp only[List.reverse_cons,List.reverse_nil,a5z,List.cons_append]
          iterate 3 (refine A2 ?_)
          refine As ?_;intro v3 u3;refine As ?_;intro v4 u4
          iterate 3 (refine A2 ?_)
          refine As ?_;intro v8 u8;obtain rfl:=u8;refine As ?_;intro v9 u9;refine As ?_;intro d7 u10
          iterate 1 (refine A2 ?_)
          refine As ?_;intro d6 u12
          iterate 1 (refine A2 ?_)
          refine As ?_;intro d5 u14;refine C7 ?_;intro l;simp only[Aj,Act.put,a3z,List.set_cons_succ,List.set_cons_zero];go_wp2_with fail
          go_roundg (ps.length-i1)
          case measure=>have:=HG.o;have:=am.o;omega
          case rel=>
           have J:=l.cel;rw[Q 12 (by simp),Q 14 (by simp),cond_true,cond_true] at J;refine⟨i1,_,_,rfl,rfl,by have:=am.o;omega,?_,J,?_,?_,l.fp,l.sz,?_⟩
           .intro j hj dh;by_cases di:j<i
            .exact ao.o j di dh
            .obtain rfl:j=i:=by have:=am.o;omega
             rw[HX.o,R.o];exact G
           .rw[<-am.o,eB ax HX.o R.o,a5x];exact l.f1 (Q 4 (by simp))
           .rw[<-am.o,eB ax HX.o R.o,a5x];exact l.s1 (Q 10 (by simp))
           .intro D E h2;exact((c4.o D E h2).trans (Ao.of (S.o.mono (by simp):Fp [p] wr w8) (by simp;omega))).trans (l.kept D E h2)
        .refine(ab.o _ (fe:Int) (by omega)).mono ?_;rintro e w8 ⟨rfl,rfl⟩;go_wp2_with fail;refine⟨rfl,an.o.trans S.o,Or.inr ⟨fe,G,rfl,?_⟩⟩;have bh:Oj (K2 (G7 A B))=fe:=by
          rw[a5.o];have E:=fN (K2 ps) i (by simp[K2];exact ax) (fun j hj=>by simp only[K2,a2z];exact ao.o j hj (by omega)) (by simp only[K2,a2z];rw[HX.o,R.o];exact G);rw[E];simp only[K2,a2z];rw[HX.o,R.o]
         have:=D3.build (s:=s) (borders:=borders) (m:=mn) (wid:=wn) (mo:=(A:Int)) r B A (by rw[n.o];exact t) (by rw[n.o];exact al.o) V aw bx.o (by omega) rfl (by rw[n.o];exact bt.o) (by rw[cy.o];exact a0.o) (by rw[bh];exact G);rw[bh] at this;exact this
       .have z0:¬(i:Int)<(ps.length:Int):=(by omega)
        obtain rfl:i=ps.length:=by omega
        go_wp2_with fail;go_end0;have hF:=b9.o;have hS:=b7.o;rw[a4w] at hF hS;refine⟨an.o,Or.inl ⟨⟨_,rfl⟩,F8 ps,?_,vF,vS,ap.o,hF.mono a8,hS.mono a8⟩⟩
        have:=D3.ok (s:=s) (borders:=borders) (m:=mn) (wid:=wn) (mo:=(A:Int)) r B A (by rw[n.o];exact t) (by rw[n.o];exact al.o) V aw bx.o (by omega) rfl (by rw[n.o];exact bt.o) (by rw[cy.o];exact a0.o) (by
         rw[a5.o];intro e he;obtain⟨j,hj,rfl⟩:=List.mem_iff_getElem.1 he;simp only[K2,a2z];simp only[K2,a5w] at hj
         exact ao.o j hj hj)
        rw[a5.o] at this;exact this
     .refine(vO w4 a3 sl.length c3 a2 n2 N sl borders mo aq.o bs.o bg ak.o (by omega) b3 L ba (by omega)).mono ?_;rintro e w5 ⟨rfl,I⟩;have O:=X (C.o.trans I);clear I q3 q4;go_wp2_with fail;refine(ab.o _ 1 (by decide)).mono ?_;rintro e wz ⟨rfl,rfl⟩;go_wp2_with fail;refine⟨rfl,(O.o.mono (by simp)),Or.inr ⟨1,by decide,rfl,?_⟩⟩;exact D3.cut (by rw[n.o];exact t) (by rw[n.o];exact al.o) V aw (Or.inr (by omega))
    .have cv:Ee borders=false:=(by simpa using L)
     refine(vQ w4 a3 sl.length c3 a2 n2 N borders mo ak.o b3 cv).mono ?_;rintro e w5 ⟨rfl,I⟩;have O:=X (C.o.trans I);clear I q3 q4;go_wp2_with fail;refine(ab.o _ 1 (by decide)).mono ?_;rintro e wz ⟨rfl,rfl⟩;go_wp2_with fail;refine⟨rfl,(O.o.mono (by simp)),Or.inr ⟨1,by decide,rfl,?_⟩⟩;exact D3.cut (by rw[n.o];exact t) (by rw[n.o];exact al.o) V aw (Or.inl cv)
   .have T:∃P:World→Value→Prop,Calls Tryz.prog 49 #[.slice a1 M.length c1,.int .i64 m,.int .i64 wid] w2 fun e w'=>(∃v,P w' v∧e=.returned (.tuple #[v,.int .i64 0,.int .i64 1]))∧Fp [] w2 w':=by
     refine⟨fun _ _=>True,?_⟩;by_cases V:m<1
     .exact(zT w2 _ m wid V).mono fun e w' h=>⟨⟨_,trivial,h.1⟩,h.2⟩
     .obtain⟨mn,rfl⟩:∃k:Nat,m=k:=⟨m.toNat,by omega⟩
      refine(zU w2 a1 M.length c1 mn wid M db.o (by omega) bd (by omega) (by omega) (by omega)).mono fun e w' h=>?_;obtain⟨v,E,h2⟩:=h;exact⟨⟨v,trivial,E⟩,h2⟩
    obtain⟨P,T⟩:=T;have cx:=X T;clear T;go_wp2_with fail;refine cx.o.mono ?_;rintro e w3 ⟨⟨v3,-,rfl⟩,aj⟩;have C:=X (ac.o.trans aj);clear aj q1 q2;go_wp2_with fail;refine(ab.o _ 1 (by decide)).mono ?_;rintro e w4 ⟨rfl,rfl⟩;go_wp2_with fail;refine⟨rfl,C.o.mono (by simp),Or.inr ⟨1,by decide,rfl,?_⟩⟩;exact D3.sort (by rw[n.o];exact t) (by rw[n.o];exact al.o) (by omega)
 .refine(ab.o _ (ec:Int) (by omega)).mono ?_;rintro e w2 ⟨rfl,rfl⟩;go_wp2_with fail;refine⟨rfl,(ac.o.mono (by simp)),Or.inr ⟨ec,t,rfl,?_⟩⟩;have:=D3.parse (s:=s) (borders:=borders) (m:=m) (wid:=wid) (mo:=mo) (by rw[n.o];exact t);rw[n.o] at this;exact this
theorem qJ(w:World)(s:ByteArray)(m wid mo:Int)(K:Int)(a2:Option Addr)(U g:Nat)(borders:List ByteArray)
  (hs:s.size<=100000000)(ab:D6 w a2 U borders)(au:U<=900000)(hm:m<2^63)(V:wid<2^63)(aw:mo<2^63)(I:Kw w)(G:Dp w):
  Calls Tryz.prog 11 #[.string s,.slice a2 U g,.int .u64 K,.int .i64 m,.int .i64 wid,.int .i64 mo] w fun e w'=>Fp [] w w'∧
   ((∃files C z,e=.returned (.tuple #[.agg #[.int .u32 (B0 0 s),.int .u64 K,C,z],.int .i64 0])/\D3 s borders m wid mo 0 files/\An 9 w' w.heap.size C (files.map Value.string)/\An 26 w' w.heap.size z (files.map H9))∨
    ∃x:Nat,x≠0/\e=.returned (.tuple #[.agg #[.int .u32 0,.int .u64 0,.slice none 0 0,.slice none 0 0],.int .i64 x])/\D3 s borders m wid mo x []):=by
 have a3:∀(fn:Fn) (first cap:Array Value) (w:World),(Instr.makeFunc fn first cap).run Tryz.prog w=.ok (.func fn first cap) w:=fun _ _ _ _=>rfl;have az:=X (fun w h=>wH s w hs h);have ay:=X ab;have y:=X I;have u:=X G;clear ab I G;go_in;go_wp2_with fail;obtain⟨w0,c⟩:=Aa (((((((w.alloc (.cells #[.string s] 9)).alloc (.cells #[.slice a2 U g] 22)).alloc (.cells #[.int .i64 m] 3)).alloc (.cells #[.int .i64 wid] 3)).alloc (.cells #[.int .i64 mo] 3)).alloc (.cells #[.int .u32 0,.int .u64 0,.slice none 0 0,.slice none 0 0] 29)))
 have ae:Fp [] w w0:=by rw[<-c];exact(((((Fp.alloc _ _).alloc' _).alloc' _).alloc' _).alloc' _).alloc' _
 have aj:w0.heap[w.heap.size]?=some (.cells #[.string s] 9 (0,0)):=by rw[<-c];exact Dy (Dy (Dy (Dy (Dy (Ai rfl _)))))
 have ai:w0.heap[w.heap.size+1]?=some (.cells #[.slice a2 U g] 22 (0,0)):=by rw[<-c];exact Dy (Dy (Dy (Dy (Ai (by simp) _))))
 have ah:w0.heap[w.heap.size+1+1]?=some (.cells #[.int .i64 m] 3 (0,0)):=by rw[<-c];exact Dy (Dy (Dy (Ai (by simp) _)))
 have ag:w0.heap[w.heap.size+1+1+1]?=some (.cells #[.int .i64 wid] 3 (0,0)):=by rw[<-c];exact Dy (Dy (Ai (by simp) _))
 have af:w0.heap[w.heap.size+1+1+1+1]?=some (.cells #[.int .i64 mo] 3 (0,0)):=by rw[<-c];exact Dy (Ai (by simp) _)
 have a:w0.heap[w.heap.size+1+1+1+1+1]?=some (.cells #[.int .u32 0,.int .u64 0,.slice none 0 0,.slice none 0 0] 29 (0,0)):=by rw[<-c];exact Ai (by simp) _
 rw[c];have am:=X ae;have ar:=X aj;have aq:=X ai;have ap:=X ah;have ao:=X ag;have an:=X af;have T:=X a;clear c ae aj ai ah ag af a;refine(az.o _ (u.o.fp am.o)).nexh fun d al=>?_;go_wp2_with fail;obtain⟨w2,E⟩:=Aa (d.alloc (.cells #[.int .u32 (B0 0 s),.int .u64 K,.slice none 0 0,.slice none 0 0] 29))
 have ac:Fp [] d w2:=by rw[<-E];exact Fp.alloc _ _
 have L:w2.heap[d.heap.size]?=some (.cells #[.int .u32 (B0 0 s),.int .u64 K,.slice none 0 0,.slice none 0 0] 29 (0,0)):=by rw[<-E];exact Ai rfl _
 rw[E];have Q:=X (al.o.trans ac);have S:=X (am.o.trans Q.o);have ak:=X L;have a1:w.heap.size+1+1+1+1+1<d.heap.size:=a0w (Ae T.o) al.o.size;have a0:d.heap.size<w2.heap.size:=Ae L;clear E ac L;have a:w2.heap[w.heap.size+1+1+1+1+1]?=some (.cells #[.int .u32 0,.int .u64 0,.slice none 0 0,.slice none 0 0] 29 (0,0)):=(Q.o.block _ (Ae T.o) (by simp)).trans T.o;have j:=X a;clear a
 refine(mW w2 46 _ (enters_of Tryz.func46 (by kernel_rfl) rfl)
  (fun A=>Fp [d.heap.size] w2 A/\∃files C z,D3 s borders m wid mo 0 files/\A.heap[d.heap.size]?=some (.cells #[.int .u32 (B0 0 s),.int .u64 K,C,z] 29 (0,0))/\An 9 A (w2.heap.size+1) C (files.map Value.string)/\An 26 A (w2.heap.size+1) z (files.map H9))
  (fun x A=>Fp [d.heap.size] w2 A/\∃k:Nat,x=k/\D3 s borders m wid mo k []) ?_ ?_ ?_).mono ?_
 .intro W r aa t;have F:=S.o.trans r;have q:=Q.o.trans r;have a6:0<w.heap.size:=World.block_lt_of_cell? _ _ (u.o 0 (by decide));have a5:2<w.heap.size:=by
   obtain⟨mx,av⟩:=y.o.mx;exact World.block_lt_of_cell? _ _ av
  refine(Ag7 W (w.heap.size) (w.heap.size+1+1) (w.heap.size+1+1+1) (w.heap.size+1) (w.heap.size+1+1+1+1) (d.heap.size) s m wid mo a2 U g borders (.int .u32 (B0 0 s)) (.int .u64 K)
   ((q.block _ (Ae ar.o) (by simp)).trans ar.o) ((q.block _ (Ae ap.o) (by simp)).trans ap.o) ((q.block _ (Ae ao.o) (by simp)).trans ao.o) ((q.block _ (Ae aq.o) (by simp)).trans aq.o) ((q.block _ (Ae an.o) (by simp)).trans an.o) ((r.block _ (Ae ak.o) (by simp)).trans ak.o)
   hs (ay.o.of_fp F) au hm V aw ⟨y.o.mx.fp F,y.o.er.fp F (by simp)⟩ (u.o.fp F) (by omega) (by omega)).mono ?_
  rintro e W' ⟨b,hr⟩;refine⟨(b.block _ (Ae t) (by simp;omega)).trans t,?_⟩;have ad:Fp [d.heap.size] w2 W':=(r.mono (by simp):Fp [d.heap.size] w2 W).trans b;rcases hr with⟨⟨v,rfl⟩,files,C,z,n,p,P,O⟩|⟨x,hx,rfl,n⟩
  .exact Or.inl ⟨⟨v,rfl⟩,ad,files,C,z,n,p,P.mono aa,O.mono aa⟩
  .exact Or.inr ⟨(x:Int),by omega,rfl,ad,x,rfl,n⟩
 .rintro A B ⟨h0,files,C,z,n,p,P,O⟩ r;exact⟨h0.trans r,files,C,z,n,(r.block _ (Ae p) (by simp;omega)).trans p,P.fp r,O.fp r⟩
 .rintro x A B ⟨h0,k,n,p⟩ r;exact⟨h0.trans r,k,n,p⟩
 rintro e w3 (⟨rfl,b,files,C,z,n,p,P,O⟩|⟨x,hx,rfl,b,k,rfl,n⟩)
 .obtain⟨fa,fn,fc,rfl⟩:=P.sl;obtain⟨sa,sn,sc,rfl⟩:=O.sl;have a:w3.heap[w.heap.size+1+1+1+1+1]?=some (.cells #[.int .u32 0,.int .u64 0,.slice none 0 0,.slice none 0 0] 29 (0,0)):=(b.block _ (Ae j.o) (by simp;omega)).trans j.o;have q0:w3.cell? ⟨d.heap.size,0,none⟩=some (.int .u32 (B0 0 s)):=Ab p 0;have q1:w3.cell? ⟨d.heap.size,1,none⟩=some (.int .u64 K):=Ab p 1;have q2:w3.cell? ⟨d.heap.size,2,none⟩=some (.slice fa fn fc):=Ab p 2;have q3:w3.cell? ⟨d.heap.size,3,none⟩=some (.slice sa sn sc):=Ab p 3;have r0:w3.cell? ⟨w.heap.size+1+1+1+1+1,0,none⟩=some (.int .u32 0):=Ab a 0;have r1:w3.cell? ⟨w.heap.size+1+1+1+1+1,1,none⟩=some (.int .u64 0):=Ab a 1;have r2:w3.cell? ⟨w.heap.size+1+1+1+1+1,2,none⟩=some (.slice none 0 0):=Ab a 2;have r3:w3.cell? ⟨w.heap.size+1+1+1+1+1,3,none⟩=some (.slice none 0 0):=Ab a 3;have f0:w3.frozen? ⟨w.heap.size+1+1+1+1+1,0,none⟩=false:=Av a 0;have f1:w3.frozen? ⟨w.heap.size+1+1+1+1+1,1,none⟩=false:=Av a 1;have f2:w3.frozen? ⟨w.heap.size+1+1+1+1+1,2,none⟩=false:=Av a 2;have f3:w3.frozen? ⟨w.heap.size+1+1+1+1+1,3,none⟩=false:=Av a 3;have a7:=X a;have HM:=X n;have H3:=X P;have H4:=X O;have R:=X b;clear a n p P O b;go_wp2_with fail;have N:Fp [] w w3:=S.o.trans R.o (by intro i M;right;simp at M;omega);have D:∀(A:World) (o:Nat) (v:Value),Fp [] w A->Fp [] w (A.setCell ⟨w.heap.size+1+1+1+1+1,o,none⟩ v):=fun A o v h=>h.trans (Fp.setCell A ⟨w.heap.size+1+1+1+1+1,o,none⟩ v) (by intro i M;right;simp at M;omega);have J:∀(e:TypeId) (x:Value) (l:List Value) (A:World) (o:Nat) (v:Value),An e A (w2.heap.size+1) x l->An e (A.setCell ⟨w.heap.size+1+1+1+1+1,o,none⟩ v) (w2.heap.size+1) x l:=fun e x l A o v h=>h.fp (Fp.setCell A ⟨w.heap.size+1+1+1+1+1,o,none⟩ v) (by simp;omega);refine bodyPost_ret (v:=.tuple #[.agg #[.int .u32 (B0 0 s),.int .u64 K,.slice fa fn fc,.slice sa sn sc],.int .i64 0]) (by simp[results,Tryz.results11,go_sem, *]) rfl ?_;exact⟨D _ _ _ (D _ _ _ (D _ _ _ (D _ _ _ N))),Or.inl ⟨files,_,_,rfl,HM.o,(J _ _ _ _ _ _ (J _ _ _ _ _ _ (J _ _ _ _ _ _ (J _ _ _ _ _ _ H3.o)))).mono (by omega),(J _ _ _ _ _ _ (J _ _ _ _ _ _ (J _ _ _ _ _ _ (J _ _ _ _ _ _ H4.o)))).mono (by omega)⟩⟩
 .have a:w3.heap[w.heap.size+1+1+1+1+1]?=some (.cells #[.int .u32 0,.int .u64 0,.slice none 0 0,.slice none 0 0] 29 (0,0)):=(b.block _ (Ae j.o) (by simp;omega)).trans j.o;have r0:w3.cell? ⟨w.heap.size+1+1+1+1+1,0,none⟩=some (.int .u32 0):=Ab a 0;have r1:w3.cell? ⟨w.heap.size+1+1+1+1+1,1,none⟩=some (.int .u64 0):=Ab a 1;have r2:w3.cell? ⟨w.heap.size+1+1+1+1+1,2,none⟩=some (.slice none 0 0):=Ab a 2;have r3:w3.cell? ⟨w.heap.size+1+1+1+1+1,3,none⟩=some (.slice none 0 0):=Ab a 3;have f0:w3.frozen? ⟨w.heap.size+1+1+1+1+1,0,none⟩=false:=Av a 0;have f1:w3.frozen? ⟨w.heap.size+1+1+1+1+1,1,none⟩=false:=Av a 1;have f2:w3.frozen? ⟨w.heap.size+1+1+1+1+1,2,none⟩=false:=Av a 2;have f3:w3.frozen? ⟨w.heap.size+1+1+1+1+1,3,none⟩=false:=Av a 3
  have ax:k≠0:=by omega
  have a4:(((k:Nat):Int)!=0)=true:=bne_iff_ne.2 (by omega);have HM:=X n;have R:=X b;clear a n b hx;go_wp2_with fail;have N:Fp [] w w3:=S.o.trans R.o (by intro i M;right;simp at M;omega);have D:∀(A:World) (o:Nat) (v:Value),Fp [] w A->Fp [] w (A.setCell ⟨w.heap.size+1+1+1+1+1,o,none⟩ v):=fun A o v h=>h.trans (Fp.setCell A ⟨w.heap.size+1+1+1+1+1,o,none⟩ v) (by intro i M;right;simp at M;omega);refine bodyPost_ret (v:=.tuple #[.agg #[.int .u32 0,.int .u64 0,.slice none 0 0,.slice none 0 0],.int .i64 k]) (by simp[results,Tryz.results11,go_sem, *]) rfl ?_;exact⟨D _ _ _ (D _ _ _ (D _ _ _ (D _ _ _ N))),Or.inr ⟨k,ax,rfl,HM.o⟩⟩
theorem Ag8(w:World)(k:Nat)(g:k≤16):Calls Tryz.prog 173 #[.int .u64 1,.int .u64 k] w fun e w'=>e=.returned (.tuple #[.int .u64 0,.int .u64 k])∧w'=w:=by
 have z1:bits BinOp.and a1v 1 4294967295=1:=by decide
 have z0:bits BinOp.and a1v 0 4294967295=0:=by decide
 have d:bits BinOp.and a1v (k:Int) 4294967295=(k:Int):=by
  have h:∀k:Nat,k<17->bits BinOp.and a1v (k:Int) 4294967295=(k:Int):=by decide
  exact h k (by omega)
 have c:IntKind.u64.wrap (k:Int)=(k:Int):=by rw[a4v];omega
 have b:(k:Int)/4294967296=0:=by omega
 have a:IntKind.u64.wrap 0=0:=rfl;go_in;go_wp2;refine bodyPost_ret (v:=.tuple #[.int .u64 0,.int .u64 k]) (by simp[results,Tryz.results173,go_sem]) rfl ?_;exact⟨rfl,rfl⟩
theorem Ag9(w:World)(s:ByteArray)(b:Bool)(a:(decide (1<=s.size))=true)(c:((s.extract 0 1).toList==[48])=b):Calls Tryz.prog 174 #[.string s,.string ⟨#[48]⟩] w fun e w'=>e=.returned (.bool b)/\w'=w:=by
 have d:1<=s.size:=of_decide_eq_true a
 have z0:(1:Int)<=(s.size:Int):=by omega
 go_in;go_wp2;refine bodyPost_ret (v:=.bool b) (by simp[results,Tryz.results174,go_sem]) rfl ?_;exact⟨rfl,rfl⟩
def L5(k:Nat):ByteArray:=⟨a5v k 48⟩
theorem Aha(k:Nat)(a:k<17):(⟨a5v 64 48⟩:ByteArray).extract 0 k=L5 k:=by
 have h:∀k:Nat,k<17->((⟨a5v 64 48⟩:ByteArray).extract 0 k).data.toList=(L5 k).data.toList:=by decide+kernel
 have:=h k a;exact ByteArray.ext (Array.toList_inj.1 this)
theorem Ahb(w:World)(k:Nat)(b:k≤16):Calls Tryz.prog 112 #[.string ⟨#[48]⟩,.int .i64 k] w fun e w'=>e=.returned (.string (L5 k))∧w'=w:=by
 have g:=X (fun w=>Ag8 w k b);have a:=X Ag9;by_cases d:k=0
 .subst d;go_in;go_wp2_with fail;refine bodyPost_ret (v:=.string ⟨#[]⟩) (by simp[results,Tryz.results112,go_sem]) rfl ?_;exact⟨rfl,rfl⟩
 .by_cases c:k=1
  .subst c;go_in;go_wp2_with fail;refine bodyPost_ret (v:=.string ⟨#[48]⟩) (by simp[results,Tryz.results112,go_sem]) rfl ?_;exact⟨rfl,rfl⟩
  .have z0:((k:Int)==0)=false:=beq_eq_false_iff_ne.2 (by omega);have z1:((k:Int)==1)=false:=beq_eq_false_iff_ne.2 (by omega)
   have n:¬(k:Int)<0:=(by omega)
   have m:¬(9223372036854775807:Int)<k:=(by omega)
   have l:(k:Int)<=64:=(by omega)
   have j:(k:Int)<=128:=(by omega)
   have i:IntKind.u64.wrap (k:Int)=(k:Int):=(by rw[a4v];omega)
   have h:IntKind.i64.wrap (k:Int)=(k:Int):=(by rw[a1u];omega)
   go_in;go_wp2_with fail;refine(g.o _).mono ?_;rintro e r ⟨rfl,rfl⟩;go_wp2_with fail;refine(a.o _ _ false (by kernel_rfl) (by kernel_rfl)).mono ?_;rintro e w2 ⟨rfl,rfl⟩;go_wp2_with fail;refine(a.o _ _ false (by kernel_rfl) (by kernel_rfl)).mono ?_;rintro e q ⟨rfl,rfl⟩;go_wp2_with fail;refine(a.o _ _ true (by kernel_rfl) (by kernel_rfl)).mono ?_;rintro e p ⟨rfl,rfl⟩;go_wp2_with fail;refine bodyPost_ret (by simp[results,Tryz.results112,go_sem];rfl) rfl ?_;refine⟨?_,rfl⟩;congr 2;exact Aha k (by omega)
def Ez(d:Nat):UInt8:=if d<10 then Z (48+d) else Z (87+d)
def D8(n:Nat):List UInt8:=if n<16 then[Ez n] else D8 (n/16)++[Ez (n%16)]
 termination_by n
 decreasing_by omega
theorem Uk{n:Nat}(h:n<16):D8 n=[Ez n]:=by rw[D8,if_pos h]
theorem Y6{n:Nat}(h:¬n<16):D8 n=D8 (n/16)++[Ez (n%16)]:=by rw[D8,if_neg h]
def Ja(w:World):Prop:=w.cell? ⟨6,15,none⟩=some (.int .u8 4)
theorem Ja.fp{w w':World}{S:List Nat}(h:Ja w)(b:Fp S w w')(a:6∉S:=by simp):Ja w':=
 (b.cell (p:=⟨6,15,none⟩) (World.block_lt_of_cell? _ _ h) a).trans h
theorem Ahc(w:World)(h:Ja w):Calls Tryz.prog 248 #[.int .u64 16] w fun e w'=>e=.returned (.int .i64 4)/\w'=w:=by
 have z1:bits BinOp.and a1v 16 (IntKind.u64.wrap (-16))=16:=by decide
 have a:IntKind.u64.wrap (16*285870213051353865)/288230376151711744=15:=by decide
 have q0:w.cell? ⟨6,15,none⟩=some (.int .u8 4):=h;go_in;go_wp2;refine bodyPost_ret (v:=.int .i64 4) (by simp[results,Tryz.results248,go_sem]) rfl ?_;exact⟨rfl,rfl⟩
theorem Ahd(w:World):Calls Tryz.prog 247 #[.int .i64 16] w fun e w'=>e=.returned (.bool true)/\w'=w:=by
 have z1:bits BinOp.and IntKind.i64 16 15=0:=by decide
 go_in;go_wp2;refine bodyPost_ret (v:=.bool true) (by simp[results,Tryz.results247,go_sem]) rfl ?_;exact⟨rfl,rfl⟩
def qK(b:UInt8):Value:=.int .u8 (b.toNat:Int)
def Ahe:ByteArray:=⟨#[48,49,50,51,52,53,54,55,56,57,97,98,99,100,101,102,103,104,105,106,107,108,109,110,111,112,113,114,115,116,117,118,119,120,121,122]⟩
def Qk(i:Nat)(ds:List UInt8):Array Value:=(List.replicate i (Value.int .u8 0)++ds.map qK).toArray
theorem qL{i:Nat}{a:List UInt8}(d:UInt8):(Qk (i+1) a).setIfInBounds i (qK d)=Qk i (d::a):=by
 unfold Qk;rw[a3z,List.replicate_succ',a1x,List.set_append,if_neg (by simp),a2v,Nat.sub_self];rfl
theorem qM{i k:Nat}{a:List UInt8}(h:k<i):(Qk i a)[k]?=some (.int .u8 0):=by
 unfold Qk;rw[a0x,List.getElem?_append_left (by simpa using h),List.getElem?_replicate,if_pos h]
theorem Ahf(u:Nat)(C:u<18446744073709551616)(w:World)(r:Ja w):
  Calls Tryz.prog 197 #[.slice none 0 0,.int .u64 u,.int .i64 16,.bool false,.bool false] w fun e w'=>e=.returned (.tuple #[.slice none 0 0,.string ⟨(D8 u).toArray⟩])/\Fp [] w w':=by
 have HT:=X Ahc;have A:=X Ahd;have z:=X r;clear r;go_in;go_wp2_with fail;refine(A.o _).mono ?_;rintro e w1 ⟨rfl,rfl⟩;go_wp2_with fail;refine(HT.o _ (z.o.fp (Fp.alloc _ _))).mono ?_;rintro e w2 ⟨rfl,rfl⟩;go_wp2_with fail
 go_loopg [1,13] u (fun g P Q W=>∃(n i:Nat) (ds:List UInt8),g=n/\P=.int .u64 n/\Q=.int .i64 i/\n<18446744073709551616/\D8 u=D8 n++ds/\ds.length+i=65/\49<=i/\n<16^(i-49)/\W.heap[w.heap.size]?=some (.cells (Qk i ds) 306 (0,0))/\Fp [] w W)
 case atStart=>exact⟨u,65,[],rfl,rfl,rfl,C,by rw[a0v],rfl,by decide,by simpa using C,by rw[Ai rfl _];rfl,Fp.alloc _ _⟩
 case round=>
  obtain⟨n,i,ds,E,rfl,rfl,hn,B,D,x,J,G,F⟩:=hrel;have L:=X B;have q:=X G;have M:=X F;have HG:=X E;have y:=X D;have N:=X J;clear B G F E D J;by_cases I:16<=n
  .have z0:(16:Int)≤(n:Int):=(by omega)
   obtain⟨k,rfl⟩:∃k,i=k+1:=⟨i-1,by omega⟩
   have s:k<=64:=by have:=y.o;omega
   have z1:IntKind.i64.wrap (k:Int)=(k:Int):=(by rw[a1u];omega)
   have O:wrap64 (k:Int)=(k:Int):=(by unfold wrap64;omega)
   have z2:bits BinOp.and a1v (n:Int) 15=((n%16:Nat):Int):=by
    have h:=bits_and_u64_nat n 15 (by omega) (by omega);rw[show n &&& 15=n%16 from Nat.and_two_pow_sub_one_eq_mod n 4] at h;exact h
   have q0:wr.cell? ⟨w.heap.size,k,none⟩=some (.int .u8 0):=(Ab q.o k).trans (qM (Nat.lt_succ_self k));have V:wr.frozen? ⟨w.heap.size,k,none⟩=false:=Av q.o k
   have c:∀d (h:d<16),Ahe[d]'(a0w h (by decide))=Ez d:=(by decide)
   go_wp2_with fail
   go_roundg (n/16)
   case measure=>have:=HG.o;omega
   case rel=>
    refine⟨n/16,k,Ez (n%16)::ds,rfl,rfl,rfl,by omega,?_,by have:=y.o;simp;omega,?_,?_,?_,M.o.trans (Fp.setCell _ ⟨w.heap.size,k,none⟩ _) (by intro i x;right;simp at x;omega)⟩
    .rw[L.o,Y6 (by omega),a1x];rfl
    .by_cases l:k+1-49=0
     .have:=N.o;rw[l] at this;omega
     .omega
    .have K:=N.o;have l:k+1-49≠0:=by
      intro l;rw[l] at K;omega
     rw[show k+1-49=(k-49)+1 by omega,Nat.pow_succ] at K;omega
    .rw[<-qL,<-c (n%16) (by omega)];exact(Cf q.o _).trans rfl
  .have z0:¬(16:Int)≤(n:Int):=(by omega)
   obtain⟨k,rfl⟩:∃k,i=k+1:=⟨i-1,by omega⟩
   have s:k<=64:=by have:=y.o;omega
   have z1:IntKind.i64.wrap (k:Int)=(k:Int):=(by rw[a1u];omega)
   have O:wrap64 (k:Int)=(k:Int):=(by unfold wrap64;omega)
   have q0:wr.cell? ⟨w.heap.size,k,none⟩=some (.int .u8 0):=(Ab q.o k).trans (qM (Nat.lt_succ_self k));have V:wr.frozen? ⟨w.heap.size,k,none⟩=false:=Av q.o k
   have t:Tryz.prog.arrayLen 306=65:=(by simp[Program.arrayLen,Tryz.underlying306])
   have R:∀W,(Instr.sliceAt 306 (.pointer (some ⟨w.heap.size,0,none⟩)) (some (.int .i64 (k:Int))) none none).run Tryz.prog W=.ok (.slice (some ⟨w.heap.size,k,none⟩) (65-k) (65-k)) W:=fun W=>by
    rw[run_sliceAt_array_l W 306 ⟨w.heap.size,0,none⟩ (by simp[Program.arrayLen,Program.elem,Tryz.underlying306]) .i64 (k:Int) (by omega) (by rw[t];omega)];go_simp;omega
   have a:n<16:=(by omega)
   have c:∀d (h:d<16),(⟨#[48,49,50,51,52,53,54,55,56,57,97,98,99,100,101,102,103,104,105,106,107,108,109,110,111,112,113,114,115,116,117,118,119,120,121,122]⟩:ByteArray)[d]'(a0w h (by decide))=Ez d:=(by decide)
   have T:(⟨#[48,49,50,51,52,53,54,55,56,57,97,98,99,100,101,102,103,104,105,106,107,108,109,110,111,112,113,114,115,116,117,118,119,120,121,122]⟩:ByteArray)[n]'(a0w a (by decide))=Ez n:=c n a;have p:(wr.setCell ⟨w.heap.size,k,none⟩ (.int .u8 ((Ez n).toNat:Int))).heap[w.heap.size]?=some (.cells (Qk k (Ez n::ds)) 306 (0,0)):=by
    rw[<-qL];exact(Cf q.o _).trans rfl
   have b:D8 u=Ez n::ds:=(by rw[L.o,Uk a];rfl)
   have m:65-k=(D8 u).length:=by rw[b];have:=y.o;simp;omega
   have U:(convert 113 9 (.slice (some ⟨w.heap.size,k,none⟩) (65-k) (65-k))).run Tryz.prog (wr.setCell ⟨w.heap.size,k,none⟩ (.int .u8 ((Ez n).toNat:Int)))=.ok (.string ⟨(D8 u).toArray⟩) (wr.setCell ⟨w.heap.size,k,none⟩ (.int .u8 ((Ez n).toNat:Int))):=by
    rw[m];refine run_convert_bytes_back _ 113 9 5 ⟨w.heap.size,k,none⟩ _ (D8 u) Tryz.underlying113 Tryz.underlying5 Tryz.underlying9 fun j S=>?_;rw[Lib.add_plain,Ab p];unfold Qk;rw[a0x,a1w (by simp)];simp only[a2v,Nat.add_sub_cancel_left];rw[<-b,List.getElem?_map,a4x S];rfl
   have aa:=X b;clear t c p b m;go_wp2_with fail;refine bodyPost_ret (v:=.tuple #[.slice none 0 0,.string ⟨(D8 u).toArray⟩]) (by simp[results,Tryz.results197,go_sem]) rfl ?_;exact⟨rfl,M.o.trans (Fp.setCell _ ⟨w.heap.size,k,none⟩ _) (by intro i x;right;simp at x;omega)⟩
theorem Ahg(u:Nat)(b:u<18446744073709551616)(w:World)(a:Ja w):
  Calls Tryz.prog 121 #[.int .u64 u,.int .i64 16] w fun e w'=>e=.returned (.string ⟨(D8 u).toArray⟩)/\Fp [] w w':=by
 have H:=X (Ahf u b w a);clear a;go_in;go_wp2_with fail;refine H.o.nexh fun d c=>?_;go_wp2_with fail;go_ret;exact⟨rfl,c.o⟩
theorem Ahh(u:Nat)(b:u<18446744073709551616)(w:World)(a:Ja w):
  Calls Tryz.prog 69 #[.int .u64 u,.int .i64 16] w fun e w'=>e=.returned (.string ⟨(D8 u).toArray⟩)/\Fp [] w w':=by
 have H:=X (Ahg u b w a);clear a;go_in;go_wp2_with fail;refine H.o.nexh fun d c=>?_;go_wp2_with fail;go_ret;exact⟨rfl,c.o⟩
theorem eC:∀(k u:Nat),1≤k→u<16^k→(D8 u).length≤k
 |0,_,h,_=>absurd h (by decide)
 |k+1,u,_,hu=>by
  by_cases h:u<16
  .rw[Uk h];exact Nat.succ_le_succ (a6z _)
  .rw[Y6 h,Y,List.length_singleton];rw[Nat.pow_succ] at hu;have a:1≤k:=by
    rcases Nat.eq_zero_or_pos k with rfl|b
    .simp at hu;omega
    .exact b
   have:=eC k (u/16) a (by omega);omega
def G3(u many:Nat):ByteArray:=L5 (many-(D8 u).length)++⟨(D8 u).toArray⟩
theorem eD(u a:Nat)(p:a≤16)(q:1≤a)(j:u<16^a)(w:World)(d:Ja w):
  Calls Tryz.prog 58 #[.int .u64 u,.int .i64 a] w fun e w'=>e=.returned (.string (G3 u a))/\Fp [] w w':=by
 have c:u<18446744073709551616:=a0w j (Nat.pow_le_pow_right (by decide) p);have g:=eC a u q j;obtain⟨n,i⟩:=Aa ((D8 u).length)
 have h:(⟨(D8 u).toArray⟩:ByteArray).size=n:=by rw[<-i];rfl
 have H:=X (Ahh u c w d);have t:=X (fun w=>Ahb w (a-n) (by omega))
 have v:Hid (G3 u a=L5 (a-n)++⟨(D8 u).toArray⟩):=by rw[<-i];exact X rfl
 rw[v.o]
 have z1:(a:Int)-(n:Int)=((a-n:Nat):Int):=by omega
 obtain⟨r,k⟩:∃r:ByteArray,(⟨(D8 u).toArray⟩:ByteArray)=r:=⟨_,rfl⟩
 rw[k] at H h ⊢
 have b:(L5 (a-n)).size=a-n:=by unfold L5;exact Array.size_replicate ..
 have m:(L5 (a-n)).size+r.size<=9223372036854775807:=by omega
 have s:=X b;clear d i g k b
 have l:¬9223372036854775807<(L5 (a-n)).size+r.size:=by omega
 go_in;go_wp2_with fail;refine H.o.nexh fun y x=>?_;go_wp2_with fail;refine(t.o _).mono ?_;rintro e w2 ⟨rfl,rfl⟩;go_wp2_with fail;go_ret;exact⟨rfl,x.o⟩
theorem Ul(u many:Nat)(b:1<=many)(a:u<16^many):(G3 u many).size=many:=by
 have h:=eC many u b a;unfold G3;rw[a2w]
 have d:(L5 (many-(D8 u).length)).size=many-(D8 u).length:=by unfold L5;exact Array.size_replicate ..
 have c:(⟨(D8 u).toArray⟩:ByteArray).size=(D8 u).length:=rfl;omega
def Ql(id ep k:Nat):ByteArray:=((((⟨#[115]⟩:ByteArray)++G3 id 16)++⟨#[45]⟩)++G3 ep 16)++⟨#[45]⟩++G3 k 4
theorem qN(id a k:Nat)(c:id<18446744073709551616)(d:a<18446744073709551616)(q:k<65536)(w:World)(b:Ja w):
  Calls Tryz.prog 15 #[.int .u64 id,.int .u64 a,.int .u16 k] w fun e w'=>e=.returned (.string (Ql id a k))/\Fp [] w w':=by
 have t:Hid (∀w,Ja w->Calls Tryz.prog 58 #[.int .u64 id,.int .i64 16] w fun e w'=>e=.returned (.string (G3 id 16))/\Fp [] w w'):=X (fun w h=>eD id 16 (by decide) (by decide) (by simpa using c) w h);have s:Hid (∀w,Ja w->Calls Tryz.prog 58 #[.int .u64 a,.int .i64 16] w fun e w'=>e=.returned (.string (G3 a 16))/\Fp [] w w'):=X (fun w h=>eD a 16 (by decide) (by decide) (by simpa using d) w h);have r:Hid (∀w,Ja w->Calls Tryz.prog 58 #[.int .u64 k,.int .i64 4] w fun e w'=>e=.returned (.string (G3 k 4))/\Fp [] w w'):=X (fun w h=>eD k 4 (by decide) (by decide) (by simpa using q) w h);have y:=Ul id 16 (by decide) (by simpa using c);have x:=Ul a 16 (by decide) (by simpa using d);have v:=Ul k 4 (by decide) (by simpa using q);have n:=X b;unfold Ql;obtain⟨B,m⟩:=Aa (G3 id 16);obtain⟨A,l⟩:=Aa (G3 a 16);obtain⟨z,j⟩:=Aa (G3 k 4);rw[m] at t y;rw[l] at s x;rw[j] at r v;rw[m,l,j];clear b m l j;go_in;go_wp2_with fail;refine(t.o _ n.o).nexh fun D i=>?_
 have u:IntKind.u64.wrap (k:Int)=(k:Int):=by rw[a4v];omega
 go_wp2_with fail;refine(s.o _ (n.o.fp i.o)).next i fun w2 g=>?_;go_wp2_with fail;refine(r.o _ (n.o.fp g.o)).next g fun C p=>?_;go_wp2_with fail;go_ret;exact⟨rfl,p.o⟩
end
section
open Go.RowKit
def Rx:ByteArray:=⟨#[122,32,99,32,49,32,61,118,10,97,32,99,32,49,32,61,119,10]⟩
def Qm:ByteArray:=⟨#[109]⟩
def Gj:Ac:=⟨⟨#[122]⟩,⟨#[99]⟩,1,0,false,⟨#[118]⟩⟩
def F6:Ac:=⟨⟨#[97]⟩,⟨#[99]⟩,1,0,false,⟨#[119]⟩⟩
theorem Ahi:C0 Rx=([Gj,F6],0,0):=by kernel_rfl
theorem Ahj:Di Gj:=⟨by decide,by decide,by decide,by decide,by decide⟩
theorem Ahk:Di F6:=⟨by decide,by decide,by decide,by decide,by decide⟩
theorem Ahl:Bf (C4 [Gj,F6]) [⟨F6,1⟩,⟨Gj,0⟩]:=by
 have j:C4 [Gj,F6]=[⟨Gj,0⟩,⟨F6,1⟩]:=rfl
 have i:Bc ⟨F6,1⟩ ⟨Gj,0⟩=false:=by kernel_rfl
 have g:Bc ⟨Gj,0⟩ ⟨F6,1⟩=false:=by kernel_rfl
 have d:Bc ⟨F6,1⟩ ⟨F6,1⟩=true:=by kernel_rfl
 have c:Bc ⟨Gj,0⟩ ⟨Gj,0⟩=true:=by kernel_rfl
 rw[j];refine⟨?_,?_,?_,?_⟩
 .refine List.Pairwise.cons ?_ (List.Pairwise.cons (by simp) List.Pairwise.nil);intro y a;rw[List.mem_singleton.1 a];exact of_decide_eq_true (by kernel_rfl)
 .intro x b;simp only[a3x,a2x,or_false] at b ⊢;rcases b with rfl|rfl
  .exact Or.inr rfl
  .exact Or.inl rfl
 .intro x b y a h;simp only[a3x,a2x,or_false] at b a
  rcases b with rfl|rfl<;>rcases a with rfl|rfl
  .rw[i] at h;cases h
  .exact a0z _
  .exact a0z _
  .rw[g] at h;cases h
 .intro y a;simp only[a3x,a2x,or_false] at a;rcases a with rfl|rfl
  .exact⟨_,by simp,c⟩
  .exact⟨⟨F6,1⟩,by simp,d⟩
theorem qO(l:List Ac):aG (C4 l):=by
 intro x c y b _ h;have k:(C4 l).length=l.length:=O9 l _;obtain⟨i,g,e⟩:=List.mem_iff_getElem.1 c;obtain⟨j,d,a⟩:=List.mem_iff_getElem.1 b;rw[show(C4 l)[i]=⟨l.getD i Aq,i⟩ from Xz l l.length i g] at e;rw[show(C4 l)[j]=⟨l.getD j Aq,j⟩ from Xz l l.length j d] at a;subst e;subst a;simp only at h;subst h;rfl
theorem Ahm{a:List (List Ac)}(h:Eb [F6,Gj] [Qm] a):a=[[F6],[Gj]]:=by
 cases h with
 |cons _ _ _ out2 h hle h1 h2 h3=>
  have b:Gm Gj.row Qm=false:=by kernel_rfl
  have d:Gm F6.row Qm=true:=by kernel_rfl
  have c:h=0∨h=1∨h=2:=by simp at hle;omega
  rcases c with rfl|rfl|rfl
  .have:=h1 (by decide);rw[show([F6,Gj].getD 0 Aq)=F6 from rfl,d] at this;cases this
  .cases h3;rfl
  .have:=h2 (by decide);rw[show([F6,Gj].getD (2-1) Aq)=Gj from rfl,b] at this;cases this
theorem qP(c:Ac):Hh [c] 9=[[c]]:=by
 have b:Jh [c] 0=true:=by
  unfold Jh;simp
 have a:Dj [c] 0 0=[(0,1)]:=by
  rw[Qv (by simp) b,Qw (by simp)]
 unfold Hh;rw[a];rfl
theorem qQ:G7 9 [[F6],[Gj]]=[(0,[F6]),(1,[Gj])]:=by
 unfold G7;rw[show[[F6],[Gj]].length=0+1+1 from rfl,P8,P8];rw[show([[F6],[Gj]].getD 0 [])=[F6] from rfl,show([[F6],[Gj]].getD (0+1) [])=[Gj] from rfl,qP,qP];rfl
theorem Ahn:K2 [(0,[F6]),(1,[Gj])]=[0,0]:=by kernel_rfl
theorem qR{k:Nat}{files:List ByteArray}(h:D3 Rx [Qm] 9 2 9 k files):k=0∧files.length=2:=by
 have j:=Ahi;have d:∀{r:List Ad} {b:List (List Ac)} {most:Nat},(9:Int)=(most:Int)->Bf (C4 (C0 Rx).1) r->Eb (r.map (·.c)) [Qm] b->most=9/\b=[[F6],[Gj]]:=by
  intro r b most a g i;rw[j] at g;have n:=Bf.unique (Nx (l:=[Gj,F6]) (by intro c m;simp only[a3x,a2x,or_false] at m;rcases m with rfl|rfl;exact Ahj;exact Ahk) (by decide)) (qO _) g Ahl;subst n;exact⟨by omega,Ahm i⟩
 cases h with
 |parse a=>rw[j] at a;exact absurd rfl a
 |none _ a=>rw[j] at a;cases a
 |sort _ _ a=>omega
 |cut _ _ _ _ a=>
  rcases a with a|a
  .rw[show Ee [Qm]=true by kernel_rfl] at a;cases a
  .omega
 |build r b most _ _ _ _ _ _ a g i h4=>
  obtain⟨rfl,rfl⟩:=d a g i;rw[qQ,Ahn] at h4;exact absurd rfl h4
 |ok r b most _ _ _ _ _ _ a g i h4=>
  obtain⟨rfl,rfl⟩:=d a g i;rw[qQ];exact⟨rfl,rfl⟩
theorem Aho:Ql 255 1 2=⟨#[115,48,48,48,48,48,48,48,48,48,48,48,48,48,48,102,102,45,48,48,48,48,48,48,48,48,48,48,48,48,48,48,48,49,45,48,48,48,50]⟩:=by
 have c:D8 255=[102,102]:=by rw[Y6 (by decide),Uk (by decide)];rfl
 have b:D8 1=[49]:=by rw[Uk (by decide)];rfl
 have a:D8 2=[50]:=by rw[Uk (by decide)];rfl
 unfold Ql G3;rw[c,b,a]
 decide+kernel
end
section
open Go.RowKit Go.Lib
theorem Fa.empty:Fa [] []:=⟨(fun _ h=>by cases h),(fun _ h=>by cases h),(fun _ h=>by cases h)⟩
theorem Fa.snoc{A B r:List Ad}{j:List (List Ad)}(h:Fa A j)(d:Bf B r):Fa (A++B) (j++[r]):=by
 refine⟨fun x a=>?_,fun x a z c=>?_,fun y b=>?_⟩
 .rcases List.mem_append.1 a with a|a
  .exact h.ris x a
  .rw[List.mem_singleton.1 a];exact d.ris
 .rcases List.mem_append.1 a with a|a
  .exact a6w _ (h.sub x a z c)
  .rw[List.mem_singleton.1 a] at c;exact a6x _ (d.sub z c)
 .rcases List.mem_append.1 b with b|b
  .obtain⟨k,m,z,i,g⟩:=h.cov y b;exact⟨k,a6w _ m,z,i,g⟩
  .obtain⟨z,i,g,l⟩:=d.cover y b;exact⟨r,a6x _ (List.mem_singleton.2 rfl),z,i,g,l⟩
theorem Fa.merge{all r:List Ad}{c A B:List (List Ad)}(h:Fa all (c++(A++B)))(j:Bf A.flatten r):Fa all (c++[r]++B):=by
 have t:∀x∈A,x∈c++(A++B):=fun x a=>by simp[a]
 refine⟨fun x a=>?_,fun x a z d=>?_,fun y p=>?_⟩
 .simp only[a5u,List.mem_singleton] at a;rcases a with(a|a)|a
  .exact h.ris x (by simp[a])
  .rw[a];exact j.ris
  .exact h.ris x (by simp[a])
 .simp only[a5u,List.mem_singleton] at a;rcases a with(a|a)|a
  .exact h.sub x (by simp[a]) z d
  .rw[a] at d;obtain⟨q,s,i⟩:=List.mem_flatten.1 (j.sub z d);exact h.sub q (t q s) z i
  .exact h.sub x (by simp[a]) z d
 .obtain⟨g,b,z,m,l,k⟩:=h.cov y p;simp only[a5u] at b;rcases b with b|b|b
  .exact⟨g,by simp[b],z,m,l,k⟩
  .obtain⟨n,w,v,u⟩:=j.cover z (List.mem_flatten.2 ⟨g,b,m⟩);exact⟨r,by simp,n,w,Mc v l,a6u k u⟩
  .exact⟨g,by simp[b],z,m,l,k⟩
theorem qS(s:ByteArray):∀l:List Ac,∃h,h≤l.length∧(h<l.length→Gm (l.getD h Aq).row s=false)∧(0<h→Gm (l.getD (h-1) Aq).row s=true)
 |[]=>⟨0,a0z _,fun h=>absurd h (a3w _),fun h=>absurd h (a3w _)⟩
 |c::l=>by
  cases e:Gm c.row s with
  |false=>exact⟨0,a6z _,fun _=>e,fun h=>absurd h (a3w _)⟩
  |true=>
   obtain⟨h,g,d,b⟩:=qS s l;refine⟨h+1,by simpa using g,fun a=>by simpa using d (by simpa using a),fun _=>?_⟩
   cases h with
   |zero=>exact e
   |succ h=>simpa using b (Nat.zero_lt_succ _)
theorem qT:∀(b:List ByteArray) (l:List Ac),∃a,Eb l b a
 |[],l=>⟨[l],Eb.nil l⟩
 |s::b,l=>by
  obtain⟨h,i,g,d⟩:=qS s l;obtain⟨a,c⟩:=qT b (l.drop h);exact⟨_,Eb.cons l s b a h i g d c⟩
theorem Ahp(s:ByteArray)(a:List ByteArray)(r:ByteArray):E1 (s::a) r=E1 a r+(if Lo s r=true then 1 else 0):=by
 unfold E1;rw[List.filter_cons]
 split<;>simp
theorem Ahq{a:List ByteArray}{r:ByteArray}(h:∀b∈a,Lo b r=false):E1 a r=0:=by
 unfold E1;rw[List.filter_eq_nil_iff.2 fun b c=>by rw[h b c];decide];rfl
theorem Ahr(a:List ByteArray)(r:ByteArray):E1 a r<=a.length:=List.length_filter_le _ _
def G4(bs:List ByteArray)(l:List Ac):List (List Ac):=(List.range (bs.length+1)).map fun k=>l.filter fun c=>E1 bs c.row==k
theorem eE{l:List Ac}{g:List ByteArray}{j:List (List Ac)}(h:Eb l g j):risC l=true→(g.Pairwise fun a b=>Bq a b<0)→j=G4 g l:=by
 induction h with
 |nil l=>
  intro _ _;unfold G4 E1;simp;exact(List.filter_eq_self.2 fun _ _=>rfl).symm
 |cons l s g j n hle h1 h2 h3 ih=>
  intro p q;rw[List.pairwise_cons] at q;have r:∀c∈l.take n,Bq c.row s<0:=by
   intro c d;obtain⟨i,t,rfl⟩:=List.getElem_of_mem d;rw[List.length_take] at t;rw[List.getElem_take,<-fR (by omega)];exact Zs (Zp p (n-1) i (by omega) (by omega)) ((Wq _ _).1 (h2 (by omega)))
  have u:∀c∈l.drop n,Bq s c.row<=0:=by
   intro c d;obtain⟨i,t,rfl⟩:=List.getElem_of_mem d;rw[List.length_drop] at t;rw[List.getElem_drop,<-fR (by omega)];refine fQ ?_ (Zp p (n+i) n (by omega) (by omega));have w:Gm (Pz l n) s=false:=h1 (by omega)
   have m:¬Bq (Pz l n) s<0:=fun e=>by rw[show Gm (Pz l n) s=true from(Wq _ _).2 e] at w;cases w
   have:=Zr (Pz l n) s;omega
  have z:∀c∈l.take n,E1 (s::g) c.row=0:=fun c d=>Ahq fun b v=>by
   have m:=r c d;have w:Bq c.row b<0:=by
    rcases List.mem_cons.1 v with rfl|v
    .exact m
    .exact Zs (Int.le_of_lt m) (q.1 b v)
   cases e:Lo b c.row with
   |false=>rfl
   |true=>
    have:=(fP b c.row).1 e;have:=Zr c.row b;omega
  have y:∀c∈l.drop n,E1 (s::g) c.row=E1 g c.row+1:=fun c d=>by rw[Ahp,if_pos ((fP _ _).2 (u c d))]
  have x:∀k,l.filter (fun c=>E1 (s::g) c.row==k)=(l.take n).filter (fun c=>E1 (s::g) c.row==k)++(l.drop n).filter (fun c=>E1 (s::g) c.row==k):=fun k=>by
   rw[<-List.filter_append,List.take_append_drop]
  unfold G4;rw[List.length_cons,List.range_succ_eq_map,List.map_cons,List.map_map,ih (Xg p n) q.2];congr 1
  .rw[x,List.filter_eq_self.2 (fun c d=>by rw[z c d];rfl),List.filter_eq_nil_iff.2 (fun c d=>by rw[y c d];simp),a0v]
  .refine List.map_congr_left fun k _=>?_;simp only[Function.comp];have m:(l.take n).filter (fun c=>E1 (s::g) c.row==k.succ)=[]:=List.filter_eq_nil_iff.2 (fun c d=>by rw[z c d];simp);rw[x,m,a5z]
   exact List.filter_congr fun c d=>by rw[y c d];simp
theorem Eb.one{l:List Ac}{b:List ByteArray}{a out':List (List Ac)}(h:Eb l b a)(g:Eb l b out')(c:risC l=true)(d:Ee b=true):a=out':=
 (eE h c (Zt d)).trans (eE g c (Zt d)).symm
theorem Ry(a:List ByteArray)(l:List Ac):(G4 a l).length=a.length+1:=by unfold G4;simp
theorem V8(a:List ByteArray)(l:List Ac){k:Nat}(h:k<(G4 a l).length):(G4 a l)[k]=l.filter fun c=>E1 a c.row==k:=by
 have b:k<a.length+1:=by rw[<-Ry a l];exact h
 have d:(G4 a l)[k]?=some (l.filter fun c=>E1 a c.row==k):=by
  unfold G4;rw[List.getElem?_map,List.getElem?_range b];rfl
 exact(List.getElem?_eq_some_iff.1 d).2
theorem Ahs{a:List ByteArray}{l:List Ac}{i:Nat}(d:i<l.length)(h:E1 a l[i].row<(G4 a (l.take i)).length):G4 a (l.take (i+1))=(G4 a (l.take i)).set (E1 a l[i].row) ((G4 a (l.take i))[E1 a l[i].row]++[l[i]]):=by
 refine List.ext_getElem (by rw[List.length_set,Ry,Ry]) fun k b j=>?_;rw[V8,List.getElem_set,List.take_succ_eq_append_getElem d,List.filter_append];split
 .rename_i e;subst e;rw[V8];simp
 .rename_i e;have b:([l[i]]:List Ac).filter (fun c=>E1 a c.row==k)=[]:=List.filter_eq_nil_iff.2 (fun c g=>by rw[List.mem_singleton.1 g];simp[e]);rw[V8,b,a0v]
theorem Aht(a:List ByteArray):G4 a []=List.replicate (a.length+1) []:=by
 refine List.ext_getElem (by rw[Ry,a2v]) fun k c b=>?_;rw[V8,List.getElem_replicate];rfl
def Qo(xs out:List (List Ac))(now:List Ac):Prop:=(now=[]/\xs=[]/\out=[])∨(now≠[]/\xs=out++[now])
theorem Qo.push{xs b:List (List Ac)}{a row:List Ac}{most:Nat}(h:Qo xs b a)(g:a≠[])(i:most<a.length+row.length)(d:row≠[]):Qo (Ii most xs row) (b++[a]) row:=by
 rcases h with⟨h,_⟩|⟨_,rfl⟩
 .exact absurd h g
 refine Or.inr ⟨d,Xb fun h=>?_⟩;have c:=h.2;rw[a3v,Y,show b.length+[a].length-1=b.length by simp,a1w (a0z _),Nat.sub_self] at c;simp at c;omega
theorem Qo.join{xs a:List (List Ac)}{now b:List Ac}{most:Nat}(h:Qo xs a now)(i:now=[]∨now.length+b.length≤most)(d:b≠[]):Qo (Ii most xs b) a (now++b):=by
 rcases h with⟨rfl,rfl,rfl⟩|⟨c,rfl⟩
 .refine Or.inr ⟨by simpa using d,?_⟩;rw[Xb (by simp)];simp
 .have g:now.length+b.length≤most:=i.resolve_left c;refine Or.inr ⟨by simp[c],?_⟩;have e:(a++[now]).getD ((a++[now]).length-1) []=now:=by
   rw[a3v,Y,show a.length+[now].length-1=a.length by simp,a1w (a0z _),Nat.sub_self];rfl
  rw[iU (by simp) (by rw[e];exact g),e,Y,show a.length+[now].length-1=a.length by simp,List.set_append_right _ _ (a0z _),Nat.sub_self];rfl
theorem qU{l:List Ac}{d:Nat}:∀(j:Nat),d+j<l.length→(∀i,0<i→i≤j→(l.getD (d+i) Aq).row=(l.getD d Aq).row)→Dj l d d=Dj l d (d+j)
 |0,_,_=>rfl
 |j+1,h,hs=>by
  rw[qU j (by omega) fun i a k=>hs i a (by omega)];refine(Si (by omega) ?_);unfold Jh;have g:=hs (j+1) (by omega) (a0z _);have c:(l.getD (d+j) Aq).row=(l.getD d Aq).row:=by
   rcases Nat.eq_zero_or_pos j with rfl|b
   .rfl
   .exact hs j b (by omega)
  rw[show d+j+1=d+(j+1) from rfl,g,c,decide_eq_true (by omega)];simp
theorem Ahu{l:List Ac}{d n:Nat}(m:0<n)(h:d+n≤l.length)(a:∀i,0<i→i<n→(l.getD (d+i) Aq).row=(l.getD d Aq).row)(c:d+n<l.length→(l.getD (d+n) Aq).row≠(l.getD d Aq).row):Dj l d d=(d,n)::Dj l (d+n) (d+n):=by
 rw[qU (n-1) (by omega) fun i g k=>a i g (by omega)];have j:(l.getD (d+(n-1)) Aq).row=(l.getD d Aq).row:=by
  by_cases e:n=1
  .subst e;rfl
  .exact a (n-1) (by omega) (by omega)
 rw[Qv (by omega) ?_]
 .rw[show d+(n-1)+1=d+n by omega,show d+n-d=n by omega]
 .by_cases b:d+n<l.length
  .unfold Jh;rw[show d+(n-1)+1=d+n by omega,j,decide_eq_true b,Bool.true_and];have:=c b
   cases e:(l.getD (d+n) Aq).row.toList==(l.getD d Aq).row.toList with
   |false=>rfl
   |true=>exact absurd (Xi (eq_of_beq e)) this
  .exact jA (by omega)
theorem Ahv{l:List Ac}{most:Nat}{a:List (Nat × Nat)}(h:Dj l 0 0=a++Dj l l.length l.length):Ji most l a=Hh l most:=by
 unfold Hh;rw[h,Qw (a3w _),a0v]
theorem eF:∀(l:List ByteArray) (i:Nat) (a:List Ac),(∀c∈a,Bh c=true)→∀c∈(Gn i a l).1,Bh c=true
 |[],i,a,h=>h
 |t::r,i,a,h=>by
  cases hs:I7 t
  .cases hp:Dc t with
   |none=>rw[Vj hs hp];simp
   |some c=>
    rw[Vk hs hp];refine eF r (i+1) (a++[c]) fun x b=>?_;rcases List.mem_append.1 b with b|b
    .exact h x b
    .rw[List.mem_singleton.1 b];exact(sR hp).1
  .rw[Qe hs];exact eF r (i+1) a h
theorem Ahw(s:ByteArray):∀c∈(C0 s).1,Bh c=true:=by
 unfold C0;split
 .intro c h;cases h
 .exact eF _ _ _ fun c h=>by cases h
theorem V9(s:ByteArray):(C0 s).1.length<=s.size+1:=by
 unfold C0;split
 .exact a6z _
 .have b:=X2 10 s;obtain⟨_,c,_,_⟩:=Vb (Dh 10 s) 0 [] (fun t a=>by have:=O2 a;omega) (by simp);have:([]:List Ac).length=0:=rfl;omega
theorem qV{s:ByteArray}{v:List ByteArray}{r:List Ad}{a:List (List Ac)}{most:Nat}(A:s.size≤1500)(m:Bf (C4 (C0 s).1) r)(l:Eb (r.map (·.c)) v a):
  (∀e∈K2 (G7 most a),e=0)/\(∀x∈G7 most a,Py x.2/\∀c∈x.2,Di c):=by
 have k:=(S1 s (by omega)).1;have h:((G7 most a).map (·.2)).flatten=r.map (·.c):=by
  unfold G7;rw[fS most a _ (a0z _),a4w,l.flat]
 have n:∀c∈r.map (·.c),c∈(C0 s).1:=by
  intro c i;obtain⟨y,j,rfl⟩:=List.mem_map.1 i;exact sS (m.sub y j)
 have g:∀x∈(G7 most a).map (·.2),∀c∈x,c∈(C0 s).1:=fun x d c i=>n c (by rw[<-h];exact List.mem_flatten.2 ⟨x,d,i⟩);have p:r.length<=(C0 s).1.length:=by
  have:=m.len (Nx k (by have:=V9 s;omega))
  rwa [S8] at this
 have b:∀x∈(G7 most a).map (·.2),Py x:=by
  intro x d;obtain⟨y,j,rfl⟩:=List.mem_map.1 d;obtain⟨z,w,u⟩:=sO j;refine sQ (sP u) ?_ (fun c i=>Ahw s c (g _ d c i)) (fV (by rw[h];exact m.ris.risC) _ d);have t:=Sm d;rw[h,a5w] at t;have:=V9 s;omega
 refine⟨fun e q=>?_,fun x d=>⟨b _ (List.mem_map_of_mem d),fun c i=>k c (g _ (List.mem_map_of_mem d) c i)⟩⟩;obtain⟨y,j,rfl⟩:=List.mem_map.1 q;rw[Zo 0 (b _ (List.mem_map_of_mem j))]
def qW(s:ByteArray)(bs:List ByteArray)(m wid mo:Int):Nat:=
 if(C0 s).2.2≠0 then(C0 s).2.2 else if(C0 s).1.length=0∨m<1∨wid<2∨Ee bs=false∨mo<1 then 1 else 0
def Um(s:ByteArray)(bs:List ByteArray)(mo:Int)(f:List ByteArray):Prop:=
 ∃(r:List Ad) (out:List (List Ac)),Bf (C4 (C0 s).1) r/\Eb (r.map (·.c)) bs out/\Ee bs=true/\f=F8 (G7 mo.toNat out)
theorem D3.form{s:ByteArray}{n:List ByteArray}{m wid mo:Int}{x:Nat}{f:List ByteArray}(p:s.size≤1500)(h:D3 s n m wid mo x f):x=qW s n m wid mo∧(x≠0→f=[])∧(x=0→Um s n mo f):=by
 unfold qW
 cases h with
 |parse a=>exact⟨(if_pos a).symm,fun _=>rfl,fun h=>absurd h a⟩
 |none a b=>exact⟨by rw[if_neg (fun h=>h a),if_pos (Or.inl (by rw[b];rfl))],fun _=>rfl,fun h=>by cases h⟩
 |sort a b c=>exact⟨by rw[if_neg (fun h=>h a),if_pos (Or.inr (by omega))],fun _=>rfl,fun h=>by cases h⟩
 |cut a b c d e=>exact⟨by rw[if_neg (fun h=>h a),if_pos (Or.inr (Or.inr (Or.inr e)))],fun _=>rfl,fun h=>by cases h⟩
 |build r out most a b c d e g i j k l=>exact absurd (fM _ (qV p j k).1) l
 |ok r out most a b c d e g i j k l=>
  refine⟨?_,fun h=>absurd rfl h,fun _=>⟨r,out,j,k,e,by rw[i,Int.toNat_natCast]⟩⟩;have q:(C0 s).1.length≠0:=fun h=>b (List.eq_nil_of_length_eq_zero h);rw[if_neg (fun h=>h a),if_neg];rintro(h|h|h|h|h)
  .exact q h
  .omega
  .omega
  .rw[e] at h;cases h
  .omega
theorem Um.one{s:ByteArray}{d:List ByteArray}{mo:Int}{f g:List ByteArray}(q:s.size<=1500)(h:Um s d mo f)(l:Um s d mo g):f=g:=by
 obtain⟨r,i,c,k,j,rfl⟩:=h;obtain⟨p,b,n,m,t,rfl⟩:=l;have a:=Nx (S1 s (by omega)).1 (by have:=V9 s;omega);obtain rfl:=c.unique a (qO _) n;obtain rfl:=k.one m c.ris.risC j;rfl
theorem D3.one{s:ByteArray}{c:List ByteArray}{m wid mo:Int}{x y:Nat}{f g:List ByteArray}(a:s.size<=1500)(h:D3 s c m wid mo x f)(k:D3 s c m wid mo y g):x=y/\f=g:=by
 obtain⟨j,i,d⟩:=h.form a;obtain⟨p,n,l⟩:=k.form a;have e:x=y:=j.trans p.symm;refine⟨e,?_⟩;by_cases b:x=0
 .exact Um.one a (d b) (l (e.symm.trans b))
 .rw[i b,n (by omega)]
end
end Go.Proofs.YtkagolpnaicdoaaGreatDoor
