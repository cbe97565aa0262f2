/-
 wal: what is read back of a log, whole or cut; a disk that has one log alone (plain). job: a job is told by its bytes; a journal on a disk of its own: what tell and Open make of it (plain).
-/
import Derived.Test.YtkagolpnaicdoaaGreatDoorMTabL
import Derived.Test.YtkagolpnaicdoaaGreatDoorMDrvC
set_option maxRecDepth 100000
set_option maxHeartbeats 8000000
open UInt8 renaming ofNat→a0z,toNat_ofNat'→a0w
open List renaming length_append→a0x,append_assoc→a1z,append_nil→a1v,all_cons→a1u
open ByteArray renaming size_append→a0v
open Nat renaming le_refl→a0u
open Int renaming sub_self→a1x,add_zero→a1w
namespace Go.Proofs.YtkagolpnaicdoaaGreatDoor
section
open Go.RowKit Go.Maps Go.MapKept Go.ChangeMaps
def Je:Nat→List ByteArray→List (Nat × ByteArray)
 |_,[]=>[]
 |a,x::r=>(a+(6+x.size),x)::Je (a+(6+x.size)) r
theorem iK:∀(a:Nat) (xs:List ByteArray),(Je a xs).map (·.2)=xs
 |_,[]=>rfl
 |a,x::r=>by show x::(Je _ r).map (·.2)=_;rw[iK]
theorem iL:∀(a:Nat) (x:ByteArray) (xs:List ByteArray),(Je a (x::xs)).getLast?.map (·.1)=some (a+Bd (x::xs))
 |a,x,[]=>by show some (a+(6+x.size))=some (a+(6+x.size+0));rfl
 |a,x,y::r=>by
  have ih:=iL (a+(6+x.size)) y r;show((a+(6+x.size),x)::Je (a+(6+x.size)) (y::r)).getLast?.map (·.1)=_;rw[show Je (a+(6+x.size)) (y::r)=(a+(6+x.size)+(6+y.size),y)::Je (a+(6+x.size)+(6+y.size)) r from rfl,List.getLast?_cons_cons];rw[show Je (a+(6+x.size)) (y::r)=(a+(6+x.size)+(6+y.size),y)::Je (a+(6+x.size)+(6+y.size)) r from rfl] at ih;rw[ih];congr 1
  show _ =a+(6+x.size+Bd (y::r))
  omega
theorem zO(xs:List ByteArray):Ff (Je 0 xs)=Bd xs:=by
 unfold Ff
 cases xs with
 |nil=>rfl
 |cons x r=>rw[iL];show 0+_ =_;omega
theorem iM:∀(xs:List ByteArray) (P T:List UInt8) (n:Nat),(∀x∈xs,x.size≤65535)→(Cd (bl T)).2.2≠0→(Bl xs).length<n→Jy n P.length (bl (P++(Bl xs++T)))=Je P.length xs
 |[],P,T,0,_,_,h=>absurd h (Nat.not_lt_zero _)
 |_ ::_,_,_,0,_,_,h=>absurd h (Nat.not_lt_zero _)
 |[],P,T,n+1,_,hT,_=>by
  obtain⟨⟨t,k,e⟩,hg⟩:∃x,Cd (bl T)=x:=⟨_,rfl⟩
  rw[hg] at hT
  have h0:Cd ((bl (P++T)).extract P.length (bl (P++T)).size)=(t,k,e):=by
   rw[Yd P T P.length rfl];exact hg
  show Jy (n+1) P.length (bl (P++([]++T)))=[]
  rw[List.nil_append,Qb h0 hT]
 |x::xs,P,T,n+1,hs,hT,hn=>by
  have hx:=hs x (by simp);rw[Yh,a1z]
  have h0:Cd ((bl (P++(Da x++(Bl xs++T)))).extract P.length (bl (P++(Da x++(Bl xs++T)))).size)=(x,6+x.size,0):=by
   rw[Yd P _ P.length rfl];exact wL x _ hx
  rw[Yh,a0x,Qe] at hn;rw[Qa h0];have ih:=iM xs (P++Da x) T n (fun y hy=>hs y (List.mem_cons_of_mem _ hy)) hT (by omega);rw[a0x,Qe,a1z] at ih;rw[ih];rfl
theorem iN(xs:List ByteArray)(T:List UInt8)(h:∀x∈xs,x.size≤65535)(hT:(Cd (bl T)).2.2≠0):D6 (bl (Bl xs++T))=Je 0 xs:=by
 have h1:=iM xs [] T ((bl (Bl xs++T)).size+1) h hT (by rw[Ef,a0x];omega);exact h1
theorem zP(xs:List ByteArray)(h:∀x∈xs,x.size≤65535):D6 (bl (Bl xs))=Je 0 xs:=by
 have h1:=iN xs [] h (by rw[show Cd (bl [])=(⟨#[]⟩,0,3) from Ry rfl];decide)
 rwa [a1v] at h1
theorem Aaj(x:ByteArray)(k:Nat)(h:x.size≤65535)(hk:k<6+x.size):(Cd (bl ((Da x).take k))).2.2≠0:=by
 have hl:((Da x).take k).length=k:=by rw[List.length_take,Qe];omega
 have hsz:(bl ((Da x).take k)).size=k:=by rw[Ef,hl]
 by_cases h0:k=0
 ·rw[Ry (by rw[hsz];exact h0)];decide
 ·by_cases h6:k<6
  ·rw[X4 (by rw[hsz];exact h0) (by rw[hsz];exact h6)];decide
  ·obtain⟨m,rfl⟩:∃m,k=m+2:=⟨k-2,by omega⟩
   have a0:A1 (bl ((Da x).take (m+2))) 0=a0z x.size:=by rw[J6];rfl
   have a1:A1 (bl ((Da x).take (m+2))) 1=a0z (x.size/256):=by rw[J6];rfl
   have he:Eu (bl ((Da x).take (m+2)))=6+x.size:=by
    unfold Eu;rw[a0,a1,a0w,a0w];omega
   rw[X5 (by rw[hsz];exact h0) (by rw[hsz];exact h6) (by rw[hsz,he];exact hk)]
   decide
theorem Vq{d:Dk}(h:d.left=0):d.tick=d:=by
 obtain⟨c,z,F,o,l,k⟩:=d;simp only at h;subst h;rfl
theorem Yw{d:Dk}(h:d.left=0)(b:Bool):d.does b=true:=by
 unfold Dk.does;rw[h]
 cases b<;>rfl
theorem iO{d:Dk}(h:d.left=0)(x:Dk):d.burnt x=x:=by
 unfold Dk.burnt;rw[h,if_neg (by decide)]
theorem iP{d:Dk}(h:d.left=0):d.told=0:=by
 unfold Dk.told;rw[h,if_neg (by decide)]
theorem Qg{d:Dk}{x:ByteArray}(ho:d.off=false)(hx:Dl x=true):d.named [x]=0:=Ym ho (by rw[a1u,hx];rfl)
theorem zQ{d:Dk}{x y:ByteArray}(ho:d.off=false)(hx:Dl x=true)(hy:Dl y=true):d.named [x,y]=0:=Ym ho (by rw[a1u,a1u,hx,hy];rfl)
theorem Yx{d:Dk}{x:ByteArray}{f:A3}(ho:d.off=false)(hx:Dl x=true)(hf:Ak d.files x=some f)(g:A3→Dk):d.thereD x g=d.burnt (g f)∧d.thereE x=d.told:=by
 unfold Dk.thereD Dk.thereE;rw[Qg ho hx,hf];exact⟨if_neg (by decide),if_neg (by decide)⟩
theorem zR{d:Dk}{x:ByteArray}(ho:d.off=false)(hx:Dl x=true)(hf:Ak d.files x=none)(g:A3→Dk):d.thereD x g=d∧d.thereE x=3:=by
 unfold Dk.thereD Dk.thereE;rw[Qg ho hx,hf];exact⟨if_neg (by decide),if_neg (by decide)⟩
theorem Yy{d:Dk}{x:ByteArray}{f:A3}(ho:d.off=false)(hl:d.left=0)(hx:Dl x=true)(hf:Ak d.files x=some f)(g:A3→Dk):d.thereD x g=g f∧d.thereE x=0:=by
 obtain⟨h1,h2⟩:=Yx ho hx hf g;rw[h1,h2,iO hl,iP hl];exact⟨rfl,rfl⟩
theorem Yz{d:Dk}{x:ByteArray}{f:A3}(ho:d.off=false)(hl:d.left=0)(hx:Dl x=true)(hf:Ak d.files x=some f):d.sync x=d.set x (synced f) false∧d.thereE x=0:=by
 obtain⟨h1,h2⟩:=Yy ho hl hx hf (d.syncG x);refine⟨h1.trans ?_,h2⟩;unfold Dk.syncG;rw[Yw hl,Vq hl];rfl
theorem Y0{d:Dk}{x s:ByteArray}{f:A3}(ho:d.off=false)(hl:d.left=0)(hx:Dl x=true)(hf:Ak d.files x=some f)(hc:d.size+s.size≤d.cap):d.append x s=d.set x (F6 s f) false∧d.appendE x s=0:=by
 have hfu:d.full x s=false:=by
  unfold Dk.full;rw[hf,ho]
  simpa using hc
 obtain⟨h1,h2⟩:=Yy ho hl hx hf (fun f=>d.tick.set x (F6 s f) false);unfold Dk.append Dk.appendE;rw[hfu];refine⟨(h1.trans ?_),h2⟩;rw[Vq hl]
theorem iQ{d:Dk}{x:ByteArray}(ho:d.off=false)(hx:Dl x=true)(hf:Ak d.files x=none):d.delete x=d∧d.thereE x=3:=zR ho hx hf _
theorem iR{d:Dk}{x:ByteArray}(ho:d.off=false)(hl:d.left=0)(hx:Dl x=true)(hf:Ak d.files x=none)(hn:d.files.length<200):d.create x=d.set x A2 false∧d.createE x=0:=by
 have h1:¬200≤d.files.length:=by omega
 refine⟨?_,?_⟩
 case refine_2=>
  unfold Dk.createE;rw[Qg ho hx,hf,if_neg (by decide),if_neg (by decide),if_neg h1,iP hl]
 unfold Dk.create;rw[Qg ho hx,hf,if_neg (by decide),if_neg (by decide),if_neg h1,iO hl];unfold Dk.createG;rw[Yw hl,Vq hl];rfl
theorem iS{d:Dk}{a b:ByteArray}{f:A3}(ho:d.off=false)(hl:d.left=0)(ha:Dl a=true)(hb:Dl b=true)(hf:Ak d.files a=some f):d.rename a b=(d.set a A2 true).set b f false∧d.renameE a b=0:=by
 obtain⟨h1,h2⟩:=Yy ho hl ha hf (d.renameG a b);unfold Dk.rename Dk.renameE;rw[zQ ho ha hb,if_neg (by decide),if_neg (by decide)];refine⟨h1.trans ?_,h2⟩;unfold Dk.renameG;rw[Yw hl,Vq hl];rfl
def B9(nm:ByteArray)(c:Int)(f:A3):Dk:={cap:=c,size:=f.s.size,files:=[(nm,f)],off:=false,left:=0,keep:=0}
def Nr(c:Int):Dk:={cap:=c,size:=0,files:=[],off:=false,left:=0,keep:=0}
theorem iT(s:ByteArray):(⟨#[]⟩:ByteArray)++s=s:=by
 rw[show(⟨#[]⟩:ByteArray)=ByteArray.empty from rfl,ByteArray.empty_append]
theorem iU{nm:ByteArray}{c:Int}{f:A3}(hx:Dl nm=true):(B9 nm c f).read nm=(f.s,0):=by
 unfold Dk.read;rw[Qg rfl hx,if_neg (by decide),show Ak (B9 nm c f).files nm=some f from Ha rfl]
theorem zS{nm:ByteArray}{c:Int}(hx:Dl nm=true):(Nr c).read nm=(⟨#[]⟩,3):=by
 unfold Dk.read;rw[Qg rfl hx,if_neg (by decide)];rfl
theorem iV{nm:ByteArray}{c:Int}{f:A3}(hx:Dl nm=true):(B9 nm c f).sync nm=B9 nm c (synced f)∧(B9 nm c f).thereE nm=0:=by
 obtain⟨h1,h2⟩:=Yz (d:=B9 nm c f) rfl rfl hx (f:=f) (Ha rfl);refine⟨h1.trans ?_,h2⟩;unfold Dk.set Bi;rw[show Ak (B9 nm c f).files nm=some f from Ha rfl];show Dk.mk c ((f.s.size:Int)+((f.s.size:Nat)-(f.s.size:Nat))) (Bc [(nm,f)] nm (synced f)) false 0 0=_;rw[a1x,a1w];unfold Bc;rw[if_pos rfl];rfl
theorem zT{nm s:ByteArray}{c:Int}{f:A3}(hx:Dl nm=true)(hy:Dl (nm++Iw)=true)(hne:nm≠nm++Iw)(hc:(f.s.size:Int)+s.size≤c):(B9 nm c f).wWrite nm s=(B9 nm c ⟨s,s.size⟩,0):=by
 obtain⟨ot,hot⟩:∃o,nm++Iw=o:=⟨_,rfl⟩
 unfold Dk.wWrite;rw[hot] at hy hne ⊢;have hz:(A2.s.size:Int)=0:=rfl
 have g1:Ak [(nm,f)] ot=none:=by rw[I2 hne];rfl
 have g2:∀x:A3,Ak [(nm,f),(ot,x)] ot=some x:=fun x=>by rw[I2 hne,Ha rfl]
 have p1:∀x:A3,Bc [(nm,f)] ot x=[(nm,f),(ot,x)]:=fun x=>by unfold Bc;rw[if_neg hne];rfl
 have p2:∀x y:A3,Bc [(nm,f),(ot,x)] ot y=[(nm,f),(ot,y)]:=fun x y=>by unfold Bc;rw[if_neg hne];unfold Bc;rw[if_pos rfl]
 have p3:∀x:A3,C0 [(nm,f),(ot,x)] ot=[(nm,f)]:=fun x=>by
  unfold C0;rw[List.filter_cons_of_pos (by simpa using hne),List.filter_cons_of_neg (by simp)];rfl
 have p4:∀x:A3,Bc [(nm,f)] nm x=[(nm,x)]:=fun x=>by unfold Bc;rw[if_pos rfl]
 obtain⟨e1,e1'⟩:=iQ (d:=B9 nm c f) rfl hy g1;obtain⟨e2,e2'⟩:=iR (d:=B9 nm c f) rfl rfl hy g1 (by show 1<200;decide)
 have s2:(B9 nm c f).set ot A2 false=Dk.mk c f.s.size [(nm,f),(ot,A2)] false 0 0:=by
  unfold Dk.set Bi;rw[show Ak (B9 nm c f).files ot=none from g1];show Dk.mk c ((f.s.size:Int)+((A2.s.size:Nat)-(A2.s.size:Nat))) (Bc [(nm,f)] ot A2) false 0 0=_;rw[a1x,a1w,p1]
 rw[s2] at e2;obtain⟨e3,e3'⟩:=Y0 (d:=Dk.mk c f.s.size [(nm,f),(ot,A2)] false 0 0) rfl rfl hy (g2 _) (s:=s) hc
 have s3:(Dk.mk c f.s.size [(nm,f),(ot,A2)] false 0 0).set ot (F6 s A2) false=Dk.mk c ((f.s.size:Int)+s.size) [(nm,f),(ot,⟨s,0⟩)] false 0 0:=by
  have ha:F6 s A2=⟨s,0⟩:=by
   unfold F6 A2;rw[iT]
  rw[ha];unfold Dk.set Bi;rw[show Ak (Dk.mk c f.s.size [(nm,f),(ot,A2)] false 0 0).files ot=some A2 from g2 _];show Dk.mk c ((f.s.size:Int)+((s.size:Nat)-(A2.s.size:Nat))) (Bc [(nm,f),(ot,A2)] ot ⟨s,0⟩) false 0 0=_;rw[hz,Int.sub_zero,p2]
 rw[s3] at e3;obtain⟨e4,e4'⟩:=Yz (d:=Dk.mk c ((f.s.size:Int)+s.size) [(nm,f),(ot,⟨s,0⟩)] false 0 0) rfl rfl hy (g2 _)
 have s4:(Dk.mk c ((f.s.size:Int)+s.size) [(nm,f),(ot,⟨s,0⟩)] false 0 0).set ot (synced ⟨s,0⟩) false=Dk.mk c ((f.s.size:Int)+s.size) [(nm,f),(ot,⟨s,s.size⟩)] false 0 0:=by
  unfold Dk.set Bi;rw[show Ak (Dk.mk c ((f.s.size:Int)+s.size) [(nm,f),(ot,⟨s,0⟩)] false 0 0).files ot=some ⟨s,0⟩ from g2 _];show Dk.mk c ((f.s.size:Int)+s.size+((s.size:Nat)-(s.size:Nat))) (Bc [(nm,f),(ot,⟨s,0⟩)] ot ⟨s,s.size⟩) false 0 0=_;rw[a1x,a1w,p2]
 rw[s4] at e4;obtain⟨e5,e5'⟩:=iS (d:=Dk.mk c ((f.s.size:Int)+s.size) [(nm,f),(ot,⟨s,s.size⟩)] false 0 0) rfl rfl hy hx (g2 _)
 have s5:((Dk.mk c ((f.s.size:Int)+s.size) [(nm,f),(ot,⟨s,s.size⟩)] false 0 0).set ot A2 true).set nm ⟨s,s.size⟩ false=B9 nm c ⟨s,s.size⟩:=by
  have h1:(Dk.mk c ((f.s.size:Int)+s.size) [(nm,f),(ot,⟨s,s.size⟩)] false 0 0).set ot A2 true=Dk.mk c f.s.size [(nm,f)] false 0 0:=by
   unfold Dk.set Bi;rw[show Ak (Dk.mk c ((f.s.size:Int)+s.size) [(nm,f),(ot,⟨s,s.size⟩)] false 0 0).files ot=some ⟨s,s.size⟩ from g2 _];show Dk.mk c ((f.s.size:Int)+s.size+((A2.s.size:Nat)-(s.size:Nat))) (C0 (Bc [(nm,f),(ot,⟨s,s.size⟩)] ot A2) ot) false 0 0=_;rw[hz,p2,p3];congr 1;omega
  rw[h1];unfold Dk.set Bi;rw[show Ak (Dk.mk c f.s.size [(nm,f)] false 0 0).files nm=some f from Ha rfl];show Dk.mk c ((f.s.size:Int)+((s.size:Nat)-(f.s.size:Nat))) (Bc [(nm,f)] nm ⟨s,s.size⟩) false 0 0=_;rw[p4];unfold B9;congr 1
  show(f.s.size:Int)+((s.size:Nat)-(f.s.size:Nat))=(s.size:Nat)
  omega
 rw[s5] at e5;unfold Ov;simp only[Gk,e1,e1',e2,e2',e3,e3',e4,e4',e5,e5',if_true]
theorem zU{nm s:ByteArray}{c:Int}(hx:Dl nm=true)(hy:Dl (nm++Iw)=true)(hc:(s.size:Int)≤c):(Nr c).wWrite nm s=(B9 nm c ⟨s,s.size⟩,0):=by
 obtain⟨ot,hot⟩:∃o,nm++Iw=o:=⟨_,rfl⟩
 unfold Dk.wWrite;rw[hot] at hy ⊢;have hz:(A2.s.size:Int)=0:=rfl
 have g2:∀x:A3,Ak [(ot,x)] ot=some x:=fun x=>Ha rfl
 have p2:∀x y:A3,Bc [(ot,x)] ot y=[(ot,y)]:=fun x y=>by unfold Bc;rw[if_pos rfl]
 have p3:∀x:A3,C0 [(ot,x)] ot=[]:=fun x=>by
  unfold C0;rw[List.filter_cons_of_neg (by simp)];rfl
 obtain⟨e1,e1'⟩:=iQ (d:=Nr c) rfl hy rfl;obtain⟨e2,e2'⟩:=iR (d:=Nr c) rfl rfl hy rfl (by show 0<200;decide);have s2:(Nr c).set ot A2 false=Dk.mk c 0 [(ot,A2)] false 0 0:=rfl;rw[s2] at e2;obtain⟨e3,e3'⟩:=Y0 (d:=Dk.mk c 0 [(ot,A2)] false 0 0) rfl rfl hy (g2 _) (s:=s) (by show(0:Int)+_ ≤c;omega)
 have s3:(Dk.mk c 0 [(ot,A2)] false 0 0).set ot (F6 s A2) false=Dk.mk c s.size [(ot,⟨s,0⟩)] false 0 0:=by
  have ha:F6 s A2=⟨s,0⟩:=by
   unfold F6 A2;rw[iT]
  rw[ha];unfold Dk.set Bi;rw[show Ak (Dk.mk c 0 [(ot,A2)] false 0 0).files ot=some A2 from g2 _];show Dk.mk c ((0:Int)+((s.size:Nat)-(A2.s.size:Nat))) (Bc [(ot,A2)] ot ⟨s,0⟩) false 0 0=_;rw[hz,Int.sub_zero,Int.zero_add,p2]
 rw[s3] at e3;obtain⟨e4,e4'⟩:=Yz (d:=Dk.mk c s.size [(ot,⟨s,0⟩)] false 0 0) rfl rfl hy (g2 _)
 have s4:(Dk.mk c s.size [(ot,⟨s,0⟩)] false 0 0).set ot (synced ⟨s,0⟩) false=Dk.mk c s.size [(ot,⟨s,s.size⟩)] false 0 0:=by
  unfold Dk.set Bi;rw[show Ak (Dk.mk c s.size [(ot,⟨s,0⟩)] false 0 0).files ot=some ⟨s,0⟩ from g2 _];show Dk.mk c ((s.size:Int)+((s.size:Nat)-(s.size:Nat))) (Bc [(ot,⟨s,0⟩)] ot ⟨s,s.size⟩) false 0 0=_;rw[a1x,a1w,p2]
 rw[s4] at e4;obtain⟨e5,e5'⟩:=iS (d:=Dk.mk c s.size [(ot,⟨s,s.size⟩)] false 0 0) rfl rfl hy hx (g2 _)
 have s5:((Dk.mk c s.size [(ot,⟨s,s.size⟩)] false 0 0).set ot A2 true).set nm ⟨s,s.size⟩ false=B9 nm c ⟨s,s.size⟩:=by
  have h1:(Dk.mk c s.size [(ot,⟨s,s.size⟩)] false 0 0).set ot A2 true=Dk.mk c 0 [] false 0 0:=by
   unfold Dk.set Bi;rw[show Ak (Dk.mk c s.size [(ot,⟨s,s.size⟩)] false 0 0).files ot=some ⟨s,s.size⟩ from g2 _];show Dk.mk c ((s.size:Int)+((A2.s.size:Nat)-(s.size:Nat))) (C0 (Bc [(ot,⟨s,s.size⟩)] ot A2) ot) false 0 0=_;rw[hz,p2,p3];congr 1;omega
  rw[h1];unfold Dk.set Bi;show Dk.mk c ((0:Int)+((s.size:Nat)-(A2.s.size:Nat))) [(nm,⟨s,s.size⟩)] false 0 0=_;rw[hz,Int.sub_zero,Int.zero_add];rfl
 rw[s5] at e5;unfold Ov;simp only[Gk,e1,e1',e2,e2',e3,e3',e4,e4',e5,e5',if_true]
theorem iW{nm:ByteArray}(h:¬(nm.size=0∨59<nm.size)):Dl nm=true∧Dl (nm++Iw)=true∧nm≠nm++Iw:=by
 have hs:(nm++Iw).size=nm.size+1:=by rw[a0v];rfl
 refine⟨Yn (by omega) (by omega),Yn (by omega) (by omega),fun e=>?_⟩;have:=congrArg ByteArray.size e;omega
theorem zV{nm:ByteArray}{c:Int}(hn:¬(nm.size=0∨59<nm.size))(hc:0≤c):(Nr c).wOpen nm=(B9 nm c ⟨⟨#[]⟩,0⟩,0,[]):=by
 obtain⟨hx,hy,-⟩:=iW hn;have ht:D6 ⟨#[]⟩=[]:=zP [] (by simp);unfold Dk.wOpen;rw[if_neg hn,zS hx,if_neg (by decide)];simp only[ht,true_or,if_true];rw[show(⟨#[]⟩:ByteArray).extract 0 (Ff [])=⟨#[]⟩ from rfl,zU hx hy (s:=⟨#[]⟩) (by show(0:Int)≤c;omega)];rfl
theorem zW{nm:ByteArray}{c:Int}{xs:List ByteArray}{T:List UInt8}{k:Nat}(hn:¬(nm.size=0∨59<nm.size))(h:∀x∈xs,x.size≤65535)(hT:(Cd (bl T)).2.2≠0)(hc:2*((Bd xs:Int)+T.length)≤c):
  (B9 nm c ⟨bl (Bl xs++T),k⟩).wOpen nm=(B9 nm c ⟨bl (Bl xs),Bd xs⟩,0,xs):=by
 obtain⟨hx,hy,hne⟩:=iW hn;have ht:=iN xs T h hT
 have hsz:(bl (Bl xs++T)).size=Bd xs+T.length:=by rw[Ef,a0x,Ky]
 have hsz0:(bl (Bl xs)).size=Bd xs:=by rw[Ef,Ky]
 unfold Dk.wOpen;rw[if_neg hn,iU hx,if_neg (fun h=>h.1 rfl)];simp only[ht,zO,hsz,iK]
 by_cases hT0:T=[]
 ·subst hT0;rw[if_neg (by simp)];obtain⟨h1,h2⟩:=iV (nm:=nm) (c:=c) (f:=⟨bl (Bl xs++[]),k⟩) hx;simp only[h1,h2,if_true];unfold synced;simp only[a1v,hsz0]
 ·have hlen:0<T.length:=List.length_pos_iff.2 hT0;have hex:(bl (Bl xs++T)).extract 0 (Bd xs)=bl (Bl xs):=fQ _ _ _ (Ky xs).symm;rw[if_pos (Or.inr (by omega)),hex,zT hx hy hne (by rw[hsz0];show((bl (Bl xs++T)).size:Int)+_ ≤c;rw[hsz];omega),hsz0];simp only[if_true]
theorem zX{nm:ByteArray}{c:Int}{xs:List ByteArray}{k:Nat}(hn:¬(nm.size=0∨59<nm.size))(h:∀x∈xs,x.size≤65535)(hc:2*(Bd xs:Int)≤c):
  (B9 nm c ⟨bl (Bl xs),k⟩).wOpen nm=(B9 nm c ⟨bl (Bl xs),Bd xs⟩,0,xs):=by
 have h1:=zW (nm:=nm) (c:=c) (xs:=xs) (T:=[]) (k:=k) hn h (by rw[show Cd (bl [])=(⟨#[]⟩,0,3) from Ry rfl];decide) (by simpa using hc)
 rwa [a1v] at h1
theorem Y1{nm:ByteArray}{c z:Int}{f g:A3}{l k:Int}(hz:z=f.s.size):(Dk.mk c z [(nm,f)] false l k).set nm g false=Dk.mk c g.s.size [(nm,g)] false l k:=by
 unfold Dk.set Bi;rw[show Ak (Dk.mk c z [(nm,f)] false l k).files nm=some f from Ha rfl];show Dk.mk c (z+((g.s.size:Nat)-(f.s.size:Nat))) (Bc [(nm,f)] nm g) false l k=_;unfold Bc;rw[if_pos rfl];congr 1;omega
theorem iY{nm:ByteArray}{c z:Int}{s r:ByteArray}{y:Nat}{l k k2:Int}(h1:s.size≤y)(h2:y≤(s++r).size):
  ∃x,s.size≤x∧x≤(s++r).size∧(((Dk.mk c z [(nm,⟨s++r,y⟩)] false l k).crash k2).fuse 0 0).on=B9 nm c ⟨(s++r).extract 0 x,x⟩:=by
 have hl:=hQ (keep:=k2) (f:=⟨s++r,y⟩) h2
 have hl1:y≤H6 k2 ⟨s++r,y⟩:=by unfold H6;exact Nat.le_add_right _ _
 refine⟨H6 k2 ⟨s++r,y⟩,by omega,hl,?_⟩;have hsz:((s++r).extract 0 (H6 k2 ⟨s++r,y⟩)).size=H6 k2 ⟨s++r,y⟩:=Vo hl;show Dk.mk c (B4 [(nm,Ey k2 ⟨s++r,y⟩)]:Nat) [(nm,Ey k2 ⟨s++r,y⟩)] false 0 0=_
 have he:Ey k2 ⟨s++r,y⟩=⟨(s++r).extract 0 (H6 k2 ⟨s++r,y⟩),H6 k2 ⟨s++r,y⟩⟩:=by
  unfold Ey;simp only[hsz]
 rw[he];unfold B9;congr 1
theorem Aak{nm:ByteArray}{c:Int}{s r:ByteArray}{n k:Int}(hx:Dl nm=true)(hc:(s.size:Int)+r.size≤c):
  ((((B9 nm c ⟨s,s.size⟩).fuse n k).wAppend nm r).2=0∧(((B9 nm c ⟨s,s.size⟩).fuse n k).wAppend nm r).1.fuse 0 0=B9 nm c ⟨s++r,(s++r).size⟩)∨
  ((((B9 nm c ⟨s,s.size⟩).fuse n k).wAppend nm r).2=6∧∃x,s.size≤x∧x≤(s++r).size∧((((B9 nm c ⟨s,s.size⟩).fuse n k).wAppend nm r).1.fuse 0 0).on=B9 nm c ⟨(s++r).extract 0 x,x⟩):=by
 have hsr:(s++r).size=s.size+r.size:=a0v;have hd0:(B9 nm c ⟨s,s.size⟩).fuse n k=Dk.mk c s.size [(nm,⟨s,s.size⟩)] false (max n 0) k:=rfl;rw[hd0]
 have hm0:0≤max n 0:=by omega
 obtain⟨m,hm⟩:∃m,max n 0=m:=⟨_,rfl⟩
 rw[hm] at hm0 ⊢
 have hg:∀f:A3,Ak [(nm,f)] nm=some f:=fun f=>Ha rfl
 have hfu:(Dk.mk c s.size [(nm,⟨s,s.size⟩)] false m k).full nm r=false:=by
  unfold Dk.full;rw[hg]
  simpa using hc
 have ha:F6 r ⟨s,s.size⟩=⟨s++r,s.size⟩:=rfl;obtain⟨t1,t2⟩:=Yx (d:=Dk.mk c s.size [(nm,⟨s,s.size⟩)] false m k) (x:=nm) rfl hx (hg _) (fun f=>(Dk.mk c s.size [(nm,⟨s,s.size⟩)] false m k).tick.set nm (F6 r f) false)
 have hap:(Dk.mk c s.size [(nm,⟨s,s.size⟩)] false m k).append nm r=(Dk.mk c s.size [(nm,⟨s,s.size⟩)] false m k).burnt (Dk.mk c ((s++r).size:Nat) [(nm,⟨s++r,s.size⟩)] false (max (m-1) 0) k):=by
  unfold Dk.append;rw[hfu,if_neg (by decide),t1];show Dk.burnt _ ((Dk.mk c s.size [(nm,⟨s,s.size⟩)] false (max (m-1) 0) k).set nm (F6 r ⟨s,s.size⟩) false)=_;rw[ha,Y1 (f:=⟨s,s.size⟩) rfl]
 have hape:(Dk.mk c s.size [(nm,⟨s,s.size⟩)] false m k).appendE nm r=(if m=1 then 6 else 0):=by
  unfold Dk.appendE;rw[hfu,if_neg (by decide),t2];rfl
 unfold Dk.wAppend Ox
 by_cases h1:m=1
 ·subst h1;right;rw[if_pos rfl] at hape;have hb:(Dk.mk c s.size [(nm,⟨s,s.size⟩)] false 1 k).burnt (Dk.mk c ((s++r).size:Nat) [(nm,⟨s++r,s.size⟩)] false (max (1-1) 0) k)=(Dk.mk c ((s++r).size:Nat) [(nm,⟨s++r,s.size⟩)] false (max (1-1) 0) k).crash k:=if_pos rfl;rw[hb] at hap;simp only[Gk,hap,hape];rw[if_neg (by decide)];exact⟨rfl,iY (a0u _) (by omega)⟩
 ·rw[if_neg h1] at hape;have hb:(Dk.mk c s.size [(nm,⟨s,s.size⟩)] false m k).burnt (Dk.mk c ((s++r).size:Nat) [(nm,⟨s++r,s.size⟩)] false (max (m-1) 0) k)=Dk.mk c ((s++r).size:Nat) [(nm,⟨s++r,s.size⟩)] false (max (m-1) 0) k:=if_neg h1;rw[hb] at hap
  obtain⟨m2,hm2⟩:∃m2,max (m-1) 0=m2:=⟨_,rfl⟩
  rw[hm2] at hap;obtain⟨t3,t4⟩:=Yx (d:=Dk.mk c ((s++r).size:Nat) [(nm,⟨s++r,s.size⟩)] false m2 k) (x:=nm) rfl hx (hg _) ((Dk.mk c ((s++r).size:Nat) [(nm,⟨s++r,s.size⟩)] false m2 k).syncG nm)
  have hG:∃y,s.size≤y∧y≤(s++r).size∧(Dk.mk c ((s++r).size:Nat) [(nm,⟨s++r,s.size⟩)] false m2 k).syncG nm ⟨s++r,s.size⟩=Dk.mk c ((s++r).size:Nat) [(nm,⟨s++r,y⟩)] false (max (m2-1) 0) k∧(¬m2=1→y=(s++r).size):=by
   unfold Dk.syncG
   by_cases hdo:(Dk.mk c ((s++r).size:Nat) [(nm,⟨s++r,s.size⟩)] false m2 k).does false=true
   ·rw[if_pos hdo];refine⟨(s++r).size,by omega,a0u _,?_,fun _=>rfl⟩;show(Dk.mk c ((s++r).size:Nat) [(nm,⟨s++r,s.size⟩)] false (max (m2-1) 0) k).set nm ⟨s++r,(s++r).size⟩ false=_;rw[Y1 (f:=⟨s++r,s.size⟩) rfl]
   ·rw[if_neg hdo];refine⟨s.size,a0u _,by omega,rfl,fun h=>absurd ?_ hdo⟩;unfold Dk.does;rw[show((Dk.mk c ((s++r).size:Nat) [(nm,⟨s++r,s.size⟩)] false m2 k).left !=1)=true from by simpa using h];rfl
  obtain⟨y,hy1,hy2,hG,hy3⟩:=hG;have hsy:(Dk.mk c ((s++r).size:Nat) [(nm,⟨s++r,s.size⟩)] false m2 k).sync nm=(Dk.mk c ((s++r).size:Nat) [(nm,⟨s++r,s.size⟩)] false m2 k).burnt (Dk.mk c ((s++r).size:Nat) [(nm,⟨s++r,y⟩)] false (max (m2-1) 0) k):=t3.trans (by rw[hG])
  by_cases h2:m2=1
  ·subst h2;right;have hb2:(Dk.mk c ((s++r).size:Nat) [(nm,⟨s++r,s.size⟩)] false 1 k).burnt (Dk.mk c ((s++r).size:Nat) [(nm,⟨s++r,y⟩)] false (max (1-1) 0) k)=(Dk.mk c ((s++r).size:Nat) [(nm,⟨s++r,y⟩)] false (max (1-1) 0) k).crash k:=if_pos rfl;rw[hb2] at hsy;have t5:(Dk.mk c ((s++r).size:Nat) [(nm,⟨s++r,s.size⟩)] false 1 k).thereE nm=6:=t4.trans (if_pos rfl);simp only[Gk,hap,hape,hsy,t5,if_true];rw[if_neg (by decide)];exact⟨rfl,iY hy1 hy2⟩
  ·left;have hb2:(Dk.mk c ((s++r).size:Nat) [(nm,⟨s++r,s.size⟩)] false m2 k).burnt (Dk.mk c ((s++r).size:Nat) [(nm,⟨s++r,y⟩)] false (max (m2-1) 0) k)=Dk.mk c ((s++r).size:Nat) [(nm,⟨s++r,y⟩)] false (max (m2-1) 0) k:=if_neg h2;rw[hb2,hy3 h2] at hsy;have t5:(Dk.mk c ((s++r).size:Nat) [(nm,⟨s++r,s.size⟩)] false m2 k).thereE nm=0:=t4.trans (if_neg h2);simp only[Gk,hap,hape,hsy,t5,if_true];exact⟨trivial,rfl⟩
end
section
open Go.RowKit
theorem zY(id p e:Nat)(y:List UInt8):A1 (bl (Ie id p e++y)) 8=a0z p∧A1 (bl (Ie id p e++y)) 9=a0z e∧A1 (bl (Ie id p e++y)) 10=a0z (e/256):=by
 refine⟨?_,?_,?_⟩<;>rw[J6]<;>rfl
theorem zZ(id p e:Nat)(y:List UInt8)(h:id<18446744073709551616):Eo (bl (Ie id p e++y)) 8=id:=by
 have h1:=Zp id ([a0z p,a0z e,a0z (e/256)]++y) 8 (a0u _);rw[show bl (Ie id p e++y)=bl (Gl id++([a0z p,a0z e,a0z (e/256)]++y)) by unfold Ie;rw[a1z],h1];exact Nat.mod_eq_of_lt (by simpa using h)
theorem Aaa(j:Ar):Au j=bl (Ie j.id j.phase.toNat j.e.toNat++j.input.data.toList):=by
 unfold Au
 conv=>lhs;rw[←Lp j.input]
 rw[Nv]
theorem Aab{j:Ar}(hj:Hi j)(hb:Ig j=false)(hs:¬60000<j.input.size):Gg (Au j)=(j,0):=by
 obtain⟨id,p,x,inp⟩:=j;unfold Ig at hb;simp only[Bool.or_eq_false_iff,decide_eq_false_iff_not] at hb;obtain⟨⟨⟨h1,h2⟩,h3⟩,h4⟩:=hb;simp only at hs;have hid:id<18446744073709551616:=hj.id;have hsz:=Uj ⟨id,p,x,inp⟩;simp only at hsz
 obtain⟨pn,rfl⟩:∃n:Nat,p=n:=⟨p.toNat,by omega⟩
 obtain⟨xn,rfl⟩:∃n:Nat,x=n:=⟨x.toNat,by omega⟩
 have e0:=Aaa ⟨id,pn,xn,inp⟩;simp only[Int.toNat_natCast] at e0;obtain⟨a8,a9,a10⟩:=zY id pn xn inp.data.toList;rw[←e0] at a8 a9 a10;have hn:=zZ id pn xn inp.data.toList hid;rw[←e0] at hn
 have v8:(a0z pn).toNat=pn:=by rw[a0w];omega
 have v9:(a0z xn).toNat=xn%256:=by rw[a0w]
 have v10:(a0z (xn/256)).toNat=xn/256:=by rw[a0w];omega
 have hex:(Au ⟨id,pn,xn,inp⟩).extract 11 (Au ⟨id,pn,xn,inp⟩).size=inp:=by
  rw[e0,Yd _ _ _ (Xo _ _ _).symm,Lp]
 unfold Gg Ui Xn;rw[hn,hex,a8,a9,a10,v8,v9,v10,hsz];rw[if_neg]
 ·have:xn%256+xn/256*256=xn:=by omega
  rw[this]
 ·simp only[Bool.or_eq_true,decide_eq_true_eq];omega
theorem Aac{nm:ByteArray}{c:Int}{s r:ByteArray}(hx:Dl nm=true)(hc:(s.size:Int)+r.size≤c):
  (B9 nm c ⟨s,s.size⟩).wAppend nm r=(B9 nm c ⟨s++r,(s++r).size⟩,0):=by
 have hsr:(s++r).size=s.size+r.size:=a0v;obtain⟨e1,e1'⟩:=Y0 (d:=B9 nm c ⟨s,s.size⟩) (x:=nm) (s:=r) rfl rfl hx (Ha rfl) hc
 have s1:(B9 nm c ⟨s,s.size⟩).set nm (F6 r ⟨s,s.size⟩) false=B9 nm c ⟨s++r,s.size⟩:=by
  show(Dk.mk c s.size [(nm,⟨s,s.size⟩)] false 0 0).set nm ⟨s++r,s.size⟩ false=_;rw[Y1 (f:=⟨s,s.size⟩) rfl];rfl
 rw[s1] at e1;obtain⟨e2,e2'⟩:=iV (nm:=nm) (c:=c) (f:=⟨s++r,s.size⟩) hx;unfold Dk.wAppend Ox;simp only[Gk,e1,e1',e2,e2',if_true];rfl
def A6(c:Int)(texts:List ByteArray):Dk:=B9 Fo c ⟨bl (Bl texts),Bd texts⟩
def Bh(texts:List ByteArray):Lg:=⟨Fo,texts.length,false⟩
def O0(texts:List ByteArray):Prop:=∀t∈texts,(Gg t).2=0∧t.size≤65535
theorem iZ:Dl Fo=true:=by decide
theorem jA:¬(Fo.size=0∨59<Fo.size):=by decide
theorem Qh{c:Int}{texts:List ByteArray}(h0:c≤1000000000)(hc:(Bd texts:Int)≤c):Ap (A6 c texts):=by
 have hsz:(bl (Bl texts)).size=Bd texts:=by rw[Ef,Ky]
 have ht:B4 [(Fo,(⟨bl (Bl texts),Bd texts⟩:A3))]=Bd texts:=by simp[B4,hsz]
 refine⟨?_,?_,h0,by simp[A6,B9,Bf],?_,by simp[A6,B9],Int.le_refl _,(by show(0:Int)≤9223372036854775807;decide),(by show(-9223372036854775808:Int)≤0;decide),(by show(0:Int)≤9223372036854775807;decide)⟩
 ·show((bl (Bl texts)).size:Int)=((B4 [(Fo,(⟨bl (Bl texts),Bd texts⟩:A3))]:Nat):Int)
  rw[ht,hsz]
 ·show((B4 [(Fo,(⟨bl (Bl texts),Bd texts⟩:A3))]:Nat):Int)≤c;rw[ht];exact hc
 ·intro p hp
  have:p=(Fo,(⟨bl (Bl texts),Bd texts⟩:A3)):=by simpa [A6,B9] using hp
  subst this;show Bd texts≤(bl (Bl texts)).size;rw[hsz];exact a0u _
theorem jB{c:Int}{texts:List ByteArray}:((A6 c texts).read Fo).1.size=Bd texts:=by
 unfold A6;rw[iU iZ];show(bl (Bl texts)).size=_;rw[Ef,Ky]
theorem jC{c:Int}{texts:List ByteArray}(h:O0 texts)(hc:2*(Bd texts:Int)≤c):(A6 c texts).wOpen Fo=(A6 c texts,0,texts):=
 zX jA (fun x hx=>(h x hx).2) hc
theorem jD{c:Int}(hc:0≤c):(Dk.new c).wOpen Fo=(A6 c [],0,[]):=by
 have h:=zV (nm:=Fo) (c:=c) jA hc
 have e:Dk.new c=Nr c:=by unfold Dk.new Nr;rw[Int.max_eq_left hc]
 rw[e,h];rfl
theorem Aad{c:Int}{texts:List ByteArray}{s:ByteArray}(hs:s.size≤65535)(hc:(Bd texts:Int)+6+s.size≤c):
  Gq (Bh texts) (A6 c texts) [s]=(Bh (texts++[s]),A6 c (texts++[s]),0):=by
 have hsz:(bl (Bl texts)).size=Bd texts:=by rw[Ef,Ky]
 have hr:(bl (Bl [s])).size=6+s.size:=by rw[Ef,Ky];rfl
 have h1:=Aac (nm:=Fo) (c:=c) (s:=bl (Bl texts)) (r:=bl (Bl [s])) iZ (by rw[hsz,hr];omega);have hby:Il [s]=(bl (Bl [s]),0):=iG (by intro t ht;rw[List.mem_singleton.1 ht];exact hs)
 have hcat:bl (Bl texts)++bl (Bl [s])=bl (Bl (texts++[s])):=by rw[Nv,←gI]
 rw[hcat] at h1
 have hsz2:(bl (Bl (texts++[s]))).size=Bd (texts++[s]):=by rw[Ef,Ky]
 rw[hsz,hsz2] at h1;unfold Gq Jd;rw[show(Bh texts).off=false from rfl,hby,if_neg (by decide),if_neg (by simp)];have hw:(A6 c texts).wAppend (Bh texts).name (bl (Bl [s]))=(A6 c (texts++[s]),0):=h1;simp only[hw,if_true];unfold Bh;simp only[a0x,List.length_cons,List.length_nil]
theorem Vr{c:Int}{texts:List ByteArray}{j:Ar}(hj:Hi j)(hb:Ig j=false)(hs:¬60000<j.input.size)(h:O0 texts)(hc:(Bd texts:Int)+17+j.input.size≤c):
  Df (A6 c texts) (Bh texts) (A0 texts) j=⟨A6 c (texts++[Au j]),Bh (texts++[Au j]),A0 (texts++[Au j]),0⟩∧O0 (texts++[Au j])∧A0 (texts++[Au j])=Fv (A0 texts) j:=by
 have he:Dx j=(Au j,0):=by unfold Dx;rw[hb,if_neg (by decide),if_neg hs]
 have hsz:=Uj j;have hd:=Aab hj hb hs;have ha:=Aad (c:=c) (texts:=texts) (s:=Au j) (by omega) (by omega)
 have hj2:A0 (texts++[Au j])=Fv (A0 texts) j:=by rw[dY,hd]
 refine⟨?_,?_,hj2⟩
 ·rw[aJ he ha,hj2]
 ·intro t ht
  rcases List.mem_append.1 ht with h1|h1
  ·exact h t h1
  ·rw[List.mem_singleton.1 h1,hd];exact⟨rfl,by omega⟩
theorem R5(texts:List ByteArray)(j:Ar):Bd (texts++[Au j])=Bd texts+17+j.input.size:=by
 rw[Vk];show Bd texts+(6+(Au j).size+0)=_;rw[Uj];omega
end
end Go.Proofs.YtkagolpnaicdoaaGreatDoor
