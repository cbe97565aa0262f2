/-
 wal: what is read back of a log, whole or cut; a disk that has one log alone (plain). job: a job is told by its bytes; a journal on a disk of its own: what tell and Open make of it (plain). the document's layer 20: Encode, Decode. A new block, made and filled in whatever order (for XRegionV).
-/
import Derived.Test.YtkagolpnaicdoaaGreatDoorPTabL
import Derived.Test.YtkagolpnaicdoaaGreatDoorPDrvC
import Derived.Test.YtkagolpnaicdoaaGreatDoorPCellKey
import Derived.Test.YtkagolpnaicdoaaGreatDoorPWalE
set_option maxRecDepth 100000
set_option maxHeartbeats 8000000
open UInt8 renaming ofNat→a0z,toNat_ofNat'→a0x
open List renaming length_append→a0w,append_assoc→a1x,getElem?_cons_succ→a1u,getElem?_cons_zero→a2z,append_nil→a2x,getElem?_toArray→a2v,all_cons→a2u
open ByteArray renaming size_append→a0v
open Go.Lib renaming hid→a0u
open Nat renaming le_refl→a1z
open Int renaming sub_self→a1w,add_zero→a1v
open Go.IntKind renaming wrap_u8→a2w
namespace Go.Proofs.YtkagolpnaicdoaaGreatDoor
section
open Go.RowKit Go.Maps Go.MapKept Go.ChangeMaps
def Jo:Nat→List ByteArray→List (Nat × ByteArray)
 |_,[]=>[]
 |a,x::r=>(a+(6+x.size),x)::Jo (a+(6+x.size)) r
theorem kQ:∀(a:Nat) (xs:List ByteArray),(Jo a xs).map (·.2)=xs
 |_,[]=>rfl
 |a,x::r=>by show x::(Jo _ r).map (·.2)=_;rw[kQ]
theorem kR:∀(a:Nat) (x:ByteArray) (xs:List ByteArray),(Jo a (x::xs)).getLast?.map (·.1)=some (a+Be (x::xs))
 |a,x,[]=>by show some (a+(6+x.size))=some (a+(6+x.size+0));rfl
 |a,x,y::r=>by
  have ih:=kR (a+(6+x.size)) y r;show((a+(6+x.size),x)::Jo (a+(6+x.size)) (y::r)).getLast?.map (·.1)=_;rw[show Jo (a+(6+x.size)) (y::r)=(a+(6+x.size)+(6+y.size),y)::Jo (a+(6+x.size)+(6+y.size)) r from rfl,List.getLast?_cons_cons];rw[show Jo (a+(6+x.size)) (y::r)=(a+(6+x.size)+(6+y.size),y)::Jo (a+(6+x.size)+(6+y.size)) r from rfl] at ih;rw[ih];congr 1
  show _ =a+(6+x.size+Be (y::r))
  omega
theorem Abo(xs:List ByteArray):Fv (Jo 0 xs)=Be xs:=by
 unfold Fv
 cases xs with
 |nil=>rfl
 |cons x r=>rw[kR];show 0+_ =_;omega
theorem kS:∀(xs:List ByteArray) (P T:List UInt8) (n:Nat),(∀x∈xs,x.size≤65535)→(Cm (bl T)).2.2≠0→(A0 xs).length<n→Kt n P.length (bl (P++(A0 xs++T)))=Jo P.length xs
 |[],P,T,0,_,_,h=>absurd h (Nat.not_lt_zero _)
 |_ ::_,_,_,0,_,_,h=>absurd h (Nat.not_lt_zero _)
 |[],P,T,n+1,_,hT,_=>by
  obtain⟨⟨t,k,e⟩,hg⟩:∃x,Cm (bl T)=x:=⟨_,rfl⟩
  rw[hg] at hT
  have h0:Cm ((bl (P++T)).extract P.length (bl (P++T)).size)=(t,k,e):=by
   rw[Zf P T P.length rfl];exact hg
  show Kt (n+1) P.length (bl (P++([]++T)))=[]
  rw[List.nil_append,Qz h0 hT]
 |x::xs,P,T,n+1,hs,hT,hn=>by
  have hx:=hs x (by simp);rw[Zj,a1x]
  have h0:Cm ((bl (P++(B8 x++(A0 xs++T)))).extract P.length (bl (P++(B8 x++(A0 xs++T)))).size)=(x,6+x.size,0):=by
   rw[Zf P _ P.length rfl];exact zB x _ hx
  rw[Zj,a0w,Nl] at hn;rw[Qy h0];have ih:=kS xs (P++B8 x) T n (fun y hy=>hs y (List.mem_cons_of_mem _ hy)) hT (by omega);rw[a0w,Nl,a1x] at ih;rw[ih];rfl
theorem kT(xs:List ByteArray)(T:List UInt8)(h:∀x∈xs,x.size≤65535)(hT:(Cm (bl T)).2.2≠0):Ee (bl (A0 xs++T))=Jo 0 xs:=by
 have h1:=kS xs [] T ((bl (A0 xs++T)).size+1) h hT (by rw[D1,a0w];omega);exact h1
theorem Abp(xs:List ByteArray)(h:∀x∈xs,x.size≤65535):Ee (bl (A0 xs))=Jo 0 xs:=by
 have h1:=kT xs [] h (by rw[show Cm (bl [])=(⟨#[]⟩,0,3) from Td rfl];decide)
 rwa [a2x] at h1
theorem Abq(x:ByteArray)(k:Nat)(h:x.size≤65535)(hk:k<6+x.size):(Cm (bl ((B8 x).take k))).2.2≠0:=by
 have hl:((B8 x).take k).length=k:=by rw[List.length_take,Nl];omega
 have hsz:(bl ((B8 x).take k)).size=k:=by rw[D1,hl]
 by_cases h0:k=0
 ·rw[Td (by rw[hsz];exact h0)];decide
 ·by_cases h6:k<6
  ·rw[Y4 (by rw[hsz];exact h0) (by rw[hsz];exact h6)];decide
  ·obtain⟨m,rfl⟩:∃m,k=m+2:=⟨k-2,by omega⟩
   have a0:Aq (bl ((B8 x).take (m+2))) 0=a0z x.size:=by rw[Ky];rfl
   have a1:Aq (bl ((B8 x).take (m+2))) 1=a0z (x.size/256):=by rw[Ky];rfl
   have he:E3 (bl ((B8 x).take (m+2)))=6+x.size:=by
    unfold E3;rw[a0,a1,a0x,a0x];omega
   rw[Y5 (by rw[hsz];exact h0) (by rw[hsz];exact h6) (by rw[hsz,he];exact hk)]
   decide
theorem Wq{d:Dk}(h:d.left=0):d.tick=d:=by
 obtain⟨c,z,F,o,l,k⟩:=d;simp only at h;subst h;rfl
theorem Z1{d:Dk}(h:d.left=0)(b:Bool):d.does b=true:=by
 unfold Dk.does;rw[h]
 cases b<;>rfl
theorem kU{d:Dk}(h:d.left=0)(x:Dk):d.burnt x=x:=by
 unfold Dk.burnt;rw[h,if_neg (by decide)]
theorem kV{d:Dk}(h:d.left=0):d.told=0:=by
 unfold Dk.told;rw[h,if_neg (by decide)]
theorem Q4{d:Dk}{x:ByteArray}(ho:d.off=false)(hx:Dl x=true):d.named [x]=0:=Yc ho (by rw[a2u,hx];rfl)
theorem Abr{d:Dk}{x y:ByteArray}(ho:d.off=false)(hx:Dl x=true)(hy:Dl y=true):d.named [x,y]=0:=Yc ho (by rw[a2u,a2u,hx,hy];rfl)
theorem Z2{d:Dk}{x:ByteArray}{f:A5}(ho:d.off=false)(hx:Dl x=true)(hf:Ao d.files x=some f)(g:A5→Dk):d.thereD x g=d.burnt (g f)∧d.thereE x=d.told:=by
 unfold Dk.thereD Dk.thereE;rw[Q4 ho hx,hf];exact⟨if_neg (by decide),if_neg (by decide)⟩
theorem Abs{d:Dk}{x:ByteArray}(ho:d.off=false)(hx:Dl x=true)(hf:Ao d.files x=none)(g:A5→Dk):d.thereD x g=d∧d.thereE x=3:=by
 unfold Dk.thereD Dk.thereE;rw[Q4 ho hx,hf];exact⟨if_neg (by decide),if_neg (by decide)⟩
theorem Z3{d:Dk}{x:ByteArray}{f:A5}(ho:d.off=false)(hl:d.left=0)(hx:Dl x=true)(hf:Ao d.files x=some f)(g:A5→Dk):d.thereD x g=g f∧d.thereE x=0:=by
 obtain⟨h1,h2⟩:=Z2 ho hx hf g;rw[h1,h2,kU hl,kV hl];exact⟨rfl,rfl⟩
theorem Z4{d:Dk}{x:ByteArray}{f:A5}(ho:d.off=false)(hl:d.left=0)(hx:Dl x=true)(hf:Ao d.files x=some f):d.sync x=d.set x (synced f) false∧d.thereE x=0:=by
 obtain⟨h1,h2⟩:=Z3 ho hl hx hf (d.syncG x);refine⟨h1.trans ?_,h2⟩;unfold Dk.syncG;rw[Z1 hl,Wq hl];rfl
theorem Z5{d:Dk}{x s:ByteArray}{f:A5}(ho:d.off=false)(hl:d.left=0)(hx:Dl x=true)(hf:Ao d.files x=some f)(hc:d.size+s.size≤d.cap):d.append x s=d.set x (Gh s f) false∧d.appendE x s=0:=by
 have hfu:d.full x s=false:=by
  unfold Dk.full;rw[hf,ho]
  simpa using hc
 obtain⟨h1,h2⟩:=Z3 ho hl hx hf (fun f=>d.tick.set x (Gh s f) false);unfold Dk.append Dk.appendE;rw[hfu];refine⟨(h1.trans ?_),h2⟩;rw[Wq hl]
theorem kW{d:Dk}{x:ByteArray}(ho:d.off=false)(hx:Dl x=true)(hf:Ao d.files x=none):d.delete x=d∧d.thereE x=3:=Abs ho hx hf _
theorem kX{d:Dk}{x:ByteArray}(ho:d.off=false)(hl:d.left=0)(hx:Dl x=true)(hf:Ao d.files x=none)(hn:d.files.length<200):d.create x=d.set x A3 false∧d.createE x=0:=by
 have h1:¬200≤d.files.length:=by omega
 refine⟨?_,?_⟩
 case refine_2=>
  unfold Dk.createE;rw[Q4 ho hx,hf,if_neg (by decide),if_neg (by decide),if_neg h1,kV hl]
 unfold Dk.create;rw[Q4 ho hx,hf,if_neg (by decide),if_neg (by decide),if_neg h1,kU hl];unfold Dk.createG;rw[Z1 hl,Wq hl];rfl
theorem kY{d:Dk}{a b:ByteArray}{f:A5}(ho:d.off=false)(hl:d.left=0)(ha:Dl a=true)(hb:Dl b=true)(hf:Ao d.files a=some f):d.rename a b=(d.set a A3 true).set b f false∧d.renameE a b=0:=by
 obtain⟨h1,h2⟩:=Z3 ho hl ha hf (d.renameG a b);unfold Dk.rename Dk.renameE;rw[Abr ho ha hb,if_neg (by decide),if_neg (by decide)];refine⟨h1.trans ?_,h2⟩;unfold Dk.renameG;rw[Z1 hl,Wq hl];rfl
def Cd(nm:ByteArray)(c:Int)(f:A5):Dk:={cap:=c,size:=f.s.size,files:=[(nm,f)],off:=false,left:=0,keep:=0}
def Og(c:Int):Dk:={cap:=c,size:=0,files:=[],off:=false,left:=0,keep:=0}
theorem kZ(s:ByteArray):(⟨#[]⟩:ByteArray)++s=s:=by
 rw[show(⟨#[]⟩:ByteArray)=ByteArray.empty from rfl,ByteArray.empty_append]
theorem Z6{nm:ByteArray}{c:Int}{f:A5}(hx:Dl nm=true):(Cd nm c f).read nm=(f.s,0):=by
 unfold Dk.read;rw[Q4 rfl hx,if_neg (by decide),show Ao (Cd nm c f).files nm=some f from Hn rfl]
theorem Abt{nm:ByteArray}{c:Int}(hx:Dl nm=true):(Og c).read nm=(⟨#[]⟩,3):=by
 unfold Dk.read;rw[Q4 rfl hx,if_neg (by decide)];rfl
theorem lA{nm:ByteArray}{c:Int}{f:A5}(hx:Dl nm=true):(Cd nm c f).sync nm=Cd nm c (synced f)∧(Cd nm c f).thereE nm=0:=by
 obtain⟨h1,h2⟩:=Z4 (d:=Cd nm c f) rfl rfl hx (f:=f) (Hn rfl);refine⟨h1.trans ?_,h2⟩;unfold Dk.set Bj;rw[show Ao (Cd nm c f).files nm=some f from Hn rfl];show Dk.mk c ((f.s.size:Int)+((f.s.size:Nat)-(f.s.size:Nat))) (Bd [(nm,f)] nm (synced f)) false 0 0=_;rw[a1w,a1v];unfold Bd;rw[if_pos rfl];rfl
theorem Abu{nm s:ByteArray}{c:Int}{f:A5}(hx:Dl nm=true)(hy:Dl (nm++I7)=true)(hne:nm≠nm++I7)(hc:(f.s.size:Int)+s.size≤c):(Cd nm c f).wWrite nm s=(Cd nm c ⟨s,s.size⟩,0):=by
 obtain⟨ot,hot⟩:∃o,nm++I7=o:=⟨_,rfl⟩
 unfold Dk.wWrite;rw[hot] at hy hne ⊢;have hz:(A3.s.size:Int)=0:=rfl
 have g1:Ao [(nm,f)] ot=none:=by rw[Je hne];rfl
 have g2:∀x:A5,Ao [(nm,f),(ot,x)] ot=some x:=fun x=>by rw[Je hne,Hn rfl]
 have p1:∀x:A5,Bd [(nm,f)] ot x=[(nm,f),(ot,x)]:=fun x=>by unfold Bd;rw[if_neg hne];rfl
 have p2:∀x y:A5,Bd [(nm,f),(ot,x)] ot y=[(nm,f),(ot,y)]:=fun x y=>by unfold Bd;rw[if_neg hne];unfold Bd;rw[if_pos rfl]
 have p3:∀x:A5,C6 [(nm,f),(ot,x)] ot=[(nm,f)]:=fun x=>by
  unfold C6;rw[List.filter_cons_of_pos (by simpa using hne),List.filter_cons_of_neg (by simp)];rfl
 have p4:∀x:A5,Bd [(nm,f)] nm x=[(nm,x)]:=fun x=>by unfold Bd;rw[if_pos rfl]
 obtain⟨e1,e1'⟩:=kW (d:=Cd nm c f) rfl hy g1;obtain⟨e2,e2'⟩:=kX (d:=Cd nm c f) rfl rfl hy g1 (by show 1<200;decide)
 have s2:(Cd nm c f).set ot A3 false=Dk.mk c f.s.size [(nm,f),(ot,A3)] false 0 0:=by
  unfold Dk.set Bj;rw[show Ao (Cd nm c f).files ot=none from g1];show Dk.mk c ((f.s.size:Int)+((A3.s.size:Nat)-(A3.s.size:Nat))) (Bd [(nm,f)] ot A3) false 0 0=_;rw[a1w,a1v,p1]
 rw[s2] at e2;obtain⟨e3,e3'⟩:=Z5 (d:=Dk.mk c f.s.size [(nm,f),(ot,A3)] false 0 0) rfl rfl hy (g2 _) (s:=s) hc
 have s3:(Dk.mk c f.s.size [(nm,f),(ot,A3)] false 0 0).set ot (Gh s A3) false=Dk.mk c ((f.s.size:Int)+s.size) [(nm,f),(ot,⟨s,0⟩)] false 0 0:=by
  have ha:Gh s A3=⟨s,0⟩:=by
   unfold Gh A3;rw[kZ]
  rw[ha];unfold Dk.set Bj;rw[show Ao (Dk.mk c f.s.size [(nm,f),(ot,A3)] false 0 0).files ot=some A3 from g2 _];show Dk.mk c ((f.s.size:Int)+((s.size:Nat)-(A3.s.size:Nat))) (Bd [(nm,f),(ot,A3)] ot ⟨s,0⟩) false 0 0=_;rw[hz,Int.sub_zero,p2]
 rw[s3] at e3;obtain⟨e4,e4'⟩:=Z4 (d:=Dk.mk c ((f.s.size:Int)+s.size) [(nm,f),(ot,⟨s,0⟩)] false 0 0) rfl rfl hy (g2 _)
 have s4:(Dk.mk c ((f.s.size:Int)+s.size) [(nm,f),(ot,⟨s,0⟩)] false 0 0).set ot (synced ⟨s,0⟩) false=Dk.mk c ((f.s.size:Int)+s.size) [(nm,f),(ot,⟨s,s.size⟩)] false 0 0:=by
  unfold Dk.set Bj;rw[show Ao (Dk.mk c ((f.s.size:Int)+s.size) [(nm,f),(ot,⟨s,0⟩)] false 0 0).files ot=some ⟨s,0⟩ from g2 _];show Dk.mk c ((f.s.size:Int)+s.size+((s.size:Nat)-(s.size:Nat))) (Bd [(nm,f),(ot,⟨s,0⟩)] ot ⟨s,s.size⟩) false 0 0=_;rw[a1w,a1v,p2]
 rw[s4] at e4;obtain⟨e5,e5'⟩:=kY (d:=Dk.mk c ((f.s.size:Int)+s.size) [(nm,f),(ot,⟨s,s.size⟩)] false 0 0) rfl rfl hy hx (g2 _)
 have s5:((Dk.mk c ((f.s.size:Int)+s.size) [(nm,f),(ot,⟨s,s.size⟩)] false 0 0).set ot A3 true).set nm ⟨s,s.size⟩ false=Cd nm c ⟨s,s.size⟩:=by
  have h1:(Dk.mk c ((f.s.size:Int)+s.size) [(nm,f),(ot,⟨s,s.size⟩)] false 0 0).set ot A3 true=Dk.mk c f.s.size [(nm,f)] false 0 0:=by
   unfold Dk.set Bj;rw[show Ao (Dk.mk c ((f.s.size:Int)+s.size) [(nm,f),(ot,⟨s,s.size⟩)] false 0 0).files ot=some ⟨s,s.size⟩ from g2 _];show Dk.mk c ((f.s.size:Int)+s.size+((A3.s.size:Nat)-(s.size:Nat))) (C6 (Bd [(nm,f),(ot,⟨s,s.size⟩)] ot A3) ot) false 0 0=_;rw[hz,p2,p3];congr 1;omega
  rw[h1];unfold Dk.set Bj;rw[show Ao (Dk.mk c f.s.size [(nm,f)] false 0 0).files nm=some f from Hn rfl];show Dk.mk c ((f.s.size:Int)+((s.size:Nat)-(f.s.size:Nat))) (Bd [(nm,f)] nm ⟨s,s.size⟩) false 0 0=_;rw[p4];unfold Cd;congr 1
  show(f.s.size:Int)+((s.size:Nat)-(f.s.size:Nat))=(s.size:Nat)
  omega
 rw[s5] at e5;unfold Pn;simp only[F3,e1,e1',e2,e2',e3,e3',e4,e4',e5,e5',if_true]
theorem Abv{nm s:ByteArray}{c:Int}(hx:Dl nm=true)(hy:Dl (nm++I7)=true)(hc:(s.size:Int)≤c):(Og c).wWrite nm s=(Cd nm c ⟨s,s.size⟩,0):=by
 obtain⟨ot,hot⟩:∃o,nm++I7=o:=⟨_,rfl⟩
 unfold Dk.wWrite;rw[hot] at hy ⊢;have hz:(A3.s.size:Int)=0:=rfl
 have g2:∀x:A5,Ao [(ot,x)] ot=some x:=fun x=>Hn rfl
 have p2:∀x y:A5,Bd [(ot,x)] ot y=[(ot,y)]:=fun x y=>by unfold Bd;rw[if_pos rfl]
 have p3:∀x:A5,C6 [(ot,x)] ot=[]:=fun x=>by
  unfold C6;rw[List.filter_cons_of_neg (by simp)];rfl
 obtain⟨e1,e1'⟩:=kW (d:=Og c) rfl hy rfl;obtain⟨e2,e2'⟩:=kX (d:=Og c) rfl rfl hy rfl (by show 0<200;decide);have s2:(Og c).set ot A3 false=Dk.mk c 0 [(ot,A3)] false 0 0:=rfl;rw[s2] at e2;obtain⟨e3,e3'⟩:=Z5 (d:=Dk.mk c 0 [(ot,A3)] false 0 0) rfl rfl hy (g2 _) (s:=s) (by show(0:Int)+_ ≤c;omega)
 have s3:(Dk.mk c 0 [(ot,A3)] false 0 0).set ot (Gh s A3) false=Dk.mk c s.size [(ot,⟨s,0⟩)] false 0 0:=by
  have ha:Gh s A3=⟨s,0⟩:=by
   unfold Gh A3;rw[kZ]
  rw[ha];unfold Dk.set Bj;rw[show Ao (Dk.mk c 0 [(ot,A3)] false 0 0).files ot=some A3 from g2 _];show Dk.mk c ((0:Int)+((s.size:Nat)-(A3.s.size:Nat))) (Bd [(ot,A3)] ot ⟨s,0⟩) false 0 0=_;rw[hz,Int.sub_zero,Int.zero_add,p2]
 rw[s3] at e3;obtain⟨e4,e4'⟩:=Z4 (d:=Dk.mk c s.size [(ot,⟨s,0⟩)] false 0 0) rfl rfl hy (g2 _)
 have s4:(Dk.mk c s.size [(ot,⟨s,0⟩)] false 0 0).set ot (synced ⟨s,0⟩) false=Dk.mk c s.size [(ot,⟨s,s.size⟩)] false 0 0:=by
  unfold Dk.set Bj;rw[show Ao (Dk.mk c s.size [(ot,⟨s,0⟩)] false 0 0).files ot=some ⟨s,0⟩ from g2 _];show Dk.mk c ((s.size:Int)+((s.size:Nat)-(s.size:Nat))) (Bd [(ot,⟨s,0⟩)] ot ⟨s,s.size⟩) false 0 0=_;rw[a1w,a1v,p2]
 rw[s4] at e4;obtain⟨e5,e5'⟩:=kY (d:=Dk.mk c s.size [(ot,⟨s,s.size⟩)] false 0 0) rfl rfl hy hx (g2 _)
 have s5:((Dk.mk c s.size [(ot,⟨s,s.size⟩)] false 0 0).set ot A3 true).set nm ⟨s,s.size⟩ false=Cd nm c ⟨s,s.size⟩:=by
  have h1:(Dk.mk c s.size [(ot,⟨s,s.size⟩)] false 0 0).set ot A3 true=Dk.mk c 0 [] false 0 0:=by
   unfold Dk.set Bj;rw[show Ao (Dk.mk c s.size [(ot,⟨s,s.size⟩)] false 0 0).files ot=some ⟨s,s.size⟩ from g2 _];show Dk.mk c ((s.size:Int)+((A3.s.size:Nat)-(s.size:Nat))) (C6 (Bd [(ot,⟨s,s.size⟩)] ot A3) ot) false 0 0=_;rw[hz,p2,p3];congr 1;omega
  rw[h1];unfold Dk.set Bj;show Dk.mk c ((0:Int)+((s.size:Nat)-(A3.s.size:Nat))) [(nm,⟨s,s.size⟩)] false 0 0=_;rw[hz,Int.sub_zero,Int.zero_add];rfl
 rw[s5] at e5;unfold Pn;simp only[F3,e1,e1',e2,e2',e3,e3',e4,e4',e5,e5',if_true]
theorem lB{nm:ByteArray}(h:¬(nm.size=0∨59<nm.size)):Dl nm=true∧Dl (nm++I7)=true∧nm≠nm++I7:=by
 have hs:(nm++I7).size=nm.size+1:=by rw[a0v];rfl
 refine⟨Yd (by omega) (by omega),Yd (by omega) (by omega),fun e=>?_⟩;have:=congrArg ByteArray.size e;omega
theorem Abw{nm:ByteArray}{c:Int}(hn:¬(nm.size=0∨59<nm.size))(hc:0≤c):(Og c).wOpen nm=(Cd nm c ⟨⟨#[]⟩,0⟩,0,[]):=by
 obtain⟨hx,hy,-⟩:=lB hn;have ht:Ee ⟨#[]⟩=[]:=Abp [] (by simp);unfold Dk.wOpen;rw[if_neg hn,Abt hx,if_neg (by decide)];simp only[ht,true_or,if_true];rw[show(⟨#[]⟩:ByteArray).extract 0 (Fv [])=⟨#[]⟩ from rfl,Abv hx hy (s:=⟨#[]⟩) (by show(0:Int)≤c;omega)];rfl
theorem lC{nm:ByteArray}{c:Int}{xs:List ByteArray}{T:List UInt8}{k:Nat}(hn:¬(nm.size=0∨59<nm.size))(h:∀x∈xs,x.size≤65535)(hT:(Cm (bl T)).2.2≠0)(hc:2*((Be xs:Int)+T.length)≤c):
  (Cd nm c ⟨bl (A0 xs++T),k⟩).wOpen nm=(Cd nm c ⟨bl (A0 xs),Be xs⟩,0,xs):=by
 obtain⟨hx,hy,hne⟩:=lB hn;have ht:=kT xs T h hT
 have hsz:(bl (A0 xs++T)).size=Be xs+T.length:=by rw[D1,a0w,Ic]
 have hsz0:(bl (A0 xs)).size=Be xs:=by rw[D1,Ic]
 unfold Dk.wOpen;rw[if_neg hn,Z6 hx,if_neg (fun h=>h.1 rfl)];simp only[ht,Abo,hsz,kQ]
 by_cases hT0:T=[]
 ·subst hT0;rw[if_neg (by simp)];obtain⟨h1,h2⟩:=lA (nm:=nm) (c:=c) (f:=⟨bl (A0 xs++[]),k⟩) hx;simp only[h1,h2,if_true];unfold synced;simp only[a2x,hsz0]
 ·have hlen:0<T.length:=List.length_pos_iff.2 hT0;have hex:(bl (A0 xs++T)).extract 0 (Be xs)=bl (A0 xs):=Ze _ _ _ (Ic xs).symm;rw[if_pos (Or.inr (by omega)),hex,Abu hx hy hne (by rw[hsz0];show((bl (A0 xs++T)).size:Int)+_ ≤c;rw[hsz];omega),hsz0];simp only[if_true]
theorem lD{nm:ByteArray}{c:Int}{xs:List ByteArray}{k:Nat}(hn:¬(nm.size=0∨59<nm.size))(h:∀x∈xs,x.size≤65535)(hc:2*(Be xs:Int)≤c):
  (Cd nm c ⟨bl (A0 xs),k⟩).wOpen nm=(Cd nm c ⟨bl (A0 xs),Be xs⟩,0,xs):=by
 have h1:=lC (nm:=nm) (c:=c) (xs:=xs) (T:=[]) (k:=k) hn h (by rw[show Cm (bl [])=(⟨#[]⟩,0,3) from Td rfl];decide) (by simpa using hc)
 rwa [a2x] at h1
theorem Z7{nm:ByteArray}{c z:Int}{f g:A5}{l k:Int}(hz:z=f.s.size):(Dk.mk c z [(nm,f)] false l k).set nm g false=Dk.mk c g.s.size [(nm,g)] false l k:=by
 unfold Dk.set Bj;rw[show Ao (Dk.mk c z [(nm,f)] false l k).files nm=some f from Hn rfl];show Dk.mk c (z+((g.s.size:Nat)-(f.s.size:Nat))) (Bd [(nm,f)] nm g) false l k=_;unfold Bd;rw[if_pos rfl];congr 1;omega
theorem lE{nm:ByteArray}{c z:Int}{s r:ByteArray}{y:Nat}{l k k2:Int}(h1:s.size≤y)(h2:y≤(s++r).size):
  ∃x,s.size≤x∧x≤(s++r).size∧(((Dk.mk c z [(nm,⟨s++r,y⟩)] false l k).crash k2).fuse 0 0).on=Cd nm c ⟨(s++r).extract 0 x,x⟩:=by
 have hl:=jU (keep:=k2) (f:=⟨s++r,y⟩) h2
 have hl1:y≤Ig k2 ⟨s++r,y⟩:=by unfold Ig;exact Nat.le_add_right _ _
 refine⟨Ig k2 ⟨s++r,y⟩,by omega,hl,?_⟩;have hsz:((s++r).extract 0 (Ig k2 ⟨s++r,y⟩)).size=Ig k2 ⟨s++r,y⟩:=Wi hl;show Dk.mk c (total [(nm,E5 k2 ⟨s++r,y⟩)]:Nat) [(nm,E5 k2 ⟨s++r,y⟩)] false 0 0=_
 have he:E5 k2 ⟨s++r,y⟩=⟨(s++r).extract 0 (Ig k2 ⟨s++r,y⟩),Ig k2 ⟨s++r,y⟩⟩:=by
  unfold E5;simp only[hsz]
 rw[he];unfold Cd;congr 1
theorem Abx{nm:ByteArray}{c:Int}{s r:ByteArray}{n k:Int}(hx:Dl nm=true)(hc:(s.size:Int)+r.size≤c):
  ((((Cd nm c ⟨s,s.size⟩).fuse n k).wAppend nm r).2=0∧(((Cd nm c ⟨s,s.size⟩).fuse n k).wAppend nm r).1.fuse 0 0=Cd nm c ⟨s++r,(s++r).size⟩)∨
  ((((Cd nm c ⟨s,s.size⟩).fuse n k).wAppend nm r).2=6∧∃x,s.size≤x∧x≤(s++r).size∧((((Cd nm c ⟨s,s.size⟩).fuse n k).wAppend nm r).1.fuse 0 0).on=Cd nm c ⟨(s++r).extract 0 x,x⟩):=by
 have hsr:(s++r).size=s.size+r.size:=a0v;have hd0:(Cd nm c ⟨s,s.size⟩).fuse n k=Dk.mk c s.size [(nm,⟨s,s.size⟩)] false (max n 0) k:=rfl;rw[hd0]
 have hm0:0≤max n 0:=by omega
 obtain⟨m,hm⟩:∃m,max n 0=m:=⟨_,rfl⟩
 rw[hm] at hm0 ⊢
 have hg:∀f:A5,Ao [(nm,f)] nm=some f:=fun f=>Hn rfl
 have hfu:(Dk.mk c s.size [(nm,⟨s,s.size⟩)] false m k).full nm r=false:=by
  unfold Dk.full;rw[hg]
  simpa using hc
 have ha:Gh r ⟨s,s.size⟩=⟨s++r,s.size⟩:=rfl;obtain⟨t1,t2⟩:=Z2 (d:=Dk.mk c s.size [(nm,⟨s,s.size⟩)] false m k) (x:=nm) rfl hx (hg _) (fun f=>(Dk.mk c s.size [(nm,⟨s,s.size⟩)] false m k).tick.set nm (Gh r f) false)
 have hap:(Dk.mk c s.size [(nm,⟨s,s.size⟩)] false m k).append nm r=(Dk.mk c s.size [(nm,⟨s,s.size⟩)] false m k).burnt (Dk.mk c ((s++r).size:Nat) [(nm,⟨s++r,s.size⟩)] false (max (m-1) 0) k):=by
  unfold Dk.append;rw[hfu,if_neg (by decide),t1];show Dk.burnt _ ((Dk.mk c s.size [(nm,⟨s,s.size⟩)] false (max (m-1) 0) k).set nm (Gh r ⟨s,s.size⟩) false)=_;rw[ha,Z7 (f:=⟨s,s.size⟩) rfl]
 have hape:(Dk.mk c s.size [(nm,⟨s,s.size⟩)] false m k).appendE nm r=(if m=1 then 6 else 0):=by
  unfold Dk.appendE;rw[hfu,if_neg (by decide),t2];rfl
 unfold Dk.wAppend Po
 by_cases h1:m=1
 ·subst h1;right;rw[if_pos rfl] at hape;have hb:(Dk.mk c s.size [(nm,⟨s,s.size⟩)] false 1 k).burnt (Dk.mk c ((s++r).size:Nat) [(nm,⟨s++r,s.size⟩)] false (max (1-1) 0) k)=(Dk.mk c ((s++r).size:Nat) [(nm,⟨s++r,s.size⟩)] false (max (1-1) 0) k).crash k:=if_pos rfl;rw[hb] at hap;simp only[F3,hap,hape];rw[if_neg (by decide)];exact⟨rfl,lE (a1z _) (by omega)⟩
 ·rw[if_neg h1] at hape;have hb:(Dk.mk c s.size [(nm,⟨s,s.size⟩)] false m k).burnt (Dk.mk c ((s++r).size:Nat) [(nm,⟨s++r,s.size⟩)] false (max (m-1) 0) k)=Dk.mk c ((s++r).size:Nat) [(nm,⟨s++r,s.size⟩)] false (max (m-1) 0) k:=if_neg h1;rw[hb] at hap
  obtain⟨m2,hm2⟩:∃m2,max (m-1) 0=m2:=⟨_,rfl⟩
  rw[hm2] at hap;obtain⟨t3,t4⟩:=Z2 (d:=Dk.mk c ((s++r).size:Nat) [(nm,⟨s++r,s.size⟩)] false m2 k) (x:=nm) rfl hx (hg _) ((Dk.mk c ((s++r).size:Nat) [(nm,⟨s++r,s.size⟩)] false m2 k).syncG nm)
  have hG:∃y,s.size≤y∧y≤(s++r).size∧(Dk.mk c ((s++r).size:Nat) [(nm,⟨s++r,s.size⟩)] false m2 k).syncG nm ⟨s++r,s.size⟩=Dk.mk c ((s++r).size:Nat) [(nm,⟨s++r,y⟩)] false (max (m2-1) 0) k∧(¬m2=1→y=(s++r).size):=by
   unfold Dk.syncG
   by_cases hdo:(Dk.mk c ((s++r).size:Nat) [(nm,⟨s++r,s.size⟩)] false m2 k).does false=true
   ·rw[if_pos hdo];refine⟨(s++r).size,by omega,a1z _,?_,fun _=>rfl⟩;show(Dk.mk c ((s++r).size:Nat) [(nm,⟨s++r,s.size⟩)] false (max (m2-1) 0) k).set nm ⟨s++r,(s++r).size⟩ false=_;rw[Z7 (f:=⟨s++r,s.size⟩) rfl]
   ·rw[if_neg hdo];refine⟨s.size,a1z _,by omega,rfl,fun h=>absurd ?_ hdo⟩;unfold Dk.does;rw[show((Dk.mk c ((s++r).size:Nat) [(nm,⟨s++r,s.size⟩)] false m2 k).left !=1)=true from by simpa using h];rfl
  obtain⟨y,hy1,hy2,hG,hy3⟩:=hG;have hsy:(Dk.mk c ((s++r).size:Nat) [(nm,⟨s++r,s.size⟩)] false m2 k).sync nm=(Dk.mk c ((s++r).size:Nat) [(nm,⟨s++r,s.size⟩)] false m2 k).burnt (Dk.mk c ((s++r).size:Nat) [(nm,⟨s++r,y⟩)] false (max (m2-1) 0) k):=t3.trans (by rw[hG])
  by_cases h2:m2=1
  ·subst h2;right;have hb2:(Dk.mk c ((s++r).size:Nat) [(nm,⟨s++r,s.size⟩)] false 1 k).burnt (Dk.mk c ((s++r).size:Nat) [(nm,⟨s++r,y⟩)] false (max (1-1) 0) k)=(Dk.mk c ((s++r).size:Nat) [(nm,⟨s++r,y⟩)] false (max (1-1) 0) k).crash k:=if_pos rfl;rw[hb2] at hsy;have t5:(Dk.mk c ((s++r).size:Nat) [(nm,⟨s++r,s.size⟩)] false 1 k).thereE nm=6:=t4.trans (if_pos rfl);simp only[F3,hap,hape,hsy,t5,if_true];rw[if_neg (by decide)];exact⟨rfl,lE hy1 hy2⟩
  ·left;have hb2:(Dk.mk c ((s++r).size:Nat) [(nm,⟨s++r,s.size⟩)] false m2 k).burnt (Dk.mk c ((s++r).size:Nat) [(nm,⟨s++r,y⟩)] false (max (m2-1) 0) k)=Dk.mk c ((s++r).size:Nat) [(nm,⟨s++r,y⟩)] false (max (m2-1) 0) k:=if_neg h2;rw[hb2,hy3 h2] at hsy;have t5:(Dk.mk c ((s++r).size:Nat) [(nm,⟨s++r,s.size⟩)] false m2 k).thereE nm=0:=t4.trans (if_neg h2);simp only[F3,hap,hape,hsy,t5,if_true];exact⟨trivial,rfl⟩
end
section
open Go.RowKit
theorem Aby(id p e:Nat)(y:List UInt8):Aq (bl (H6 id p e++y)) 8=a0z p∧Aq (bl (H6 id p e++y)) 9=a0z e∧Aq (bl (H6 id p e++y)) 10=a0z (e/256):=by
 refine⟨?_,?_,?_⟩<;>rw[Ky]<;>rfl
theorem Abz(id p e:Nat)(y:List UInt8)(h:id<18446744073709551616):D7 (bl (H6 id p e++y)) 8=id:=by
 have h1:=bE id ([a0z p,a0z e,a0z (e/256)]++y) 8 (a1z _);rw[show bl (H6 id p e++y)=bl (Gk id++([a0z p,a0z e,a0z (e/256)]++y)) by unfold H6;rw[a1x],h1];exact Nat.mod_eq_of_lt (by simpa using h)
theorem Ab0(j:Aj):Aw j=bl (H6 j.id j.phase.toNat j.e.toNat++j.input.data.toList):=by
 unfold Aw
 conv=>lhs;rw[←M5 j.input]
 rw[Ln]
theorem Q5{j:Aj}(hj:Gy j)(hb:Ea j=false)(hs:¬60000<j.input.size):D3 (Aw j)=(j,0):=by
 obtain⟨id,p,x,inp⟩:=j;unfold Ea at hb;simp only[Bool.or_eq_false_iff,decide_eq_false_iff_not] at hb;obtain⟨⟨⟨h1,h2⟩,h3⟩,h4⟩:=hb;simp only at hs;have hid:id<18446744073709551616:=hj.id;have hsz:=Ov ⟨id,p,x,inp⟩;simp only at hsz
 obtain⟨pn,rfl⟩:∃n:Nat,p=n:=⟨p.toNat,by omega⟩
 obtain⟨xn,rfl⟩:∃n:Nat,x=n:=⟨x.toNat,by omega⟩
 have e0:=Ab0 ⟨id,pn,xn,inp⟩;simp only[Int.toNat_natCast] at e0;obtain⟨a8,a9,a10⟩:=Aby id pn xn inp.data.toList;rw[←e0] at a8 a9 a10;have hn:=Abz id pn xn inp.data.toList hid;rw[←e0] at hn
 have v8:(a0z pn).toNat=pn:=by rw[a0x];omega
 have v9:(a0z xn).toNat=xn%256:=by rw[a0x]
 have v10:(a0z (xn/256)).toNat=xn/256:=by rw[a0x];omega
 have hex:(Aw ⟨id,pn,xn,inp⟩).extract 11 (Aw ⟨id,pn,xn,inp⟩).size=inp:=by
  rw[e0,Zf _ _ _ (Xx _ _ _).symm,M5]
 unfold D3 Ou Gz;rw[hn,hex,a8,a9,a10,v8,v9,v10,hsz];rw[if_neg]
 ·have:xn%256+xn/256*256=xn:=by omega
  rw[this]
 ·simp only[Bool.or_eq_true,decide_eq_true_eq];omega
theorem Ab1{nm:ByteArray}{c:Int}{s r:ByteArray}(hx:Dl nm=true)(hc:(s.size:Int)+r.size≤c):
  (Cd nm c ⟨s,s.size⟩).wAppend nm r=(Cd nm c ⟨s++r,(s++r).size⟩,0):=by
 have hsr:(s++r).size=s.size+r.size:=a0v;obtain⟨e1,e1'⟩:=Z5 (d:=Cd nm c ⟨s,s.size⟩) (x:=nm) (s:=r) rfl rfl hx (Hn rfl) hc
 have s1:(Cd nm c ⟨s,s.size⟩).set nm (Gh r ⟨s,s.size⟩) false=Cd nm c ⟨s++r,s.size⟩:=by
  show(Dk.mk c s.size [(nm,⟨s,s.size⟩)] false 0 0).set nm ⟨s++r,s.size⟩ false=_;rw[Z7 (f:=⟨s,s.size⟩) rfl];rfl
 rw[s1] at e1;obtain⟨e2,e2'⟩:=lA (nm:=nm) (c:=c) (f:=⟨s++r,s.size⟩) hx;unfold Dk.wAppend Po;simp only[F3,e1,e1',e2,e2',if_true];rfl
def Br(c:Int)(texts:List ByteArray):Dk:=Cd Dv c ⟨bl (A0 texts),Be texts⟩
def Cf(texts:List ByteArray):Lg:=⟨Dv,texts.length,false⟩
def Q6(texts:List ByteArray):Prop:=∀t∈texts,(D3 t).2=0∧t.size≤65535
theorem Ws:Dl Dv=true:=by decide
theorem Wt:¬(Dv.size=0∨59<Dv.size):=by decide
theorem Q7{c:Int}{texts:List ByteArray}(h0:c≤1000000000)(hc:(Be texts:Int)≤c):Ak (Br c texts):=by
 have hsz:(bl (A0 texts)).size=Be texts:=by rw[D1,Ic]
 have ht:total [(Dv,(⟨bl (A0 texts),Be texts⟩:A5))]=Be texts:=by simp[total,hsz]
 refine⟨?_,?_,h0,by simp[Br,Cd,Bh],?_,by simp[Br,Cd],Int.le_refl _,(by show(0:Int)≤9223372036854775807;decide),(by show(-9223372036854775808:Int)≤0;decide),(by show(0:Int)≤9223372036854775807;decide)⟩
 ·show((bl (A0 texts)).size:Int)=((total [(Dv,(⟨bl (A0 texts),Be texts⟩:A5))]:Nat):Int)
  rw[ht,hsz]
 ·show((total [(Dv,(⟨bl (A0 texts),Be texts⟩:A5))]:Nat):Int)≤c;rw[ht];exact hc
 ·intro p hp
  have:p=(Dv,(⟨bl (A0 texts),Be texts⟩:A5)):=by simpa [Br,Cd] using hp
  subst this;show Be texts≤(bl (A0 texts)).size;rw[hsz];exact a1z _
theorem lF{c:Int}{texts:List ByteArray}:((Br c texts).read Dv).1.size=Be texts:=by
 unfold Br;rw[Z6 Ws];show(bl (A0 texts)).size=_;rw[D1,Ic]
theorem lG{c:Int}{texts:List ByteArray}(h:Q6 texts)(hc:2*(Be texts:Int)≤c):(Br c texts).wOpen Dv=(Br c texts,0,texts):=
 lD Wt (fun x hx=>(h x hx).2) hc
theorem lH{c:Int}(hc:0≤c):(Dk.new c).wOpen Dv=(Br c [],0,[]):=by
 have h:=Abw (nm:=Dv) (c:=c) Wt hc
 have e:Dk.new c=Og c:=by unfold Dk.new Og;rw[Int.max_eq_left hc]
 rw[e,h];rfl
theorem Ab2{c:Int}{texts:List ByteArray}{s:ByteArray}(hs:s.size≤65535)(hc:(Be texts:Int)+6+s.size≤c):
  Gg (Cf texts) (Br c texts) [s]=(Cf (texts++[s]),Br c (texts++[s]),0):=by
 have hsz:(bl (A0 texts)).size=Be texts:=by rw[D1,Ic]
 have hr:(bl (A0 [s])).size=6+s.size:=by rw[D1,Ic];rfl
 have h1:=Ab1 (nm:=Dv) (c:=c) (s:=bl (A0 texts)) (r:=bl (A0 [s])) Ws (by rw[hsz,hr];omega);have hby:Ie [s]=(bl (A0 [s]),0):=Zw (by intro t ht;rw[List.mem_singleton.1 ht];exact hs)
 have hcat:bl (A0 texts)++bl (A0 [s])=bl (A0 (texts++[s])):=by rw[Ln,←We]
 rw[hcat] at h1
 have hsz2:(bl (A0 (texts++[s]))).size=Be (texts++[s]):=by rw[D1,Ic]
 rw[hsz,hsz2] at h1;unfold Gg I8;rw[show(Cf texts).off=false from rfl,hby,if_neg (by decide),if_neg (by simp)];have hw:(Br c texts).wAppend (Cf texts).name (bl (A0 [s]))=(Br c (texts++[s]),0):=h1;simp only[hw,if_true];unfold Cf;simp only[a0w,List.length_cons,List.length_nil]
theorem lI{c:Int}{texts:List ByteArray}{j:Aj}(hj:Gy j)(hb:Ea j=false)(hs:¬60000<j.input.size)(h:Q6 texts)(hc:(Be texts:Int)+17+j.input.size≤c):
  Dp (Br c texts) (Cf texts) (An texts) j=⟨Br c (texts++[Aw j]),Cf (texts++[Aw j]),An (texts++[Aw j]),0⟩∧Q6 (texts++[Aw j])∧An (texts++[Aw j])=Eb (An texts) j:=by
 have he:Ba j=(Aw j,0):=by unfold Ba;rw[hb,if_neg (by decide),if_neg hs]
 have hsz:=Ov j;have hd:=Q5 hj hb hs;have ha:=Ab2 (c:=c) (texts:=texts) (s:=Aw j) (by omega) (by omega)
 have hj2:An (texts++[Aw j])=Eb (An texts) j:=by rw[Qb,hd]
 refine⟨?_,?_,hj2⟩
 ·rw[Xi he ha,hj2]
 ·intro t ht
  rcases List.mem_append.1 ht with h1|h1
  ·exact h t h1
  ·rw[List.mem_singleton.1 h1,hd];exact⟨rfl,by omega⟩
theorem Z8(texts:List ByteArray)(j:Aj):Be (texts++[Aw j])=Be texts+17+j.input.size:=by
 rw[To];show Be texts+(6+(Aw j).size+0)=_;rw[Ov];omega
end
section
open Go.RowKit Go.Lib
theorem Ab3{w:World}{g a b c:Nat}(hg:w.heap[g]?=some (.cells #[.int .u8 a,.int .u8 b,.int .u8 c] 5 (0,0)))(ha:a<256)(hb:b<256)(hc:c<256):
  (convert 113 9 (.slice (some ⟨g,0,none⟩) 3 3)).run Tryz.prog w=.ok (.string (bl [a0z a,a0z b,a0z c])) w:=by
 refine Nu (cap:=3) (n:=3) (f:=fun j=>[a0z a,a0z b,a0z c].getD j 0) ⟨Ab hg,fun j hj=>?_,fun j _=>Ar hg j⟩
 have h3:j=0∨j=1∨j=2:=by omega
 rcases h3 with rfl|rfl|rfl
 ·rw[Aa hg];show _ =some (A4 (a0z a));rw[Ja ha];rfl
 ·rw[Aa hg];show _ =some (A4 (a0z b));rw[Ja hb];rfl
 ·rw[Aa hg];show _ =some (A4 (a0z c));rw[Ja hc];rfl
theorem Ab4(n:Nat):a0z (n%256)=a0z n:=by
 apply UInt8.toNat_inj.1;rw[a0x,a0x];omega
theorem Z9(w:World)(j:Aj)(hj:Gy j):
  Calls Tryz.prog 18 #[Bq j] w fun e w'=>e=.returned (.tuple #[.string (Ba j).1,.int .i64 (Ba j).2])∧Fp [] w w':=by
 obtain⟨id,p,x,inp⟩:=j;obtain⟨hid,hp0,hp1,hx0,hx1,hin⟩:=hj;simp only at hid hp0 hp1 hx0 hx1 hin;have HF1:Hid (Fp [] w (w.alloc (.cells #[.int .u64 id,.int .i64 p,.int .i64 x,.string inp] 46))):=a0u (Fp.alloc _ _);unfold Bq Bo;simp only
 have hbad:∀y:Int,Ea ⟨id,p,x,inp⟩=true→Ba ⟨id,p,x,inp⟩=(⟨#[]⟩,1):=fun _ h=>by unfold Ba;rw[if_pos h]
 by_cases c1:p<1
 ·have HE:=a0u (hbad 0 (by simp[Ea,c1]));go_enter Tryz.func18,Tryz.ntmps18;go_wp2_with (fail);go_ret2;rw[HE.out];exact⟨rfl,HF1.out⟩
 by_cases c2:5<p
 ·have HE:=a0u (hbad 0 (by simp[Ea,c2]));go_enter Tryz.func18,Tryz.ntmps18;go_wp2_with (fail);go_ret2;rw[HE.out];exact⟨rfl,HF1.out⟩
 by_cases c3:x<0
 ·have HE:=a0u (hbad 0 (by simp[Ea,c3]));go_enter Tryz.func18,Tryz.ntmps18;go_wp2_with (fail);go_ret2;rw[HE.out];exact⟨rfl,HF1.out⟩
 by_cases c4:65535<x
 ·have HE:=a0u (hbad 0 (by simp[Ea,c4]));go_enter Tryz.func18,Tryz.ntmps18;go_wp2_with (fail);go_ret2;rw[HE.out];exact⟨rfl,HF1.out⟩
 have hbj:Ea ⟨id,p,x,inp⟩=false:=by unfold Ea;simp only[Bool.or_eq_false_iff,decide_eq_false_iff_not];exact⟨⟨⟨c1,c2⟩,c3⟩,c4⟩
 by_cases c5:60000<inp.size
 ·have HE:Hid (Ba ⟨id,p,x,inp⟩=(⟨#[]⟩,71)):=by unfold Hid Ba;rw[hbj,if_neg (by simp),if_pos c5]
  have z5:(60000:Int)<(inp.size:Int):=by omega
  clear hbj;go_enter Tryz.func18,Tryz.ntmps18;go_wp2_with (fail);go_ret2;rw[HE.out];exact⟨rfl,HF1.out⟩
 have HE:Hid (Ba ⟨id,p,x,inp⟩=(Aw ⟨id,p,x,inp⟩,0)):=by unfold Hid Ba;rw[hbj,if_neg (by simp),if_neg c5]
 have z5:¬(60000:Int)<(inp.size:Int):=by omega
 obtain⟨pn,rfl⟩:∃n:Nat,p=n:=⟨p.toNat,by omega⟩
 obtain⟨xn,rfl⟩:∃n:Nat,x=n:=⟨x.toNat,by omega⟩
 have hxn:xn≤65535:=by omega
 have u1:IntKind.u8.wrap (pn:Int)=(pn:Int):=by rw[a2w];omega
 obtain⟨y,hy⟩:∃y,xn%256=y:=⟨_,rfl⟩
 obtain⟨z,hz⟩:∃z,xn/256=z:=⟨_,rfl⟩
 have m1:(xn:Int).tmod 256=(y:Int):=by rw[Int.tmod_eq_emod_of_nonneg (by omega)];omega
 have m2:(xn:Int).tdiv 256=(z:Int):=by rw[Int.tdiv_eq_ediv_of_nonneg (by omega)];omega
 have u2:IntKind.u8.wrap (y:Int)=(y:Int):=by rw[a2w];omega
 have w3:IntKind.i64.wrap (z:Int)=(z:Int):=by rw[IntKind.wrap_i64];omega
 have u3:IntKind.u8.wrap (z:Int)=(z:Int):=by rw[a2w];omega
 have HN:=a0u (fun w=>nP id false w hid);have hnz:(bl (Uk id false)).size=8:=rfl;have CV:=a0u (fun(w:World) (g:Nat) hg=>Ab3 (w:=w) (g:=g) (a:=pn) (b:=y) (c:=z) hg (by omega) (by omega) (by omega))
 obtain⟨b1,hb1⟩:∃b,bl (Uk id false)=b:=⟨_,rfl⟩
 obtain⟨b2,hb2⟩:∃b,bl [a0z pn,a0z y,a0z z]=b:=⟨_,rfl⟩
 have hb2z:b2.size=3:=by rw[←hb2];rfl
 have HEQ:Hid (b1++b2++inp=Aw ⟨id,pn,xn,inp⟩):=by
  unfold Hid Aw H6;simp only[Int.toNat_natCast];rw[←hb1,←hb2,Ln,←hy,←hz,Ab4];rfl
 rw[hb1] at HN hnz;rw[hb2] at CV;have HB0:Hid ((w.alloc (.cells #[.int .u64 id,.int .i64 pn,.int .i64 xn,.string inp] 46)).heap[w.heap.size]?=some (.cells #[.int .u64 id,.int .i64 pn,.int .i64 xn,.string inp] 46 (0,0))):=a0u (Ai rfl _)
 obtain⟨w0,hw0⟩:∃x,w.alloc (.cells #[.int .u64 id,.int .i64 pn,.int .i64 xn,.string inp] 46)=x:=⟨_,rfl⟩
 rw[hw0] at HB0 HF1;have a1:w0.cell? ⟨w.heap.size,1,none⟩=some (.int .i64 pn):=Aa HB0.out 1;have a2:w0.cell? ⟨w.heap.size,2,none⟩=some (.int .i64 xn):=Aa HB0.out 2;have a3:w0.cell? ⟨w.heap.size,3,none⟩=some (.string inp):=Aa HB0.out 3
 have hb12:(b1++b2).size=11:=by rw[a0v];omega
 have zn1:¬9223372036854775807<b1.size+b2.size:=by omega
 have zn2:¬9223372036854775807<11+inp.size:=by omega
 clear hbj hid hp0 hx0 hx1 hbad hb1 hb2 hy hz;go_enter Tryz.func18,Tryz.ntmps18;go_wp2_with (fail);refine F9 (fun _ w'=>Fp [] w0 w') (Fp []) (by kernel_rfl) (by kernel_rfl) (Fp.drew _) ?_
 iterate 14
  apply Bi (fun _ _ h=>h) rfl rfl rfl
  ·intro b a w hC hA K hK
   try have h1:=hA.fr 1 rfl
   try have h26:=hA.eq 0 26 rfl
   try have h27:=hA.eq 1 27 rfl
   try have h29:=hA.eq 3 29 rfl
   try have h30:=hA.eq 4 30 rfl
   try have h32:=hA.eq 6 32 rfl
   try have h33:=hA.eq 7 33 rfl
   try have h34:=hA.eq 8 34 rfl
   try have h36:=hA.eq 10 36 rfl
   try have h37:=hA.eq 11 37 rfl
   try have h38:=hA.eq 12 38 rfl
   have hbx:=(hC.block _ (Ab HB0.out) (by simp)).trans HB0.out;have k0:=Aa hbx 0;have k1:=Aa hbx 1;have k2:=Aa hbx 2;have k3:=Aa hbx 3;simp only[a2v,a1u,a2z] at k0 k1 k2 k3;simp only[Oper.wp,execOp];go_simp
   first
   |exact hK _ hC (Fp.refl _ _)
   |(with_reducible refine(HN.out _).mono ?_)
    rintro e w2 ⟨rfl,hf⟩;exact hK _ (hC.trans hf (by simp)) hf
 apply He (fun w' v=>∃g,v=.slice (some ⟨g,0,none⟩) 3 3∧w'.heap[g]?=some (.cells #[.int .u8 pn,.int .u8 y,.int .u8 z] 5 (0,0))) rfl rfl rfl
 ·intro b a w hC hA K hK;have h31:=hA.eq 5 31 rfl;have h35:=hA.eq 9 35 rfl;have h39:=hA.eq 13 39 rfl;simp only[Oper.wp,execOp];go_simp;exact hK _ _ (hC.alloc' _) (Fp.alloc _ _) ⟨_,rfl,Ai rfl _⟩
 apply Bi (fun _ _ h=>h) rfl rfl rfl
 ·intro b a w hC hA K hK;have h40:=hA.dep 14 40 _ (by kernel_rfl) rfl;obtain⟨g,h40,hg⟩:=h40;have hcv:=CV.out _ _ hg;simp only[Oper.wp,execOp];go_simp;exact hK _ hC (Fp.refl _ _)
 iterate 6
  apply Bi (fun _ _ h=>h) rfl rfl rfl
  ·intro b a w hC hA K hK
   try have h28:=hA.eq 2 28 rfl
   try have h41:=hA.eq 15 41 rfl
   try have h1:=hA.fr 1 rfl
   try have h43:=hA.eq 17 43 rfl
   try have h42:=hA.eq 16 42 rfl
   try have h44:=hA.eq 18 44 rfl
   try have h45:=hA.eq 19 45 rfl
   have hbx:=(hC.block _ (Ab HB0.out) (by simp)).trans HB0.out;have k0:=Aa hbx 0;have k1:=Aa hbx 1;have k2:=Aa hbx 2;have k3:=Aa hbx 3;simp only[a2v,a1u,a2z] at k0 k1 k2 k3;simp only[Oper.wp,execOp];go_simp;exact hK _ hC (Fp.refl _ _)
 refine⟨?_,?_⟩
 ·repeat(first|exact trivial|refine Cc _ ?_ |refine⟨fun w1 w2 v hf ⟨g,h1,h2⟩=>⟨g,h1,(hf.block g (Ab h2) (by simp)).trans h2⟩,?_⟩)
 ·intro w' bb hC hbb;simp only[List.reverse_cons,List.reverse_nil,List.nil_append,List.cons_append]
  iterate 14 (refine Au ?_)
  refine Az ?_;intro v14 u14
  iterate 7 (refine Au ?_)
  refine A6 ?_;simp only[Am,Act.put,List.setIfInBounds_toArray,List.set_cons_succ,List.set_cons_zero];have HF5:=a0u (HF1.out.trans hC (by simp));clear hC;go_wp2_with (fail);go_ret2;rw[HE.out,←HEQ.out];exact⟨rfl,HF5.out⟩
end
section
open Go.RowKit
structure Ii(T:TypeId)(z x:Array Value)(i p:Nat)(w0:World)(b:Nat→Bool)(vs:Nat→Value)(w:World):Prop where
 fp:Fp [] w0 w
 ai:b i=true→∃B,vs i=.pointer (some ⟨B,0,none⟩)∧w0.heap.size≤B∧w.heap[B]?=some (.cells (if b p=true then x else z) T (0,0))
variable {T : TypeId} {z x : Array Value} {i p : Nat} {w0 : World} {b : Nat → Bool} {vs : Nat → Value} {w w2 : World}
theorem Ii.start{vs:Nat→Value}(h:Fp [] w0 w):Ii T z x i p w0 (fun _=>false) vs w:=⟨h,fun h=>by cases h⟩
theorem Ii.plain{k:Nat}{v:Value}(h:Ii T z x i p w0 b vs w)(hk:k≠i∧k≠p):Ii T z x i p w0 (Ap b k) (Bw vs k v) w:=by
 obtain⟨h1,h3⟩:=hk;refine⟨h.fp,?_⟩;rw[Af h1.symm,Af h3.symm,Bc h1.symm];exact h.ai
theorem Ii.on(h:Ii T z x i p w0 b vs w)(hf:Fp [] w w2):Ii T z x i p w0 b vs w2:=by
 refine⟨h.fp.trans hf (by simp),fun hb=>?_⟩;obtain⟨B,h1,h2,h3⟩:=h.ai hb;exact⟨B,h1,h2,(hf.block B (Ab h3) (by simp)).trans h3⟩
theorem Ii.make(h:Ii T z x i p w0 b vs w)(hp:b p=false)(hd:i≠p):Ii T z x i p w0 (Ap b i) (Bw vs i (.pointer (some ⟨w.heap.size,0,none⟩))) (w.alloc (.cells z T)):=by
 have h2:=h.on (Fp.alloc w (.cells z T));refine⟨h2.fp,fun _=>⟨w.heap.size,Gq _ _ _,h.fp.size,?_⟩⟩;rw[Af hd.symm,hp];exact Ai rfl _
theorem Ii.fill(h:Ii T z x i p w0 b vs w)(hi:b i=true){B:Nat}(hv:vs i=.pointer (some ⟨B,0,none⟩))(hf:Fp [B] w w2)(hx:w2.heap[B]?=some (.cells x T (0,0)))(hd:p≠i):Ii T z x i p w0 (Ap b p) (Bw vs p undef) w2:=by
 obtain⟨B',h1,h2,h3⟩:=h.ai hi
 have hB:B=B':=by rw[h1] at hv;injection hv with e;injection e with e;injection e with e;exact e.symm
 subst hB;refine⟨h.fp.trans hf (by simp;omega),fun _=>⟨B,?_,h2,?_⟩⟩
 ·rw[Bc hd.symm];exact h1
 ·rw[Ej,if_pos rfl];exact hx
end
end Go.Proofs.YtkagolpnaicdoaaGreatDoor
