/-
 merge.Sort. cut: Borders. Lists whose elements are slices of the call's own: as they lie; append of one; 'out = append(out, f(x))' beside a store: the class of worlds on the way (for XRegionV). cut: Clone of cells, Search of a row, Split.
-/
import Derived.Test.YtkagolpnaicdoaaGreatDoorMMrgF
import Derived.Test.YtkagolpnaicdoaaGreatDoorMWalB
import Derived.Test.YtkagolpnaicdoaaGreatDoorMRunD
import Derived.Test.YtkagolpnaicdoaaGreatDoorMWalD
import Derived.Test.YtkagolpnaicdoaaGreatDoorMTabG
set_option maxRecDepth 100000
set_option maxHeartbeats 8000000
open Go.Lib renaming hid→a0z
open Nat renaming le_trans→a0x,not_lt_zero→a0u
open List renaming getElem?_eq_getElem→a0w,getD_eq_getElem?_getD→a0v,mem_of_mem_drop→a1z
namespace Go.Proofs.YtkagolpnaicdoaaGreatDoor
section
open Go.RowKit Go.Lib
theorem cZ(sz len s:Nat):((C3 sz len s).map (·.2)).sum≤len-s:=by
 by_cases h:s<len∧0<sz
 ·rw[Nj h.1 h.2,List.map_cons,List.sum_cons];have:=cZ sz len (s+sz);simp only;omega
 ·rw[C3,if_neg h];simp
 termination_by len-s
theorem qR{l:List Ad}{rs:List (List Ad)}{m:Nat}(ho:B8 l)(hm:0<m)(ha:C9 (fun x r=>B7 (Ju l x) r) (C3 m l.length 0) rs):Jj l rs∧(rs.map (·.length)).sum≤l.length:=by
 refine⟨⟨fun r hr=>?_,fun r hr z hz=>?_,fun y hy=>?_⟩,?_⟩
 ·obtain⟨x,_,h1⟩:=ha.memR hr;exact h1.ris
 ·obtain⟨x,_,h1⟩:=ha.memR hr;exact a1z (List.mem_of_mem_take (h1.sub z hz))
 ·obtain⟨i,hi,e⟩:=List.mem_iff_getElem.1 hy;obtain⟨x,hx,h1,h2⟩:=Xg m l.length 0 hm i (Nat.zero_le _) hi;obtain⟨r,hr,hres⟩:=ha.memL hx
  have hzf:y∈Ju l x:=by
   unfold Ju;refine List.mem_iff_getElem.2 ⟨i-x.1,?_,?_⟩
   ·rw[List.length_take,List.length_drop];omega
   ·rw[List.getElem_take,List.getElem_drop]
    have:x.1+(i-x.1)=i:=by omega
    simp only[this];exact e
  obtain⟨z2,hz2,hs2,hp2⟩:=hres.cover y hzf;exact⟨r,hr,z2,hz2,hs2,hp2⟩
 ·have h1:=cW (f:=fun x=>x.2) ha fun x r hr=>by
   have:=hr.len (eU ho x);unfold Ju at this;rw[List.length_take] at this;exact a0x this (Nat.min_le_left _ _)
  exact a0x h1 (cZ m l.length 0)
theorem dA(l:List Ac):(Dp l).length=l.length:=Oj l _
theorem qS(w:World)(a:Option Addr)(n cap m wid:Nat)(l:List Ac)(hl:Bn w a n l)(hn:n<20)(h0:0<n)(hm0:0<m)(hm:m<2^63)(hw0:2≤wid)(hw:wid<2^63):
  Calls Tryz.prog 49 #[.slice a n cap,.int .i64 m,.int .i64 wid] w fun e w'=>∃v r k,e=.returned (.tuple #[v,.int .i64 k,.int .i64 0])∧B7 (Dp l) r∧A4 w' w.heap.size v (r.map (·.c))∧Fp [] w w':=by
 have HMK:=a0z (eW w a n cap m l hl (by omega) hm0 hm h0);have HLN:=a0z hl.len;have HIO:=a0z (U1 hl.ok (by have:=hl.len;omega));clear hl;go_enter Tryz.func49,Tryz.ntmps49;go_wp2_with (fail);(with_reducible refine HMK.out.mono ?_);rintro e w1 ⟨v1,rs,rfl,ho1,ha1,hf1⟩;obtain⟨a1,c1,rfl,hc1,hno1,hr1⟩:=ho1.at
 have hil:n=(Dp l).length:=by rw[dA];exact HLN.out
 rw[hil] at ha1;have hmade:=qR HIO.out hm0 ha1;have hrl:rs.length=(C3 m (Dp l).length 0).length:=ha1.length_eq.symm;have h2:=Ux m (Dp l).length 0
 have hpos:0<(C3 m (Dp l).length 0).length:=by rw[Nj (by omega) hm0];simp
 have HALL:=a0z (qN w1 a1 rs.length c1 wid (Dp l) rs hr1 hmade.1 HIO.out (by omega) (by omega) hc1 hw0 hw (by omega));have HF1:=a0z hf1;clear ho1 ha1 hc1 hno1 hr1 hil hmade hrl h2 hpos hf1;go_wp2_with (fail);(with_reducible refine HALL.out.mono ?_);rintro e w2 ⟨v2,r,k,rfl,hres,ho2,hf2⟩;obtain⟨a2,c2,rfl,hno2,hc2,hq2⟩:=ho2.at;have hrl:=hres.len HIO.out;rw[dA] at hrl;have HC:=a0z (cX w2 a2 r.length c2 r hq2 (fun x hx=>HIO.out x (hres.sub x hx)) (by have:=HLN.out;omega));have HRES:=a0z hres;have HF2:=a0z (HF1.out.trans hf2 (by simp));clear ho2 hno2 hc2 hq2 hrl hres hf2;go_wp2_with (fail);(with_reducible refine HC.out.mono ?_);rintro e w3 ⟨v3,rfl,ho3,hf3⟩;have HO3:=a0z ho3;have HF3:=a0z (HF2.out.trans hf3 (by simp));clear ho3 hf3;go_wp2_with (fail);refine bodyPost_ret (v:=.tuple #[v3,.int .i64 k,.int .i64 0]) (by simp[results,Tryz.results49,go_sem]) rfl ?_;exact⟨v3,r,k,rfl,HRES.out,HO3.out.mono HF2.out.size,HF3.out⟩
theorem qT(w:World)(v:Value)(m:Int)(hm:m<1):Calls Tryz.prog 85 #[v,.int .i64 m] w fun e w'=>e=.returned (.tuple #[.slice none 0 0,.int .i64 1])∧Fp [] w w':=by
 go_enter Tryz.func85,Tryz.ntmps85;go_wp2_with (fail);have c0:(w.alloc (.cells #[.slice none 0 0] 159)).cell? ⟨w.heap.size,0,none⟩=some (.slice none 0 0):=Aa (Aj rfl _) 0;exact bodyPost_ret (v:=.tuple #[.slice none 0 0,.int .i64 1]) (by simp[results,Tryz.results85,go_sem,c0]) rfl ⟨rfl,Fp.alloc _ _⟩
theorem qU(w:World)(v:Value)(m:Int)(hm:m<2):Calls Tryz.prog 143 #[v,.int .i64 m] w fun e w'=>e=.returned (.tuple #[.slice none 0 0,.int .i64 1])∧Fp [] w w':=by
 go_enter Tryz.func143,Tryz.ntmps143;go_wp2_with (fail);have c0:(w.alloc (.cells #[.slice none 0 0] 159)).cell? ⟨w.heap.size,0,none⟩=some (.slice none 0 0):=Aa (Aj rfl _) 0;exact bodyPost_ret (v:=.tuple #[.slice none 0 0,.int .i64 1]) (by simp[results,Tryz.results143,go_sem,c0]) rfl ⟨rfl,Fp.alloc _ _⟩
theorem qV(w:World)(v:Value)(m:Int)(hm:m<2):Calls Tryz.prog 86 #[v,.int .i64 m] w fun e w'=>e=.returned (.tuple #[.slice none 0 0,.int .i64 0,.int .i64 1])∧Fp [] w w':=by
 have HP:=a0z (qU w v m hm);clear hm;go_enter Tryz.func86,Tryz.ntmps86;go_wp2_with (fail);(with_reducible refine HP.out.mono ?_);rintro e w1 ⟨rfl,hf⟩;have HF:=a0z hf;clear hf;go_wp2_with (fail);exact bodyPost_ret (v:=.tuple #[.slice none 0 0,.int .i64 0,.int .i64 1]) (by simp[results,Tryz.results86,go_sem]) rfl ⟨rfl,HF.out⟩
theorem qW(w:World)(v:Value)(m wid:Int)(hm:m<1):Calls Tryz.prog 49 #[v,.int .i64 m,.int .i64 wid] w fun e w'=>e=.returned (.tuple #[.slice none 0 0,.int .i64 0,.int .i64 1])∧Fp [] w w':=by
 have HP:=a0z (qT w v m hm);clear hm;go_enter Tryz.func49,Tryz.ntmps49;go_wp2_with (fail);(with_reducible refine HP.out.mono ?_);rintro e w1 ⟨rfl,hf⟩;have HF:=a0z hf;clear hf;go_wp2_with (fail);exact bodyPost_ret (v:=.tuple #[.slice none 0 0,.int .i64 0,.int .i64 1]) (by simp[results,Tryz.results49,go_sem]) rfl ⟨rfl,HF.out⟩
theorem qX(w:World)(a:Option Addr)(n cap m:Nat)(wid:Int)(l:List Ac)(hl:Bn w a n l)(hn:n<20)(h0:0<n)(hm0:0<m)(hm:m<2^63)(hw:wid<2):
  Calls Tryz.prog 49 #[.slice a n cap,.int .i64 m,.int .i64 wid] w fun e w'=>∃v,e=.returned (.tuple #[v,.int .i64 0,.int .i64 1])∧Fp [] w w':=by
 have HMK:=a0z (eW w a n cap m l hl (by omega) hm0 hm h0);have HW:=a0z hw;clear hl hw;go_enter Tryz.func49,Tryz.ntmps49;go_wp2_with (fail);(with_reducible refine HMK.out.mono ?_);rintro e w1 ⟨v1,rs,rfl,ho1,ha1,hf1⟩;have HALL:=a0z (qV w1 v1 wid HW.out);have HF1:=a0z hf1;clear ho1 ha1 hf1;go_wp2_with (fail);(with_reducible refine HALL.out.mono ?_);rintro e w2 ⟨rfl,hf2⟩;have HC:=a0z (cX w2 none 0 0 [] (Bz.nil _ _) (fun x hx=>by cases hx) (by omega));have HF2:=a0z (HF1.out.trans hf2 (by simp));clear hf2;go_wp2_with (fail);(with_reducible refine HC.out.mono ?_);rintro e w3 ⟨v3,rfl,ho3,hf3⟩;have HF3:=a0z (HF2.out.trans hf3 (by simp));clear ho3 hf3;go_wp2_with (fail);refine bodyPost_ret (v:=.tuple #[v3,.int .i64 0,.int .i64 1]) (by simp[results,Tryz.results49,go_sem]) rfl ?_;exact⟨v3,rfl,HF3.out⟩
end
section
open Go.RowKit Go.Lib
def Hu(l:List ByteArray)(k:Nat):ByteArray:=l.getD k ⟨#[]⟩
theorem dB{l:List ByteArray}{k:Nat}(h:k<l.length):Hu l k=l[k]:=by unfold Hu;rw[a0v,a0w h];rfl
theorem dC{w:World}{a:Option Addr}{n k:Nat}{l:List ByteArray}(h:Fj w a n l)(hk:k<l.length):∃b o,a=some ⟨b,o,none⟩∧(∀j,j<l.length→∀w',Fp [] w w'→w'.cell? ⟨b,o+j,none⟩=some (.string (Hu l j))):=by
 rcases h.cells with h0|⟨b,o,e,hc⟩
 ·rw[h0] at hk;exact absurd hk (a0u _)
 ·refine⟨b,o,e,fun j hj w' hf=>?_⟩;have h1:=hc j hj;rw[dB hj,hf.cell (World.block_lt_of_cell? _ _ h1) (by simp)];exact h1
def Iq(a b:ByteArray):Bool:=Op.bytesLess a.toList b.toList
def I4(l:List ByteArray)(k:Nat):Bool:=((Hu l k).toList.isEmpty||decide (40<((Hu l k).size:Int)))||(decide (0<k)&&!(Iq (Hu l (k-1)) (Hu l k)))
def G1(l:List ByteArray):Bool:=(List.range l.length).all fun k=>!(I4 l k)
theorem qY{l:List ByteArray}(h:∀j,j<l.length→I4 l j=false):G1 l=true:=by
 unfold G1;rw[List.all_eq_true];intro j hj;rw[h j (List.mem_range.1 hj)];rfl
theorem qZ{l:List ByteArray}{k:Nat}(hk:k<l.length)(h:I4 l k=true):G1 l=false:=by
 cases e:G1 l with
 |false=>rfl
 |true=>
  unfold G1 at e;have:=List.all_eq_true.1 e k (List.mem_range.2 hk);rw[h] at this;cases this
theorem dD(w:World)(a:Option Addr)(n cap:Nat)(l:List ByteArray)(h:Fj w a n l)(hn:n≤1000000):
  Calls Tryz.prog 35 #[.slice a n cap] w fun e w'=>e=.returned (.bool (G1 l))∧Fp [] w w':=by
 have HL:=a0z h;have HLN:=a0z h.len
 obtain⟨R,hR⟩:∃R,G1 l=R:=⟨_,rfl⟩
 rw[hR];have HRES:=a0z hR;clear h hR;go_enter Tryz.func35,Tryz.ntmps35;go_wp2_with (fail)
 go_loopg [7] n (fun gg vi wr=>∃k:Nat,vi=.int .i64 k∧gg+k=n∧(∀j,j<k→I4 l j=false)∧Fp [] w wr)
 case atStart=>exact⟨0,rfl,by omega,(fun j h=>absurd h (a0u _)),Fp.refl _ _⟩
 case round=>
  obtain⟨k,rfl,hg,hb,hf⟩:=hrel;have HF:=a0z hf;have HB:=a0z hb;clear hf hb
  by_cases hk:k<n
  ·have zk:(k:Int)<(n:Int):=by omega
   have n1:IntKind.i64.wrap ((k:Int)+1)=((k+1:Nat):Int):=by rw[IntKind.wrap_i64];omega
   have hkl:k<l.length:=by have:=HLN.out;omega
   obtain⟨b,o,e,hc⟩:=dC HL.out hkl;subst e;have q0:=hc k hkl wr HF.out;have HDEF:Hid (I4 l k=(((Hu l k).toList.isEmpty||decide (40<((Hu l k).size:Int)))||(decide (0<k)&&!(Iq (Hu l (k-1)) (Hu l k))))):=rfl
   have hprev:0<k→wr.cell? ⟨b,o+(k-1),none⟩=some (.string (Hu l (k-1))):=fun h=>hc (k-1) (by omega) wr HF.out
   have HPV:=a0z hprev
   obtain⟨s,hs⟩:∃s,Hu l k=s:=⟨_,rfl⟩
   rw[hs] at q0 HDEF
   obtain⟨be,hbe⟩:∃be,s.toList.isEmpty=be:=⟨_,rfl⟩
   obtain⟨bz,hbz⟩:∃bz,decide (40<(s.size:Int))=bz:=⟨_,rfl⟩
   rw[hbe,hbz] at HDEF;clear hc hs hprev
   have HNEXT:Hid (I4 l k=false→∀j,j<k+1→I4 l j=false):=fun h j hj=>by
    by_cases e:j=k
    ·rw[e];exact h
    ·exact HB.out j (by omega)
   have HSTOP:Hid (I4 l k=true→R=false):=fun h=>HRES.out.symm.trans (qZ hkl h)
   cases be
   ·cases bz
    ·by_cases hk0:k=0
     ·subst hk0;rw[show((0:Nat):Int)=0 from rfl];rw[show((0:Nat):Int)=0 from rfl] at zk;simp only[Nat.add_zero] at q0;have HBAD:Hid (I4 l 0=false):=HDEF.out.trans rfl;go_wp2_with (fail)
      go_roundg (gk-1)
      case measure=>omega
      case rel=>exact⟨0+1,by simp,by omega,HNEXT.out HBAD.out,HF.out⟩
     ·have zk0:(k:Int)>0:=by omega
      have hk1:0<k:=by omega
      have n2:IntKind.i64.wrap ((k:Int)-1)=((k-1:Nat):Int):=by rw[IntKind.wrap_i64];omega
      have q1:=HPV.out hk1
      obtain⟨p,hp⟩:∃p,Hu l (k-1)=p:=⟨_,rfl⟩
      rw[hp] at q1 HDEF
      obtain⟨k1,hk1'⟩:∃k1,k-1=k1:=⟨_,rfl⟩
      rw[hk1'] at q1 n2
      have zk1:(k1:Int)<(n:Int):=by omega
      obtain⟨bl,hbl⟩:∃bl,Op.bytesLess p.toList s.toList=bl:=⟨_,rfl⟩
      have hbl2:Iq p s=bl:=hbl;rw[hbl2,decide_eq_true hk1] at HDEF
      have HCQ:Hid (∀w',Fp [] wr w'→w'.cell? ⟨b,o+k1,none⟩=some (.string p)):=fun w' hf=>by rw[hf.cell (World.block_lt_of_cell? _ _ q1) (by simp)];exact q1
      clear hp hk1' hbl2 hk0;cases bl
      ·have HBAD:Hid (I4 l k=true):=HDEF.out.trans rfl;go_wp2_with (fail);go_ret;exact⟨by rw[HSTOP.out HBAD.out];rfl,HF.out⟩
      ·have HBAD:Hid (I4 l k=false):=HDEF.out.trans rfl;go_wp2_with (fail)
       go_roundg (gk-1)
       case measure=>omega
       case rel=>exact⟨k+1,by simp,by omega,HNEXT.out HBAD.out,HF.out⟩
    ·have HBAD:Hid (I4 l k=true):=HDEF.out.trans (by simp);go_wp2_with (fail);go_ret;exact⟨by rw[HSTOP.out HBAD.out];rfl,HF.out⟩
   ·have HBAD:Hid (I4 l k=true):=HDEF.out.trans (by simp);go_wp2_with (fail);go_ret;exact⟨by rw[HSTOP.out HBAD.out];rfl,HF.out⟩
  ·have zk:¬(k:Int)<(n:Int):=by omega
   have HY:Hid (R=true):=HRES.out.symm.trans (qY fun j hj=>HB.out j (by have:=HLN.out;omega));go_wp2_with (fail);go_ret;exact⟨by rw[HY.out];rfl,HF.out⟩
end
section
open Go.RowKit Go.Lib
theorem C9.nth{α β:Type}{P:α→β→Prop}{l:List α}{m:List β}(h:C9 P l m):∀i (h1:i<l.length) (h2:i<m.length),P l[i] m[i]:=by
 induction h with
 |nil=>intro i h1;exact absurd h1 (a0u _)
 |cons hp _ ih=>
  intro i h1 h2
  cases i with
  |zero=>exact hp
  |succ i=>exact ih i (by simpa using h1) (by simpa using h2)
structure N7(β:Type) where
 T:TypeId
 e:TypeId
 k:TypeId
 P:World→Nat→Value→β→Prop
 mono:∀{w base base' v x},P w base v x→base'≤base→P w base' v x
 kept:∀{w w' base S v x},P w base v x→An k base S w w'→P w' base v x
 sl:∀{w base v x},P w base v x→∃a n c,v=.slice a n c
 lt:∀{w base v x},P w base v x→∀q,v.ownBlock=some q→base≤q∧q<w.heap.size
 und:Tryz.prog.underlying T=some (.slice e)
 info:(Tryz.prog.info? e).map (fun i=>(i.zero,i.size,i.bytes))=some (some (.slice none 0 0),1,24)
 ne:k≠e
section
variable {β : Type} {E : N7 β}
def Q7(vals:List Value):Prop:=vals.Pairwise fun u v=>∀q,u.ownBlock=some q→v.ownBlock≠some q
def Di(E:N7 β)(W:World)(base:Nat)(v:Value)(xs:List β):Prop:=∃vals,Bg E.e W base v vals∧C9 (fun v x=>E.P W base v x) vals xs∧Q7 vals
def N8(E:N7 β)(W:World)(base N:Nat)(v:Value)(xs:List β):Prop:=∃vals,Bg E.e W base v vals∧C9 (fun v x=>E.P W base v x) vals xs∧Q7 vals∧∀u∈vals,∀q,u.ownBlock=some q→q<N
theorem Di.mono{W:World}{base base':Nat}{v:Value}{xs:List β}(h:Di E W base v xs)(hb:base'≤base):Di E W base' v xs:=by
 obtain⟨vals,h1,h2,h3⟩:=h;exact⟨vals,h1.mono hb,Ks (fun _ _ h=>E.mono h hb) h2,h3⟩
theorem Di.fp{W W':World}{base:Nat}{S:List Nat}{v:Value}{xs:List β}(h:Di E W base v xs)(hf:Fp S W W')(hS:∀k∈S,k<base):Di E W' base v xs:=by
 obtain⟨vals,h1,h2,h3⟩:=h;exact⟨vals,h1.fp hf hS,Ks (fun _ _ h=>E.kept h (An.of hf hS)) h2,h3⟩
theorem N8.fp{W W':World}{base N:Nat}{S:List Nat}{v:Value}{xs:List β}(h:N8 E W base N v xs)(hf:Fp S W W')(hS:∀k∈S,k<base):N8 E W' base N v xs:=by
 obtain⟨vals,h1,h2,h3,h4⟩:=h;exact⟨vals,h1.fp hf hS,Ks (fun _ _ h=>E.kept h (An.of hf hS)) h2,h3,h4⟩
theorem C9.memQ{α β:Type}{P:α→β→Prop}{l:List α}{m:List β}(h:C9 P l m){x:α}(hx:x∈l):∃r,P x r:=by
 induction h with
 |nil=>cases hx
 |cons hp _ ih=>
  rcases List.mem_cons.1 hx with e|e
  ·rw[e];exact⟨_,hp⟩
  ·exact ih e
theorem Di.toN{W:World}{base:Nat}{v:Value}{xs:List β}(h:Di E W base v xs):N8 E W base W.heap.size v xs:=by
 obtain⟨vals,h1,h2,h3⟩:=h;refine⟨vals,h1,h2,h3,fun u hu q hq=>?_⟩;obtain⟨r,hr⟩:=h2.memQ hu;exact(E.lt hr q hq).2
theorem Di.nil(W:World)(base:Nat):Di E W base (.slice none 0 0) []:=⟨[],Bg.nil _ _ _,.nil,List.Pairwise.nil⟩
theorem Di.slice{W:World}{base:Nat}{v:Value}{xs:List β}(h:Di E W base v xs):∃a cap,v=.slice a xs.length cap:=by
 obtain⟨vals,h1,h2,_⟩:=h;obtain⟨⟨a,cap,e⟩,_⟩:=h1.at;exact⟨_,_,by rw[e,h2.length_eq]⟩
theorem Di.get{W:World}{base:Nat}{v:Value}{xs:List β}(h:Di E W base v xs){i:Nat}(hi:i<xs.length):∃g cap,v=.slice (some ⟨g,0,none⟩) xs.length cap∧xs.length≤cap∧g<W.heap.size∧base≤g∧∀j (hj:j<xs.length),∃u,W.cell? ⟨g,j,none⟩=some u∧E.P W base u xs[j]:=by
 obtain⟨vals,h1,h2,_⟩:=h;have hl:=h2.length_eq
 rcases h1.2 with⟨_,h3⟩|⟨g,cap,cur,hv,hg,hh,hc,_,_,ht⟩
 ·omega
 ·refine⟨g,cap,by rw[hv,hl],by omega,Ab hh,hg,fun j hj=>⟨vals[j]'(by omega),?_,h2.nth j (by omega) hj⟩⟩
  have h4:(cur.toList.take (vals.length*1))[j]?=vals[j]?:=by rw[ht]
  rw[Nat.mul_one,List.getElem?_take,if_pos (by omega),Array.getElem?_toList,a0w (by omega)] at h4;rw[Aa hh];exact h4
theorem Xh{w:World}{g:Nat}{t:Value}(hg:w.cell? ⟨g,0,none⟩=some t):∀(j:Nat) (u:Value),[t][j]?=some u→w.cell? ((⟨g,0,none⟩:Addr).add j)=some u:=by
 intro j u hu
 have hj:j=0:=by
  have:=(List.getElem?_eq_some_iff.1 hu).1
  simpa using this
 subst hj;simp at hu;subst hu
 have e1:(⟨g,0,none⟩:Addr).add 0=⟨g,0,none⟩:=by unfold Addr.add;split<;>simp_all
 rw[e1];exact hg
theorem dE{w w':World}{base:Nat}{vals:List Value}{xs:List β}{v v':Value}{t:Value}{x:β}(hv:Bg E.e w base v vals)(hr:C9 (fun v x=>E.P w base v x) vals xs)(htr:E.P w base t x)(hsep:Q7 vals){N:Nat}(hlt:∀u∈vals,∀q,u.ownBlock=some q→q<N)(hnew:∀q,t.ownBlock=some q→N≤q)(hbase:base≤w.heap.size)
  (h1:w'.ownsRow base E.e 1 v' (vals.length+1) (vals++[t]))(h2:w.grownBy w' v.ownBlock):Di E w' base v' (xs++[x])∧Below base w w'∧(∀D,D≠E.e→An D base [] w w'):=by
 have hkd:∀D,D≠E.e→An D base [] w w':=fun D hD=>U6 hD hv h2 hbase
 have hk:=hkd _ E.ne;refine⟨⟨vals++[t],?_,Rw (Ks (fun _ _ h=>E.kept h hk) hr) (E.kept htr hk),?_⟩,(Below.refl base w).grown h2 hbase (fun k hk=>(World.ownsRow.lt hv k hk).1),hkd⟩
 ·unfold Bg;rw[List.length_append];exact h1
 ·refine List.pairwise_append.2 ⟨hsep,List.pairwise_singleton _ _,fun u hu t' ht' q hq e=>?_⟩;rw[List.mem_singleton.1 ht'] at e;have:=hlt u hu q hq;have:=hnew q e;omega
theorem Ue(E:N7 β){w:World}{o:Oper}{a:Act}{K:Act→World→Prop}{Q:Exit→Act→World→Prop}(s x:Operand)
  (ho:o.op=.call {callee:=.builtin .append,args:=#[s,x],argTypes:=#[E.T,E.T]})(base:Nat)(v:Value)(xs:List β)(hs:a.eval s=v){N:Nat}(hown:N8 E w base N v xs)
  (g:Nat)(t:Value)(r:β)(htr:E.P w base t r)(hnew:∀q,t.ownBlock=some q→N≤q)(hx:a.eval x=.slice (some ⟨g,0,none⟩) 1 1)(hg:w.cell? ⟨g,0,none⟩=some t)(hlen:xs.length+1≤1000000000)(hbase:base≤w.heap.size)
  (h:∀v' w',Di E w' base v' (xs++[r])→Below base w w'→(∀D,D≠E.e→An D base [] w w')→K (a.put o.dst v') w'):o.wp Tryz.prog a w K Q:=by
 obtain⟨vals,hv,hr,hsep,hlt⟩:=hown;have hvl:=hr.length_eq;obtain⟨i0,hi,hz0,hz1,hz2⟩:=info_parts E.info;obtain⟨ta,tn,tc,rfl⟩:=E.sl htr;refine wp_append_own (P:=Tryz.prog) w s x E.T ho base E.e i0 _ 1 24 E.und hi hz0 hz1 hz2 rfl (by decide) v vals.length vals hs hv ⟨g,0,none⟩ 1 1 [.slice ta tn tc] hx rfl (Xh hg) (by intro u hu;simp at hu;subst hu;rfl) (by unfold maxLen;omega) (by omega) hbase ?_;intro v' w' h1 h2 _;obtain⟨g1,g2,g3⟩:=dE hv hr htr hsep hlt hnew hbase h1 h2;exact h v' w' g1 g2 g3
theorem rA(E:N7 β){w:World}{ops:Array Oper}{rest:List Oper}{o:Oper}{a:Act}{Q:Exit→Act→World→Prop}(hgd:o.guard=none)(s x:Operand)
  (ho:o.op=.call {callee:=.builtin .append,args:=#[s,x],argTypes:=#[E.T,E.T]})(base:Nat)(v:Value)(xs:List β)(hs:a.eval s=v){N:Nat}(hown:N8 E w base N v xs)
  (g:Nat)(t:Value)(r:β)(htr:E.P w base t r)(hnew:∀q,t.ownBlock=some q→N≤q)(hx:a.eval x=.slice (some ⟨g,0,none⟩) 1 1)(hg:w.cell? ⟨g,0,none⟩=some t)(hlen:xs.length+1≤1000000000)(hbase:base≤w.heap.size)
  (h:∀v' w',Di E w' base v' (xs++[r])→Below base w w'→(∀D,D≠E.e→An D base [] w w')→wpList Tryz.prog ops Q rest (a.put o.dst v') w'):wpList Tryz.prog ops Q (o::rest) a w:=by
 obtain⟨vals,hv,hr,hsep,hlt⟩:=hown;have hvl:=hr.length_eq;obtain⟨i0,hi,hz0,hz1,hz2⟩:=info_parts E.info;obtain⟨ta,tn,tc,rfl⟩:=E.sl htr;refine wpList_append_own w hgd s x E.T ho base E.e i0 _ 1 24 E.und hi hz0 hz1 hz2 rfl (by decide) v vals.length vals hs hv ⟨g,0,none⟩ 1 1 [.slice ta tn tc] hx rfl (Xh hg) (by intro u hu;simp at hu;subst hu;rfl) (by unfold maxLen;omega) (by omega) hbase ?_;intro v' w' h1 h2 _;obtain⟨g1,g2,g3⟩:=dE hv hr htr hsep hlt hnew hbase h1 h2;exact h v' w' g1 g2 g3
structure D4(E:N7 β)(G:β→Prop)(w W0:World)(base cl:Nat)(Tc:TypeId)(X:Bool→Value→Value)(ic ib ia is:Nat)(v:Value)(xs:List β)(b:Nat→Bool)(vs:Nat→Value)(W:World):Prop where
 own0:b ia=false→N8 E W base W0.heap.size v xs
 own1:b ia=true→∃r,G r∧Di E W base (vs ia) (xs++[r])
 res:b ic=true→b ia=false→∃r,G r∧E.P W base (vs ic) r∧∀q,(vs ic).ownBlock=some q→W0.heap.size≤q
 bld:b ib=true→b ia=false→∃g,vs ib=.slice (some ⟨g,0,none⟩) 1 1∧W.cell? ⟨g,0,none⟩=some (vs ic)
 cel:W.heap[cl]?=some (.cells #[X (b is) (vs ia)] Tc (0,0))
 keptD:∀D,D≠E.e→An D base [cl] W0 W
 fp:Fp [] w W
 o54:b is=true→b ia=true
 o43:b ia=true→b ib=true
 o32:b ib=true→b ic=true
 sz:base≤W.heap.size
structure Pz(ic ib ia is:Nat):Prop where
 a:ic≠ib
 b:ic≠ia
 c:ic≠is
 d:ib≠ia
 e:ib≠is
 f:ia≠is
variable {G : β → Prop} {w W0 W W2 : World} {base cl : Nat} {Tc : TypeId} {X : Bool → Value → Value} {ic ib ia is : Nat} {v : Value} {xs : List β} {b : Nat → Bool} {vs : Nat → Value}
theorem D4.kept(h:D4 E G w W0 base cl Tc X ic ib ia is v xs b vs W):An E.k base [cl] W0 W:=h.keptD _ E.ne
theorem D4.start{vs:Nat→Value}(ho:Di E W0 base v xs){x0:Value}(hc:W0.heap[cl]?=some (.cells #[x0] Tc (0,0)))(hX:∀u,X false u=x0)(hf:Fp [] w W0)(hb:base≤W0.heap.size)(hcl:cl<base):D4 E G w W0 base cl Tc X ic ib ia is v xs (fun _=>false) vs {W0 with drawn:=W0.drawn+1}:=
 ⟨fun _=>ho.toN.fp (Fp.drew W0) (by simp),(fun h=>by cases h),(fun h=>by cases h),(fun h=>by cases h),by rw[hX];exact hc,fun _ _=>An.of ((Fp.drew W0).mono (by simp)) (by simpa using hcl),hf.trans (Fp.drew W0) (by simp),(fun h=>by cases h),(fun h=>by cases h),(fun h=>by cases h),hb⟩
theorem D4.plain{k:Nat}{x:Value}(h:D4 E G w W0 base cl Tc X ic ib ia is v xs b vs W)(hk:k≠ic∧k≠ib∧k≠ia∧k≠is):D4 E G w W0 base cl Tc X ic ib ia is v xs (Ao b k) (Bv vs k x) W:=by
 obtain⟨h2,h3,h4,h5⟩:=hk;refine⟨?_,?_,?_,?_,?_,h.keptD,h.fp,?_,?_,?_,h.sz⟩
 ·rw[Af h4.symm];exact h.own0
 ·rw[Af h4.symm,Be h4.symm];exact h.own1
 ·rw[Af h4.symm,Af h2.symm,Be h2.symm];exact h.res
 ·rw[Af h4.symm,Af h3.symm,Be h3.symm,Be h2.symm];exact h.bld
 ·rw[Af h5.symm,Be h4.symm];exact h.cel
 ·rw[Af h5.symm,Af h4.symm];exact h.o54
 ·rw[Af h4.symm,Af h3.symm];exact h.o43
 ·rw[Af h3.symm,Af h2.symm];exact h.o32
theorem D4.first(h:D4 E G w W0 base cl Tc X ic ib ia is v xs b vs W)(h4:b ia=false):∃u,W.heap[cl]?=some (.cells #[X false u] Tc (0,0)):=by
 have:=h.cel;rw[Em h.o54 h4] at this;exact⟨_,this⟩
theorem D4.call{r:β}{vr:Value}(h:D4 E G w W0 base cl Tc X ic ib ia is v xs b vs W)(hi:Pz ic ib ia is)(h2:b ic=false)(hf:Fp [] W W2)(hg:G r)(hr:E.P W2 W.heap.size vr r):D4 E G w W0 base cl Tc X ic ib ia is v xs (Ao b ic) (Bv vs ic vr) W2:=by
 have h3:=Em h.o32 h2;have h4:=Em h.o43 h3;have h5:=Em h.o54 h4;refine⟨fun _=>(h.own0 h4).fp hf (by simp),fun e=>?_,fun _ _=>⟨r,hg,by rw[Gp];exact E.mono hr h.sz,by rw[Gp];exact fun q hq=>a0x h.kept.size (E.lt hr q hq).1⟩,fun e=>?_,?_,fun D hD=>(h.keptD D hD).trans (An.of (hf.mono (by simp):Fp [] W W2) (by simp)) (by simp),h.fp.trans hf (by simp),fun e=>?_,fun e=>?_,fun _=>Ei _ _,a0x h.sz hf.size⟩
 ·rw[Af hi.b.symm,h4] at e;cases e
 ·rw[Af hi.a.symm,h3] at e;cases e
 ·rw[Af hi.c.symm,Be hi.b.symm];exact(hf.block _ (Ab h.cel) (by simp)).trans h.cel
 ·rw[Af hi.c.symm,h5] at e;cases e
 ·rw[Af hi.b.symm,h4] at e;cases e
theorem D4.build(h:D4 E G w W0 base cl Tc X ic ib ia is v xs b vs W)(hi:Pz ic ib ia is)(h2:b ic=true)(h3:b ib=false):D4 E G w W0 base cl Tc X ic ib ia is v xs (Ao b ib) (Bv vs ib (.slice (some ⟨W.heap.size,0,none⟩) 1 1)) (W.alloc (.cells #[vs ic] E.e)):=by
 have h4:=Em h.o43 h3;have h5:=Em h.o54 h4;have hf:=Fp.alloc W (.cells #[vs ic] E.e);refine⟨fun _=>(h.own0 h4).fp hf (by simp),fun e=>?_,fun _ _=>?_,fun _ _=>⟨W.heap.size,Gp _ _ _,?_⟩,?_,fun D hD=>(h.keptD D hD).trans (An.of (hf.mono (by simp):Fp [] W _) (by simp)) (by simp),h.fp.trans hf (by simp),fun e=>?_,fun e=>?_,fun e=>?_,a0x h.sz hf.size⟩
 ·rw[Af hi.d.symm,h4] at e;cases e
 ·obtain⟨r,hg,hr,hq⟩:=h.res h2 h4;exact⟨r,hg,by rw[Be hi.a];exact E.kept hr (An.of hf (by simp)),by rw[Be hi.a];exact hq⟩
 ·rw[Be hi.a,Aa (Aj rfl _)];rfl
 ·rw[Af hi.e.symm,Be hi.d.symm];exact C7 h.cel
 ·rw[Af hi.e.symm,h5] at e;cases e
 ·rw[Af hi.d.symm,h4] at e;cases e
 ·rw[Af hi.a];exact h2
theorem D4.append{r:β}{v':Value}(h:D4 E G w W0 base cl Tc X ic ib ia is v xs b vs W)(hi:Pz ic ib ia is)(h3:b ib=true)(h4:b ia=false)(hg:G r)(ho:Di E W2 base v' (xs++[r]))(hb:Below base W W2)(hk:∀D,D≠E.e→An D base [] W W2)(hcl:cl<base)(hwb:w.heap.size≤base)(hX:∀u u',X false u=X false u'):
  D4 E G w W0 base cl Tc X ic ib ia is v xs (Ao b ia) (Bv vs ia v') W2:=by
 have h5:=Em h.o54 h4;refine⟨fun e=>?_,fun _=>⟨r,hg,by rw[Gp];exact ho⟩,fun _ e=>?_,fun _ e=>?_,?_,fun D hD=>(h.keptD D hD).trans (hk D hD) (by simp),h.fp.belowTrans (hb.mono hwb),fun e=>?_,fun _=>?_,fun e=>?_,a0x h.sz hb.size⟩
 ·rw[Ei] at e;cases e
 ·rw[Ei] at e;cases e
 ·rw[Ei] at e;cases e
 ·rw[Af hi.f.symm,h5,Gp,hX v' (vs ia)];have h6:=h.cel;rw[h5] at h6;exact(hb.block _ hcl).trans h6
 ·rw[Af hi.f.symm,h5] at e;cases e
 ·rw[Af hi.d];exact h3
 ·rw[Af hi.b];exact h.o32 h3
theorem D4.store{y:Value}(h:D4 E G w W0 base cl Tc X ic ib ia is v xs b vs W)(hi:Pz ic ib ia is)(h4:b ia=true)(hcl:cl<base)(hwb:w.heap.size≤cl)(hy:X true (vs ia)=y):D4 E G w W0 base cl Tc X ic ib ia is v xs (Ao b is) (Bv vs is undef) (W.setCell ⟨cl,0,none⟩ y):=by
 have hf:Fp [cl] W (W.setCell ⟨cl,0,none⟩ y):=Fp.setCell W ⟨cl,0,none⟩ y;refine⟨fun e=>?_,fun _=>?_,fun _ e=>?_,fun _ e=>?_,?_,fun D hD=>(h.keptD D hD).trans (An.of hf (by simpa using hcl)) (by simp),h.fp.trans hf (by intro i hi;right;simp at hi;omega),fun _=>?_,fun e=>?_,fun e=>?_,a0x h.sz hf.size⟩
 ·rw[Af hi.f,h4] at e;cases e
 ·obtain⟨r,hg,hr⟩:=h.own1 h4;exact⟨r,hg,by rw[Be hi.f];exact hr.fp hf (by simpa using hcl)⟩
 ·rw[Af hi.f,h4] at e;cases e
 ·rw[Af hi.f,h4] at e;cases e
 ·rw[Ei,Be hi.f,hy];exact(Bt h.cel _).trans rfl
 ·rw[Af hi.f];exact h4
 ·rw[Af hi.e];exact h.o43 h4
 ·rw[Af hi.c];rw[Af hi.e] at e;exact h.o32 e
end
theorem Tryz.infoCelL:(Tryz.prog.info? 78).map (fun i=>(i.zero,i.size,i.bytes))=some (some (.slice none 0 0),1,24):=by kernel_rfl
theorem A4.keptT{w w':World}{base:Nat}{S:List Nat}{v:Value}{l:List Ac}(h:A4 w base v l)(hk:An 80 base S w w'):A4 w' base v l:=by
 refine h.kept fun k hk'=>?_
 rcases h.2 with⟨rfl,_⟩|⟨g,cap,cur,rfl,hg,hh,_⟩
 ·cases hk'
 ·obtain rfl:g=k:=by simpa [Value.ownBlock] using hk'
  exact hk.high _ _ _ hg hh
def E8:N7 (List Ac) where
 T:=149
 e:=78
 k:=80
 P:=A4
 mono:=fun h hb=>A4.mono h hb
 kept:=fun h hk=>h.keptT hk
 sl:=fun h=>by
  rcases h.2 with⟨rfl,_⟩|⟨g,cap,cur,rfl,_⟩
  ·exact⟨_,_,_,rfl⟩
  ·exact⟨_,_,_,rfl⟩
 lt:=fun h=>A4.lt h
 und:=Tryz.underlying149
 info:=Tryz.infoCelL
 ne:=by decide
end
section
open Go.RowKit Go.Lib
theorem Q8(w:World)(a:Option Addr)(n cap:Nat)(l:List Ac)(hat:Bn w a n l)(hnone:a=none→cap=0)(hn:n≤1000000):
  Calls Tryz.prog 136 #[.slice a n cap] w fun e w'=>∃v',e=.returned v'∧A4 w' w.heap.size v' l∧Fp [] w w':=by
 have HAT:=a0z hat;have hln:n=l.length:=hat.len
 have q22:∀(w:World) (a:Option Addr) (n c n' c':Nat),(binOp .eql 78 (.slice a n c) (.slice none n' c')).run Tryz.prog w=.ok (.bool a.isNone) w:=fun w a n c n' c'=>Lib.run_eql_slice_nil w _ _ a n c n' c' Tryz.underlying78
 cases a with
 |none=>
  obtain rfl:=hnone rfl
  have hl0:l=[]:=by
   rcases hat.cells with h|⟨b,o,h,_⟩
   ·exact h
   ·cases h
  subst hl0;have hn0:n=0:=hln;subst hn0;clear hln hat hnone hn;go_enter Tryz.func136,Tryz.ntmps136;go_wp2_with (fail);go_ret;exact⟨_,rfl,A4.nil _ _,Fp.refl _ _⟩
 |some ad=>
  have HLN:=a0z hln;clear hat hnone hln;go_enter Tryz.func136,Tryz.ntmps136;go_wp2_with (at_builtin;refine X8 rfl _ _ rfl w.heap.size _ [] rfl (A4.made w _ (Nat.le_refl _)) _ _ _ l rfl (HAT.out.fp (Fp.alloc _ _)) (by intro h;cases h) (by have:=HLN.out;simp;omega) (by simp) ?_;intro v2 w2 hown2 hbel2;have HO2:=a0z hown2;have HB2:=a0z hbel2;clear hown2 hbel2);go_ret;exact⟨_,rfl,HO2.out,(Fp.alloc w _).belowTrans (HB2.out.mono (by simp))⟩
theorem rB(w:World)(b2 b7:Nat)(a:Option Addr)(n cap i:Nat)(l:List Ac)(s:ByteArray)(hb2:w.heap[b2]?=some (.cells #[.slice a n cap] 78 (0,0)))(hb7:w.heap[b7]?=some (.cells #[.string s] 9 (0,0)))(hl:Bn w a n l)(hi:i<n):
  Calls Tryz.prog 146 #[.int .i64 i,.pointer (some ⟨b2,0,none⟩),.pointer (some ⟨b7,0,none⟩)] w fun e w'=>e=.returned (.bool (!(Iq (l.getD i Bo).row s)))∧Fp [] w w':=by
 have hil:i<l.length:=by rw[←hl.len];exact hi
 obtain⟨b1,o1,e,_,hc⟩:=O1 hl hil;subst e
 have e2:l.getD i Bo=l[i]:=by rw[a0v,a0w hil];rfl
 rw[e2]
 obtain⟨c,hcc⟩:∃c,l[i]=c:=⟨_,rfl⟩
 rw[hcc] at hc ⊢;obtain⟨row,col,ts,seq,del,val⟩:=c;have HCE:=a0z hc;have HB2:=a0z hb2;have HB7:=a0z hb7
 have zi:(i:Int)<(n:Int):=by omega
 obtain⟨bl,hbl⟩:∃bl,Op.bytesLess row.toList s.toList=bl:=⟨_,rfl⟩
 have hbl2:Iq row s=bl:=hbl;simp only;rw[hbl2];clear hc hb2 hb7 hcc e2 hl hbl2;go_enter Tryz.func146,Tryz.ntmps146;go_wp2_with (fail);refine Dy (by kernel_rfl) (by kernel_rfl) ?_
 iterate 8
  apply A9 rfl rfl rfl
  ·intro a w hC hA K hK
   try have h1:=hA.fr 1 rfl
   try have h0:=hA.fr 0 rfl
   try have h5:=hA.eq 0 5 rfl
   try have h6:=hA.eq 1 6 rfl
   try have h7:=hA.eq 2 7 rfl
   try have h8:=hA.eq 3 8 rfl
   try have h2:=hA.fr 2 rfl
   try have h9:=hA.eq 4 9 rfl
   try have h10:=hA.eq 5 10 rfl
   try have h11:=hA.eq 6 11 rfl
   obtain⟨k0,k1,k2,k3,k4,k5⟩:=HCE.out _ hC;simp only at k0;have p2:=Aa ((hC.block _ (Ab HB2.out) (by simp)).trans HB2.out) 0;have p7:=Aa ((hC.block _ (Ab HB7.out) (by simp)).trans HB7.out) 0;simp only[List.getElem?_toArray,List.getElem?_cons_zero] at p2 p7;simp only[Oper.wp,execOp];go_simp;exact hK _ hC (Fp.refl _ _)
 refine⟨?_,?_⟩
 ·repeat(first|exact trivial|refine Dj _ ?_ |refine⟨fun w1 w2 v _ hf ⟨g,h1,h2⟩=>⟨g,h1,(hf.block g (Ab h2) (by simp)).trans h2⟩,?_⟩)
 ·intro w' hC;simp only[List.reverse_cons,List.reverse_nil,List.nil_append,List.cons_append]
  iterate 8 (refine Aq ?_)
  refine A8 ?_;simp only[Am,Act.put,List.setIfInBounds_toArray,List.set_cons_succ,List.set_cons_zero];have HC:=a0z hC;clear hC;go_wp2_with (fail);go_ret;exact⟨rfl,HC.out⟩
theorem rC(w:World)(n b2 b7:Nat)(p:Nat→Bool)(hn:n≤1000000)
  (hcl:∀i W,i<n→Fp [] w W→Calls Tryz.prog 146 #[.int .i64 i,.pointer (some ⟨b2,0,none⟩),.pointer (some ⟨b7,0,none⟩)] W fun e W'=>e=.returned (.bool (p i))∧Fp [] W W'):
  Calls Tryz.prog 145 #[.int .i64 n,.func (.func 146) #[] #[.pointer (some ⟨b2,0,none⟩),.pointer (some ⟨b7,0,none⟩)]] w fun e w'=>
   ∃h:Nat,e=.returned (.int .i64 h)∧h≤n∧(h<n→p h=true)∧(0<h→p (h-1)=false)∧Fp [] w w':=by
 have HCL:=a0z hcl;clear hcl;go_enter Tryz.func145,Tryz.ntmps145;go_wp2_with (fail)
 go_loopg [5,6] n (fun g vi vj wr=>∃i j:Nat,g=j-i∧i≤j∧j≤n∧vi=.int .i64 i∧vj=.int .i64 j∧(j<n→p j=true)∧(0<i→p (i-1)=false)∧Fp [] w wr)
 case atStart=>exact⟨0,n,by omega,by omega,Nat.le_refl _,rfl,rfl,fun h=>absurd h (Nat.lt_irrefl _),fun h=>absurd h (Nat.lt_irrefl _),Fp.refl _ _⟩
 case round=>
  obtain⟨i,j,rfl,hij,hjn,rfl,rfl,hpj,hpi,hf⟩:=hrel;have HF:=a0z hf;have HPJ:=a0z hpj;have HPI:=a0z hpi;clear hf hpj hpi
  by_cases hlt:i<j
  ·have z:(i:Int)<(j:Int):=by omega
   obtain⟨m,hm⟩:∃m,(i+j)/2=m:=⟨_,rfl⟩
   have e1:((i:Int)+(j:Int))/2=(m:Int):=by omega
   have hmi:i≤m:=by omega
   have hmj:m<j:=by omega
   clear hm;go_wp2_with (fail);(with_reducible refine(HCL.out m _ (by omega) HF.out).mono ?_);rintro e w2 ⟨rfl,hf⟩;have HF2:=a0z (HF.out.trans hf (by simp));clear hf;cases hp:p m
   ·have HP:=a0z hp;clear hp;go_wp2_with (fail)
    go_roundg (j-(m+1))
    case measure=>omega
    case rel=>exact⟨m+1,j,rfl,by omega,hjn,by simp,rfl,HPJ.out,fun _=>HP.out,HF2.out⟩
   ·have HP:=a0z hp;clear hp;go_wp2_with (fail)
    go_roundg (m-i)
    case measure=>omega
    case rel=>exact⟨i,m,rfl,by omega,by omega,rfl,rfl,fun _=>HP.out,HPI.out,HF2.out⟩
  ·obtain rfl:i=j:=by omega
   have z:¬(i:Int)<(i:Int):=by omega
   go_wp2_with (fail);go_ret;exact⟨i,rfl,hjn,HPJ.out,HPI.out,HF.out⟩
inductive E9:List Ac→List ByteArray→List (List Ac)→Prop
 |nil (l:List Ac):E9 l [] [l]
 |cons (l:List Ac) (s:ByteArray) (bs:List ByteArray) (out:List (List Ac)) (h:Nat):h≤l.length→(h<l.length→Iq (l.getD h Bo).row s=false)→(0<h→Iq (l.getD (h-1) Bo).row s=true)→E9 (l.drop h) bs out→E9 l (s::bs) (l.take h::out)
inductive I5:List Ac→List ByteArray→List (List Ac)→List Ac→Prop
 |nil (l:List Ac):I5 l [] [] l
 |snoc (l:List Ac) (bs:List ByteArray) (out:List (List Ac)) (r:List Ac) (s:ByteArray) (h:Nat):I5 l bs out r→h≤r.length→(h<r.length→Iq (r.getD h Bo).row s=false)→(0<h→Iq (r.getD (h-1) Bo).row s=true)→I5 l (bs++[s]) (out++[r.take h]) (r.drop h)
theorem I5.join{l r:List Ac}{bs:List ByteArray}{out:List (List Ac)}(h:I5 l bs out r):∀{bs2:List ByteArray} {out2:List (List Ac)},E9 r bs2 out2→E9 l (bs++bs2) (out++out2):=by
 induction h with
 |nil=>exact fun h=>h
 |snoc bs out r s h _ h1 h2 h3 ih=>
  intro bs2 out2 h4;rw[List.append_assoc,List.append_assoc];exact ih (E9.cons r s bs2 out2 h h1 h2 h3 h4)
theorem I5.all{l r:List Ac}{bs:List ByteArray}{out:List (List Ac)}(h:I5 l bs out r):E9 l bs (out++[r]):=by
 have:=h.join (E9.nil r);rw[List.append_nil] at this;exact this
theorem I5.sub{l r:List Ac}{bs:List ByteArray}{out:List (List Ac)}(h:I5 l bs out r):r.length≤l.length∧(∀c∈r,c∈l)∧out.length=bs.length:=by
 induction h with
 |nil=>exact⟨Nat.le_refl _,fun c h=>h,rfl⟩
 |snoc bs out r s h _ h1 h2 h3 ih=>exact⟨by rw[List.length_drop];omega,fun c hc=>ih.2.1 c (a1z hc),by simp[ih.2.2]⟩
end
end Go.Proofs.YtkagolpnaicdoaaGreatDoor
