/-
 wal: Open. job.Driver: at, Find, Jobs, Off. job.Driver: put. job.Driver: tell.
-/
import Derived.Test.YtkagolpnaicdoaaGreatDoorPWalB
set_option maxRecDepth 100000
set_option maxHeartbeats 8000000
open Go.Lib renaming hid->a0z
open List renaming not_mem_nil->a0x,mem_cons->a0w,getElem?_cons_succ->a0u,getElem?_cons_zero->a1z,getElem?_toArray->a1x,setIfInBounds_toArray->a1w
open Nat renaming le_trans->a0v
namespace Go.Proofs.YtkagolpnaicdoaaGreatDoor
section
open Go.RowKit Go.Lib Go.Maps Go.MapKept Go.ChangeMaps
theorem rY:∀(n a:Nat) (s:ByteArray),∀x∈Jq n a s,x.1≤s.size
 |0,_,_,x,h=>by cases h
 |n+1,a,s,x,h=>by
  obtain⟨⟨t,k,e⟩,f⟩:∃x,B4 (s.extract a s.size)=x:=⟨_,rfl⟩
  by_cases g:e=0
  ·subst g;have i:=Wn f;rw[Pe f] at h
   rcases List.mem_cons.1 h with rfl|h
   ·exact i.2.1
   ·exact rY n _ s x h
  ·rw[Pg f g] at h;cases h
theorem Aiq(s:ByteArray):Gm (Dy s)<=s.size:=by
 unfold Gm
 cases h:(Dy s).getLast? with
 |none=>exact Nat.zero_le _
 |some x=>exact rY _ _ s x (List.mem_of_getLast? h)
theorem rZ{d:Dk}{name:ByteArray}(h:name.size=0∨59<name.size):d.wOpen name=(d,1,[]):=if_pos h
theorem Air{d:Dk}{name s:ByteArray}{x:Int}(h:¬(name.size=0∨59<name.size))(a:d.read name=(s,x))(g:x≠0)(f:x≠3):d.wOpen name=(d,x,[]):=by
 unfold Dk.wOpen;rw[if_neg h,a,if_pos ⟨g,f⟩]
theorem Ais{d a:Dk}{name s:ByteArray}{x y:Int}(h:¬(name.size=0∨59<name.size))(g:d.read name=(s,x))(f:¬(x≠0∧x≠3))
  (i:(if x=3∨Gm (Dy s)<s.size then d.wWrite name (s.extract 0 (Gm (Dy s))) else(d.sync name,d.thereE name))=(a,y)):d.wOpen name=(a,y,if y=0 then(Dy s).map (·.2) else[]):=by
 unfold Dk.wOpen;rw[if_neg h,g,if_neg f];simp only[i]
def Wz(w:World)(b bm:Nat)(name:ByteArray)(r:Dk × Int × List ByteArray)(e:Ending)(w':World):Prop:=
 Ak w' b bm r.1/\Fp [b,bm] w w'/\((r.2.1≠0/\e=.returned (.tuple #[.pointer none,.slice none 0 0,.int .i64 r.2.1]))∨
  (r.2.1=0/\∃L v,e=.returned (.tuple #[.pointer (some ⟨L,0,none⟩),v,.int .i64 0])/\w.heap.size<=L/\Dh w' L b ⟨name,r.2.2.length,false⟩/\Db w' w.heap.size v r.2.2))
theorem Ait(w:World)(b bm:Nat)(d:Dk)(name:ByteArray)(hd:Ak w b bm d)(U:Av d)(X:name.size≤1000)(ht:Dl w)(T:(d.read name).1.size≤100000000):
  Calls Tryz.prog 61 #[.pointer (some ⟨b,0,none⟩),.string name] w fun e w'=>Wz w b bm name (d.wOpen name) e w':=by
 have ao:=Ac hd.cells;have an:=hd.files.lt;have HD:=a0z hd;have HT:=a0z ht;clear hd ht
 by_cases h0:name.size=0
 ·rw[rZ (Or.inl h0)];obtain rfl:name=⟨#[]⟩:=ByteArray.ext (Array.eq_empty_of_size_eq_zero h0);go_enter Tryz.func61,Tryz.ntmps61;go_wp2_with (fail);refine bodyPost_ret (v:=.tuple #[.pointer none,.slice none 0 0,.int .i64 1]) (by simp[results,Tryz.results61,go_sem]) rfl ?_;exact⟨HD.out,Fp.refl _ _,Or.inl ⟨(show(1:Int)≠0 by decide),rfl⟩⟩
 by_cases aa:59<name.size
 ·rw[rZ (Or.inr aa)];have he:=Rl (Nat.pos_of_ne_zero h0)
  have ag:(name.toList==([]:List UInt8))=false:=by
   rw[beq_eq_false_iff_ne];intro e;rw[e] at he;cases he
  have z:(59:Int)<(name.size:Int):=by omega
  clear h0;go_enter Tryz.func61,Tryz.ntmps61;go_wp2_with (fail);refine bodyPost_ret (v:=.tuple #[.pointer none,.slice none 0 0,.int .i64 1]) (by simp[results,Tryz.results61,go_sem]) rfl ?_;exact⟨HD.out,Fp.refl _ _,Or.inl ⟨(show(1:Int)≠0 by decide),rfl⟩⟩
 have u:¬(name.size=0∨59<name.size):=by omega
 have he:=Rl (Nat.pos_of_ne_zero h0)
 have ag:(name.toList==([]:List UInt8))=false:=by
  rw[beq_eq_false_iff_ne];intro e;rw[e] at he;cases he
 have am:¬(59:Int)<(name.size:Int):=by omega
 have HR:=a0z (Ahs w b bm d name HD.out (by unfold maxLen;omega))
 obtain⟨⟨s,x⟩,hr⟩:∃r,d.read name=r:=⟨_,rfl⟩
 rw[hr] at HR T;simp only at T
 by_cases Q:x≠0/\x≠3
 ·rw[Air u hr Q.1 Q.2]
  have b0:((x:Int)!=0)=true:=by simpa using Q.1
  have b3:((x:Int)!=3)=true:=by simpa using Q.2
  have HX:=a0z Q.1;clear Q u hr h0 aa he;go_enter Tryz.func61,Tryz.ntmps61;go_wp2_with (fail);(with_reducible refine HR.out.mono ?_);rintro e w1 ⟨rfl,f⟩;have p:=a0z f;clear f;go_wp2_with (fail);refine bodyPost_ret (v:=.tuple #[.pointer none,.slice none 0 0,.int .i64 x]) (by simp[results,Tryz.results61,go_sem]) rfl ?_;exact⟨HD.out.of_fp p.out (by simp) (by simp),p.out.mono (by simp),Or.inl ⟨HX.out,rfl⟩⟩
 ·obtain⟨⟨d2,y⟩,hg⟩:∃r,(if x=3∨Gm (Dy s)<s.size then d.wWrite name (s.extract 0 (Gm (Dy s))) else(d.sync name,d.thereE name))=r:=⟨_,rfl⟩
  rw[Ais u hr Q hg];have C:Hid (∀w,Dl w->_):=a0z (fun w ht=>pN w s T ht);have ah:=Aiq s
  have ac:x=0∨x=3:=by omega
  have J:(s.extract 0 (Gm (Dy s))).size=Gm (Dy s):=by rw[ByteArray.size_extract];omega
  obtain⟨en,ad⟩:∃en,Gm (Dy s)=en:=⟨_,rfl⟩
  obtain⟨l,hl⟩:∃l,(Dy s).map (·.2)=l:=⟨_,rfl⟩
  rw[ad] at hg ah C J;rw[hl] at C ⊢
  obtain⟨tx,S⟩:∃tx,(if y=0 then l else[])=tx:=⟨_,rfl⟩
  rw[S];have aj:=a0z S;have HG:=a0z hg;have ak:=a0z u;have R:=a0z J;clear Q u hr h0 aa he hg ad hl J S
  have ab:Hid (∀W L,Fp [] w W→Dh W L b ⟨name,l.length,false⟩→
    ((x=3∨en<s.size)->Calls Tryz.prog 114 #[.pointer (some ⟨L,0,none⟩),.string (s.extract 0 en)] W fun e w'=>e=.returned (.int .i64 y)/\Ak w' b bm d2/\Fp [b,bm] W w')/\
    (¬(x=3∨en<s.size)->Calls Tryz.prog 115 #[.pointer (some ⟨b,0,none⟩),.string name] W fun e w'=>e=.returned (.int .i64 y)/\Ak w' b bm d2/\Fp [b,bm] W w')):=a0z (fun W L hf Z=>by
   have ae:=HD.out.of_fp hf (by simp) (by simp);refine⟨fun hc=>?_,fun hc=>?_⟩
   ·have h:=Aid W b bm L ⟨name,l.length,false⟩ d (s.extract 0 en) ae U X (by rw[R.out];omega) Z;have I:=HG.out;rw[if_pos hc] at I;simp only[I] at h;exact h
   ·have h:=eG W b bm d name ae U (by unfold maxLen;omega);have I:=HG.out;rw[if_neg hc] at I
    injection I with g1 g2
    rw[g1,g2] at h
    exact h)
  have D:Hid (∀W w' L v,Fp [] w W→w.heap.size≤L→Dh W L b ⟨name,l.length,false⟩→Db W w.heap.size v l→Ak w' b bm d2→Fp [b,bm] W w'→
    Wz w b bm name (d2,y,tx) (if y=0 then .returned (.tuple #[.pointer (some ⟨L,0,none⟩),v,.int .i64 0]) else .returned (.tuple #[.pointer none,.slice none 0 0,.int .i64 y])) w'):=a0z (fun W w' L v hf hL Z ho ai a=>by
   refine⟨ai,(hf.mono (S':=[b,bm]) (by simp)).trans a (by intro i hi;exact Or.inl hi),?_⟩
   by_cases q:y=0
   ·right;rw[if_pos q,<-aj.out,if_pos q];exact⟨q,L,v,rfl,hL,Z.fp a (by simp;omega),ho.fp a (by simp;omega)⟩
   ·left;rw[if_neg q]
    exact⟨q,rfl⟩)
  clear HG HD R U
  rcases ac with rfl|rfl
  ·by_cases Y:en<s.size
   ·have z:(en:Int)<(s.size:Int):=by omega
    go_enter Tryz.func61,Tryz.ntmps61;go_wp2_with (fail);(with_reducible refine HR.out.mono ?_);rintro e w1 ⟨rfl,f⟩;have p:=a0z f;have K:=a0z (HT.out.fp f (by simp));clear f;go_wp2_with (fail);(with_reducible refine(C.out _ K.out).mono ?_);rintro e w2 ⟨v,rfl,k,a⟩;obtain⟨⟨G,F,rfl⟩,-⟩:=k.at;have o:Fp [] w (w2.alloc (.cells (Gj b ⟨name,l.length,false⟩) 185)):=(p.out.trans a (by simp)).alloc' _;have n:Dh (w2.alloc (.cells (Gj b ⟨name,l.length,false⟩) 185)) w2.heap.size b ⟨name,l.length,false⟩:=Ai rfl _;have m:w.heap.size<=w1.heap.size:=p.out.size;have g:w.heap.size<=w2.heap.size:=a0v m a.size;have t:Db (w2.alloc (.cells (Gj b ⟨name,l.length,false⟩) 185)) w.heap.size (.slice G l.length F) l:=(k.mono m).fp (Fp.alloc _ _) (by simp);have E:=ab.out _ w2.heap.size o n;have M:=a0z (fun w' h1 h2=>D.out _ w' w2.heap.size (.slice G l.length F) o g n t h1 h2);unfold Gj at E;simp only at E;clear k a o n t m g;have O:=a0z (E.1 (Or.inr Y));clear E Y;go_wp2_with (fail);(with_reducible refine O.out.mono ?_);rintro e P ⟨rfl,B,A⟩;have j:=a0z (M.out P B (by unfold Gj;exact A));clear B A
    by_cases q:y=0
    ·subst q;go_wp2_with (fail);refine bodyPost_ret (v:=.tuple #[.pointer (some ⟨w2.heap.size,0,none⟩),.slice G l.length F,.int .i64 0]) (by simp[results,Tryz.results61,go_sem]) rfl ?_;exact j.out
    ·have af:((y:Int)!=0)=true:=by simpa using q
     have N:Hid (Wz w b bm name (d2,y,tx) (.returned (.tuple #[.pointer none,.slice none 0 0,.int .i64 y])) P):=a0z (by
      have h:=j.out;rw[if_neg q] at h
      exact h)
     clear q;go_wp2_with (fail);refine bodyPost_ret (v:=.tuple #[.pointer none,.slice none 0 0,.int .i64 y]) (by simp[results,Tryz.results61,go_sem]) rfl ?_;exact N.out
   ·have z:¬(en:Int)<(s.size:Int):=by omega
    go_enter Tryz.func61,Tryz.ntmps61;go_wp2_with (fail);(with_reducible refine HR.out.mono ?_);rintro e w1 ⟨rfl,f⟩;have p:=a0z f;have K:=a0z (HT.out.fp f (by simp));clear f;go_wp2_with (fail);(with_reducible refine(C.out _ K.out).mono ?_);rintro e w2 ⟨v,rfl,k,a⟩;obtain⟨⟨G,F,rfl⟩,-⟩:=k.at;have o:Fp [] w (w2.alloc (.cells (Gj b ⟨name,l.length,false⟩) 185)):=(p.out.trans a (by simp)).alloc' _;have n:Dh (w2.alloc (.cells (Gj b ⟨name,l.length,false⟩) 185)) w2.heap.size b ⟨name,l.length,false⟩:=Ai rfl _;have m:w.heap.size<=w1.heap.size:=p.out.size;have g:w.heap.size<=w2.heap.size:=a0v m a.size;have t:Db (w2.alloc (.cells (Gj b ⟨name,l.length,false⟩) 185)) w.heap.size (.slice G l.length F) l:=(k.mono m).fp (Fp.alloc _ _) (by simp);have E:=ab.out _ w2.heap.size o n;have M:=a0z (fun w' h1 h2=>D.out _ w' w2.heap.size (.slice G l.length F) o g n t h1 h2);unfold Gj at E;simp only at E;clear k a o n t m g;have O:=a0z (E.2 (by omega));clear E Y;go_wp2_with (fail);(with_reducible refine O.out.mono ?_);rintro e P ⟨rfl,B,A⟩;have j:=a0z (M.out P B (by unfold Gj;exact A));clear B A
    by_cases q:y=0
    ·subst q;go_wp2_with (fail);refine bodyPost_ret (v:=.tuple #[.pointer (some ⟨w2.heap.size,0,none⟩),.slice G l.length F,.int .i64 0]) (by simp[results,Tryz.results61,go_sem]) rfl ?_;exact j.out
    ·have af:((y:Int)!=0)=true:=by simpa using q
     have N:Hid (Wz w b bm name (d2,y,tx) (.returned (.tuple #[.pointer none,.slice none 0 0,.int .i64 y])) P):=a0z (by
      have h:=j.out;rw[if_neg q] at h
      exact h)
     clear q;go_wp2_with (fail);refine bodyPost_ret (v:=.tuple #[.pointer none,.slice none 0 0,.int .i64 y]) (by simp[results,Tryz.results61,go_sem]) rfl ?_;exact N.out
  ·have al:(en:Int)≤(s.size:Int):=by omega
   go_enter Tryz.func61,Tryz.ntmps61;go_wp2_with (fail);(with_reducible refine HR.out.mono ?_);rintro e w1 ⟨rfl,f⟩;have p:=a0z f;have K:=a0z (HT.out.fp f (by simp));clear f;go_wp2_with (fail);(with_reducible refine(C.out _ K.out).mono ?_);rintro e w2 ⟨v,rfl,k,a⟩;obtain⟨⟨G,F,rfl⟩,-⟩:=k.at;have o:Fp [] w (w2.alloc (.cells (Gj b ⟨name,l.length,false⟩) 185)):=(p.out.trans a (by simp)).alloc' _;have n:Dh (w2.alloc (.cells (Gj b ⟨name,l.length,false⟩) 185)) w2.heap.size b ⟨name,l.length,false⟩:=Ai rfl _;have m:w.heap.size<=w1.heap.size:=p.out.size;have g:w.heap.size<=w2.heap.size:=a0v m a.size;have t:Db (w2.alloc (.cells (Gj b ⟨name,l.length,false⟩) 185)) w.heap.size (.slice G l.length F) l:=(k.mono m).fp (Fp.alloc _ _) (by simp);have E:=ab.out _ w2.heap.size o n;have M:=a0z (fun w' h1 h2=>D.out _ w' w2.heap.size (.slice G l.length F) o g n t h1 h2);unfold Gj at E;simp only at E;clear k a o n t m g;have O:=a0z (E.1 (by simp));clear E;go_wp2_with (fail);(with_reducible refine O.out.mono ?_);rintro e P ⟨rfl,B,A⟩;have j:=a0z (M.out P B (by unfold Gj;exact A));clear B A
   by_cases q:y=0
   ·subst q;go_wp2_with (fail);refine bodyPost_ret (v:=.tuple #[.pointer (some ⟨w2.heap.size,0,none⟩),.slice G l.length F,.int .i64 0]) (by simp[results,Tryz.results61,go_sem]) rfl ?_;exact j.out
   ·have af:((y:Int)!=0)=true:=by simpa using q
    have N:Hid (Wz w b bm name (d2,y,tx) (.returned (.tuple #[.pointer none,.slice none 0 0,.int .i64 y])) P):=a0z (by
     have h:=j.out;rw[if_neg q] at h
     exact h)
    clear q;go_wp2_with (fail);refine bodyPost_ret (v:=.tuple #[.pointer none,.slice none 0 0,.int .i64 y]) (by simp[results,Tryz.results61,go_sem]) rfl ?_;exact N.out
end
section
open Go.RowKit Go.Lib Go.Maps Go.MapKept Go.ChangeMaps
def R8(l:List A4)(id:Nat):Int:=match Gw l id with
 |some i=>i
 |none=>-1
theorem eZ{l:List A4}{id i:Nat}(h:Gw l id=some i):R8 l id=i:=by unfold R8;rw[h]
theorem fA{l:List A4}{id:Nat}(h:Gw l id=none):R8 l id= -1:=by unfold R8;rw[h]
structure sA(w:World)(b o:Nat)(j:A4):Prop where
 c0:w.cell? ⟨b,o,none⟩=some (.int .u64 j.id)
 c1:w.cell? ⟨b,o+1,none⟩=some (.int .i64 j.phase)
 c2:w.cell? ⟨b,o+2,none⟩=some (.int .i64 j.e)
 c3:w.cell? ⟨b,o+3,none⟩=some (.string j.input)
theorem sB{w:World}{b o:Nat}{j:A4}(h:O4 E4 w b o j):sA w b o j:=⟨h 0 _ rfl,h 1 _ rfl,h 2 _ rfl,h 3 _ rfl⟩
theorem W4{w:World}{base:Nat}{v:Value}{l:List A4}{i:Nat}(h:Ae E4 w base v l)(a:i<l.length):∃g cap,v=.slice (some ⟨g,0,none⟩) l.length cap/\g<w.heap.size/\base<=g/\∀w',Fp [] w w'->sA w' g (i*4) l[i]:=by
 obtain⟨g,cap,m,e,j,f,_⟩:=h.open (by omega);subst e;refine⟨g,cap,rfl,Ac f,j,fun w' k=>?_⟩;exact sB ((h.fp k (by simp)).elem a).1
theorem Aiu(w:World)(q id:Nat)(j:A4)(f:w.heap[q]?=some (.cells #[.int .u64 id] 23 (0,0))):
  Calls Tryz.prog 119 #[Hm j,.pointer (some ⟨q,0,none⟩)] w fun e w'=>e=.returned (.bool (decide (j.id=id)))/\Fp [] w w':=by
 obtain⟨i,p,x,a⟩:=j;have g:=Ac f;have q0:w.cell? ⟨q,0,none⟩=some (.int .u64 id):=Ab f 0;have k:=a0z (Fp.alloc w (.cells #[.int .u64 i,.int .i64 p,.int .i64 x,.string a] 42))
 have m:Hid (((i:Int)==(id:Int))=decide (i=id)):=by
  unfold Hid
  by_cases h:i=id
  ·subst h;simp
  ·rw[decide_eq_false h];exact beq_eq_false_iff_ne.2 (by omega)
 unfold Hm F4;simp only;clear f;go_enter Tryz.func119,Tryz.ntmps119;go_wp2_with (fail);go_ret;exact⟨by rw[<-m.out];rfl,k.out⟩
theorem Aiv(w:World)(base q id:Nat)(v:Value)(l:List A4)(z:Ae E4 w base v l)(hn:l.length≤1000000)(J:w.heap[q]?=some (.cells #[.int .u64 id] 23 (0,0))):
  Calls Tryz.prog 118 #[v,.func (.func 119) #[] #[.pointer (some ⟨q,0,none⟩)]] w fun e w'=>e=.returned (.int .i64 (R8 l id))/\Fp [] w w':=by
 obtain⟨a,cap,rfl,-,-⟩:=z.len;have Y:=a0z z;have Q:=a0z J;have C:=a0z (fun w j (h:w.heap[q]?=some (.cells #[.int .u64 id] 23 (0,0)))=>Aiu w q id j h);clear z J;go_enter Tryz.func118,Tryz.ntmps118;go_wp2_with (fail)
 go_loopg [8] l.length (fun g S W=>∃k:Nat,g+k=l.length/\S=.int .i64 k/\(∀i (h:i<l.length),i<k->¬(l[i]).id=id)/\Fp [] w W)
 case atStart=>exact⟨0,by omega,rfl,fun i _ h=>absurd h (Nat.not_lt_zero _),Fp.refl _ _⟩
 case round=>
  obtain⟨k,hg,rfl,x,N⟩:=hrel;have r:=a0z x;have y:=a0z N;clear x N
  by_cases K:k<l.length
  ·have R:(k:Int)<(l.length:Int):=by omega
   obtain⟨g,P,U,-,-,m⟩:=W4 Y.out K;cases U;obtain⟨I,G,F,E⟩:=m wr y.out
   have p:∀i (h:i<l.length),i<k+1->¬(l[k]).id=id->¬(l[i]).id=id:=by
    intro i h O X
    by_cases e:i=k
    ·subst e;exact X
    ·exact r.out i h (by omega)
   have f:(l[k]).id=id->R8 l id=(k:Int):=fun h=>eZ (rJ K (fun i A=>r.out i (by omega) A) h)
   obtain⟨j,M⟩:∃j,l[k]=j:=⟨_,rfl⟩
   rw[M] at I G F E p f;have D:=a0z p;have s:=a0z f;have u:=a0z (C.out wr j ((y.out.block _ (Ac Q.out) (by simp)).trans Q.out));obtain⟨T,jp,jx,jn⟩:=j;unfold Hm F4 at u;simp only at u I G F E;clear m p f M
   by_cases n:T=id
   ·rw[decide_eq_true n] at u;have B:=a0z (s.out n);clear s n;go_wp2_with (fail);(with_reducible refine u.out.mono ?_);rintro e w2 ⟨rfl,o⟩;have t:=a0z (y.out.trans o (by simp));clear o;go_wp2_with (fail);go_ret;rw[B.out];exact⟨rfl,t.out⟩
   ·rw[decide_eq_false n] at u;have Z:=a0z n;clear s n;go_wp2_with (fail);(with_reducible refine u.out.mono ?_);rintro e w2 ⟨rfl,o⟩;have t:=a0z (y.out.trans o (by simp));clear o;go_wp2_with (fail)
    go_roundg (gk-1)
    case measure=>omega
    case rel=>exact⟨k+1,by omega,by go_num,fun i h O=>D.out i h O Z.out,t.out⟩
  ·have R:¬(k:Int)<(l.length:Int):=by omega
   have HE:=a0z (fA (rK (fun i A=>r.out i A (by omega)):Gw l id=none));go_wp2_with (fail);go_ret;rw[HE.out];exact⟨rfl,y.out⟩
def Lr(w:World)(V L:Nat)(v:Value):Prop:=w.heap[V]?=some (.cells #[.pointer (some ⟨L,0,none⟩),v] 123 (0,0))
theorem Lr.fp{w w':World}{S:List Nat}{V L:Nat}{v:Value}(h:Lr w V L v)(a:Fp S w w')(f:V∉S):Lr w' V L v:=(a.block V (Ac h) f).trans h
theorem sC(w:World)(base V L id:Nat)(v:Value)(l:List A4)(i:Lr w V L v)(h:Ae E4 w base v l)(k:l.length≤1000000):
  Calls Tryz.prog 64 #[.pointer (some ⟨V,0,none⟩),.int .u64 id] w fun e w'=>e=.returned (.int .i64 (R8 l id))/\Fp [] w w':=by
 have f:=Fp.alloc w (.cells #[.int .u64 id] 23);have o:=a0z (Aiv (w.alloc (.cells #[.int .u64 id] 23)) base w.heap.size id v l (h.fp f (by simp)) k (Ai rfl _));have n:=a0z f;have m:=Ac i;obtain⟨a,cap,rfl,-,-⟩:=h.len;have p:w.cell? ⟨V,1,none⟩=some (.slice a l.length cap):=Ab i 1;clear f i h;go_enter Tryz.func64,Tryz.ntmps64;go_wp2_with (fail);(with_reducible refine o.out.mono ?_);rintro e w2 ⟨rfl,g⟩;have j:=a0z (n.out.trans g (by simp));clear g;go_wp2_with (fail);go_ret;exact⟨rfl,j.out⟩
def Pz(l:List A4)(id:Nat):A4:=(K4 l id).getD Nc
def P0(l:List A4)(id:Nat):Bool:=(K4 l id).isSome
theorem sD(w:World)(base V L id:Nat)(v:Value)(l:List A4)(A:Lr w V L v)(y:Ae E4 w base v l)(T:l.length≤1000000):
  Calls Tryz.prog 25 #[.pointer (some ⟨V,0,none⟩),.int .u64 id] w fun e w'=>e=.returned (.tuple #[Hm (Pz l id),.bool (P0 l id)])/\Fp [] w w':=by
 have n:=Fp.alloc w (.cells #[.int .u64 0,.int .i64 0,.int .i64 0,.string ⟨#[]⟩] 42);have t:(w.alloc (.cells #[.int .u64 0,.int .i64 0,.int .i64 0,.string ⟨#[]⟩] 42)).heap[w.heap.size]?=some (.cells #[.int .u64 0,.int .i64 0,.int .i64 0,.string ⟨#[]⟩] 42 (0,0)):=Ai rfl _;have x:=a0z (sC (w.alloc (.cells #[.int .u64 0,.int .i64 0,.int .i64 0,.string ⟨#[]⟩] 42)) base V L id v l (A.fp n (by simp)) (y.fp n (by simp)) T);have F:=a0z n;have p:=a0z t;have HO:=a0z (y.fp n (by simp));have E:=a0z (A.fp n (by simp));clear n A y t
 have q:∀W:World,Fp [] w W->∀o u,Fp [] w (W.setCell ⟨w.heap.size,o,none⟩ u):=fun W h o u=>h.trans (Fp.setCell W ⟨w.heap.size,o,none⟩ u) (by intro i z;right;simp at z;omega)
 have f:=a0z q;clear q
 cases hat:Gw l id with
 |none=>
  have s:Hid (Pz l id=Nc/\P0 l id=false):=by unfold Hid Pz P0;rw[Ahj hat];exact⟨rfl,rfl⟩
  rw[fA hat] at x;clear hat;go_enter Tryz.func25,Tryz.ntmps25;go_wp2_with (fail);(with_reducible refine x.out.mono ?_);rintro e w2 ⟨rfl,k⟩;have a:=(k.block _ (Ac p.out) (by simp)).trans p.out;have J:w2.cell? ⟨w.heap.size,0,none⟩=some (.int .u64 0):=Ab a 0;have r1:w2.cell? ⟨w.heap.size,1,none⟩=some (.int .i64 0):=Ab a 1;have I:w2.cell? ⟨w.heap.size,2,none⟩=some (.int .i64 0):=Ab a 2;have G:w2.cell? ⟨w.heap.size,3,none⟩=some (.string ⟨#[]⟩):=Ab a 3;have f0:w2.frozen? ⟨w.heap.size,0,none⟩=false:=Ar a 0;have Z:w2.frozen? ⟨w.heap.size,1,none⟩=false:=Ar a 1;have Y:w2.frozen? ⟨w.heap.size,2,none⟩=false:=Ar a 2;have X:w2.frozen? ⟨w.heap.size,3,none⟩=false:=Ar a 3;have r:=a0z (F.out.trans k (by simp));clear k a;go_wp2_with (fail);refine bodyPost_ret (v:=.tuple #[.agg #[.int .u64 0,.int .i64 0,.int .i64 0,.string ⟨#[]⟩],.bool false]) (by simp[results,Tryz.results25,go_sem, *]) rfl ?_;rw[s.out.1,s.out.2];exact⟨rfl,f.out _ (f.out _ (f.out _ (f.out _ r.out _ _) _ _) _ _) _ _⟩
 |some i=>
  have z:=Zt hat
  have s:Hid (Pz l id=l[i]/\P0 l id=true):=by unfold Hid Pz P0;rw[Ahi hat];exact⟨rfl,rfl⟩
  rw[eZ hat] at x;obtain⟨g,cap,rfl,U,-,m⟩:=W4 HO.out z
  obtain⟨j,D⟩:∃j,l[i]=j:=⟨_,rfl⟩
  rw[D] at s m;obtain⟨S,Q,P,R⟩:=j;have B:=a0z m
  have zi:(i:Int)<(l.length:Int):=by omega
  clear hat m D;go_enter Tryz.func25,Tryz.ntmps25;go_wp2_with (fail);(with_reducible refine x.out.mono ?_);rintro e w2 ⟨rfl,k⟩;obtain⟨O,N,M,K⟩:=B.out _ k;simp only at O N M K;have q1:w2.cell? ⟨V,1,none⟩=some (.slice (some ⟨g,0,none⟩) l.length cap):=Ab (E.out.fp k (by simp)) 1;have C:=Ac (E.out.fp k (by simp));have a:=(k.block _ (Ac p.out) (by simp)).trans p.out;have J:w2.cell? ⟨w.heap.size,0,none⟩=some (.int .u64 0):=Ab a 0;have r1:w2.cell? ⟨w.heap.size,1,none⟩=some (.int .i64 0):=Ab a 1;have I:w2.cell? ⟨w.heap.size,2,none⟩=some (.int .i64 0):=Ab a 2;have G:w2.cell? ⟨w.heap.size,3,none⟩=some (.string ⟨#[]⟩):=Ab a 3;have f0:w2.frozen? ⟨w.heap.size,0,none⟩=false:=Ar a 0;have Z:w2.frozen? ⟨w.heap.size,1,none⟩=false:=Ar a 1;have Y:w2.frozen? ⟨w.heap.size,2,none⟩=false:=Ar a 2;have X:w2.frozen? ⟨w.heap.size,3,none⟩=false:=Ar a 3;have r:=a0z (F.out.trans k (by simp));clear k a;go_wp2_with (fail);refine bodyPost_ret (v:=.tuple #[.agg #[.int .u64 S,.int .i64 Q,.int .i64 P,.string R],.bool true]) (by simp[results,Tryz.results25,go_sem, *]) rfl ?_;rw[s.out.1,s.out.2];exact⟨rfl,f.out _ (f.out _ (f.out _ (f.out _ r.out _ _) _ _) _ _) _ _⟩
theorem Tryz.infoJob:(Tryz.prog.info? 42).map (fun i=>(i.zero,i.size,i.bytes))=some (some (.agg #[.int .u64 0,.int .i64 0,.int .i64 0,.string ⟨#[]⟩]),4,40):=by kernel_rfl
theorem Aiw{w:World}{i:Array Oper}{rest:List Oper}{o:Oper}{a:Act}{Q:Exit→Act→World→Prop}(q:o.guard=none)(s x:Operand)
  (y:o.op=.call {callee:=.builtin .append,args:=#[s,x],argTypes:=#[75,75]})(base:Nat)(v:Value)(l:List A4)(u:a.eval s=v)(j:Ae E4 w base v l)
  (p:Option Addr)(m c:Nat)(n:List A4)(t:a.eval x=.slice p m c)(z:Cf E4 w p m n)(f:p=none->c=0)(k:l.length+n.length<=1000000000)(g:base<=w.heap.size)
  (h:∀r w',Ae E4 w' base r (l++n)->Below base w w'->w.grownBy w' v.ownBlock->wpList Tryz.prog i Q rest (a.put o.dst r) w'):wpList Tryz.prog i Q (o::rest) a w:=
 Yl (R:=E4) 75 Tryz.underlying75 Tryz.infoJob rfl (by decide) q s x y base v l u j p m c n t z f k g h
theorem Aix(w:World)(a:Option Addr)(n cap:Nat)(l:List A4)(j:Cf E4 w a n l)(f:a=none→cap=0)(z:n≤1000000):
  Calls Tryz.prog 66 #[.slice a n cap] w fun e w'=>∃u,e=.returned u/\Ae E4 w' w.heap.size u l/\Fp [] w w':=by
 have t:=a0z j;have r:=a0z j.len
 have x:∀(w:World) (a:Option Addr) (n c k c':Nat),(binOp .eql 75 (.slice a n c) (.slice none k c')).run Tryz.prog w=.ok (.bool a.isNone) w:=fun w a n c k c'=>Lib.run_eql_slice_nil w _ _ a n c k c' Tryz.underlying75
 cases a with
 |none=>
  obtain rfl:=f rfl
  have p:l=[]:=by
   rcases j.cells with h|⟨b,o,h,_⟩
   ·exact h
   ·cases h
  subst p;have m:n=0:=j.len;subst m;clear j f;go_enter Tryz.func66,Tryz.ntmps66;go_wp2_with (fail);go_ret;exact⟨_,rfl,Ae.nil _ _,Fp.refl _ _⟩
 |some ad=>
  clear j f;go_enter Tryz.func66,Tryz.ntmps66;go_wp2_with (at_builtin;refine Aiw rfl _ _ rfl w.heap.size _ [] rfl (Ae.made w _ (Nat.le_refl _)) _ _ _ l rfl (t.out.fp (Fp.alloc _ _)) (by intro h;cases h) (by have:=r.out;simp;omega) (by simp) ?_;intro y w2 g i _;have q:=a0z g;have s:=a0z i;clear g i);go_ret;exact⟨_,rfl,q.out,(Fp.alloc w _).belowTrans (s.out.mono (by simp))⟩
theorem Aiy(w:World)(base V L:Nat)(v:Value)(l:List A4)(j:Lr w V L v)(o:Ae E4 w base v l)(p:l.length≤1000000):
  Calls Tryz.prog 32 #[.pointer (some ⟨V,0,none⟩)] w fun e w'=>∃n,e=.returned n/\Ae E4 w' w.heap.size n l/\Fp [] w w':=by
 obtain⟨a,cap,rfl,f,-,i⟩:=o.at;have r:=a0z (Aix w a l.length cap l i f p);have q:=Ac j;have t:w.cell? ⟨V,1,none⟩=some (.slice a l.length cap):=Ab j 1;clear j o i f;go_enter Tryz.func32,Tryz.ntmps32;go_wp2_with (fail);(with_reducible refine r.out.mono ?_);rintro e w2 ⟨s,rfl,g,h⟩;have k:=a0z g;have m:=a0z h;clear g h;go_wp2_with (fail);go_ret;exact⟨_,rfl,k.out,m.out⟩
end
section
open Go.RowKit Go.Lib Go.Maps Go.MapKept Go.ChangeMaps
structure Uy(w0:World)(base g n cap:Nat)(l:List A4)(i:Nat)(j:A4)(V L q:Nat)(done:Bool)(w:World):Prop where
 own:Ae E4 w base (.slice (some ⟨g,0,none⟩) n cap) (if done then l.set i j else l)
 drv:Lr w V L (.slice (some ⟨g,0,none⟩) n cap)
 box:w.heap[q]?=some (.cells (F4 j).toArray 42 (0,0))
 fp:Fp [g] w0 w
theorem Uy.set{o w:World}{base g n cap i V L q:Nat}{l:List A4}{j:A4}(h:Uy o base g n cap l i j V L q false w)(r:i<l.length)(a:q≠g)(f:V≠g):
  Uy o base g n cap l i j V L q true (w.setCells g (i*4) (F4 j)):=by
 have u:=h.own;have t:Ae E4 w base (.slice (some ⟨g,0,none⟩) n cap) l:=u;obtain⟨s,m⟩:=t.setQ j r;exact⟨s,h.drv.fp m (by simpa using f),(m.block _ (Ac h.box) (by simpa using a)).trans h.box,h.fp.trans m (by intro k p;exact Or.inl p)⟩
def Nh(v:Value):List Nat:=v.ownBlock.toList
theorem fB{w:World}{base:Nat}{v:Value}{l:List A4}(h:Ae E4 w base v l):∀k,v.ownBlock=some k→∃c,w.heap[k]?=some (.cells c 42 (0,0)):=by
 intro k a
 rcases h.2 with⟨rfl,_⟩|⟨g,cap,i,rfl,_,f,_⟩
 ·cases a
 ·obtain rfl:g=k:=by simpa [Value.ownBlock] using a
  exact⟨_,f⟩
theorem own_off{w:World}{base k:Nat}{v:Value}{l:List A4}{c:Array Value}{T:TypeId}{fr:Nat × Nat}(h:Ae E4 w base v l)(i:w.heap[k]?=some (.cells c T fr))(j:T≠42):k∉Nh v:=by
 intro a;unfold Nh at a
 have g:v.ownBlock=some k:=by simpa using a
 obtain⟨m,f⟩:=fB h k g;rw[i] at f
 injection Option.some.inj f with _ h3
 exact j h3
theorem sE(w:World)(base V L:Nat)(v:Value)(l:List A4)(j:A4)(W:Lr w V L v)(U:Ae E4 w base v l)(hb:base≤w.heap.size)(hn:l.length≤100000):
  Calls Tryz.prog 62 #[.pointer (some ⟨V,0,none⟩),Hm j] w fun e w'=>e=.returned (.tuple #[])/\(∃Z,Lr w' V L Z/\Ae E4 w' base Z (He l j))/\Tf base [42] [V] w w':=by
 obtain⟨n,u,t,x⟩:=j;have o:=Fp.alloc w (.cells #[.int .u64 n,.int .i64 u,.int .i64 t,.string x] 42);have Q:(w.alloc (.cells #[.int .u64 n,.int .i64 u,.int .i64 t,.string x] 42)).heap[w.heap.size]?=some (.cells #[.int .u64 n,.int .i64 u,.int .i64 t,.string x] 42 (0,0)):=Ai rfl _;have Y:=a0z (sC (w.alloc (.cells #[.int .u64 n,.int .i64 u,.int .i64 t,.string x] 42)) base V L n v l (W.fp o (by simp)) (U.fp o (by simp)) (by omega));have aq:=Ac W;have D:=a0z Q;have HF:=a0z o;have J:=a0z (U.fp o (by simp));have HV:=a0z (W.fp o (by simp))
 have E:∀k,v.ownBlock=some k->k<w.heap.size:=fun k hk=>(U.lt k hk).2
 have T:=a0z E;unfold Hm F4;simp only;clear W U o Q E
 cases hat:Gw l n with
 |some i=>
  have P:=Zt hat;have HP:Hid (He l ⟨n,u,t,x⟩=l.set i ⟨n,u,t,x⟩):=eL hat;rw[eZ hat] at Y;obtain⟨g,cap,rfl,-,ae,-⟩:=W4 J.out P;have ar:=T.out g rfl
  have zi:(i:Int)<(l.length:Int):=by omega
  have ag:V≠g:=by
   intro e;have:=own_off J.out HV.out (by decide);exact this (by rw[e];simp[Nh,Value.ownBlock])
  clear hat;go_enter Tryz.func62,Tryz.ntmps62;go_wp2_with (fail);(with_reducible refine Y.out.mono ?_);rintro e w2 ⟨rfl,p⟩;have C:Hid (Uy w2 base g l.length cap l i ⟨n,u,t,x⟩ V L w.heap.size false w2):=a0z ⟨J.out.fp p (by simp),HV.out.fp p (by simp),(p.block _ (Ac D.out) (by simp)).trans D.out,Fp.refl _ _⟩;have B:=a0z (HF.out.trans p (by simp))
  have aa:w.heap.size≠g:=by omega
  clear p;go_wp2_with (fail);refine Ft (fun I w'=>Uy w2 base g l.length cap l i ⟨n,u,t,x⟩ V L w.heap.size (I 7) w') (fun _ _=>True) (by kernel_rfl) (by kernel_rfl) ⟨C.out.own.fp (Fp.drew w2) (by simp),C.out.drv.fp (Fp.drew w2) (by simp),((Fp.drew w2).block _ (Ac C.out.box) (by simp)).trans C.out.box,(Fp.drew w2).mono (by simp)⟩ ?_
  iterate 7
   apply Be (fun _ _ h=>h) rfl rfl rfl
   ·intro b a w m f K q
    try have h0:=f.fr 0 rfl
    try have a8:=f.eq 0 11 rfl
    try have a7:=f.eq 1 12 rfl
    try have a6:=f.eq 2 13 rfl
    try have h4:=f.fr 4 rfl
    try have S:=f.fr 3 rfl
    try have a5:=f.eq 3 14 rfl
    try have a4:=f.eq 4 15 rfl
    have q1:=Ab m.drv 1;have b0:=Ab m.box 0;have b1:=Ab m.box 1;have b2:=Ab m.box 2;have b3:=Ab m.box 3;have an:=Ac m.drv;simp only[F4,a1x,a0u,a1z] at q1 b0 b1 b2 b3;simp only[Oper.wp,execOp];go_simp;exact q _ m trivial
  apply Gs (fun _=>True) rfl rfl
  ·intro b a w m f K q;have a1:=f.eq 6 17 rfl;have a3:=f.eq 5 16 rfl;have h7:=f.self;rw[h7] at m;have r:=Uy.set m P aa ag;have O:Ae E4 w base (.slice (some ⟨g,0,none⟩) l.length cap) l:=m.own;obtain⟨N,M,-,-,-,-⟩:=O.elem P;obtain⟨k0,k1,k2,k3⟩:=sB N;have z0:=M (i*4);have z1:=M (i*4+1);have z2:=M (i*4+2);have z3:=M (i*4+3);clear M N;unfold F4 at r;simp only[show E4.k=4 from rfl] at k0 k1 k2 k3;simp only[Oper.wp,execOp];go_simp;exact q undef _ r trivial trivial
  refine⟨?_,?_⟩
  ·refine⟨fun _ _ _ _ _=>trivial,?_⟩
   iterate 7 refine Cc _ ?_
   exact trivial
  ·intro wa I m y;simp only[List.reverse_cons,List.reverse_nil,List.nil_append,List.cons_append]
   iterate 7 (refine Am ?_)
   refine Ap ?_;intro v7 u7;refine A0 ?_;simp only[Aj,Act.put,a1w,List.set_cons_succ,List.set_cons_zero];have G:=m;rw[y 7 (by decide)] at G;have HD:=a0z G;clear m y G;go_wp2_with (fail);refine bodyPost_ret (v:=.tuple #[]) (results_none rfl _ _ _) rfl ?_;refine⟨rfl,⟨.slice (some ⟨g,0,none⟩) l.length cap,HD.out.drv,?_⟩,?_⟩
   ·rw[HP.out];exact HD.out.own
   ·have o:Fp [g] w wa:=(B.out.mono (S':=[g]) (by simp)).trans HD.out.fp (by intro k hk;exact Or.inl hk);refine⟨o.os,o.tape,o.output,o.size,fun k X _ S=>o.block k X fun hm=>?_⟩;obtain rfl:=List.mem_singleton.1 hm;obtain⟨c2,h2⟩:=fB J.out k rfl;rw[Below.heap_alloc _ _ _ X] at h2;exact S ae _ _ _ h2 (by simp)
 |none=>
  have HP:Hid (He l ⟨n,u,t,x⟩=l++[⟨n,u,t,x⟩]):=eM hat;rw[fA hat] at Y;obtain⟨va,vc,hv,-,-⟩:=J.out.len;clear hat;go_enter Tryz.func62,Tryz.ntmps62;go_wp2_with (fail);(with_reducible refine Y.out.mono ?_);rintro e w2 ⟨rfl,p⟩;have aj:=a0z (J.out.fp p (by simp));have ai:=a0z (HV.out.fp p (by simp));have F:=a0z ((p.block _ (Ac D.out) (by simp)).trans D.out);have B:=a0z (HF.out.trans p (by simp));have af:base<=w2.heap.size:=a0v hb B.out.size;clear p;go_wp2_with (fail);refine Uj (fun I vs w'=>F5 E4 [42] 123 (fun v=>#[.pointer (some ⟨L,0,none⟩),v]) base V v l ⟨n,u,t,x⟩ 6 7 10 w2 I vs w'/\(I 7=false->Fp [] w2 w')) (fun _ _=>True) (by kernel_rfl) (by kernel_rfl) (fun _=>⟨F5.start aj.out ai.out af,fun _=>Fp.drew w2⟩) ?_
  iterate 4
   apply Dn (fun _ _ _ h _=>⟨h.1.plain (by decide),h.2⟩) rfl rfl rfl
   ·intro b a w m f K q
    try have h0:=f.fr 0 rfl
    try have aS:=f.eq 1 19 rfl
    try have aF:=f.eq 2 20 rfl
    simp only[Oper.wp,execOp];go_simp;exact q _ m trivial
  apply Dn (fun _ _ _ h _=>⟨h.1.plain (by decide),h.2⟩) rfl rfl rfl
  ·intro b a w m f K q;have az:=f.eq 3 21 rfl;have q0:=Ab (m.1.first (f.post 7 (by kernel_rfl))) 1;simp only[a1x,a0u,a1z] at q0;rw[hv] at q0;simp only[Oper.wp,execOp];go_simp;rw[<-hv];exact q _ m trivial
  apply Dn (fun _ _ _ h _=>⟨h.1.plain (by decide),h.2⟩) rfl rfl rfl
  ·intro b a w m f K q;have S:=f.fr 3 rfl;have ad:=m.2 (W5 m.1.ob (f.post 6 (by kernel_rfl)));have s:=(ad.block _ (Ac F.out) (by simp)).trans F.out;have b0:=Ab s 0;have b1:=Ab s 1;have b2:=Ab s 2;have b3:=Ab s 3;simp only[a1x,a0u,a1z] at b0 b1 b2 b3;simp only[Oper.wp,execOp];go_simp;exact q _ m trivial
  apply Ee (fun _ _=>True) rfl rfl rfl
  ·intro b a w m f K q;have ay:=f.eq 5 23 rfl;have r:=m.1.build f.self (by decide)
   have z:Ah b 6 7=false->Fp [] w2 (w.alloc (.cells (E4.enc ⟨n,u,t,x⟩).toArray E4.e)):=fun e=>(m.2 e).alloc' _
   simp only[Oper.wp,execOp];go_simp;exact q _ _ ⟨r,z⟩ trivial trivial
  apply Ee (fun _ _=>True) rfl rfl rfl
  ·intro b a w m f K q;have ah:=f.eq 4 22 rfl;have ax:=f.dep 6 24 _ (by kernel_rfl) rfl;obtain⟨g,ac,ab⟩:=m.1.bld (f.pre 6 (by kernel_rfl)) f.self;refine U0 (R:=E4) 75 Tryz.underlying75 Tryz.infoJob rfl (by decide) (.tmp 22) (.tmp 24) rfl base v l (E0 ah) (m.1.own0 f.self) _ _ _ [⟨n,u,t,x⟩] (E0 ((f.val 6 24 (by kernel_rfl)).trans ac)) ab (by simp;omega) m.1.sz ?_;intro Z w' X h2 S;exact q _ _ ⟨m.1.append (f.pre 6 (by kernel_rfl)) f.self X S (by simp[E4]) (by decide) (by decide),fun e=>by simp[Ah] at e⟩ trivial trivial
  iterate 2
   apply Dn (fun _ _ _ h _=>⟨h.1.plain (by decide),h.2⟩) rfl rfl rfl
   ·intro b a w m f K q
    try have a0:=f.eq 0 18 rfl
    try have av:=f.eq 8 26 rfl
    simp only[Oper.wp,execOp];go_simp;exact q _ m trivial
  apply Kv (fun _=>True) rfl rfl rfl
  ·intro b a w m f K q;have au:=f.eq 9 27 rfl;have aw:=f.dep 7 25 _ (by kernel_rfl) rfl;obtain⟨a2,n2,c2,e2⟩:=m.1.slice (f.pre 7 (by kernel_rfl));have ap:=(f.val 7 25 (by kernel_rfl)).trans e2;have r:=m.1.store (off:=1) (f.pre 7 (by kernel_rfl)) f.self (by simp) (by decide) (by decide);rw[e2] at r
   have z:Ah b 10 7=false->Fp [] w2 (w.setCell ⟨V,1,none⟩ (.slice a2 n2 c2)):=fun e=>absurd ((f.pre 7 (by kernel_rfl)).symm.trans e) (by decide)
   have f0:=Ar m.1.cel 1;have q0:=Ab m.1.cel 1;simp only[Oper.wp,execOp];go_simp;exact q undef _ ⟨r,z⟩ trivial trivial
  refine⟨?_,?_⟩
  ·refine⟨fun _ _ _ _ _=>trivial,?_⟩;refine Gl _ ?_;refine Gl _ ?_;refine⟨fun _ _ _ _ _=>trivial,?_⟩;refine⟨fun _ _ _ _ _=>trivial,?_⟩
   iterate 6 refine Gl _ ?_
   exact trivial
  ·intro wa I y;simp only[List.reverse_cons,List.reverse_nil,List.nil_append,List.cons_append]
   iterate 6 (refine Am ?_)
   refine Ap ?_;intro v6 u6;refine Ap ?_;intro v7 u7
   iterate 2 (refine Am ?_)
   refine Ap ?_;intro ao u10;refine A0 ?_;intro m;simp only[Aj,Act.put,a1w,List.set_cons_succ,List.set_cons_zero];have A:=m.1.cel;rw[y 10 (by simp)] at A;have am:=a0z A;have al:=a0z (m.1.own1 (y 7 (by simp)));have ak:Hid (Tf base [42] [V] w wa):=a0z (((Tf.of B.out:Tf base [42] [] w w2).mono (by simp)).trans m.1.tf (by intro i P;exact Or.inl P));clear m y A;go_wp2_with (fail);go_end0;exact⟨rfl,⟨_,am.out,by rw[HP.out];exact al.out⟩,ak.out⟩
end
section
open Go.RowKit Go.Lib Go.Maps Go.MapKept Go.ChangeMaps
structure E5(w:World)(base b bm L V:Nat)(v:Value)(d:Dk)(lg:Lg)(l:List A4):Prop where
 disk:Ak w b bm d
 log:Dh w L b lg
 drv:Lr w V L v
 own:Ae E4 w base v l
 base:base<=w.heap.size
variable {w w' : World} {base b bm L V : Nat} {v : Value} {d : Dk} {lg : Lg} {l : List A4}
theorem E5.V_off(h:E5 w base b bm L V v d lg l):V∉[b,bm,L]:=by
 have g:=Gt h.drv (by decide) h.disk;intro i;simp only[a0w,a0x,or_false] at i g
 rcases i with a|a|a
 ·exact g (Or.inl a)
 ·exact g (Or.inr a)
 ·have f:=h.drv;unfold Lr at f;rw[a,h.log] at f
  injection Option.some.inj f with _ h4
  exact absurd h4 (by decide)
theorem E5.own_off(h:E5 w base b bm L V v d lg l):∀k∈[b,bm,L,V],k∉Nh v:=by
 intro k f;simp only[a0w,a0x,or_false] at f
 rcases f with rfl|rfl|rfl|rfl
 ·exact Go.Proofs.YtkagolpnaicdoaaGreatDoor.own_off h.own h.disk.cells (by decide)
 ·intro j
  have i:v.ownBlock=some k:=by simpa [Nh] using j
  obtain⟨o,m⟩:=fB h.own k i;obtain⟨n,a,g,_⟩:=h.disk.files;rw[m] at g;cases g
 ·exact Go.Proofs.YtkagolpnaicdoaaGreatDoor.own_off h.own h.log (by decide)
 ·exact Go.Proofs.YtkagolpnaicdoaaGreatDoor.own_off h.own h.drv (by decide)
theorem E5.of_fp{S:List Nat}(h:E5 w base b bm L V v d lg l)(a:Fp S w w')(f:∀k∈[b,bm,L,V]++Nh v,k∉S):E5 w' base b bm L V v d lg l:=
 ⟨h.disk.of_fp a (f b (by simp)) (f bm (by simp)),h.log.fp a (f L (by simp)),h.drv.fp a (f V (by simp)),h.own.kept fun k g=>a.block k (h.own.lt k g).2 (f k (by simp[Nh,g])),a0v h.base a.size⟩
theorem E5.calm(h:E5 w base b bm L V v d lg l)(a:Fp [] w w'):E5 w' base b bm L V v d lg l:=h.of_fp a (by simp)
theorem E5.turned{j:Dk}{a:Lg}(h:E5 w base b bm L V v d lg l)(g:Fp [b,bm,L] w w')(o:Ak w' b bm j)(n:Dh w' L b a):E5 w' base b bm L V v j a l:=
 ⟨o,n,h.drv.fp g h.V_off,h.own.kept fun k i=>g.block k (h.own.lt k i).2 (fun m=>by
  have f:k∈Nh v:=by simp[Nh,i]
  exact h.own_off k (by simp only[a0w,a0x,or_false] at m ⊢;omega) f),a0v h.base g.size⟩
theorem E5.putted{f:Value}{l':List A4}(h:E5 w base b bm L V v d lg l)(a:Tf base [42] [V] w w')(k:Lr w' V L f)(m:Ae E4 w' base f l'):E5 w' base b bm L V f d lg l':=by
 have i:=h.V_off;simp only[a0w,a0x,or_false,not_or] at i;obtain⟨r,q,p⟩:=i;have o:=a.cells h.disk.cells (by simp;omega) (by decide);refine⟨⟨o,h.disk.files.of_block ?_⟩,a.cells h.log (by simp;omega) (by decide),k,m,a0v h.base a.size⟩
 exact a.block bm h.disk.files.lt (by simp;omega) (fun _ c T s n=>by
  obtain⟨t,g,j,_⟩:=h.disk.files
  rw[n] at j;cases j)
structure Uz where
 d:Dk
 lg:Lg
 l:List A4
 e:Int
def Eg(d:Dk)(lg:Lg)(l:List A4)(j:A4):Uz:=
 if(En j).2≠0 then⟨d,lg,l,(En j).2⟩
 else if(Hl lg d [(En j).1]).2.2≠0 then⟨(Hl lg d [(En j).1]).2.1,(Hl lg d [(En j).1]).1,l,(Hl lg d [(En j).1]).2.2⟩
 else⟨(Hl lg d [(En j).1]).2.1,(Hl lg d [(En j).1]).1,He l j,0⟩
theorem Aiz{j:A4}{s:ByteArray}{x:Int}(h:En j=(s,x))(a:x≠0):Eg d lg l j=⟨d,lg,l,x⟩:=by
 unfold Eg;rw[h,if_pos a]
theorem Ai0{j:A4}{s:ByteArray}{x:Int}{f:Dk}{a:Lg}(h:En j=(s,0))(i:Hl lg d [s]=(a,f,x))(g:x≠0):Eg d lg l j=⟨f,a,l,x⟩:=by
 unfold Eg;rw[h,if_neg (by simp)];simp only[i];rw[if_pos g]
theorem sF{j:A4}{s:ByteArray}{f:Dk}{a:Lg}(h:En j=(s,0))(g:Hl lg d [s]=(a,f,0)):Eg d lg l j=⟨f,a,He l j,0⟩:=by
 unfold Eg;rw[h,if_neg (by simp)];simp only[g];rw[if_neg (by simp)]
theorem Ai1{j:A4}{s:ByteArray}(h:En j=(s,0)):s.size≤60011:=by
 unfold En at h;split at h
 ·cases h
 ·split at h
  ·cases h
  ·rename_i a;obtain rfl:Bj j=s:=(Prod.mk.inj h).1;rw[Zs];omega
def Og(base b bm L V:Nat)(r:Uz)(w w':World):Prop:=(∃v',E5 w' base b bm L V v' r.d r.lg r.l)/\Tf base [42] [b,bm,L,V] w w'
theorem Ai2(w:World)(base b bm L V q Q:Nat)(v:Value)(d:Dk)(lg:Lg)(l:List A4)(j:A4)(O:E5 w base b bm L V v d lg l)(af:Av d)(hj:Pv j)(ht:Dl w)
  (ae:lg.name.size<=1000)(R:lg.many<=100000)(hn:l.length<=100000)
  (p:w.heap[q]?=some (.cells (F4 j).toArray 42 (0,0)))(S:w.heap[Q]?=some (.cells #[.pointer (some ⟨V,0,none⟩)] 54 (0,0))):
  Calls Tryz.prog 116 #[.pointer (some ⟨q,0,none⟩),.pointer (some ⟨Q,0,none⟩)] w fun e w'=>Og base b bm L V (Eg d lg l j) w w'/\(((Eg d lg l j).e=0/\∃u,e=.returned u)∨((Eg d lg l j).e≠0/\e=.panicked (Tz (Eg d lg l j).e))):=by
 have n1:=Gt p (by decide) O.disk;have n2:=Gt S (by decide) O.disk;have am:=O.V_off
 have m1:q∉[b,bm,L]:=by
  intro R;simp only[a0w,a0x,or_false] at R n1
  rcases R with D|D|D
  ·exact n1 (Or.inl D)
  ·exact n1 (Or.inr D)
  ·rw[D,O.log] at p
   injection Option.some.inj p with _ h4
   exact absurd h4 (by decide)
 have m2:Q∉[b,bm,L]:=by
  intro R;simp only[a0w,a0x,or_false] at R n2
  rcases R with D|D|D
  ·exact n2 (Or.inl D)
  ·exact n2 (Or.inr D)
  ·rw[D,O.log] at S
   injection Option.some.inj S with _ h4
   exact absurd h4 (by decide)
 have al:=Ac p;have ak:=Ac S;have f:=a0z (fun w=>Aaa w j hj);obtain⟨G,jp,jx,jn⟩:=j;unfold F4 at p;simp only at p;unfold Hm F4 at f;simp only at f;have p0:w.cell? ⟨q,0,none⟩=some (.int .u64 G):=Ab p 0;have p1:w.cell? ⟨q,1,none⟩=some (.int .i64 jp):=Ab p 1;have p2:w.cell? ⟨q,2,none⟩=some (.int .i64 jx):=Ab p 2;have p3:w.cell? ⟨q,3,none⟩=some (.string jn):=Ab p 3;have J:=a0z O;have HT:=a0z ht;have H1:=a0z p;have T:=a0z S;have P:=a0z mW;have ab:=a0z mX;have ai:=a0z m1;have ah:=a0z m2;clear O ht p S n1 n2 m1 m2
 obtain⟨⟨s,x⟩,M⟩:∃r,En ⟨G,jp,jx,jn⟩=r:=⟨_,rfl⟩
 rw[M] at f
 by_cases hx:x=0
 ·subst hx;have Y:=Ai1 M
  obtain⟨⟨ad,d2,y⟩,U⟩:∃r,Hl lg d [s]=r:=⟨_,rfl⟩
  have ac:Hid (∀W g,Fp [] w W→W.heap[g]?=some (.cells #[.string s] 9 (0,0))→Calls Tryz.prog 117 #[.pointer (some ⟨L,0,none⟩),.slice (some ⟨g,0,none⟩) 1 1] W fun e w'=>e=.returned (.int .i64 y)∧Ak w' b bm d2∧Dh w' L b ad∧Fp [b,bm,L] W w'):=a0z (fun W g hf hg=>by
   have h:=Aip W b bm L lg d (some ⟨g,0,none⟩) 1 1 [s] (J.out.disk.of_fp hf (by simp) (by simp)) af ae (J.out.log.fp hf (by simp))
    ⟨rfl,Or.inr ⟨g,0,rfl,fun i B=>by have:i=0:=by simpa using B
                                     subst this;rw[Ab hg];rfl⟩,fun t ht=>by rw[List.mem_singleton.1 ht];unfold maxLen;omega⟩
    (HT.out.fp hf (by simp)) (by show 6+s.size+0<=_;omega) (by omega)
   rw[U] at h
   exact h)
  by_cases I:y=0
  ·subst I;have HE:=a0z (sF (l:=l) M U);clear M U Y;go_enter Tryz.func116,Tryz.ntmps116;go_wp2_with (fail);(with_reducible refine(f.out _).mono ?_);rintro e w1 ⟨rfl,k⟩;have a:=a0z k;clear k;go_wp2_with (fail);(with_reducible refine(P.out _).mono ?_);rintro e w2 ⟨⟨u2,rfl⟩,rfl⟩;have q0:w2.cell? ⟨Q,0,none⟩=some (.pointer (some ⟨V,0,none⟩)):=Ab ((a.out.block _ (Ac T.out) (by simp)).trans T.out) 0;have q1:w2.cell? ⟨V,0,none⟩=some (.pointer (some ⟨L,0,none⟩)):=Ab (J.out.drv.fp a.out (by simp)) 0;have aa:=Ac (J.out.drv.fp a.out (by simp));have n:=a0z (a.out.alloc' (.cells #[.string s] 9));go_wp2_with (fail);(with_reducible refine(ac.out _ w2.heap.size n.out (Ai rfl _)).mono ?_);rintro e w3 ⟨rfl,C,z,m⟩;have o:=a0z ((J.out.calm n.out).turned m C z);have F:Hid (Fp [b,bm,L] w w3):=a0z ((n.out.mono (by simp)).trans m (by intro i B;exact Or.inl B));clear C z m;go_wp2_with (fail);(with_reducible refine(P.out _).mono ?_);rintro e K ⟨⟨u4,rfl⟩,rfl⟩;have A:=(F.out.block _ (Ac H1.out) ai.out).trans H1.out;have r0:K.cell? ⟨Q,0,none⟩=some (.pointer (some ⟨V,0,none⟩)):=Ab ((F.out.block _ (Ac T.out) ah.out).trans T.out) 0;have s0:K.cell? ⟨q,0,none⟩=some (.int .u64 G):=Ab A 0;have s1:K.cell? ⟨q,1,none⟩=some (.int .i64 jp):=Ab A 1;have s2:K.cell? ⟨q,2,none⟩=some (.int .i64 jx):=Ab A 2;have s3:K.cell? ⟨q,3,none⟩=some (.string jn):=Ab A 3;have E:=a0z (sE K base V L v l ⟨G,jp,jx,jn⟩ o.out.drv o.out.own o.out.base hn);unfold Hm F4 at E;simp only at E;clear A;go_wp2_with (fail);(with_reducible refine E.out.mono ?_);rintro e w5 ⟨rfl,⟨v5,X,Z⟩,N⟩;have aj:=a0z (o.out.putted N X Z);have ag:Hid (Tf base [42] [b,bm,L,V] w w5):=a0z (((Tf.of F.out).mono (by intro i B;simp only[a0w,a0x,or_false] at B ⊢;omega)).trans N (by intro i B;left;simp only[a0w,a0x,or_false] at B ⊢;omega));clear X Z N;go_wp2_with (fail);go_end0;rw[HE.out];exact⟨⟨⟨v5,aj.out⟩,ag.out⟩,Or.inl ⟨rfl,_,rfl⟩⟩
  ·have HE:=a0z (Ai0 (l:=l) M U I);have HY:=a0z I;clear M U Y I;go_enter Tryz.func116,Tryz.ntmps116;go_wp2_with (fail);(with_reducible refine(f.out _).mono ?_);rintro e w1 ⟨rfl,k⟩;have a:=a0z k;clear k;go_wp2_with (fail);(with_reducible refine(P.out _).mono ?_);rintro e w2 ⟨⟨u2,rfl⟩,rfl⟩;have q0:w2.cell? ⟨Q,0,none⟩=some (.pointer (some ⟨V,0,none⟩)):=Ab ((a.out.block _ (Ac T.out) (by simp)).trans T.out) 0;have q1:w2.cell? ⟨V,0,none⟩=some (.pointer (some ⟨L,0,none⟩)):=Ab (J.out.drv.fp a.out (by simp)) 0;have aa:=Ac (J.out.drv.fp a.out (by simp));have n:=a0z (a.out.alloc' (.cells #[.string s] 9));go_wp2_with (fail);(with_reducible refine(ac.out _ w2.heap.size n.out (Ai rfl _)).mono ?_);rintro e w3 ⟨rfl,C,z,m⟩;have o:=a0z ((J.out.calm n.out).turned m C z);have F:Hid (Fp [b,bm,L] w w3):=a0z ((n.out.mono (by simp)).trans m (by intro i B;exact Or.inl B));clear C z m;go_wp2_with (fail);(with_reducible refine(ab.out _ y HY.out).mono ?_);rintro e K ⟨rfl,rfl⟩;go_wp2_with (fail);refine⟨rfl,?_⟩;rw[HE.out];exact⟨⟨⟨v,o.out⟩,(Tf.of F.out).mono (by intro i B;simp only[a0w,a0x,or_false] at B ⊢;omega)⟩,Or.inr ⟨HY.out,rfl⟩⟩
 ·have HE:=a0z (Aiz (d:=d) (lg:=lg) (l:=l) M hx);have HX:=a0z hx;clear M hx;go_enter Tryz.func116,Tryz.ntmps116;go_wp2_with (fail);(with_reducible refine(f.out _).mono ?_);rintro e w1 ⟨rfl,k⟩;have a:=a0z k;clear k;go_wp2_with (fail);(with_reducible refine(ab.out _ x HX.out).mono ?_);rintro e K ⟨rfl,rfl⟩;go_wp2_with (fail);refine⟨rfl,?_⟩;rw[HE.out];exact⟨⟨⟨v,J.out.calm a.out⟩,(Tf.of a.out).mono (by simp)⟩,Or.inr ⟨HX.out,rfl⟩⟩
end
end Go.Proofs.YtkagolpnaicdoaaGreatDoor
