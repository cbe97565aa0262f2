/-
 wal: Open. Frames by type: what may be turned are the blocks of some types, from a base on, and a few others. A region that draws its order; the class sees which operations are done, and what they have told (two new blocks of one type can be told apart). Over any program. Two new blocks of one type, made and filled in whatever order (for XRegionV).
-/
import Derived.Test.YtkagolpnaicdoaaGreatDoorPWalB
import Derived.Test.YtkagolpnaicdoaaGreatDoorPTabL
import Derived.Test.YtkagolpnaicdoaaGreatDoorPRegionG
set_option maxRecDepth 100000
set_option maxHeartbeats 8000000
open Go.Lib renaming hid→a0z
open List renaming getElem?_eq_getElem→a0x,getElem_of_mem→a0u,getElem?_map→a1x,append_assoc→a1w,mem_of_getElem?→a1v
open Bool renaming and_eq_true→a0w
open Nat renaming le_trans→a0v,lt_of_lt_of_le→a1z
namespace Go.Proofs.YtkagolpnaicdoaaGreatDoor
section
open Go.RowKit Go.Lib Go.Maps Go.MapKept Go.ChangeMaps
theorem kJ:∀(n at_:Nat) (s:ByteArray),∀x∈Kt n at_ s,x.1≤s.size
 |0,_,_,x,h=>by cases h
 |n+1,at_,s,x,h=>by
  obtain⟨⟨t,k,e⟩,ht⟩:∃x,Cm (s.extract at_ s.size)=x:=⟨_,rfl⟩
  by_cases he:e=0
  ·subst he;have hb:=Za ht;rw[Qy ht] at h
   rcases List.mem_cons.1 h with rfl|h
   ·exact hb.2.1
   ·exact kJ n _ s x h
  ·rw[Qz ht he] at h;cases h
theorem Abf(s:ByteArray):Fv (Ee s)≤s.size:=by
 unfold Fv
 cases h:(Ee s).getLast? with
 |none=>exact Nat.zero_le _
 |some x=>exact kJ _ _ s x (List.mem_of_getLast? h)
theorem kK{d:Dk}{name:ByteArray}(h:name.size=0∨59<name.size):d.wOpen name=(d,1,[]):=if_pos h
theorem Abg{d:Dk}{name s:ByteArray}{x:Int}(h:¬(name.size=0∨59<name.size))(hr:d.read name=(s,x))(h0:x≠0)(h3:x≠3):d.wOpen name=(d,x,[]):=by
 unfold Dk.wOpen;rw[if_neg h,hr,if_pos ⟨h0,h3⟩]
theorem Abh{d d2:Dk}{name s:ByteArray}{x y:Int}(h:¬(name.size=0∨59<name.size))(hr:d.read name=(s,x))(hx:¬(x≠0∧x≠3))
  (hg:(if x=3∨Fv (Ee s)<s.size then d.wWrite name (s.extract 0 (Fv (Ee s))) else(d.sync name,d.thereE name))=(d2,y)):d.wOpen name=(d2,y,if y=0 then(Ee s).map (·.2) else[]):=by
 unfold Dk.wOpen;rw[if_neg h,hr,if_neg hx];simp only[hg]
def Tu(w:World)(b bm:Nat)(name:ByteArray)(r:Dk × Int × List ByteArray)(e:Ending)(w':World):Prop:=
 Ah w' b bm r.1∧Fp [b,bm] w w'∧((r.2.1≠0∧e=.returned (.tuple #[.pointer none,.slice none 0 0,.int .i64 r.2.1]))∨
  (r.2.1=0∧∃L v,e=.returned (.tuple #[.pointer (some ⟨L,0,none⟩),v,.int .i64 0])∧w.heap.size≤L∧B5 w' L b ⟨name,r.2.2.length,false⟩∧B9 w' w.heap.size v r.2.2))
theorem Abi(w:World)(b bm:Nat)(d:Dk)(name:ByteArray)(hd:Ah w b bm d)(hok:Ak d)(hname:name.size≤1000)(ht:Ce w)(hrs:(d.read name).1.size≤100000000):
  Calls Tryz.prog 61 #[.pointer (some ⟨b,0,none⟩),.string name] w fun e w'=>Tu w b bm name (d.wOpen name) e w':=by
 have hlb:=Ab hd.cells;have hlm:=hd.files.lt;have HD:=a0z hd;have HT:=a0z ht;clear hd ht
 by_cases h0:name.size=0
 ·rw[kK (Or.inl h0)];obtain rfl:name=⟨#[]⟩:=ByteArray.ext (Array.eq_empty_of_size_eq_zero h0);go_enter Tryz.func61,Tryz.ntmps61;go_wp2_with (fail);refine bodyPost_ret (v:=.tuple #[.pointer none,.slice none 0 0,.int .i64 1]) (by simp[results,Tryz.results61,go_sem]) rfl ?_;exact⟨HD.out,Fp.refl _ _,Or.inl ⟨(show(1:Int)≠0 by decide),rfl⟩⟩
 by_cases h59:59<name.size
 ·rw[kK (Or.inr h59)];have he:=O2 (Nat.pos_of_ne_zero h0)
  have hne:(name.toList==([]:List UInt8))=false:=by
   rw[beq_eq_false_iff_ne];intro e;rw[e] at he;cases he
  have z:(59:Int)<(name.size:Int):=by omega
  clear h0;go_enter Tryz.func61,Tryz.ntmps61;go_wp2_with (fail);refine bodyPost_ret (v:=.tuple #[.pointer none,.slice none 0 0,.int .i64 1]) (by simp[results,Tryz.results61,go_sem]) rfl ?_;exact⟨HD.out,Fp.refl _ _,Or.inl ⟨(show(1:Int)≠0 by decide),rfl⟩⟩
 have hfit:¬(name.size=0∨59<name.size):=by omega
 have he:=O2 (Nat.pos_of_ne_zero h0)
 have hne:(name.toList==([]:List UInt8))=false:=by
  rw[beq_eq_false_iff_ne];intro e;rw[e] at he;cases he
 have z59:¬(59:Int)<(name.size:Int):=by omega
 have HR:=a0z (sY w b bm d name HD.out (by unfold maxLen;omega))
 obtain⟨⟨s,x⟩,hr⟩:∃r,d.read name=r:=⟨_,rfl⟩
 rw[hr] at HR hrs;simp only at hrs
 by_cases hx:x≠0∧x≠3
 ·rw[Abg hfit hr hx.1 hx.2]
  have b0:((x:Int)!=0)=true:=by simpa using hx.1
  have b3:((x:Int)!=3)=true:=by simpa using hx.2
  have HX:=a0z hx.1;clear hx hfit hr h0 h59 he;go_enter Tryz.func61,Tryz.ntmps61;go_wp2_with (fail);(with_reducible refine HR.out.mono ?_);rintro e w1 ⟨rfl,hf1⟩;have HF1:=a0z hf1;clear hf1;go_wp2_with (fail);refine bodyPost_ret (v:=.tuple #[.pointer none,.slice none 0 0,.int .i64 x]) (by simp[results,Tryz.results61,go_sem]) rfl ?_;exact⟨HD.out.of_fp HF1.out (by simp) (by simp),HF1.out.mono (by simp),Or.inl ⟨HX.out,rfl⟩⟩
 ·obtain⟨⟨d2,y⟩,hg⟩:∃r,(if x=3∨Fv (Ee s)<s.size then d.wWrite name (s.extract 0 (Fv (Ee s))) else(d.sync name,d.thereE name))=r:=⟨_,rfl⟩
  rw[Abh hfit hr hx hg];have HALL:Hid (∀w,Ce w→_):=a0z (fun w ht=>xN w s hrs ht);have hel:=Abf s
  have hx03:x=0∨x=3:=by omega
  have hexs:(s.extract 0 (Fv (Ee s))).size=Fv (Ee s):=by rw[ByteArray.size_extract];omega
  obtain⟨en,hen⟩:∃en,Fv (Ee s)=en:=⟨_,rfl⟩
  obtain⟨l,hl⟩:∃l,(Ee s).map (·.2)=l:=⟨_,rfl⟩
  rw[hen] at hg hel HALL hexs;rw[hl] at HALL ⊢
  obtain⟨tx,htx⟩:∃tx,(if y=0 then l else[])=tx:=⟨_,rfl⟩
  rw[htx];have HTX:=a0z htx;have HG:=a0z hg;have HFIT:=a0z hfit;have HEXS:=a0z hexs;clear hx hfit hr h0 h59 he hg hen hl hexs htx
  have HGO:Hid (∀W L,Fp [] w W→B5 W L b ⟨name,l.length,false⟩→
    ((x=3∨en<s.size)→Calls Tryz.prog 114 #[.pointer (some ⟨L,0,none⟩),.string (s.extract 0 en)] W fun e w'=>e=.returned (.int .i64 y)∧Ah w' b bm d2∧Fp [b,bm] W w')∧
    (¬(x=3∨en<s.size)→Calls Tryz.prog 115 #[.pointer (some ⟨b,0,none⟩),.string name] W fun e w'=>e=.returned (.int .i64 y)∧Ah w' b bm d2∧Fp [b,bm] W w')):=a0z (fun W L hf hlg=>by
   have hdW:=HD.out.of_fp hf (by simp) (by simp);refine⟨fun hc=>?_,fun hc=>?_⟩
   ·have h:=Aa1 W b bm L ⟨name,l.length,false⟩ d (s.extract 0 en) hdW hok hname (by rw[HEXS.out];omega) hlg;have hgg:=HG.out;rw[if_pos hc] at hgg;simp only[hgg] at h;exact h
   ·have h:=Zu W b bm d name hdW hok (by unfold maxLen;omega);have hgg:=HG.out;rw[if_neg hc] at hgg
    injection hgg with g1 g2
    rw[g1,g2] at h
    exact h)
  have HDONE:Hid (∀W w' L v,Fp [] w W→w.heap.size≤L→B5 W L b ⟨name,l.length,false⟩→B9 W w.heap.size v l→Ah w' b bm d2→Fp [b,bm] W w'→
    Tu w b bm name (d2,y,tx) (if y=0 then .returned (.tuple #[.pointer (some ⟨L,0,none⟩),v,.int .i64 0]) else .returned (.tuple #[.pointer none,.slice none 0 0,.int .i64 y])) w'):=a0z (fun W w' L v hf hL hlg ho hd2 hf2=>by
   refine⟨hd2,(hf.mono (S':=[b,bm]) (by simp)).trans hf2 (by intro i hi;exact Or.inl hi),?_⟩
   by_cases hy:y=0
   ·right;rw[if_pos hy,←HTX.out,if_pos hy];exact⟨hy,L,v,rfl,hL,hlg.fp hf2 (by simp;omega),ho.fp hf2 (by simp;omega)⟩
   ·left;rw[if_neg hy]
    exact⟨hy,rfl⟩)
  clear HG HD HEXS hok
  rcases hx03 with rfl|rfl
  ·by_cases hlt:en<s.size
   ·have z:(en:Int)<(s.size:Int):=by omega
    go_enter Tryz.func61,Tryz.ntmps61;go_wp2_with (fail);(with_reducible refine HR.out.mono ?_);rintro e w1 ⟨rfl,hf1⟩;have HF1:=a0z hf1;have HT1:=a0z (HT.out.fp hf1 (by simp));clear hf1;go_wp2_with (fail);(with_reducible refine(HALL.out _ HT1.out).mono ?_);rintro e w2 ⟨v,rfl,ho2,hf2⟩;obtain⟨⟨va,vc,rfl⟩,-⟩:=ho2.at;have hfW:Fp [] w (w2.alloc (.cells (E8 b ⟨name,l.length,false⟩) 185)):=(HF1.out.trans hf2 (by simp)).alloc' _;have hlW:B5 (w2.alloc (.cells (E8 b ⟨name,l.length,false⟩) 185)) w2.heap.size b ⟨name,l.length,false⟩:=Ai rfl _;have hle:w.heap.size≤w1.heap.size:=HF1.out.size;have hle2:w.heap.size≤w2.heap.size:=a0v hle hf2.size;have hoW:B9 (w2.alloc (.cells (E8 b ⟨name,l.length,false⟩) 185)) w.heap.size (.slice va l.length vc) l:=(ho2.mono hle).fp (Fp.alloc _ _) (by simp);have HC:=HGO.out _ w2.heap.size hfW hlW;have HDN:=a0z (fun w' h1 h2=>HDONE.out _ w' w2.heap.size (.slice va l.length vc) hfW hle2 hlW hoW h1 h2);unfold E8 at HC;simp only at HC;clear ho2 hf2 hfW hlW hoW hle hle2;have HC2:=a0z (HC.1 (Or.inr hlt));clear HC hlt;go_wp2_with (fail);(with_reducible refine HC2.out.mono ?_);rintro e w3 ⟨rfl,hd3,hf3⟩;have HDN2:=a0z (HDN.out w3 hd3 (by unfold E8;exact hf3));clear hd3 hf3
    by_cases hy:y=0
    ·subst hy;go_wp2_with (fail);refine bodyPost_ret (v:=.tuple #[.pointer (some ⟨w2.heap.size,0,none⟩),.slice va l.length vc,.int .i64 0]) (by simp[results,Tryz.results61,go_sem]) rfl ?_;exact HDN2.out
    ·have by0:((y:Int)!=0)=true:=by simpa using hy
     have HD4:Hid (Tu w b bm name (d2,y,tx) (.returned (.tuple #[.pointer none,.slice none 0 0,.int .i64 y])) w3):=a0z (by
      have h:=HDN2.out;rw[if_neg hy] at h
      exact h)
     clear hy;go_wp2_with (fail);refine bodyPost_ret (v:=.tuple #[.pointer none,.slice none 0 0,.int .i64 y]) (by simp[results,Tryz.results61,go_sem]) rfl ?_;exact HD4.out
   ·have z:¬(en:Int)<(s.size:Int):=by omega
    go_enter Tryz.func61,Tryz.ntmps61;go_wp2_with (fail);(with_reducible refine HR.out.mono ?_);rintro e w1 ⟨rfl,hf1⟩;have HF1:=a0z hf1;have HT1:=a0z (HT.out.fp hf1 (by simp));clear hf1;go_wp2_with (fail);(with_reducible refine(HALL.out _ HT1.out).mono ?_);rintro e w2 ⟨v,rfl,ho2,hf2⟩;obtain⟨⟨va,vc,rfl⟩,-⟩:=ho2.at;have hfW:Fp [] w (w2.alloc (.cells (E8 b ⟨name,l.length,false⟩) 185)):=(HF1.out.trans hf2 (by simp)).alloc' _;have hlW:B5 (w2.alloc (.cells (E8 b ⟨name,l.length,false⟩) 185)) w2.heap.size b ⟨name,l.length,false⟩:=Ai rfl _;have hle:w.heap.size≤w1.heap.size:=HF1.out.size;have hle2:w.heap.size≤w2.heap.size:=a0v hle hf2.size;have hoW:B9 (w2.alloc (.cells (E8 b ⟨name,l.length,false⟩) 185)) w.heap.size (.slice va l.length vc) l:=(ho2.mono hle).fp (Fp.alloc _ _) (by simp);have HC:=HGO.out _ w2.heap.size hfW hlW;have HDN:=a0z (fun w' h1 h2=>HDONE.out _ w' w2.heap.size (.slice va l.length vc) hfW hle2 hlW hoW h1 h2);unfold E8 at HC;simp only at HC;clear ho2 hf2 hfW hlW hoW hle hle2;have HC2:=a0z (HC.2 (by omega));clear HC hlt;go_wp2_with (fail);(with_reducible refine HC2.out.mono ?_);rintro e w3 ⟨rfl,hd3,hf3⟩;have HDN2:=a0z (HDN.out w3 hd3 (by unfold E8;exact hf3));clear hd3 hf3
    by_cases hy:y=0
    ·subst hy;go_wp2_with (fail);refine bodyPost_ret (v:=.tuple #[.pointer (some ⟨w2.heap.size,0,none⟩),.slice va l.length vc,.int .i64 0]) (by simp[results,Tryz.results61,go_sem]) rfl ?_;exact HDN2.out
    ·have by0:((y:Int)!=0)=true:=by simpa using hy
     have HD4:Hid (Tu w b bm name (d2,y,tx) (.returned (.tuple #[.pointer none,.slice none 0 0,.int .i64 y])) w3):=a0z (by
      have h:=HDN2.out;rw[if_neg hy] at h
      exact h)
     clear hy;go_wp2_with (fail);refine bodyPost_ret (v:=.tuple #[.pointer none,.slice none 0 0,.int .i64 y]) (by simp[results,Tryz.results61,go_sem]) rfl ?_;exact HD4.out
  ·have zel:(en:Int)≤(s.size:Int):=by omega
   go_enter Tryz.func61,Tryz.ntmps61;go_wp2_with (fail);(with_reducible refine HR.out.mono ?_);rintro e w1 ⟨rfl,hf1⟩;have HF1:=a0z hf1;have HT1:=a0z (HT.out.fp hf1 (by simp));clear hf1;go_wp2_with (fail);(with_reducible refine(HALL.out _ HT1.out).mono ?_);rintro e w2 ⟨v,rfl,ho2,hf2⟩;obtain⟨⟨va,vc,rfl⟩,-⟩:=ho2.at;have hfW:Fp [] w (w2.alloc (.cells (E8 b ⟨name,l.length,false⟩) 185)):=(HF1.out.trans hf2 (by simp)).alloc' _;have hlW:B5 (w2.alloc (.cells (E8 b ⟨name,l.length,false⟩) 185)) w2.heap.size b ⟨name,l.length,false⟩:=Ai rfl _;have hle:w.heap.size≤w1.heap.size:=HF1.out.size;have hle2:w.heap.size≤w2.heap.size:=a0v hle hf2.size;have hoW:B9 (w2.alloc (.cells (E8 b ⟨name,l.length,false⟩) 185)) w.heap.size (.slice va l.length vc) l:=(ho2.mono hle).fp (Fp.alloc _ _) (by simp);have HC:=HGO.out _ w2.heap.size hfW hlW;have HDN:=a0z (fun w' h1 h2=>HDONE.out _ w' w2.heap.size (.slice va l.length vc) hfW hle2 hlW hoW h1 h2);unfold E8 at HC;simp only at HC;clear ho2 hf2 hfW hlW hoW hle hle2;have HC2:=a0z (HC.1 (by simp));clear HC;go_wp2_with (fail);(with_reducible refine HC2.out.mono ?_);rintro e w3 ⟨rfl,hd3,hf3⟩;have HDN2:=a0z (HDN.out w3 hd3 (by unfold E8;exact hf3));clear hd3 hf3
   by_cases hy:y=0
   ·subst hy;go_wp2_with (fail);refine bodyPost_ret (v:=.tuple #[.pointer (some ⟨w2.heap.size,0,none⟩),.slice va l.length vc,.int .i64 0]) (by simp[results,Tryz.results61,go_sem]) rfl ?_;exact HDN2.out
   ·have by0:((y:Int)!=0)=true:=by simpa using hy
    have HD4:Hid (Tu w b bm name (d2,y,tx) (.returned (.tuple #[.pointer none,.slice none 0 0,.int .i64 y])) w3):=a0z (by
     have h:=HDN2.out;rw[if_neg hy] at h
     exact h)
    clear hy;go_wp2_with (fail);refine bodyPost_ret (v:=.tuple #[.pointer none,.slice none 0 0,.int .i64 y]) (by simp[results,Tryz.results61,go_sem]) rfl ?_;exact HD4.out
end
section
open Go.RowKit
structure Tf(base:Nat)(D:List TypeId)(S:List Nat)(W W':World):Prop where
 os:W'.os=W.os
 tape:W'.tape=W.tape
 output:W'.output=W.output
 size:W.heap.size≤W'.heap.size
 block:∀k,k<W.heap.size→k∉S→(base≤k→∀c T fz,W.heap[k]?=some (.cells c T fz)→T∉D)→W'.heap[k]?=W.heap[k]?
variable {base : Nat} {D : List TypeId} {S S' : List Nat} {a b c W W' : World}
theorem Tf.of(h:Fp S W W'):Tf base D S W W':=⟨h.os,h.tape,h.output,h.size,fun k h1 h2 _=>h.block k h1 h2⟩
theorem Tf.refl(W:World):Tf base D S W W:=Tf.of (Fp.refl _ _)
theorem Tf.trans(h:Tf base D S a b)(k:Tf base D S' b c)(hs:∀i∈S',i∈S∨a.heap.size≤i):Tf base D S a c:=by
 refine⟨k.os.trans h.os,k.tape.trans h.tape,k.output.trans h.output,a0v h.size k.size,fun i h1 h2 h3=>?_⟩;have e:=h.block i h1 h2 h3;refine(k.block i (a1z h1 h.size) (fun hm=>?_) (fun hb c T fz hc=>h3 hb c T fz (e▸hc))).trans e
 rcases hs i hm with h4|h4
 ·exact h2 h4
 ·omega
theorem Tf.mono(h:Tf base D S a b)(hs:∀i∈S,i∈S'):Tf base D S' a b:=⟨h.os,h.tape,h.output,h.size,fun i h1 h2 h3=>h.block i h1 (fun hm=>h2 (hs i hm)) h3⟩
theorem Tf.more{D':List TypeId}(h:Tf base D S a b)(hs:∀i∈D,i∈D'):Tf base D' S a b:=⟨h.os,h.tape,h.output,h.size,fun i h1 h2 h3=>h.block i h1 h2 fun hb c T fz hc hm=>h3 hb c T fz hc (hs T hm)⟩
theorem Tf.low(h:Tf base D S W W'){k:Nat}(hk:k<W.heap.size)(hb:k<base)(hS:k∉S):W'.heap[k]?=W.heap[k]?:=h.block k hk hS fun h1=>by omega
theorem Tf.cells(h:Tf base D S W W'){k:Nat}{c:Array Value}{T:TypeId}{fz:Nat × Nat}(hk:W.heap[k]?=some (.cells c T fz))(hS:k∉S)(hT:T∉D):W'.heap[k]?=some (.cells c T fz):=
 (h.block k (Array.getElem?_eq_some_iff.1 hk).1 hS fun _ c' T' fz' h1=>by rw[hk] at h1;cases h1;exact hT).trans hk
theorem Tf.toFp(h:Tf W.heap.size D S W W'):Fp S W W':=⟨h.os,h.tape,h.output,h.size,fun k h1 h2=>h.block k h1 h2 fun h3=>by omega⟩
theorem Tf.onto(h:Tf base D S b c)(k:Fp S' a b)(hb:a.heap.size≤base)(hs:∀i∈S,i∈S'∨a.heap.size≤i):Fp S' a c:=by
 refine⟨h.os.trans k.os,h.tape.trans k.tape,h.output.trans k.output,a0v k.size h.size,fun i h1 h2=>?_⟩;refine(h.block i (a1z h1 k.size) (fun hm=>?_) (fun h3=>by omega)).trans (k.block i h1 h2)
 rcases hs i hm with h4|h4
 ·exact h2 h4
 ·omega
theorem Tf.grown{e:TypeId}{size n:Nat}{v:Value}{l:List Value}(h:W.ownsRow base e size v n l)(hg:W.grownBy W' v.ownBlock)(he:e∈D):Tf base D S W W':=by
 refine⟨hg.os,hg.tape,hg.output,hg.size,fun k h1 _ h2=>hg.block k h1 fun e1=>?_⟩
 rcases h.2 with⟨rfl,_⟩|⟨g,cap,cur,rfl,hgb,hh,_⟩
 ·cases e1
 ·obtain rfl:k=g:=by simpa [Value.ownBlock] using e1
  exact h2 hgb _ _ _ hh he
section
variable {α : Type} {R : Gx α}
theorem Ae.tf{base':Nat}{v:Value}{l:List α}(h:Ae R W base' v l)(ht:Tf base D S W W')(hR:R.e∉D)(hS:∀k,v.ownBlock=some k→k∉S):Ae R W' base' v l:=by
 refine h.kept fun k hk=>?_
 rcases h.2 with⟨rfl,_⟩|⟨g,cap,cur,rfl,_,hh,_⟩
 ·cases hk
 ·obtain rfl:g=k:=by simpa [Value.ownBlock] using hk
  rw[hh];exact ht.cells hh (hS _ hk) hR
theorem Bf.tf{b o n:Nat}{l:List α}(h:Bf R W (some ⟨b,o,none⟩) n l)(ht:Tf base D S W W')(hb:b<base)(hS:b∉S):Bf R W' (some ⟨b,o,none⟩) n l:=by
 refine⟨h.len,?_⟩
 rcases h.cells with h0|⟨b',o',e,hb',hc⟩
 ·exact Or.inl h0
 ·cases e;exact Or.inr ⟨b,o,rfl,a1z hb' ht.size,fun i hi j u hu=>(World.cell?_of_block (w:=W) (ht.low hb' hb hS)).trans (hc i hi j u hu)⟩
end
end
section
open Go.RowKit
section
variable {P : Program} {l : List Oper}
def Fe(l:List Oper)(a:Act):Nat→Value:=fun j=>match l[j]? with
 |some o=>A8 o a
 |none=>undef
def Bw(vs:Nat→Value)(i:Nat)(v:Value):Nat→Value:=fun k=>if k=i then v else vs k
def told(o:Oper)(v:Value):Value:=match o.dst with
 |some _=>v
 |none=>undef
theorem Wn{o:Oper}{v:Value}(h:o.dst.isSome=true):told o v=v:=by
 unfold told
 cases hd:o.dst with
 |none=>rw[hd] at h;cases h
 |some d=>rfl
theorem Zy{a:Act}{k:Nat}{o:Oper}(h:l[k]?=some o):Fe l a k=A8 o a:=by unfold Fe;rw[h]
theorem kL{a:Act}{k:Nat}(h:l[k]?=none):Fe l a k=undef:=by unfold Fe;rw[h]
theorem Abj{a:Act}{n i:Nat}{o:Oper}{v:Value}(hform:Ft l n=true)(hn:a.tmps.size=n)(ho:l[i]?=some o):Fe l (a.put o.dst v)=Bw (Fe l a) i (told o v):=by
 funext k
 by_cases e:k=i
 ·subst e;rw[Zy ho];unfold Bw told;rw[if_pos rfl];unfold A8
  cases hd:o.dst with
  |none=>rfl
  |some d=>
   simp only;rw[Qq (by rw[hn];exact(Ha hform ho hd).1)]
 ·unfold Bw;rw[if_neg e]
  cases hk:l[k]? with
  |none=>rw[kL hk,kL hk]
  |some ok=>
   rw[Zy hk,Zy hk];unfold A8
   cases hdk:ok.dst with
   |none=>rfl
   |some d=>
    simp only
    refine Lx fun hd=>?_
    exact(Ha hform ho hd).2 k ok hk e hdk
theorem Abk(a:Act):(fun j=>(l.map fun o=>A8 o a).getD j undef)=Fe l a:=by
 funext j
 unfold Fe;rw[List.getD_eq_getElem?_getD,a1x]
 cases l[j]?<;>rfl
def Zz(P:Program)(l:List Oper)(Ss:List (World→Value→Prop))(C:(Nat→Bool)→(Nat→Value)→World→Prop)(R:World→World→Prop)(a0:Act)(i:Nat):Prop:=
 ∀o S,l[i]?=some o→Ss[i]?=some S→∀(b:Nat→Bool) (a:Act) (w:World),C b (Fe l a) w→b i=false→(∀e∈o.after,Region.binds .any e=true→b e.on=true)→
  (∀j oj,l[j]?=some oj→b j=true→∀e∈oj.after,Region.binds .any e=true→b e.on=true)→a.tmps.size=a0.tmps.size→
  (∀t,(∀j oj,l[j]?=some oj→oj.dst=some t→b j=false)→a.tmps.getD t undef=a0.tmps.getD t undef)→
  (∀e∈o.after,Region.binds .any e=true→∀oe Se,l[e.on]?=some oe→Ss[e.on]?=some Se→Se w (A8 oe a))→
  if Region.wanted o (yielded l.toArray a.tmps)=true then o.wp P a w (fun a2 w2=>∃v,a2=a.put o.dst v∧C (Ap b i) (Bw (Fe l a) i (told o v)) w2∧R w w2∧S w2 (told o v)) (fun _ _ _=>False)
  else S w undef∧C (Ap b i) (Bw (Fe l a) i undef) w
structure kM(l:List Oper)(Ss:List (World→Value→Prop))(C:(Nat→Bool)→(Nat→Value)→World→Prop)(a0:Act)(listed:Array Bool)(a:Act)(w:World):Prop where
 size:listed.size=l.length
 defers:a.defers=a0.defers
 tmps:a.tmps.size=a0.tmps.size
 done:∀j o S,l[j]?=some o→Ss[j]?=some S→listed.getD j false=true→S w (A8 o a)
 same:∀t,(∀j oj,l[j]?=some oj→oj.dst=some t→Dy listed j=false)→a.tmps.getD t undef=a0.tmps.getD t undef
 closed:∀j oj,l[j]?=some oj→Dy listed j=true→∀e∈oj.after,Region.binds .any e=true→Dy listed e.on=true
 cls:C (Dy listed) (Fe l a) w
theorem Abl{Ss:List (World→Value→Prop)}{C:(Nat→Bool)→(Nat→Value)→World→Prop}{R:World→World→Prop}{a0:Act}{Qn:Act→World→Prop}(hl:Ss.length=l.length)(hform:Ft l a0.tmps.size=true)
  (stab:∀S∈Ss,∀w w' v,R w w'→S w v→S w' v)(rel:∀i,i<l.length→Zz P l Ss C R a0 i)
  (fin:∀a w listed,kM l Ss C a0 listed a w→(∀j,j<l.length→listed.getD j false=true)→Qn a w):
  ∀(fuel:Nat) (listed:Array Bool) (a:Act) (w:World),Gn listed=fuel→kM l Ss C a0 listed a w→Ir P l Qn fuel listed a w:=by
 intro fuel
 induction fuel with
 |zero=>
  intro listed a w hu inv;have hall:=Vm hu;rw[inv.size] at hall;refine⟨?_,fin a w listed inv hall⟩;apply List.eq_nil_iff_forall_not_mem.2;intro j hj;obtain⟨h1,o,ho,_⟩:=mem_ready.1 hj
  have hlt:j<l.length:=by simpa using(Array.getElem?_eq_some_iff.1 ho).1
  have h2:=hall j hlt
  have hls:j<listed.size:=by rw[inv.size];exact hlt
  simp[hls] at h1 h2;rw[h1] at h2;cases h2
 |succ fuel ih=>
  intro listed a w hu inv;refine⟨fun hr=>?_,fun i hi=>?_⟩
  ·--something is ready as long as not all is listed
   exfalso
   have hex:∃j,j<l.length∧listed.getD j false=false:=by
    by_cases hex:∃j,j<l.length∧listed.getD j false=false
    ·exact hex
    ·exfalso
     have hall:∀j,j<l.length→listed.getD j false=true:=fun j hj=>by
      cases h:listed.getD j false
      ·exact absurd ⟨j,hj,h⟩ hex
      ·rfl
     have:Gn listed=0:=by
      unfold Gn;rw[List.length_eq_zero_iff,List.filter_eq_nil_iff];intro b hb;obtain⟨j,hj,rfl⟩:=a0u hb
      have hj':j<listed.size:=by simpa using hj
      have:=hall j (by rw[←inv.size];exact hj');simp[hj'] at this ⊢;exact this
     omega
   obtain⟨j,hj,hleast⟩:∃j,(j<l.length∧listed.getD j false=false)∧∀k,k<j→¬(k<l.length∧listed.getD k false=false):=by
    obtain⟨j0,h0⟩:=hex
    induction j0 using Nat.strongRecOn with
    |_ n ih2=>
     by_cases hk:∃k,k<n∧(k<l.length∧listed.getD k false=false)
     ·obtain⟨k,hk1,hk2⟩:=hk;exact ih2 k hk1 hk2
     ·exact⟨n,h0,fun k hk1 hk2=>hk ⟨k,hk1,hk2⟩⟩
   have hjs:j<listed.size:=by rw[inv.size];exact hj.1
   have:j∈Region.ready .any l.toArray listed:=by
    refine mem_ready.2 ⟨by have:=hj.2;simp[hjs] at this ⊢;exact this,l[j],by simp[hj.1],fun e he hb=>?_⟩;have hlt:=O7 hform (a0x hj.1) e he hb;cases h:listed.getD e.on false
    ·exact absurd ⟨by omega,h⟩ (hleast e.on hlt)
    ·rfl
   rw[hr] at this;cases this
  ·obtain⟨h1,o,ho,hpre⟩:=mem_ready.1 hi
   have ho':l[i]?=some o:=by simpa using ho
   have hlt:i<l.length:=(List.getElem?_eq_some_iff.1 ho').1
   have hls:i<listed.size:=by rw[inv.size];exact hlt
   obtain⟨S,hS⟩:∃S,Ss[i]?=some S:=⟨Ss[i]'(by omega),a0x (by omega)⟩
   have h1':Dy listed i=false:=by unfold Dy;simp[hls] at h1 ⊢;exact h1
   have hr:=rel i hlt o S ho' hS (Dy listed) a w inv.cls h1' (fun e he hb=>hpre e he hb) inv.closed inv.tmps inv.same (fun e he hb oe Se hoe hSe=>inv.done e.on oe Se hoe hSe (hpre e he hb))
   have hbit:Dy (listed.setIfInBounds i true)=Ap (Dy listed) i:=by
    funext k
    unfold Dy Ap
    by_cases e:k=i
    ·subst e;rw[if_pos rfl];simp[hls]
    ·rw[if_neg e,getD_set_ne false (Ne.symm e)]
   have hnext:∀v w2,C (Ap (Dy listed) i) (Bw (Fe l a) i (told o v)) w2→(∀S'∈Ss,∀v,S' w v→S' w2 v)→S w2 (told o v)→Ir P l Qn fuel (listed.setIfInBounds i true) (a.put o.dst v) w2:=by
    intro v w2 hC hst hv;refine ih _ _ _ (by have:=Vl hls h1;omega) ⟨by simp[inv.size],by rw[Sr];exact inv.defers,by rw[Qr];exact inv.tmps,?_,?_,?_,by rw[hbit,Abj hform inv.tmps ho'];exact hC⟩
    ·intro j oj Sj hj hSj hlj
     by_cases hij:i=j
     ·subst hij;rw[ho'] at hj;cases hj;rw[hS] at hSj;cases hSj;unfold told at hv;unfold A8
      cases hd:o.dst with
      |none=>rw[hd] at hv;exact hv
      |some d=>
       rw[hd] at hv;simp only;rw[Qq (by rw[inv.tmps];exact(Ha hform ho' hd).1)];exact hv
     ·rw[getD_set_ne false hij] at hlj;have h2:=hst Sj (a1v hSj) _ (inv.done j oj Sj hj hSj hlj)
      have:A8 oj (a.put o.dst v)=A8 oj a:=by
       unfold A8
       cases hdj:oj.dst with
       |none=>rfl
       |some d=>
        simp only
        refine Lx fun hd=>?_
        exact(Ha hform ho' hd).2 j oj hj (Ne.symm hij) hdj
      rw[this];exact h2
    ·intro t ht
     have hne:o.dst≠some t:=fun hd=>by
      have:=ht i o ho' hd;rw[hbit] at this;unfold Ap at this;rw[if_pos rfl] at this;cases this
     rw[Lx hne]
     refine inv.same t fun j oj hj hd=>?_
     have:=ht j oj hj hd;rw[hbit] at this;unfold Ap at this
     by_cases e:j=i
     ·rw[if_pos e] at this;cases this
     ·rw[if_neg e] at this;exact this
    ·intro j oj hj hlj e he hb;rw[hbit] at hlj ⊢
     have up:∀k,Dy listed k=true→Ap (Dy listed) i k=true:=fun k hk=>by
      unfold Ap
      by_cases e:k=i
      ·rw[if_pos e]
      ·rw[if_neg e];exact hk
     by_cases ej:j=i
     ·subst ej;rw[ho'] at hj;cases hj;exact up _ (hpre e he hb)
     ·unfold Ap at hlj;rw[if_neg ej] at hlj;exact up _ (inv.closed j oj hj hlj e he hb)
   refine⟨o,ho',?_⟩;split
   ·rename_i hw;rw[if_pos hw] at hr;refine(Sl (fun a2 w2 h=>?_) (fun _ _ _ h=>h.elim) hr);obtain⟨v,rfl,hC,hR,hv⟩:=h;exact hnext v w2 hC (fun S' hS' v hv=>stab S' hS' w w2 v hR hv) hv
   ·rename_i hw;rw[if_neg hw] at hr
    have htu:told o undef=undef:=by unfold told;cases o.dst<;>rfl
    refine hnext undef w (by rw[htu];exact hr.2) (fun _ _ _ h=>h) ?_;rw[htu];exact hr.1
theorem kN{Qn:Act→World→Prop}{a0:Act}{w0:World}(Ss:List (World→Value→Prop))(C:(Nat→Bool)→(Nat→Value)→World→Prop)(R:World→World→Prop)
  (hl:Ss.length=l.length)(hform:Ft l a0.tmps.size=true)(hC:∀vs,C (fun _=>false) vs {w0 with drawn:=w0.drawn+1})
  (stab:∀S∈Ss,∀w w' v,R w w'→S w v→S w' v)(rel:∀i,i<l.length→Zz P l Ss C R a0 i)
  (fin:∀vs w b,C b (fun j=>vs.getD j undef) w→(∀j,j<l.length→b j=true)→F8 w Ss vs→Qn (Am l vs a0) w):Ir P l Qn l.toArray.size (Array.replicate l.toArray.size false) a0 {w0 with drawn:=w0.drawn+1}:=by
 refine(Abl hl hform stab rel ?_ _ _ _ _ (by simp[Gn]) ⟨by simp,rfl,rfl,?_,fun _ _=>rfl,?_,by rw[hO];exact hC _⟩)
 ·intro a w listed inv hall
  have hvs:=fin (l.map (fun o=>A8 o a)) w (Dy listed) (by rw[Abk];exact inv.cls) hall (S1 (by simp[hl]) (fun i S v h1 h2=>by
   rw[a1x] at h2
   cases ho:l[i]? with
   |none=>rw[ho] at h2;cases h2
   |some o=>
    rw[ho] at h2;simp only[Option.map_some,Option.some.injEq] at h2;rw[←h2]
    exact inv.done i o S ho h1 (hall i (List.getElem?_eq_some_iff.1 ho).1)))
  have:Am l (l.map (fun o=>A8 o a)) a0=a:=by
   have hdef:(Am l (l.map (fun o=>A8 o a)) a0).defers=a.defers:=by rw[Sv,inv.defers]
   have htm:(Am l (l.map (fun o=>A8 o a)) a0).tmps=a.tmps:=by
    have hsz:(Am l (l.map (fun o=>A8 o a)) a0).tmps.size=a.tmps.size:=by rw[Su,inv.tmps]
    refine Array.ext hsz fun t h1 h2=>?_
    have hg:(Am l (l.map (fun o=>A8 o a)) a0).tmps.getD t undef=a.tmps.getD t undef:=by
     by_cases hex:∃o∈l,o.dst=some t
     ·obtain⟨o,ho,hd⟩:=hex;obtain⟨i,hi,hio⟩:=a0u ho
      have hio':l[i]?=some o:=by rw[a0x hi,hio]
      rw[Sz l _ a0 (by simp) (fun i j oi oj d hi hj h1 h2=>by
       by_cases hij:i=j
       ·exact hij
       ·exact absurd h2 ((Ha hform hi h1).2 j oj hj (Ne.symm hij))) (fun o' ho' d hd'=>by
       obtain⟨k,hk,hko⟩:=a0u ho'
       exact(Ha hform (by rw[a0x hk,hko]) hd').1) i o (A8 o a) t hio' (by rw[a1x,hio'];rfl) hd]
      unfold A8;rw[hd]
     ·have hex':∀o∈l,o.dst≠some t:=fun o ho hd=>hex ⟨o,ho,hd⟩
      rw[Qs l _ a0 t hex',inv.same t (fun j oj hj hd=>absurd hd (hex' oj (a1v hj)))]
    simpa [h1,h2] using hg
   cases a;cases h:Am l (l.map (fun o=>A8 o _)) a0;rw[h] at hdef htm;simp only at hdef htm;rw[hdef,htm]
  rw[this] at hvs;exact hvs
 ·intro j o S _ _ h;exfalso
  rcases Nat.lt_or_ge j l.length with h'|h'
  ·simp[h'] at h
  ·simp[h'] at h
 ·intro j o _ h;exfalso;unfold Dy at h
  rcases Nat.lt_or_ge j l.length with h'|h'
  ·simp[h'] at h
  ·simp[h'] at h
def kO(l:List Oper)(i t:Nat):Bool:=(List.range l.length).all fun j=>match l[j]? with
 |some o=>o.dst !=some t||(j==i||o.after.any fun e=>Region.binds .any e&&e.on==i)
 |none=>true
def Wp(l:List Oper)(i j:Nat):Bool:=match l[i]? with
 |some o=>o.after.any fun e=>Region.binds .any e&&e.on==j
 |none=>false
structure Nq(l:List Oper)(Ss:List (World→Value→Prop))(a0:Act)(i:Nat)(b:Nat→Bool)(a:Act)(w:World):Prop where
 size:a.tmps.size=a0.tmps.size
 dep:∀(j t:Nat) (S:World→Value→Prop),I4 l i j t=true→Ss[i-1-j]?=some S→S w (a.tmps[t]?.getD undef)
 free:∀(t:Nat) (v:Value),kO l i t=true→a0.tmps.getD t undef=v→a.tmps[t]?.getD undef=v
 pre:∀j,Wp l i j=true→b j=true
 post:∀j,Wp l j i=true→b j=false
 self:b i=false
 val:∀(j t:Nat),I4 l i j t=true→a.tmps[t]?.getD undef=Fe l a j
theorem Abm{Ss:List (World→Value→Prop)}{a0:Act}{i:Nat}{b:Nat→Bool}{a:Act}{w:World}{o:Oper}(ho:l[i]?=some o)(hs:b i=false)(hp:∀e∈o.after,Region.binds .any e=true→b e.on=true)
  (hc:∀j oj,l[j]?=some oj→b j=true→∀e∈oj.after,Region.binds .any e=true→b e.on=true)(h1:a.tmps.size=a0.tmps.size)
  (h2:∀t,(∀j oj,l[j]?=some oj→oj.dst=some t→b j=false)→a.tmps.getD t undef=a0.tmps.getD t undef)
  (h3:∀e∈o.after,Region.binds .any e=true→∀oe Se,l[e.on]?=some oe→Ss[i-1-e.on]?=some Se→Se w (A8 oe a)):Nq l Ss a0 i b a w:=by
 have later:∀j oj,l[j]?=some oj→(oj.after.any fun e=>Region.binds .any e&&e.on==i)=true→b j=false:=fun j oj hj ha=>by
  obtain⟨e,he,hb⟩:=Array.any_eq_true'.1 ha;simp only[a0w,beq_iff_eq] at hb
  cases hbj:b j with
  |false=>rfl
  |true=>
   have:=hc j oj hj hbj e he hb.1;rw[hb.2,hs] at this;cases this
 refine⟨h1,fun j t S hd hS=>?_,fun t v hf hv=>?_,fun j hj=>?_,fun j hj=>?_,hs,fun j t hd=>?_⟩
 ·unfold I4 at hd;rw[ho] at hd
  cases hj:l[j]? with
  |none=>rw[hj] at hd;cases hd
  |some oj=>
   rw[hj] at hd;simp only[a0w,beq_iff_eq] at hd;obtain⟨e,he,hb⟩:=Array.any_eq_true'.1 hd.1;simp only[a0w,beq_iff_eq] at hb;obtain⟨hb1,rfl⟩:=hb;have:=h3 e he hb1 oj S hj hS;unfold A8 at this;rw[hd.2] at this
   simpa using this
 ·have hw:∀j oj,l[j]?=some oj→oj.dst=some t→b j=false:=fun j oj hj hd=>by
   have hlt:j<l.length:=(List.getElem?_eq_some_iff.1 hj).1;have:=List.all_eq_true.1 hf j (List.mem_range.2 hlt);rw[hj] at this;simp only[hd,bne_self_eq_false,Bool.false_or,Bool.or_eq_true,beq_iff_eq] at this
   rcases this with rfl|h
   ·exact hs
   ·exact later j oj hj h
  have:=h2 t hw;rw[hv] at this
  simpa using this
 ·unfold Wp at hj;rw[ho] at hj;obtain⟨e,he,hb⟩:=Array.any_eq_true'.1 hj;simp only[a0w,beq_iff_eq] at hb;rw[←hb.2];exact hp e he hb.1
 ·unfold Wp at hj
  cases hlj:l[j]? with
  |none=>rw[hlj] at hj;cases hj
  |some oj=>rw[hlj] at hj;exact later j oj hlj hj
 ·unfold I4 at hd;rw[ho] at hd
  cases hj:l[j]? with
  |none=>rw[hj] at hd;cases hd
  |some oj=>
   rw[hj] at hd;simp only[a0w,beq_iff_eq] at hd;unfold Fe;rw[hj];simp only;unfold A8;rw[hd.2];simp
def Abn(P:Program)(l:List Oper)(done:List (World→Value→Prop))(S:World→Value→Prop)(C:(Nat→Bool)→(Nat→Value)→World→Prop)(R:World→World→Prop)(a0:Act)(i:Nat):Prop:=
 ∀(b:Nat→Bool),∀o,l[i]?=some o→∀(a:Act) (w:World),C b (Fe l a) w→Nq l done a0 i b a w→
  if Region.wanted o (yielded l.toArray a.tmps)=true then o.wp P a w (fun a2 w2=>∃v,a2=a.put o.dst v∧C (Ap b i) (Bw (Fe l a) i (told o v)) w2∧R w w2∧S w2 (told o v)) (fun _ _ _=>False)
  else S w undef∧C (Ap b i) (Bw (Fe l a) i undef) w
def Tv(R:World→World→Prop):List (World→Value→Prop)→Prop
 |[]=>True
 |S::Ss=>(∀w w' v,R w w'→S w v→S w' v)∧Tv R Ss
theorem kP{R:World→World→Prop}:∀{Ss:List (World→Value→Prop)},Tv R Ss→∀S∈Ss,∀w w' v,R w w'→S w v→S w' v
 |[],_,S,hS=>by cases hS
 |T::Ss,h,S,hS=>by
  rcases List.mem_cons.1 hS with rfl|hS
  ·exact h.1
  ·exact kP h.2 S hS
theorem E6(x:Value){R:World→World→Prop}{Ss:List (World→Value→Prop)}(h:Tv R Ss):Tv R (B0 x::Ss):=⟨fun _ _ _ _ h=>h,h⟩
def Mc(P:Program)(l:List Oper)(C:(Nat→Bool)→(Nat→Value)→World→Prop)(R:World→World→Prop)(a0:Act)(F:Act→World→Prop):Nat→List (World→Value→Prop)→Nat→Prop
 |_,done,0=>Tv R done∧∀w b,(∀j,j<l.length→b j=true)→∀vs,F8 w done.reverse vs→C b (fun j=>vs.getD j undef) w→F (Am l vs a0) w
 |i,done,n+1=>∃S,Abn P l done S C R a0 i∧Mc P l C R a0 F (i+1) (S::done) n
theorem Z0{C:(Nat→Bool)→(Nat→Value)→World→Prop}{R:World→World→Prop}{a0:Act}{F:Act→World→Prop}(hform:Ft l a0.tmps.size=true):∀(n i:Nat) (done:List (World→Value→Prop)),Mc P l C R a0 F i done n→done.length=i→i+n=l.length→
  ∃Ss,(∃r,Ss=done.reverse++r)∧Ss.length=l.length∧(∀S∈Ss,∀w w' v,R w w'→S w v→S w' v)∧(∀vs w b,C b (fun j=>vs.getD j undef) w→(∀j,j<l.length→b j=true)→F8 w Ss vs→F (Am l vs a0) w)∧∀k,i≤k→k<l.length→Zz P l Ss C R a0 k
 |0,i,done,h,h1,h2=>⟨done.reverse,⟨[],by simp⟩,by simp;omega,fun S hS=>kP h.1 S (by simpa using hS),fun vs w b hC hb hr=>h.2 w b hb vs hr hC,fun k h3 h4=>by omega⟩
 |n+1,i,done,h,h1,h2=>by
  obtain⟨S,hop,hrest⟩:=h;obtain⟨Ss,⟨r,hr⟩,g1,g2,g3,g4⟩:=Z0 hform n (i+1) (S::done) hrest (by simp[h1]) (by omega);rw[List.reverse_cons] at hr;refine⟨Ss,⟨[S]++r,by rw[hr,a1w]⟩,g1,g2,g3,fun k h3 h4=>?_⟩
  by_cases e:k=i
  ·subst e;intro o S' ho hS' b a w hC m1 m2 m3 k1 k2 k3
   have hS:Ss[k]?=some S:=by rw[hr,a1w,List.getElem?_append_right (by simp;omega)];simp[h1]
   rw[hS] at hS';cases hS';refine hop b o ho a w hC (Abm ho m1 m2 m3 k1 k2 fun e he hb oe Se hoe hSe=>k3 e he hb oe Se hoe ?_);have hlt:=O7 hform ho e he hb;rw[hr,a1w,List.getElem?_append_left (by simp;omega),List.getElem?_reverse (by omega),h1];exact hSe
  ·exact g4 k (by omega) h4
theorem Px{id:Nat}{Q:Exit→Act→World→Prop}{a0:Act}{w0:World}(C:(Nat→Bool)→(Nat→Value)→World→Prop)(R:World→World→Prop)
  (hm:P.follows .mixedOrders=true)(hform:Ft l a0.tmps.size=true)(hC:∀vs,C (fun _=>false) vs {w0 with drawn:=w0.drawn+1})
  (h:Mc P l C R a0 (fun a w=>Q .normal a w) 0 [] l.length):(Code.region id l.toArray true).wp P Q a0 w0:=by
 obtain⟨Ss,_,g1,g2,g3,g4⟩:=Z0 hform l.length 0 [] h rfl (by omega);exact gY hm (kN Ss C R g1 hform hC g2 (fun i hi=>g4 i (Nat.zero_le _) hi) g3)
theorem Tz{id lo n:Nat}{Q:Exit→Act→World→Prop}{a0:Act}{w0:World}(C:(Nat→Bool)→(Nat→Value)→World→Prop)(R:World→World→Prop)
  (hm:P.follows .mixedOrders=true)(hd:S3 l=true)(hform:Ft l a0.tmps.size=true)(hC:∀vs,C (fun _=>false) vs {w0 with drawn:=w0.drawn+1})
  (h:Mc P l C R a0 (fun a w=>Q .normal a w) 0 [] l.length):(Code.region id l.toArray true).wpIn (Fence.wide.inRound lo) n P Q a0 w0:=by
 obtain⟨Ss,_,g1,g2,g3,g4⟩:=Z0 hform l.length 0 [] h rfl (by omega);exact gZ hm hd (kN Ss C R g1 hform hC g2 (fun i hi=>g4 i (Nat.zero_le _) hi) g3)
variable {C : (Nat → Bool) → (Nat → Value) → World → Prop} {R : World → World → Prop} {a0 : Act} {F : Act → World → Prop} {i n : Nat} {done : List (World → Value → Prop)}
theorem Cj{o:Oper}{x:Value}(hc:∀b vs w,C b vs w→b i=false→C (Ap b i) (Bw vs i x) w)(ho:l[i]?=some o)(hg:o.guard=none)(hd:o.dst.isSome=true)
  (h:∀b a w,C b (Fe l a) w→Nq l done a0 i b a w→∀K:Act→World→Prop,(∀w2,C b (Fe l a) w2→R w w2→K (a.put o.dst x) w2)→o.wp P a w K (fun _ _ _=>False))
  (hn:Mc P l C R a0 F (i+1) (B0 x::done) n):Mc P l C R a0 F i done (n+1):=by
 refine⟨B0 x,?_,hn⟩;intro b o' ho' a w hC hA;rw[ho] at ho';cases ho'
 have hw:Region.wanted o (yielded l.toArray a.tmps)=true:=by unfold Region.wanted;rw[hg]
 rw[if_pos hw]
 exact h b a w hC hA _ fun w2 c r=>⟨x,rfl,by rw[Wn hd];exact hc _ _ _ c hA.self,r,by rw[Wn hd];rfl⟩
theorem Dt{o:Oper}(S:World→Value→Prop)(ho:l[i]?=some o)(hg:o.guard=none)(hd:o.dst.isSome=true)
  (h:∀b a w,C b (Fe l a) w→Nq l done a0 i b a w→∀K:Act→World→Prop,(∀v w2,C (Ap b i) (Bw (Fe l a) i v) w2→R w w2→S w2 v→K (a.put o.dst v) w2)→o.wp P a w K (fun _ _ _=>False))
  (hn:Mc P l C R a0 F (i+1) (S::done) n):Mc P l C R a0 F i done (n+1):=by
 refine⟨S,?_,hn⟩;intro b o' ho' a w hC hA;rw[ho] at ho';cases ho'
 have hw:Region.wanted o (yielded l.toArray a.tmps)=true:=by unfold Region.wanted;rw[hg]
 rw[if_pos hw]
 exact h b a w hC hA _ fun v w2 c r s=>⟨v,rfl,by rw[Wn hd];exact c,r,by rw[Wn hd];exact s⟩
theorem I9{o:Oper}(S:World→Prop)(ho:l[i]?=some o)(hg:o.guard=none)(hd:o.dst=none)
  (h:∀b a w,C b (Fe l a) w→Nq l done a0 i b a w→∀K:Act→World→Prop,(∀v w2,C (Ap b i) (Bw (Fe l a) i undef) w2→R w w2→S w2→K (a.put o.dst v) w2)→o.wp P a w K (fun _ _ _=>False))
  (hn:Mc P l C R a0 F (i+1) ((fun w _=>S w)::done) n):Mc P l C R a0 F i done (n+1):=by
 refine⟨fun w _=>S w,?_,hn⟩;intro b o' ho' a w hC hA;rw[ho] at ho';cases ho'
 have hw:Region.wanted o (yielded l.toArray a.tmps)=true:=by unfold Region.wanted;rw[hg]
 rw[if_pos hw]
 exact h b a w hC hA _ fun v w2 c r s=>⟨v,rfl,by unfold told;rw[hd];exact c,r,s⟩
end
section
open Go.RowKit
theorem Nq.eq{l:List Oper}{Ss:List (World→Value→Prop)}{a0:Act}{i:Nat}{b:Nat→Bool}{a:Act}{w:World}(h:Nq l Ss a0 i b a w)(j t:Nat){x:Value}(hs:Ss[i-1-j]?=some (B0 x))(hd:I4 l i j t=true:=by decide+kernel):a.tmps[t]?.getD undef=x:=h.dep j t (B0 x) hd hs
theorem Nq.fr{l:List Oper}{Ss:List (World→Value→Prop)}{a0:Act}{i:Nat}{b:Nat→Bool}{a:Act}{w:World}(h:Nq l Ss a0 i b a w)(t:Nat){v:Value}(hv:a0.tmps.getD t undef=v)(hd:kO l i t=true:=by decide+kernel):a.tmps[t]?.getD undef=v:=h.free t v hd hv
end
end
section
open Go.RowKit
theorem Ej(b:Nat→Bool)(i:Nat):Ap b i i=true:=if_pos rfl
theorem Af{b:Nat→Bool}{i k:Nat}(h:k≠i):Ap b i k=b k:=if_neg h
theorem Gq(vs:Nat→Value)(i:Nat)(v:Value):Bw vs i v i=v:=if_pos rfl
theorem Bc{vs:Nat→Value}{i k:Nat}{v:Value}(h:k≠i):Bw vs i v k=vs k:=if_neg h
structure Gi(T:TypeId)(z x y:Array Value)(i j p q:Nat)(w0:World)(b:Nat→Bool)(vs:Nat→Value)(w:World):Prop where
 fp:Fp [] w0 w
 ai:b i=true→∃B,vs i=.pointer (some ⟨B,0,none⟩)∧w0.heap.size≤B∧w.heap[B]?=some (.cells (if b p=true then x else z) T (0,0))
 aj:b j=true→∃B,vs j=.pointer (some ⟨B,0,none⟩)∧w0.heap.size≤B∧w.heap[B]?=some (.cells (if b q=true then y else z) T (0,0))
 ne:b i=true→b j=true→vs i≠vs j
variable {T : TypeId} {z x y : Array Value} {i j p q : Nat} {w0 : World} {b : Nat → Bool} {vs : Nat → Value} {w w2 : World}
theorem Gi.start{vs:Nat→Value}(h:Fp [] w0 w):Gi T z x y i j p q w0 (fun _=>false) vs w:=⟨h,(fun h=>by cases h),(fun h=>by cases h),(fun h=>by cases h)⟩
theorem Gi.plain{k:Nat}{v:Value}(h:Gi T z x y i j p q w0 b vs w)(hk:k≠i∧k≠j∧k≠p∧k≠q):Gi T z x y i j p q w0 (Ap b k) (Bw vs k v) w:=by
 obtain⟨h1,h2,h3,h4⟩:=hk;refine⟨h.fp,?_,?_,?_⟩
 ·rw[Af h1.symm,Af h3.symm,Bc h1.symm];exact h.ai
 ·rw[Af h2.symm,Af h4.symm,Bc h2.symm];exact h.aj
 ·rw[Af h1.symm,Af h2.symm,Bc h1.symm,Bc h2.symm];exact h.ne
theorem Gi.on(h:Gi T z x y i j p q w0 b vs w)(hf:Fp [] w w2):Gi T z x y i j p q w0 b vs w2:=by
 refine⟨h.fp.trans hf (by simp),fun hb=>?_,fun hb=>?_,h.ne⟩
 ·obtain⟨B,h1,h2,h3⟩:=h.ai hb;exact⟨B,h1,h2,(hf.block B (Ab h3) (by simp)).trans h3⟩
 ·obtain⟨B,h1,h2,h3⟩:=h.aj hb;exact⟨B,h1,h2,(hf.block B (Ab h3) (by simp)).trans h3⟩
theorem Gi.makeI(h:Gi T z x y i j p q w0 b vs w)(hp:b p=false)(hd:i≠j∧i≠p∧i≠q):Gi T z x y i j p q w0 (Ap b i) (Bw vs i (.pointer (some ⟨w.heap.size,0,none⟩))) (w.alloc (.cells z T)):=by
 have h2:=h.on (Fp.alloc w (.cells z T));refine⟨h2.fp,fun _=>⟨w.heap.size,Gq _ _ _,h.fp.size,?_⟩,fun hb=>?_,fun _ hb=>?_⟩
 ·rw[Af hd.2.1.symm,hp];exact Ai rfl _
 ·rw[Af hd.1.symm] at hb;rw[Bc hd.1.symm,Af hd.2.2.symm];exact h2.aj hb
 ·rw[Af hd.1.symm] at hb;rw[Gq,Bc hd.1.symm];obtain⟨B,h1,_,h3⟩:=h.aj hb;rw[h1];intro e
  have e1:w.heap.size=B:=by injection e with e;injection e with e;injection e
  have:=Ab h3;omega
theorem Gi.makeJ(h:Gi T z x y i j p q w0 b vs w)(hq:b q=false)(hd:j≠i∧j≠p∧j≠q):Gi T z x y i j p q w0 (Ap b j) (Bw vs j (.pointer (some ⟨w.heap.size,0,none⟩))) (w.alloc (.cells z T)):=by
 have h2:=h.on (Fp.alloc w (.cells z T));refine⟨h2.fp,fun hb=>?_,fun _=>⟨w.heap.size,Gq _ _ _,h.fp.size,?_⟩,fun hb _=>?_⟩
 ·rw[Af hd.1.symm] at hb;rw[Bc hd.1.symm,Af hd.2.1.symm];exact h2.ai hb
 ·rw[Af hd.2.2.symm,hq];exact Ai rfl _
 ·rw[Af hd.1.symm] at hb;rw[Gq,Bc hd.1.symm];obtain⟨B,h1,_,h3⟩:=h.ai hb;rw[h1];intro e
  have e1:w.heap.size=B:=by injection e with e;injection e with e;injection e with e;exact e.symm
  have:=Ab h3;omega
theorem Gi.fillP(h:Gi T z x y i j p q w0 b vs w)(hi:b i=true){B:Nat}(hv:vs i=.pointer (some ⟨B,0,none⟩))(hf:Fp [B] w w2)(hx:w2.heap[B]?=some (.cells x T (0,0)))(hd:p≠i∧p≠j∧p≠q):Gi T z x y i j p q w0 (Ap b p) (Bw vs p undef) w2:=by
 obtain⟨B',h1,h2,h3⟩:=h.ai hi
 have hB:B=B':=by rw[h1] at hv;injection hv with e;injection e with e;injection e with e;exact e.symm
 subst hB;refine⟨h.fp.trans hf (by simp;omega),fun _=>⟨B,?_,h2,?_⟩,fun hb=>?_,fun h5 h6=>?_⟩
 ·rw[Bc hd.1.symm];exact h1
 ·rw[Ej,if_pos rfl];exact hx
 ·rw[Af hd.2.1.symm] at hb;rw[Bc hd.2.1.symm,Af hd.2.2.symm];obtain⟨B2,g1,g2,g3⟩:=h.aj hb;refine⟨B2,g1,g2,(hf.block B2 (Ab g3) ?_).trans g3⟩;intro hm;have hm:=List.mem_singleton.1 hm;exact h.ne hi hb (by rw[h1,g1,hm])
 ·rw[Af hd.1.symm] at h5;rw[Af hd.2.1.symm] at h6;rw[Bc hd.1.symm,Bc hd.2.1.symm];exact h.ne h5 h6
theorem Gi.fillQ(h:Gi T z x y i j p q w0 b vs w)(hj:b j=true){B:Nat}(hv:vs j=.pointer (some ⟨B,0,none⟩))(hf:Fp [B] w w2)(hy:w2.heap[B]?=some (.cells y T (0,0)))(hd:q≠i∧q≠j∧q≠p):Gi T z x y i j p q w0 (Ap b q) (Bw vs q undef) w2:=by
 obtain⟨B',h1,h2,h3⟩:=h.aj hj
 have hB:B=B':=by rw[h1] at hv;injection hv with e;injection e with e;injection e with e;exact e.symm
 subst hB;refine⟨h.fp.trans hf (by simp;omega),fun hb=>?_,fun _=>⟨B,?_,h2,?_⟩,fun h5 h6=>?_⟩
 ·rw[Af hd.1.symm] at hb;rw[Bc hd.1.symm,Af hd.2.2.symm];obtain⟨B2,g1,g2,g3⟩:=h.ai hb;refine⟨B2,g1,g2,(hf.block B2 (Ab g3) ?_).trans g3⟩;intro hm;have hm:=List.mem_singleton.1 hm;exact h.ne hb hj (by rw[h1,g1,hm])
 ·rw[Bc hd.2.1.symm];exact h1
 ·rw[Ej,if_pos rfl];exact hy
 ·rw[Af hd.1.symm] at h5;rw[Af hd.2.1.symm] at h6;rw[Bc hd.1.symm,Bc hd.2.1.symm];exact h.ne h5 h6
end
end Go.Proofs.YtkagolpnaicdoaaGreatDoor
