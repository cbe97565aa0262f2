/-
 The disk's gate for files that have to be there. The disk as data: what its calls keep to. The disk's calls that go through the gate.
-/
import Derived.Test.YtkagolpnaicdoaaGreatDoorMVdSet
import Derived.Deep.QuietTactic
import Derived.BigQuiet
set_option maxRecDepth 100000
set_option maxHeartbeats 8000000
open Go.Lib renaming hid→a0z
open List renaming filter_cons→a0x
open ByteArray renaming size_append→a0w
namespace Go.Proofs.YtkagolpnaicdoaaGreatDoor
section
open Go.RowKit Go.Maps Go.MapKept Go.ChangeMaps
structure L9(w:World)(b bm:Nat)(d:Dk)(f:A3)(d2:Dk)(K:Nat)(caps:Array Value):Prop where
 enters:∀w,(callFunc K (#[.agg #[.string f.s,.int .i64 f.synced]]++caps)).run Tryz.prog w=.ok (.enter K (#[.agg #[.string f.s,.int .i64 f.synced]]++caps)) w
 calls:∀w1,Ah w1 b bm d→Fp [b] w w1→Calls Tryz.prog K (#[.agg #[.string f.s,.int .i64 f.synced]]++caps) w1 fun e w'=>e=.returned (.tuple #[])∧Ah w' b bm d2∧Fp [b,bm] w1 w'
theorem L9.later{w w':World}{b bm:Nat}{d:Dk}{f:A3}{d2:Dk}{K:Nat}{caps:Array Value}(h:L9 w b bm d f d2 K caps)(hf:Fp [b] w w'):L9 w' b bm d f d2 K caps:=
 ⟨h.enters,fun w1 hd h1=>h.calls w1 hd (hf.trans h1 (by simp))⟩
theorem yE(w:World)(b bm p q:Nat)(d:Dk)(f:A3)(d2:Dk)(K:Nat)(caps:Array Value)
  (hp:w.cell? ⟨p,0,none⟩=some (.func (.func K) #[] caps))(hq0:w.cell? ⟨q,0,none⟩=some (.string f.s))(hq1:w.cell? ⟨q,1,none⟩=some (.int .i64 f.synced))(htu:L9 w b bm d f d2 K caps)(hd:Ah w b bm d):
  Calls Tryz.prog 241 #[.pointer (some ⟨p,0,none⟩),.pointer (some ⟨q,0,none⟩)] w fun e w'=>e=.returned (.tuple #[])∧Ah w' b bm d2∧Fp [b,bm] w w':=by
 have hen:=htu.enters;have HC:=a0z (htu.calls w hd (Fp.refl _ _));clear htu hd;go_enter Tryz.func241,Tryz.ntmps241;go_wp2_with (fail);refine HC.out.mono ?_;rintro e w2 ⟨rfl,hd2,hf2⟩;have HD2:=a0z hd2;clear hd2;go_wp2_with (fail);go_end0;exact⟨rfl,HD2.out,hf2⟩
theorem yF(p q:Value):∀w,(callFunc 241 #[p,q]).run Tryz.prog w=.ok (.enter 241 #[p,q]) w:=fun w=>by kernel_rfl
def Dk.thereD(d:Dk)(name:ByteArray)(g:A3→Dk):Dk:=if d.named [name]≠0 then d else match Ak d.files name with|none=>d|some f=>d.burnt (g f)
def Dk.thereE(d:Dk)(name:ByteArray):Int:=if d.named [name]≠0 then d.named [name] else match Ak d.files name with|none=>3|some _=>d.told
theorem Vp(w:World)(b bm:Nat)(d:Dk)(name:ByteArray)(always:Bool)(K:Nat)(caps:Array Value)(g:A3→Dk)(hd:Ah w b bm d)(hok:Ap d)(hname:name.size≤maxLen)
  (hg:d.named [name]=0→∀f,Ak d.files name=some f→Ap (g f)∧(d.does always=true→L9 w b bm d.tick f (g f) K caps)∧(d.does always=false→g f=d.tick)):
  Calls Tryz.prog 186 #[.pointer (some ⟨b,0,none⟩),.string name,.bool always,.func (.func K) #[] caps] w fun e w'=>e=.returned (.int .i64 (d.thereE name))∧Ah w' b bm (d.thereD name g)∧Fp [b,bm] w w':=by
 have c2:w.cell? ⟨b,2,none⟩=some (.map (some bm)):=Aa hd.cells 2;have hlt:=Ab hd.cells;have hfp:Fp [] w ((w.alloc (.cells #[.func (.func K) #[] caps] 258)).alloc (.cells #[.string name] 9)):=(Fp.alloc _ _).alloc' _;have hd1:=hd.of_fp hfp (by simp) (by simp);have hl:(Instr.lookup 116 (.map (some bm)) (.string name) true).run Tryz.prog ((w.alloc (.cells #[.func (.func K) #[] caps] 258)).alloc (.cells #[.string name] 9))=.ok (.tuple #[.agg #[.string (Bi d name).s,.int .i64 (Bi d name).synced],.bool (Ak d.files name).isSome]) ((w.alloc (.cells #[.func (.func K) #[] caps] 258)).alloc (.cells #[.string name] 9)):=hd1.files.lookup true hname
 have hnm:Calls Tryz.prog 175 #[.pointer (some ⟨b,0,none⟩),.slice (some ⟨w.heap.size+1,0,none⟩) 1 1] ((w.alloc (.cells #[.func (.func K) #[] caps] 258)).alloc (.cells #[.string name] 9)) fun e w'=>e=.returned (.int .i64 (d.named [name]))∧((w.alloc (.cells #[.func (.func K) #[] caps] 258)).alloc (.cells #[.string name] 9))=w':=
  Vn _ b bm (w.heap.size+1) d [name] hd1 (Aj (by simp) _) (by simp)
 have HD1:=a0z hd1;have HN:=a0z hnm;have HG:=a0z hg;have HFP:=a0z hfp;clear hd hd1 hnm hg hfp
 obtain⟨nm,hnm⟩:∃nm,nm=d.named [name]:=⟨_,rfl⟩
 rw[←hnm] at HN
 by_cases h0:nm=0
 ·subst h0
  cases hg:Ak d.files name with
  |none=>
   rw[hg] at hl
   have HE:Hid (d.thereE name=3):=by simp[Hid,Dk.thereE,←hnm,hg]
   have HD:Hid (d.thereD name g=d):=by simp[Hid,Dk.thereD,←hnm,hg]
   clear hg hnm;go_enter Tryz.func186,Tryz.ntmps186;go_wp2_with (go_at_call 175;refine HN.out.mono ?_;rintro e w' ⟨rfl,rfl⟩);go_ret;exact⟨by rw[HE.out];rfl,by rw[HD.out];exact HD1.out.of_fp (Fp.alloc _ _) (by simp) (by simp),(HFP.out.alloc' _).mono (by simp)⟩
  |some f=>
   have hfg:Bi d name=f:=by simp[Bi,hg]
   rw[hg,hfg] at hl
   have HE:Hid (d.thereE name=d.told):=by simp[Hid,Dk.thereE,←hnm,hg]
   have HD:Hid (d.thereD name g=d.burnt (g f)):=by simp[Hid,Dk.thereD,←hnm,hg]
   obtain⟨hg1,hg2,hg3⟩:=HG.out hnm.symm f hg
   have hact:=iD (((w.alloc (.cells #[.func (.func K) #[] caps] 258)).alloc (.cells #[.string name] 9)).alloc (.cells #[.string f.s,.int .i64 f.synced] 251)) b bm d (g f) always 241 #[.pointer (some ⟨w.heap.size,0,none⟩),.pointer (some ⟨w.heap.size+1+1,0,none⟩)] (HD1.out.of_fp (Fp.alloc _ _) (by simp) (by simp)) hok hg1
    (fun hdo=>by
     have htu:=(hg2 hdo).later ((HFP.out.alloc' (.cells #[.string f.s,.int .i64 f.synced] 251)).mono (S':=[b]) (by simp));refine⟨yF _ _,fun w1 hdw hfw=>?_⟩;refine yE w1 b bm w.heap.size (w.heap.size+1+1) d.tick f (g f) K caps ?_ ?_ ?_ (htu.later hfw) hdw
     ·rw[hfw.cell (by simp;omega) (by simp;omega),World.cell?_of_block (w:=(w.alloc (.cells #[.func (.func K) #[] caps] 258)))]
      ·exact Aa (MapKept.heap_alloc w _).1 0
      ·show(((w.alloc _).alloc _).alloc _).heap[w.heap.size]?=_;rw[Below.heap_alloc _ _ _ (by simp;omega),Below.heap_alloc _ _ _ (by simp)]
     ·rw[hfw.cell (by simp) (by simp;omega)];exact Aa (Aj (by simp) _) 0
     ·rw[hfw.cell (by simp) (by simp;omega)]
      exact Aa (Aj (by simp) _) 1)
    hg3
   have HA:=a0z hact;clear hg hnm hact hg1 hg2 hg3 hfg;go_enter Tryz.func186,Tryz.ntmps186;go_wp2_with (go_at_call 175;refine HN.out.mono ?_;rintro e w' ⟨rfl,rfl⟩);refine HA.out.mono ?_;rintro e w2 ⟨rfl,hd2,hf2⟩;have HD2:=a0z hd2;clear hd2;go_wp2_with (fail);go_ret;exact⟨by rw[HE.out];rfl,by rw[HD.out];exact HD2.out,((HFP.out.alloc' _).mono (by simp)).trans hf2 (by simp)⟩
 ·have HE:Hid (d.thereE name=nm):=by simp[Hid,Dk.thereE,←hnm,h0]
  have HD:Hid (d.thereD name g=d):=by simp[Hid,Dk.thereD,←hnm,h0]
  have hb:((nm:Int)!=0)=true:=by simpa using h0
  clear hnm hl h0;go_enter Tryz.func186,Tryz.ntmps186;go_wp2_with (go_at_call 175;refine HN.out.mono ?_;rintro e w' ⟨rfl,rfl⟩);go_ret;exact⟨by rw[HE.out];rfl,by rw[HD.out];exact HD1.out,HFP.out.mono (by simp)⟩
end
section
open Go.RowKit Go.Maps Go.MapKept Go.ChangeMaps
theorem Ap.tick{d:Dk}(h:Ap d):Ap d.tick:=by
 obtain⟨h1,h2,h3,h4,h5,h6,h7,h8,h9,h10⟩:=h;refine⟨h1,h2,h3,h4,h5,h6,?_,?_,h9,h10⟩
 ·show 0≤max (d.left-1) 0;omega
 ·show max (d.left-1) 0≤_;omega
theorem yG{keep:Int}{F:List (ByteArray × A3)}(h:∀p∈F,p.2.synced≤p.2.s.size):B4 (Ko (Ey keep) F)≤B4 F:=by
 have:=iA (keep:=keep) (done:=Bf F) h
 rwa [cH (fun x hx=>hx)] at this
theorem yH(keep:Int)(f:A3):(Ey keep f).synced≤(Ey keep f).s.size:=Nat.le_refl _
theorem yI{κ ν:Type}(g:ν→ν)(F:List (κ × ν)):Bf (Ko g F)=Bf F:=by
 unfold Bf Ko;rw[List.map_map];rfl
theorem Ap.crash{d:Dk}(h:Ap d)(keep:Int):Ap (d.crash keep):=by
 obtain⟨h1,h2,h3,h4,h5,h6,h7,h8,h9,h10⟩:=h;refine⟨rfl,?_,h3,?_,?_,?_,h7,h8,h9,h10⟩
 ·show((B4 (Ko (Ey keep) d.files):Nat):Int)≤d.cap;have:=yG (keep:=keep) h5;omega
 ·show(Bf (Ko (Ey keep) d.files)).Nodup;rw[yI];exact h4
 ·intro p hp;obtain⟨q,_,rfl⟩:=List.mem_map.1 hp;exact yH _ _
 ·show(Ko (Ey keep) d.files).length≤200;unfold Ko
  simpa using h6
theorem Ap.burnt{d d2:Dk}(h:Ap d2):Ap (d.burnt d2):=by
 unfold Dk.burnt;split
 ·exact h.crash _
 ·exact h
theorem Ap.new{cap:Int}(h:cap≤1000000000):Ap (Dk.new cap):=
 ⟨rfl,by show((0:Nat):Int)≤max cap 0;omega,by show max cap 0≤_;omega,List.nodup_nil,(fun p hp=>absurd hp (List.not_mem_nil)),Nat.zero_le _,Int.le_refl _,(by show(0:Int)≤9223372036854775807;decide),(by show(-9223372036854775808:Int)≤0;decide),(by show(0:Int)≤9223372036854775807;decide)⟩
theorem yJ{κ ν:Type}[DecidableEq κ]{F:List (κ × ν)}{x:κ}{v:ν}(h:Ak F x=none):Bf (Bc F x v)=Bf F++[x]:=by
 rw[Q3 (T8.1 h)];simp[Bf]
theorem Qf{κ ν:Type}[DecidableEq κ]{F:List (κ × ν)}{x:κ}{v:ν}(h:(Bf F).Nodup):(Bf (Bc F x v)).Nodup:=by
 cases hg:Ak F x with
 |none=>
  rw[yJ hg,List.nodup_append];refine⟨h,by simp,?_⟩;intro a ha c hc;rw[List.mem_singleton] at hc;rintro rfl;obtain⟨p,hp,rfl⟩:=List.mem_map.1 ha;exact T8.1 hg p hp hc
 |some y=>rw[Ua (by rw[hg];rfl)];exact h
theorem yK{κ ν:Type}[DecidableEq κ]{F:List (κ × ν)}{x:κ}(h:(Bf F).Nodup):(Bf (C0 F x)).Nodup:=by
 unfold Bf C0;exact List.Nodup.sublist (List.Sublist.map _ (List.filter_sublist)) h
theorem yL{F:List (ByteArray × A3)}{x:ByteArray}{f:A3}(h:Ak F x=none):B4 (Bc F x f)=B4 F+f.s.size:=by
 rw[Q3 (T8.1 h)];simp[B4]
theorem Yr{F:List (ByteArray × A3)}(hn:(Bf F).Nodup)(x:ByteArray)(f:A3):B4 (Bc F x f)+((Ak F x).getD A2).s.size=B4 F+f.s.size:=by
 cases h:Ak F x with
 |none=>rw[yL h];rfl
 |some v=>exact Yo hn h
theorem Ys:∀{F:List (ByteArray × A3)} (_ :(Bf F).Nodup) (x:ByteArray),B4 (C0 F x)+((Ak F x).getD A2).s.size=B4 F
 |[],_,x=>rfl
 |p::r,hn,x=>by
  unfold Bf at hn;rw[List.map_cons,List.nodup_cons] at hn
  by_cases e:p.1=x
  ·have h0:∀q∈r,q.1≠x:=fun q hq e2=>hn.1 (List.mem_map.2 ⟨q,hq,e2.trans e.symm⟩)
   have h1:C0 (p::r) x=C0 r x:=by
    unfold C0;rw[a0x,if_neg (by simp[e])]
   rw[h1,T9 h0,Ha e];simp[B4];omega
  ·have h1:C0 (p::r) x=p::C0 r x:=by
    unfold C0;rw[a0x,if_pos (by simpa using e)]
   rw[h1,I2 e];have:=Ys hn.2 x;simp[B4] at this ⊢;omega
theorem Yt{κ ν:Type}[DecidableEq κ](F:List (κ × ν))(x:κ)(v:ν):(Bc F x v).length=if(Ak F x).isSome then F.length else F.length+1:=by
 cases h:Ak F x with
 |none=>rw[Q3 (T8.1 h)];simp
 |some y=>
  have:=congrArg List.length (Ua (v:=v) (by rw[h];rfl:(Ak F x).isSome=true))
  simpa [Bf] using this
theorem Yu{κ ν:Type}[DecidableEq κ]:∀{F:List (κ × ν)} (_ :(Bf F).Nodup) (x:κ),(C0 F x).length+(if(Ak F x).isSome then 1 else 0)=F.length
 |[],_,x=>rfl
 |p::r,hn,x=>by
  unfold Bf at hn;rw[List.map_cons,List.nodup_cons] at hn
  by_cases e:p.1=x
  ·have h0:∀q∈r,q.1≠x:=fun q hq e2=>hn.1 (List.mem_map.2 ⟨q,hq,e2.trans e.symm⟩)
   have h1:C0 (p::r) x=C0 r x:=by
    unfold C0;rw[a0x,if_neg (by simp[e])]
   rw[h1,T9 h0,Ha e];simp
  ·have h1:C0 (p::r) x=p::C0 r x:=by
    unfold C0;rw[a0x,if_pos (by simpa using e)]
   rw[h1,I2 e];have:=Yu hn.2 x;simp only[List.length_cons];omega
theorem Ap.put{d:Dk}(h:Ap d)(name:ByteArray)(f:A3)(h1:(B4 d.files:Int)+f.s.size-(Bi d name).s.size≤d.cap)(h2:f.synced≤f.s.size)(h3:(Ak d.files name).isSome=true∨d.files.length<200):Ap (d.set name f false):=by
 obtain⟨g1,g2,g3,g4,g5,g6,g7,g8,g9,g10⟩:=h;have ht:=Yr g4 name f;have hf:((Ak d.files name).getD A2)=Bi d name:=rfl;rw[hf] at ht;refine⟨?_,?_,g3,Qf g4,?_,?_,g7,g8,g9,g10⟩
 ·show d.size+_ =((B4 (Bc d.files name f):Nat):Int)
  omega
 ·show((B4 (Bc d.files name f):Nat):Int)≤d.cap;omega
 ·intro p hp
  rcases W4 hp with hp|rfl
  ·exact g5 p hp
  ·exact h2
 ·show(Bc d.files name f).length≤200;rw[Yt]
  rcases h3 with h3|h3
  ·rw[if_pos h3];exact g6
  ·split<;>omega
theorem Ap.gone{d:Dk}(h:Ap d)(name:ByteArray)(h3:(Ak d.files name).isSome=true):Ap (d.set name A2 true):=by
 obtain⟨g1,g2,g3,g4,g5,g6,g7,g8,g9,g10⟩:=h;have ht:=Yr g4 name A2;have hf:((Ak d.files name).getD A2)=Bi d name:=rfl;rw[hf] at ht;have ht2:=Ys (Qf (x:=name) (v:=A2) g4) name;rw[Ub] at ht2;have hz:A2.s.size=0:=rfl;simp only[Option.getD_some] at ht2;have hl:=Yu (Qf (x:=name) (v:=A2) g4) name;rw[Ub,Yt,if_pos h3] at hl;refine⟨?_,?_,g3,yK (Qf g4),?_,?_,g7,g8,g9,g10⟩
 ·show d.size+_ =((B4 (C0 (Bc d.files name A2) name):Nat):Int)
  omega
 ·show((B4 (C0 (Bc d.files name A2) name):Nat):Int)≤d.cap;omega
 ·intro p hp
  rcases W4 (List.mem_filter.1 hp).1 with hp|rfl
  ·exact g5 p hp
  ·exact Nat.le_refl _
 ·show(C0 (Bc d.files name A2) name).length≤200;omega
theorem Ap.file{d:Dk}(h:Ap d){name:ByteArray}{f:A3}(hf:Ak d.files name=some f):f.synced≤f.s.size∧f.s.size≤B4 d.files:=
 ⟨h.sync _ (cD hf),hU (cD hf)⟩
theorem Ap.fget_le{d:Dk}(h:Ap d)(name:ByteArray):(Bi d name).s.size≤1000000000:=by
 unfold Bi
 cases hf:Ak d.files name with
 |none=>exact Nat.zero_le _
 |some f=>exact Nat.le_trans (h.file hf).2 h.le
end
section
open Go.RowKit Go.Maps Go.MapKept Go.ChangeMaps
def F6(s:ByteArray)(f:A3):A3:=⟨f.s++s,f.synced⟩
def Dk.full(d:Dk)(name s:ByteArray):Bool:=(Ak d.files name).isSome&&!d.off&&decide (d.cap<d.size+s.size)
def Dk.append(d:Dk)(name s:ByteArray):Dk:=if d.full name s then d else d.thereD name (fun f=>d.tick.set name (F6 s f) false)
def Dk.appendE(d:Dk)(name s:ByteArray):Int:=if d.full name s then 2 else d.thereE name
theorem yM(f ps pd pn:Value):∀w,(callFunc 239 #[f,ps,pd,pn]).run Tryz.prog w=.ok (.enter 239 #[f,ps,pd,pn]) w:=fun w=>by kernel_rfl
theorem yN(w:World)(b bm qs qd qn:Nat)(d:Dk)(f:A3)(name s:ByteArray)(hd:Ah w b bm d)(hname:name.size≤maxLen)
  (h1:w.cell? ⟨qs,0,none⟩=some (.string s))(h2:w.cell? ⟨qd,0,none⟩=some (.pointer (some ⟨b,0,none⟩)))(h3:w.cell? ⟨qn,0,none⟩=some (.string name))
  (g0:0≤d.size)(g1:d.size≤1000000000)(g2:f.s.size+s.size≤1000000000)(g3:(Bi d name).s.size≤1000000000):
  Calls Tryz.prog 239 #[.agg #[.string f.s,.int .i64 f.synced],.pointer (some ⟨qs,0,none⟩),.pointer (some ⟨qd,0,none⟩),.pointer (some ⟨qn,0,none⟩)] w fun e w'=>e=.returned (.tuple #[])∧Ah w' b bm (d.set name (F6 s f) false)∧Fp [b,bm] w w':=by
 have hfa:=Fp.alloc w (.cells #[.string (f.s++s),.int .i64 f.synced] 251);have hset:=Oy (w.alloc (.cells #[.string (f.s++s),.int .i64 f.synced] 251)) b bm d name (F6 s f) false (hd.of_fp hfa (by simp) (by simp)) hname g0 g1 (by unfold F6;simp;omega) g3
 change Calls Tryz.prog _ #[_,_,.agg #[.string (f.s++s),.int .i64 f.synced],_] _ _ at hset
 have k1:qs<w.heap.size:=World.block_lt_of_cell? _ _ h1;have k2:qd<w.heap.size:=World.block_lt_of_cell? _ _ h2;have k3:qn<w.heap.size:=World.block_lt_of_cell? _ _ h3;have HS:=a0z hset;have HFA:=a0z hfa;clear hset hd hfa;go_enter Tryz.func239,Tryz.ntmps239;go_wp2_with (fail);refine HS.out.mono ?_;rintro e w2 ⟨rfl,hd2,hf2,_⟩;have HD2:=a0z hd2;clear hd2;go_wp2_with (fail);go_end0;exact⟨rfl,HD2.out,(HFA.out.mono (by simp)).trans hf2 (by simp)⟩
theorem Jz{w w1:World}{b q:Nat}{v:Value}(hf:Fp [b] w w1)(hb:b≠q)(h:w.cell? ⟨q,0,none⟩=some v):w1.cell? ⟨q,0,none⟩=some v:=by
 rw[hf.cell (World.block_lt_of_cell? _ _ h) (by simpa using Ne.symm hb)];exact h
theorem iE{d:Dk}{l:List ByteArray}(h:d.named l=0):d.off=false:=by
 unfold Dk.named at h;cases ho:d.off
 ·rfl
 ·rw[ho] at h;simp at h
theorem yO(w:World)(b bm qs qd qn:Nat)(d:Dk)(name s:ByteArray)(hok:Ap d)(hname:name.size≤maxLen)(hfull:d.full name s=false)(hs:s.size≤1000000000)
  (h1:w.cell? ⟨qs,0,none⟩=some (.string s))(h2:w.cell? ⟨qd,0,none⟩=some (.pointer (some ⟨b,0,none⟩)))(h3:w.cell? ⟨qn,0,none⟩=some (.string name))(n1:b≠qs)(n2:b≠qd)(n3:b≠qn):
  d.named [name]=0→∀f,Ak d.files name=some f→Ap (d.tick.set name (F6 s f) false)∧(d.does true=true→L9 w b bm d.tick f (d.tick.set name (F6 s f) false) 239 #[.pointer (some ⟨qs,0,none⟩),.pointer (some ⟨qd,0,none⟩),.pointer (some ⟨qn,0,none⟩)])∧(d.does true=false→d.tick.set name (F6 s f) false=d.tick):=by
 intro hn f hf;have ho:=iE hn
 have hfit:d.size+s.size≤d.cap:=by
  unfold Dk.full at hfull;rw[hf,ho] at hfull
  simpa using hfull
 have hfile:=hok.file hf;have hz:=hok.size;have hcp:=hok.caps
 have hfg:Bi d.tick name=f:=by
  show(Ak d.files name).getD A2=f;rw[hf];rfl
 refine⟨hok.tick.put name _ ?_ ?_ (Or.inl (by show(Ak d.files name).isSome=true;rw[hf];rfl)),fun _=>⟨yM _ _ _ _,fun w1 hd1 hf1=>?_⟩,fun h=>by simp[Dk.does] at h⟩
 ·rw[hfg];show(B4 d.files:Int)+((f.s++s).size:Nat)-f.s.size≤d.cap;simp only[a0w];omega
 ·show f.synced≤(f.s++s).size;simp only[a0w];omega
 ·refine yN w1 b bm qs qd qn d.tick f name s hd1 hname (Jz hf1 n1 h1) (Jz hf1 n2 h2) (Jz hf1 n3 h3) (by show 0≤d.size;omega) (by show d.size≤_;omega) (by omega) (hok.tick.fget_le name)
theorem iF(w:World)(b bm:Nat)(d:Dk)(name s:ByteArray)(hd:Ah w b bm d)(hok:Ap d)(hname:name.size≤maxLen)(hs:s.size≤1000000000):
  Calls Tryz.prog 182 #[.pointer (some ⟨b,0,none⟩),.string name,.string s] w fun e w'=>e=.returned (.int .i64 (d.appendE name s))∧Ah w' b bm (d.append name s)∧Fp [b,bm] w w':=by
 have hlt:=Ab hd.cells
 have hlt1:b<w.heap.size+1:=by omega
 have hlt2:b<w.heap.size+1+1:=by omega
 have hlt3:b<w.heap.size+1+1+1:=by omega
 have c0:w.cell? ⟨b,0,none⟩=some (.int .i64 d.cap):=Aa hd.cells 0;have c1:w.cell? ⟨b,1,none⟩=some (.int .i64 d.size):=Aa hd.cells 1;have c2:w.cell? ⟨b,2,none⟩=some (.map (some bm)):=Aa hd.cells 2;have c3:w.cell? ⟨b,3,none⟩=some (.bool d.off):=Aa hd.cells 3;have hfp:Fp [] w (((w.alloc (.cells #[.pointer (some ⟨b,0,none⟩)] 52)).alloc (.cells #[.string name] 9)).alloc (.cells #[.string s] 9)):=((Fp.alloc _ _).alloc' _).alloc' _
 have hlg:∀W,Fp [] w W→(Instr.lookup 116 (.map (some bm)) (.string name) true).run Tryz.prog W=.ok (.tuple #[.agg #[.string (Bi d name).s,.int .i64 (Bi d name).synced],.bool (Ak d.files name).isSome]) W:=fun W hf=>(hd.of_fp hf (by simp) (by simp)).files.lookup true hname
 have hl:=hlg _ hfp.drew';have hl2:=hlg _ (hfp.alloc' (.cells #[.string ⟨#[]⟩,.int .i64 0] 251)).drew';clear hlg
 obtain⟨W,hW⟩:∃W,W=((((w.alloc (.cells #[.pointer (some ⟨b,0,none⟩)] 52)).alloc (.cells #[.string name] 9)).alloc (.cells #[.string s] 9)).alloc (.cells #[.string (Bi d name).s,.int .i64 (Bi d name).synced] 251)):=⟨_,rfl⟩
 have hfW:Fp [] w W:=by rw[hW];exact hfp.alloc' _
 have hb1:W.heap[w.heap.size]?=some (.cells #[.pointer (some ⟨b,0,none⟩)] 52 (0,0)):=by
  rw[hW,Below.heap_alloc _ _ _ (by simp<;>omega),Below.heap_alloc _ _ _ (by simp<;>omega),Below.heap_alloc _ _ _ (by simp<;>omega)];exact Aj rfl _
 have hb2:W.heap[w.heap.size+1]?=some (.cells #[.string name] 9 (0,0)):=by
  rw[hW,Below.heap_alloc _ _ _ (by simp<;>omega),Below.heap_alloc _ _ _ (by simp<;>omega)];exact Aj (by simp) _
 have hb3:W.heap[w.heap.size+1+1]?=some (.cells #[.string s] 9 (0,0)):=by
  rw[hW,Below.heap_alloc _ _ _ (by simp<;>omega)];exact Aj (by simp) _
 have hth:d.full name s=false→∀W',W'.heap=W.heap→Fp [] w W'→Calls Tryz.prog 186 #[.pointer (some ⟨b,0,none⟩),.string name,.bool true,.func (.func 239) #[] #[.pointer (some ⟨w.heap.size+1+1,0,none⟩),.pointer (some ⟨w.heap.size,0,none⟩),.pointer (some ⟨w.heap.size+1,0,none⟩)]] W' fun e w'=>e=.returned (.int .i64 (d.thereE name))∧Ah w' b bm (d.thereD name (fun f=>d.tick.set name (F6 s f) false))∧Fp [b,bm] W' w':=by
  intro hfull W' hh hf;refine Vp W' b bm d name true 239 _ _ (hd.of_fp hf (by simp) (by simp)) hok hname (yO W' b bm (w.heap.size+1+1) w.heap.size (w.heap.size+1) d name s hok hname hfull hs ?_ ?_ ?_ (by omega) (by omega) (by omega))
  ·exact Aa (by rw[hh];exact hb3) 0
  ·exact Aa (by rw[hh];exact hb1) 0
  ·exact Aa (by rw[hh];exact hb2) 0
 have HD:=a0z hd;have HTH:=a0z hth;have HW:=a0z hW;have HFW:=a0z hfW;have hz:=hok.size
 have hz1:0≤d.size:=by omega
 have hz2:d.size≤1000000000:=by have:=hok.le;omega
 clear hd hth hW hfW hb1 hb2 hb3 hz
 obtain⟨is,his⟩:∃is,is=(Ak d.files name).isSome:=⟨_,rfl⟩
 obtain⟨off,hoff⟩:∃off,off=d.off:=⟨_,rfl⟩
 rw[←his] at hl hl2;rw[←hoff] at c3
 have HF:Hid (d.full name s=(is&&!off&&decide (d.cap<d.size+s.size))):=by unfold Hid Dk.full;rw[←his,←hoff]
 clear his hoff
 have hlast:d.full name s=true→d.appendE name s=2∧d.append name s=d:=fun h=>by unfold Dk.appendE Dk.append;rw[h];exact⟨rfl,rfl⟩
 have hlast2:d.full name s=false→d.appendE name s=d.thereE name∧d.append name s=d.thereD name (fun f=>d.tick.set name (F6 s f) false):=fun h=>by unfold Dk.appendE Dk.append;rw[h];exact⟨rfl,rfl⟩
 have HL1:=a0z hlast;have HL2:=a0z hlast2;clear hlast hlast2
 have hcase:(is=true∧off=false∧d.cap<d.size+s.size)∨is=false∨(is=true∧off=true)∨(is=true∧off=false∧¬d.cap<d.size+s.size):=by
  cases is<;>cases off<;>simp<;>omega
 rcases hcase with⟨rfl,rfl,hfull⟩|rfl|⟨rfl,rfl⟩|⟨rfl,rfl,hfull⟩
 ·have HFF:Hid (d.full name s=true):=by unfold Hid;rw[HF.out];simpa using hfull
  clear HTH;go_enter Tryz.func182,Tryz.ntmps182;go_wp2_with (fail)
  go_region
  all_goals
   go_wp2_with (fail)
   go_quiet (fail)
   go_wp2_with (fail);go_ret;refine⟨by rw[(HL1.out HFF.out).1];rfl,?_,?_⟩
   ·rw[(HL1.out HFF.out).2];exact HD.out.of_fp (S:=[]) ((((HW.out▸HFW.out).drew').trans (Fp.drewN _ _) (by simp))) (by simp) (by simp)
   ·exact((((HW.out▸HFW.out).drew').trans (Fp.drewN _ _) (by simp))).mono (by simp)
 all_goals
  have HFF:Hid (d.full name s=false):=by unfold Hid;rw[HF.out];simp<;>omega
  have HT:∀n,Hid (Calls Tryz.prog 186 #[.pointer (some ⟨b,0,none⟩),.string name,.bool true,.func (.func 239) #[] #[.pointer (some ⟨w.heap.size+1+1,0,none⟩),.pointer (some ⟨w.heap.size,0,none⟩),.pointer (some ⟨w.heap.size+1,0,none⟩)]] (W.drewN n) fun e w'=>e=.returned (.int .i64 (d.thereE name))∧Ah w' b bm (d.thereD name (fun f=>d.tick.set name (F6 s f) false))∧Fp [b,bm] (W.drewN n) w'):=fun n=>HTH.out HFF.out _ rfl (HFW.out.trans (Fp.drewN _ _) (by simp))
  rw[HW.out] at HT;clear HTH;go_enter Tryz.func182,Tryz.ntmps182;go_wp2_with (fail)
  go_region
  all_goals
   go_wp2_with (fail)
   go_quiet (fail)
   go_wp2_with (fail);refine(HT _).out.mono ?_;rintro e w2 ⟨rfl,hd2,hf2⟩;have HD2:=a0z hd2;clear hd2;go_wp2_with (fail);go_ret;refine⟨by rw[(HL2.out HFF.out).1];rfl,by rw[(HL2.out HFF.out).2];exact HD2.out,?_⟩;exact((((HW.out▸HFW.out).trans (Fp.drewN _ _) (by simp))).mono (by simp)).trans hf2 (by simp)
end
end Go.Proofs.YtkagolpnaicdoaaGreatDoor
