/-
 The disk's calls that go through the gate: Sync, Delete, Rename, Create. The checksum: by a table of four bits, and by bits: the same.
-/
import Derived.Test.YtkagolpnaicdoaaGreatDoorPVdCrash
import Derived.Test.YtkagolpnaicdoaaGreatDoorPMaps
set_option maxRecDepth 100000
set_option maxHeartbeats 8000000
open Go.Lib renaming hid→a0z
open Nat renaming mod_two_eq_zero_or_one→a0x,xor_assoc→a0w
namespace Go.Proofs.YtkagolpnaicdoaaGreatDoor
section
open Go.RowKit Go.Maps Go.MapKept Go.ChangeMaps
theorem kC{d:Dk}{name:ByteArray}{f:A5}(h:Ao d.files name=some f):Bj d.tick name=f:=by
 show(Ao d.files name).getD A3=f;rw[h];rfl
def synced(f:A5):A5:=⟨f.s,f.s.size⟩
def Dk.syncG(d:Dk)(name:ByteArray)(f:A5):Dk:=if d.does false then d.tick.set name (synced f) false else d.tick
def Dk.sync(d:Dk)(name:ByteArray):Dk:=d.thereD name (d.syncG name)
theorem zZ(f pd pn:Value):∀w,(callFunc 187 #[f,pd,pn]).run Tryz.prog w=.ok (.enter 187 #[f,pd,pn]) w:=fun w=>by kernel_rfl
theorem Aaa(w:World)(b bm qd qn:Nat)(d:Dk)(f:A5)(name:ByteArray)(hd:Ah w b bm d)(hname:name.size≤maxLen)
  (h2:w.cell? ⟨qd,0,none⟩=some (.pointer (some ⟨b,0,none⟩)))(h3:w.cell? ⟨qn,0,none⟩=some (.string name))
  (g0:0≤d.size)(g1:d.size≤1000000000)(g2:f.s.size≤1000000000)(g3:(Bj d name).s.size≤1000000000):
  Calls Tryz.prog 187 #[.agg #[.string f.s,.int .i64 f.synced],.pointer (some ⟨qd,0,none⟩),.pointer (some ⟨qn,0,none⟩)] w fun e w'=>e=.returned (.tuple #[])∧Ah w' b bm (d.set name (synced f) false)∧Fp [b,bm] w w':=by
 have hfa:=Fp.alloc w (.cells #[.string f.s,.int .i64 f.s.size] 251);have hset:=O3 (w.alloc (.cells #[.string f.s,.int .i64 f.s.size] 251)) b bm d name (synced f) false (hd.of_fp hfa (by simp) (by simp)) hname g0 g1 g2 g3
 change Calls Tryz.prog _ #[_,_,.agg #[.string f.s,.int .i64 f.s.size],_] _ _ at hset
 have k2:qd<w.heap.size:=World.block_lt_of_cell? _ _ h2;have k3:qn<w.heap.size:=World.block_lt_of_cell? _ _ h3;have HS:=a0z hset;have HFA:=a0z hfa;clear hset hd hfa;go_enter Tryz.func187,Tryz.ntmps187;go_wp2_with (fail);refine HS.out.mono ?_;rintro e w2 ⟨rfl,hd2,hf2,_⟩;have HD2:=a0z hd2;clear hd2;go_wp2_with (fail);go_end0;exact⟨rfl,HD2.out,(HFA.out.mono (by simp)).trans hf2 (by simp)⟩
theorem Aab(w:World)(b bm qd qn:Nat)(d:Dk)(name:ByteArray)(hok:Ak d)(hname:name.size≤maxLen)
  (h2:w.cell? ⟨qd,0,none⟩=some (.pointer (some ⟨b,0,none⟩)))(h3:w.cell? ⟨qn,0,none⟩=some (.string name))(n2:b≠qd)(n3:b≠qn):
  d.named [name]=0→∀f,Ao d.files name=some f→Ak (d.syncG name f)∧(d.does false=true→Np w b bm d.tick f (d.syncG name f) 187 #[.pointer (some ⟨qd,0,none⟩),.pointer (some ⟨qn,0,none⟩)])∧(d.does false=false→d.syncG name f=d.tick):=by
 intro _ f hf;have hfile:=hok.file hf;have hle:=hok.le;have hz:=hok.size;have hfi:=hok.fits;unfold Dk.syncG;cases hdo:d.does false
 ·exact⟨hok.tick,(fun h=>by cases h),(fun _=>rfl)⟩
 ·refine⟨hok.tick.put name _ ?_ (Nat.le_refl _) (Or.inl (by show(Ao d.files name).isSome=true;rw[hf];rfl)),fun _=>⟨zZ _ _ _,fun w1 hd1 hf1=>?_⟩,fun h=>by cases h⟩
  ·rw[kC hf];show(total d.files:Int)+(f.s.size:Nat)-f.s.size≤d.cap;omega
  ·exact Aaa w1 b bm qd qn d.tick f name hd1 hname (Ku hf1 n2 h2) (Ku hf1 n3 h3) (by show 0≤d.size;omega) (by show d.size≤_;omega) (by omega) (hok.tick.fget_le name)
theorem kD{w:World}{b bm:Nat}{d:Dk}{name:ByteArray}(hd:Ah w b bm d):
  ∃W,W=(w.alloc (.cells #[.pointer (some ⟨b,0,none⟩)] 52)).alloc (.cells #[.string name] 9)∧Fp [] w W∧Ah W b bm d∧
   W.cell? ⟨w.heap.size,0,none⟩=some (.pointer (some ⟨b,0,none⟩))∧W.cell? ⟨w.heap.size+1,0,none⟩=some (.string name)∧b<w.heap.size:=by
 have hfp:Fp [] w ((w.alloc (.cells #[.pointer (some ⟨b,0,none⟩)] 52)).alloc (.cells #[.string name] 9)):=(Fp.alloc _ _).alloc' _;refine⟨_,rfl,hfp,hd.of_fp hfp (by simp) (by simp),?_,?_,Ab hd.cells⟩
 ·refine Aa (c:=#[.pointer (some ⟨b,0,none⟩)]) (T:=52) (fr:=(0,0)) ?_ 0;rw[Below.heap_alloc _ _ _ (by simp<;>omega)];exact Ai rfl _
 ·exact Aa (Ai (by simp) _) 0
theorem Zu(w:World)(b bm:Nat)(d:Dk)(name:ByteArray)(hd:Ah w b bm d)(hok:Ak d)(hname:name.size≤maxLen):
  Calls Tryz.prog 115 #[.pointer (some ⟨b,0,none⟩),.string name] w fun e w'=>e=.returned (.int .i64 (d.thereE name))∧Ah w' b bm (d.sync name)∧Fp [b,bm] w w':=by
 obtain⟨W,hW,hfp,hdW,k1,k2,hlt⟩:=kD (name:=name) hd;have hth:=Wj W b bm d name false 187 _ _ hdW hok hname (Aab W b bm w.heap.size (w.heap.size+1) d name hok hname k1 k2 (by omega) (by omega));rw[hW] at hth hfp;have HT:=a0z hth;have HF:=a0z hfp;clear hth hfp hd hdW k1 k2 hW;go_enter Tryz.func115,Tryz.ntmps115;go_wp2_with (fail);refine HT.out.mono ?_;rintro e w2 ⟨rfl,hd2,hf2⟩;have HD2:=a0z hd2;clear hd2;go_wp2_with (fail);go_ret;exact⟨rfl,HD2.out,(HF.out.mono (by simp)).trans hf2 (by simp)⟩
def Dk.deleteG(d:Dk)(name:ByteArray):Dk:=if d.does false then d.tick.set name A3 true else d.tick
def Dk.delete(d:Dk)(name:ByteArray):Dk:=d.thereD name (fun _=>d.deleteG name)
theorem Aac(f pd pn:Value):∀w,(callFunc 236 #[f,pd,pn]).run Tryz.prog w=.ok (.enter 236 #[f,pd,pn]) w:=fun w=>by kernel_rfl
theorem Aad(w:World)(b bm qd qn:Nat)(d:Dk)(f:A5)(name:ByteArray)(hd:Ah w b bm d)(hname:name.size≤maxLen)
  (h2:w.cell? ⟨qd,0,none⟩=some (.pointer (some ⟨b,0,none⟩)))(h3:w.cell? ⟨qn,0,none⟩=some (.string name))
  (g0:0≤d.size)(g1:d.size≤1000000000)(g3:(Bj d name).s.size≤1000000000):
  Calls Tryz.prog 236 #[.agg #[.string f.s,.int .i64 f.synced],.pointer (some ⟨qd,0,none⟩),.pointer (some ⟨qn,0,none⟩)] w fun e w'=>e=.returned (.tuple #[])∧Ah w' b bm (d.set name A3 true)∧Fp [b,bm] w w':=by
 have hfa:=Fp.alloc w (.cells #[.string f.s,.int .i64 f.synced] 251);have hset:=O3 (w.alloc (.cells #[.string f.s,.int .i64 f.synced] 251)) b bm d name A3 true (hd.of_fp hfa (by simp) (by simp)) hname g0 g1 (by decide) g3
 change Calls Tryz.prog _ #[_,_,.agg #[.string ⟨#[]⟩,.int .i64 0],_] _ _ at hset
 have k2:qd<w.heap.size:=World.block_lt_of_cell? _ _ h2;have k3:qn<w.heap.size:=World.block_lt_of_cell? _ _ h3;have HS:=a0z hset;have HFA:=a0z hfa;clear hset hd hfa;go_enter Tryz.func236,Tryz.ntmps236;go_wp2_with (fail);refine HS.out.mono ?_;rintro e w2 ⟨rfl,hd2,hf2,_⟩;have HD2:=a0z hd2;clear hd2;go_wp2_with (fail);go_end0;exact⟨rfl,HD2.out,(HFA.out.mono (by simp)).trans hf2 (by simp)⟩
theorem Aae(w:World)(b bm qd qn:Nat)(d:Dk)(name:ByteArray)(hok:Ak d)(hname:name.size≤maxLen)
  (h2:w.cell? ⟨qd,0,none⟩=some (.pointer (some ⟨b,0,none⟩)))(h3:w.cell? ⟨qn,0,none⟩=some (.string name))(n2:b≠qd)(n3:b≠qn):
  d.named [name]=0→∀f,Ao d.files name=some f→Ak (d.deleteG name)∧(d.does false=true→Np w b bm d.tick f (d.deleteG name) 236 #[.pointer (some ⟨qd,0,none⟩),.pointer (some ⟨qn,0,none⟩)])∧(d.does false=false→d.deleteG name=d.tick):=by
 intro _ f hf;have hle:=hok.le;have hz:=hok.size;unfold Dk.deleteG;cases hdo:d.does false
 ·exact⟨hok.tick,(fun h=>by cases h),(fun _=>rfl)⟩
 ·refine⟨hok.tick.gone name (by show(Ao d.files name).isSome=true;rw[hf];rfl),fun _=>⟨Aac _ _ _,fun w1 hd1 hf1=>?_⟩,fun h=>by cases h⟩;exact Aad w1 b bm qd qn d.tick f name hd1 hname (Ku hf1 n2 h2) (Ku hf1 n3 h3) (by show 0≤d.size;omega) (by show d.size≤_;omega) (hok.tick.fget_le name)
theorem Aaf(w:World)(b bm:Nat)(d:Dk)(name:ByteArray)(hd:Ah w b bm d)(hok:Ak d)(hname:name.size≤maxLen):
  Calls Tryz.prog 178 #[.pointer (some ⟨b,0,none⟩),.string name] w fun e w'=>e=.returned (.int .i64 (d.thereE name))∧Ah w' b bm (d.delete name)∧Fp [b,bm] w w':=by
 obtain⟨W,hW,hfp,hdW,k1,k2,hlt⟩:=kD (name:=name) hd;have hth:=Wj W b bm d name false 236 _ _ hdW hok hname (Aae W b bm w.heap.size (w.heap.size+1) d name hok hname k1 k2 (by omega) (by omega));rw[hW] at hth hfp;have HT:=a0z hth;have HF:=a0z hfp;clear hth hfp hd hdW k1 k2 hW;go_enter Tryz.func178,Tryz.ntmps178;go_wp2_with (fail);refine HT.out.mono ?_;rintro e w2 ⟨rfl,hd2,hf2⟩;have HD2:=a0z hd2;clear hd2;go_wp2_with (fail);go_ret;exact⟨rfl,HD2.out,(HF.out.mono (by simp)).trans hf2 (by simp)⟩
def Dk.renameG(d:Dk)(frm to:ByteArray)(f:A5):Dk:=if d.does false then(d.tick.set frm A3 true).set to f false else d.tick
def Dk.rename(d:Dk)(frm to:ByteArray):Dk:=if d.named [frm,to]≠0 then d else d.thereD frm (d.renameG frm to)
def Dk.renameE(d:Dk)(frm to:ByteArray):Int:=if d.named [frm,to]≠0 then d.named [frm,to] else d.thereE frm
theorem Aag(f pd pn pt:Value):∀w,(callFunc 240 #[f,pd,pn,pt]).run Tryz.prog w=.ok (.enter 240 #[f,pd,pn,pt]) w:=fun w=>by kernel_rfl
theorem Aah(w:World)(b bm qd qn qt:Nat)(d:Dk)(f:A5)(frm to:ByteArray)(hd:Ah w b bm d)(hname:frm.size≤maxLen)(hto:to.size≤maxLen)
  (h2:w.cell? ⟨qd,0,none⟩=some (.pointer (some ⟨b,0,none⟩)))(h3:w.cell? ⟨qn,0,none⟩=some (.string frm))(h4:w.cell? ⟨qt,0,none⟩=some (.string to))
  (n2:b≠qd)(n4:b≠qt)
  (g0:0≤d.size)(g1:d.size≤1000000000)(g2:f.s.size≤1000000000)(g3:(Bj d frm).s.size≤1000000000)(g4:(Bj (d.set frm A3 true) to).s.size≤1000000000)(g5:0≤(d.set frm A3 true).size)(g6:(d.set frm A3 true).size≤1000000000):
  Calls Tryz.prog 240 #[.agg #[.string f.s,.int .i64 f.synced],.pointer (some ⟨qd,0,none⟩),.pointer (some ⟨qn,0,none⟩),.pointer (some ⟨qt,0,none⟩)] w fun e w'=>e=.returned (.tuple #[])∧Ah w' b bm ((d.set frm A3 true).set to f false)∧Fp [b,bm] w w':=by
 have hfa:=Fp.alloc w (.cells #[.string f.s,.int .i64 f.synced] 251);have hset:=O3 (w.alloc (.cells #[.string f.s,.int .i64 f.synced] 251)) b bm d frm A3 true (hd.of_fp hfa (by simp) (by simp)) hname g0 g1 (by decide) g3
 change Calls Tryz.prog _ #[_,_,.agg #[.string ⟨#[]⟩,.int .i64 0],_] _ _ at hset
 have k2:qd<w.heap.size:=World.block_lt_of_cell? _ _ h2;have k3:qn<w.heap.size:=World.block_lt_of_cell? _ _ h3;have k4:qt<w.heap.size:=World.block_lt_of_cell? _ _ h4
 have m2:qd≠bm:=fun e=>by
  obtain⟨es,clock,hx,_⟩:=hd.files;subst e;simp[World.cell?,hx] at h2
 have m4:qt≠bm:=fun e=>by
  obtain⟨es,clock,hx,_⟩:=hd.files;subst e;simp[World.cell?,hx] at h4
 have hbl:=Ab hd.cells;have hbm:=hd.files.lt;have HS:=a0z hset;have HFA:=a0z hfa;have H2:=a0z h2;have H4:=a0z h4;clear hset hd hfa;go_enter Tryz.func240,Tryz.ntmps240;go_wp2_with (fail);refine HS.out.mono ?_;rintro e w2 ⟨rfl,hd2,hf2,_⟩
 have c2:w2.cell? ⟨qd,0,none⟩=some (.pointer (some ⟨b,0,none⟩)):=by
  rw[hf2.cell (by simp;omega) (by simp;omega),HFA.out.cell (by simp;omega) (by simp)];exact H2.out
 have c4:w2.cell? ⟨qt,0,none⟩=some (.string to):=by
  rw[hf2.cell (by simp;omega) (by simp;omega),HFA.out.cell (by simp;omega) (by simp)];exact H4.out
 have c5:w2.cell? ⟨w.heap.size,0,none⟩=some (.string f.s):=by
  rw[hf2.cell (by simp) (by simp;omega)];exact Aa (Ai rfl _) 0
 have c6:w2.cell? ⟨w.heap.size,1,none⟩=some (.int .i64 f.synced):=by
  rw[hf2.cell (by simp) (by simp;omega)];exact Aa (Ai rfl _) 1
 have hset2:=O3 w2 b bm _ to f false hd2 hto g5 g6 g2 g4;have HS2:=a0z hset2;clear hd2 hset2;go_wp2_with (fail);refine HS2.out.mono ?_;rintro e w3 ⟨rfl,hd3,hf3,_⟩;have HD3:=a0z hd3;clear hd3;go_wp2_with (fail);go_end0;exact⟨rfl,HD3.out,((HFA.out.mono (by simp)).trans hf2 (by simp)).trans hf3 (by simp)⟩
theorem Aai(d:Dk)(frm to:ByteArray)(hok:Ak d):(Bj (d.set frm A3 true) to).s.size≤1000000000:=by
 unfold Bj Dk.set;simp only[if_true]
 by_cases h:frm=to
 ·subst h;rw[sL];exact Nat.zero_le _
 ·rw[sM _ h,sK _ h];exact hok.fget_le to
theorem kE{d:Dk}{frm to:ByteArray}{f:A5}(hok:Ak d)(hf:Ao d.files frm=some f):Ak (d.renameG frm to f):=by
 have hfile:=hok.file hf;unfold Dk.renameG;cases d.does false
 ·exact hok.tick
 ·have h1:(Ao d.tick.files frm).isSome=true:=by show(Ao d.files frm).isSome=true;rw[hf];rfl
  have hg:=hok.tick.gone frm h1;have ht:=Zq hok.nodup frm A3;have ht2:=Zr (Q3 (x:=frm) (v:=A3) hok.nodup) frm;rw[Va] at ht2;simp only[hf,Option.getD_some] at ht ht2;have hfi:=hok.fits;have hz:A3.s.size=0:=rfl;refine hg.put to f ?_ hfile.1 (Or.inr ?_)
  ·show((total (C6 (Bd d.files frm A3) frm):Nat):Int)+f.s.size-_ ≤d.cap;omega
  ·show(C6 (Bd d.files frm A3) frm).length<200;have hl:=Zt (Q3 (x:=frm) (v:=A3) hok.nodup) frm;rw[Va,Zs,hf] at hl;simp only[Option.isSome_some,if_true] at hl;have:=hok.many;omega
theorem Aaj(w:World)(b bm qd qn qt:Nat)(d:Dk)(frm to:ByteArray)(hok:Ak d)(hname:frm.size≤maxLen)(hto:to.size≤maxLen)
  (h2:w.cell? ⟨qd,0,none⟩=some (.pointer (some ⟨b,0,none⟩)))(h3:w.cell? ⟨qn,0,none⟩=some (.string frm))(h4:w.cell? ⟨qt,0,none⟩=some (.string to))(n2:b≠qd)(n3:b≠qn)(n4:b≠qt):
  d.named [frm]=0→∀f,Ao d.files frm=some f→Ak (d.renameG frm to f)∧(d.does false=true→Np w b bm d.tick f (d.renameG frm to f) 240 #[.pointer (some ⟨qd,0,none⟩),.pointer (some ⟨qn,0,none⟩),.pointer (some ⟨qt,0,none⟩)])∧(d.does false=false→d.renameG frm to f=d.tick):=by
 intro _ f hf;have hle:=hok.le;have hz:=hok.size;have hfile:=hok.file hf;refine⟨kE hok hf,fun hdo=>⟨Aag _ _ _ _,fun w1 hd1 hf1=>?_⟩,fun hdo=>by unfold Dk.renameG;rw[hdo];rfl⟩;have hgo:=hok.tick.gone frm (by show(Ao d.files frm).isSome=true;rw[hf];rfl);have hzz:=hgo.size;have hzl:=hgo.le;have h:=Aah w1 b bm qd qn qt d.tick f frm to hd1 hname hto (Ku hf1 n2 h2) (Ku hf1 n3 h3) (Ku hf1 n4 h4) n2 n4 (by show 0≤d.size;omega) (by show d.size≤_;omega) (by omega) (hok.tick.fget_le frm) (Aai _ _ _ hok.tick) (by omega) (by omega);unfold Dk.renameG;rw[hdo];exact h
theorem Aak(w:World)(b bm:Nat)(d:Dk)(frm to:ByteArray)(hd:Ah w b bm d)(hok:Ak d)(hname:frm.size≤maxLen)(hto:to.size≤maxLen):
  Calls Tryz.prog 185 #[.pointer (some ⟨b,0,none⟩),.string frm,.string to] w fun e w'=>e=.returned (.int .i64 (d.renameE frm to))∧Ah w' b bm (d.rename frm to)∧Fp [b,bm] w w':=by
 have hlt:=Ab hd.cells
 obtain⟨W,hW⟩:∃W,W=((((w.alloc (.cells #[.pointer (some ⟨b,0,none⟩)] 52)).alloc (.cells #[.string frm] 9)).alloc (.cells #[.string to] 9)).alloc (.cells #[.string frm,.string to] 9)):=⟨_,rfl⟩
 have hfW:Fp [] w W:=by rw[hW];exact(((Fp.alloc _ _).alloc' _).alloc' _).alloc' _
 have hb1:W.heap[w.heap.size]?=some (.cells #[.pointer (some ⟨b,0,none⟩)] 52 (0,0)):=by
  rw[hW,Below.heap_alloc _ _ _ (by simp<;>omega),Below.heap_alloc _ _ _ (by simp<;>omega),Below.heap_alloc _ _ _ (by simp<;>omega)];exact Ai rfl _
 have hb2:W.heap[w.heap.size+1]?=some (.cells #[.string frm] 9 (0,0)):=by
  rw[hW,Below.heap_alloc _ _ _ (by simp<;>omega),Below.heap_alloc _ _ _ (by simp<;>omega)];exact Ai (by simp) _
 have hb3:W.heap[w.heap.size+1+1]?=some (.cells #[.string to] 9 (0,0)):=by
  rw[hW,Below.heap_alloc _ _ _ (by simp<;>omega)];exact Ai (by simp) _
 have hb4:W.heap[w.heap.size+1+1+1]?=some (.cells #[.string frm,.string to] 9 (0,0)):=by
  rw[hW];exact Ai (by simp) _
 have hdW:=hd.of_fp hfW (by simp) (by simp)
 have hnm:Calls Tryz.prog 175 #[.pointer (some ⟨b,0,none⟩),.slice (some ⟨w.heap.size+1+1+1,0,none⟩) 2 2] W fun e w'=>e=.returned (.int .i64 (d.named [frm,to]))∧W=w':=
  Vb _ b bm (w.heap.size+1+1+1) d [frm,to] hdW hb4 (by simp)
 have hth:=Wj W b bm d frm false 240 _ _ hdW hok hname (Aaj W b bm w.heap.size (w.heap.size+1) (w.heap.size+1+1) d frm to hok hname hto (Aa hb1 0) (Aa hb2 0) (Aa hb3 0) (by omega) (by omega) (by omega));have HDW:=a0z hdW;rw[hW] at hth hfW hnm HDW;have HT:=a0z hth;have HN:=a0z hnm;have HF:=a0z hfW;clear hth hfW hd hdW hb1 hb2 hb3 hb4 hW hnm
 obtain⟨nm,hnm⟩:∃nm,nm=d.named [frm,to]:=⟨_,rfl⟩
 rw[←hnm] at HN
 by_cases h0:nm=0
 ·subst h0
  have HE:Hid (d.renameE frm to=d.thereE frm∧d.rename frm to=d.thereD frm (d.renameG frm to)):=by
   unfold Hid Dk.renameE Dk.rename;rw[←hnm];exact⟨rfl,rfl⟩
  clear hnm;go_enter Tryz.func185,Tryz.ntmps185;go_wp2_with (go_at_call 175;refine HN.out.mono ?_;rintro e w' ⟨rfl,rfl⟩);refine HT.out.mono ?_;rintro e w2 ⟨rfl,hd2,hf2⟩;have HD2:=a0z hd2;clear hd2;go_wp2_with (fail);go_ret;exact⟨by rw[HE.out.1];rfl,by rw[HE.out.2];exact HD2.out,(HF.out.mono (by simp)).trans hf2 (by simp)⟩
 ·have HE:Hid (d.renameE frm to=nm∧d.rename frm to=d):=by
   unfold Hid Dk.renameE Dk.rename;rw[←hnm,if_pos h0,if_pos h0];exact⟨rfl,rfl⟩
  have hb:((nm:Int)!=0)=true:=by simpa using h0
  clear hnm h0;go_enter Tryz.func185,Tryz.ntmps185;go_wp2_with (go_at_call 175;refine HN.out.mono ?_;rintro e w' ⟨rfl,rfl⟩);go_ret;exact⟨by rw[HE.out.1];rfl,by rw[HE.out.2];exact HDW.out,HF.out.mono (by simp)⟩
def Dk.createG(d:Dk)(name:ByteArray):Dk:=if d.does false then d.tick.set name A3 false else d.tick
def Dk.createE(d:Dk)(name:ByteArray):Int:=if d.named [name]≠0 then d.named [name] else if(Ao d.files name).isSome then 4 else if 200≤d.files.length then 2 else d.told
def Dk.create(d:Dk)(name:ByteArray):Dk:=if d.named [name]≠0 then d else if(Ao d.files name).isSome then d else if 200≤d.files.length then d else d.burnt (d.createG name)
theorem Aal(pd pn:Value):∀w,(callFunc 238 #[pd,pn]).run Tryz.prog w=.ok (.enter 238 #[pd,pn]) w:=fun w=>by kernel_rfl
theorem Aam(w:World)(b bm qd qn:Nat)(d:Dk)(name:ByteArray)(hd:Ah w b bm d)(hname:name.size≤maxLen)
  (h2:w.cell? ⟨qd,0,none⟩=some (.pointer (some ⟨b,0,none⟩)))(h3:w.cell? ⟨qn,0,none⟩=some (.string name))
  (g0:0≤d.size)(g1:d.size≤1000000000)(g3:(Bj d name).s.size≤1000000000):
  Calls Tryz.prog 238 #[.pointer (some ⟨qd,0,none⟩),.pointer (some ⟨qn,0,none⟩)] w fun e w'=>e=.returned (.tuple #[])∧Ah w' b bm (d.set name A3 false)∧Fp [b,bm] w w':=by
 have hset:=O3 w b bm d name A3 false hd hname g0 g1 (by decide) g3
 change Calls Tryz.prog _ #[_,_,.agg #[.string ⟨#[]⟩,.int .i64 0],_] _ _ at hset
 have HS:=a0z hset;clear hset hd;go_enter Tryz.func238,Tryz.ntmps238;go_wp2_with (fail);refine HS.out.mono ?_;rintro e w2 ⟨rfl,hd2,hf2,_⟩;have HD2:=a0z hd2;clear hd2;go_wp2_with (fail);go_end0;exact⟨rfl,HD2.out,hf2⟩
theorem kF{d:Dk}{name:ByteArray}(hok:Ak d)(hl:d.files.length<200):Ak (d.createG name):=by
 unfold Dk.createG;cases d.does false
 ·exact hok.tick
 ·refine hok.tick.put name A3 ?_ (Nat.le_refl _) (Or.inr hl);have:=hok.fits;have hz:A3.s.size=0:=rfl;show(total d.files:Int)+_ -_ ≤d.cap;omega
theorem Aan(w:World)(b bm qd qn:Nat)(d:Dk)(name:ByteArray)(hd:Ah w b bm d)(hok:Ak d)(hname:name.size≤maxLen)(hl:d.files.length<200)
  (h2:w.cell? ⟨qd,0,none⟩=some (.pointer (some ⟨b,0,none⟩)))(h3:w.cell? ⟨qn,0,none⟩=some (.string name))(n2:b≠qd)(n3:b≠qn):
  Calls Tryz.prog 237 #[.pointer (some ⟨b,0,none⟩),.bool false,.func (.func 238) #[] #[.pointer (some ⟨qd,0,none⟩),.pointer (some ⟨qn,0,none⟩)]] w fun e w'=>e=.returned (.int .i64 d.told)∧Ah w' b bm (d.burnt (d.createG name))∧Fp [b,bm] w w':=by
 have hle:=hok.le;have hz:=hok.size;refine jZ w b bm d (d.createG name) false 238 _ hd hok (kF hok hl) (fun hdo=>⟨Aal _ _,fun w1 hd1 hf1=>?_⟩) (fun hdo=>by unfold Dk.createG;rw[hdo];rfl);have h:=Aam w1 b bm qd qn d.tick name hd1 hname (Ku hf1 n2 h2) (Ku hf1 n3 h3) (by show 0≤d.size;omega) (by show d.size≤_;omega) (hok.tick.fget_le name);unfold Dk.createG;rw[hdo];exact h
theorem Aao(w:World)(b bm:Nat)(d:Dk)(name:ByteArray)(hd:Ah w b bm d)(hok:Ak d)(hname:name.size≤maxLen):
  Calls Tryz.prog 180 #[.pointer (some ⟨b,0,none⟩),.string name] w fun e w'=>e=.returned (.int .i64 (d.createE name))∧Ah w' b bm (d.create name)∧Fp [b,bm] w w':=by
 have hlt:=Ab hd.cells
 have hlt1:b<w.heap.size+1:=by omega
 have hlt2:b<w.heap.size+1+1:=by omega
 have hlt3:b<w.heap.size+1+1+1:=by omega
 have hlt4:b<w.heap.size+1+1+1+1:=by omega
 have c2:w.cell? ⟨b,2,none⟩=some (.map (some bm)):=Aa hd.cells 2;have hfp:Fp [] w (((w.alloc (.cells #[.pointer (some ⟨b,0,none⟩)] 52)).alloc (.cells #[.string name] 9)).alloc (.cells #[.string name] 9)):=((Fp.alloc _ _).alloc' _).alloc' _
 have hlg:∀W,Fp [] w W→(Instr.lookup 116 (.map (some bm)) (.string name) true).run Tryz.prog W=.ok (.tuple #[.agg #[.string (Bj d name).s,.int .i64 (Bj d name).synced],.bool (Ao d.files name).isSome]) W:=fun W hf=>(hd.of_fp hf (by simp) (by simp)).files.lookup true hname
 have hl:=hlg _ hfp.drew';have hl2:=hlg _ (hfp.alloc' (.cells #[.string ⟨#[]⟩,.int .i64 0] 251)).drew';clear hlg
 obtain⟨W,hW⟩:∃W,W=((((w.alloc (.cells #[.pointer (some ⟨b,0,none⟩)] 52)).alloc (.cells #[.string name] 9)).alloc (.cells #[.string name] 9)).alloc (.cells #[.string (Bj d name).s,.int .i64 (Bj d name).synced] 251)):=⟨_,rfl⟩
 have hfW:Fp [] w W:=by rw[hW];exact hfp.alloc' _
 have hb1:W.heap[w.heap.size]?=some (.cells #[.pointer (some ⟨b,0,none⟩)] 52 (0,0)):=by
  rw[hW,Below.heap_alloc _ _ _ (by simp<;>omega),Below.heap_alloc _ _ _ (by simp<;>omega),Below.heap_alloc _ _ _ (by simp<;>omega)];exact Ai rfl _
 have hb2:W.heap[w.heap.size+1]?=some (.cells #[.string name] 9 (0,0)):=by
  rw[hW,Below.heap_alloc _ _ _ (by simp<;>omega),Below.heap_alloc _ _ _ (by simp<;>omega)];exact Ai (by simp) _
 have hlen:=(hd.of_fp hfW.drew' (by simp) (by simp)).files.len 3
 have hnm:Calls Tryz.prog 175 #[.pointer (some ⟨b,0,none⟩),.slice (some ⟨w.heap.size+1+1,0,none⟩) 1 1] (((w.alloc (.cells #[.pointer (some ⟨b,0,none⟩)] 52)).alloc (.cells #[.string name] 9)).alloc (.cells #[.string name] 9)) fun e w'=>e=.returned (.int .i64 (d.named [name]))∧(((w.alloc (.cells #[.pointer (some ⟨b,0,none⟩)] 52)).alloc (.cells #[.string name] 9)).alloc (.cells #[.string name] 9))=w':=
  Vb _ b bm (w.heap.size+1+1) d [name] (hd.of_fp hfp (by simp) (by simp)) (Ai (by simp) _) (by simp)
 have hact:d.files.length<200→∀W',W'.heap=W.heap→Fp [] w W'→_ :=fun hl W' hh hf=>Aan W' b bm w.heap.size (w.heap.size+1) d name (hd.of_fp hf (by simp) (by simp)) hok hname hl (Aa (by rw[hh];exact hb1) 0) (Aa (by rw[hh];exact hb2) 0) (by omega) (by omega)
 have HD:=a0z hd;have HN:=a0z hnm;have HA:=a0z hact;have HW:=a0z hW;have HFW:=a0z hfW;rw[hW] at hlen;have hmany:=hok.many;clear hd hnm hact hW hfW hb1 hb2 hfp
 obtain⟨is,his⟩:∃is,is=(Ao d.files name).isSome:=⟨_,rfl⟩
 rw[←his] at hl hl2
 obtain⟨n,hn⟩:∃n,n=d.files.length:=⟨_,rfl⟩
 rw[←hn] at hlen hmany
 obtain⟨nm,hnm⟩:∃nm,nm=d.named [name]:=⟨_,rfl⟩
 rw[←hnm] at HN
 by_cases h0:nm=0
 ·subst h0
  have HE:Hid (d.createE name=(if is then 4 else if 200≤n then 2 else d.told)∧d.create name=(if is then d else if 200≤n then d else d.burnt (d.createG name))):=by
   unfold Hid Dk.createE Dk.create;rw[←hnm,←his,←hn];exact⟨rfl,rfl⟩
  have HNN:=a0z hn;clear hnm his hn
  by_cases h1:is=true
  ·subst h1;go_enter Tryz.func180,Tryz.ntmps180;go_wp2_with (go_at_call 175;refine HN.out.mono ?_;rintro e w' ⟨rfl,rfl⟩)
   go_region
   all_goals
    go_wp2_with (fail);go_ret;exact⟨by rw[HE.out.1];rfl,by rw[HE.out.2];exact HD.out.of_fp (S:=[]) ((HW.out▸HFW.out).drew') (by simp) (by simp),(HW.out▸HFW.out).drew'.mono (by simp)⟩
  ·obtain rfl:is=false:=by simpa using h1
   clear h1
   by_cases h2:200≤n
   ·have HR:Hid (d.createE name=2∧d.create name=d):=by unfold Hid;rw[HE.out.1,HE.out.2];simp[h2]
    go_enter Tryz.func180,Tryz.ntmps180;go_wp2_with (go_at_call 175;refine HN.out.mono ?_;rintro e w' ⟨rfl,rfl⟩)
    go_region
    all_goals
     go_wp2_with (fail);go_ret;exact⟨by rw[HR.out.1];rfl,by rw[HR.out.2];exact HD.out.of_fp (S:=[]) ((HW.out▸HFW.out).drew') (by simp) (by simp),(HW.out▸HFW.out).drew'.mono (by simp)⟩
   ·have HR:Hid (d.createE name=d.told∧d.create name=d.burnt (d.createG name)):=by unfold Hid;rw[HE.out.1,HE.out.2];simp[h2]
    have HAA:=a0z (HA.out (by rw[←HNN.out];omega) W.drew rfl HFW.out.drew');rw[HW.out] at HAA;clear HA;go_enter Tryz.func180,Tryz.ntmps180;go_wp2_with (go_at_call 175;refine HN.out.mono ?_;rintro e w' ⟨rfl,rfl⟩)
    go_region
    all_goals
     go_wp2_with (fail);refine HAA.out.mono ?_;rintro e w2 ⟨rfl,hd2,hf2⟩;have HD2:=a0z hd2;clear hd2;go_wp2_with (fail);go_ret;exact⟨by rw[HR.out.1];rfl,by rw[HR.out.2];exact HD2.out,((HW.out▸HFW.out).drew'.mono (by simp)).trans hf2 (by simp)⟩
 ·have HE:Hid (d.createE name=nm∧d.create name=d):=by
   unfold Hid Dk.createE Dk.create;rw[←hnm,if_pos h0,if_pos h0];exact⟨rfl,rfl⟩
  have hb:((nm:Int)!=0)=true:=by simpa using h0
  clear hnm h0 his hn;cases is
  all_goals
   go_enter Tryz.func180,Tryz.ntmps180;go_wp2_with (go_at_call 175;refine HN.out.mono ?_;rintro e w' ⟨rfl,rfl⟩)
   go_region
   all_goals
    go_wp2_with (fail);go_ret;exact⟨by rw[HE.out.1];rfl,by rw[HE.out.2];exact HD.out.of_fp (S:=[]) ((HW.out▸HFW.out).drew') (by simp) (by simp),(HW.out▸HFW.out).drew'.mono (by simp)⟩
end
section
def kG:Nat:=3988292384
def Fb(n:Nat):Nat:=(n/2) ^^^ (if n%2=1 then kG else 0)
def Ih:List Nat:=[0,498536548,997073096,651767980,1994146192,1802195444,1303535960,1342533948,3988292384,4027552580,3604390888,3412177804,2607071920,2262029012,2685067896,3183342108]
def L9(n:Nat):Nat:=(n/16) ^^^ Ih.getD (n%16) 0
theorem Aap(a b:Nat):(a ^^^ b)/2=(a/2) ^^^ (b/2):=by
 have:=Nat.shiftRight_xor_distrib (a:=a) (b:=b) (i:=1)
 simpa [Nat.shiftRight_eq_div_pow] using this
theorem Aaq(a b:Nat):(a ^^^ b)%2=(a%2+b%2)%2:=by
 have h:=Nat.xor_mod_two_pow (a:=a) (b:=b) (n:=1);rw[Nat.pow_one] at h;rw[h]
 rcases a0x a with ha|ha<;>rcases a0x b with hb|hb<;>rw[ha,hb]<;>rfl
theorem Wl(a b:Nat):Fb (a ^^^ b)=Fb a ^^^ Fb b:=by
 unfold Fb;rw[Aap,Aaq]
 rcases a0x a with ha|ha<;>rcases a0x b with hb|hb<;>rw[ha,hb]
 ·simp
 ·simp[a0w]
 ·simp[a0w,Nat.xor_comm (b/2)]
 ·simp only[Nat.reduceAdd,Nat.reduceMod,Nat.reduceEqDiff,if_false,if_true,Nat.xor_zero];rw[a0w,Nat.xor_comm kG,a0w,Nat.xor_self,Nat.xor_zero]
theorem Wm(m:Nat):Fb (2*m)=m:=by
 unfold Fb;rw[Nat.mul_div_cancel_left m (by decide),Nat.mul_mod_right,if_neg (by decide),Nat.xor_zero]
theorem Aar(n:Nat):n=(16*(n/16)) ^^^ (n%16):=by
 have h:=Nat.two_pow_add_eq_or_of_lt (i:=4) (b:=n%16) (Nat.mod_lt _ (by decide)) (n/16)
 have h2:(16*(n/16)) ^^^ (n%16)=2^4*(n/16)+n%16:=by
  apply Nat.eq_of_testBit_eq;intro i;rw[Nat.testBit_two_pow_mul_add _ (Nat.mod_lt _ (by decide)),Nat.testBit_xor,show(16:Nat)=2^4 from rfl,Nat.testBit_two_pow_mul,Nat.testBit_mod_two_pow]
  by_cases hi:i<4
  ·have:¬4≤i:=by omega
   simp[hi,this]
  ·simp[hi];omega
 omega
theorem kH(n:Nat):L9 n=Fb (Fb (Fb (Fb n))):=by
 conv=>rhs;rw[Aar n]
 rw[Wl,show 16*(n/16)=2*(8*(n/16)) by omega,Wm,Wl,show 8*(n/16)=2*(4*(n/16)) by omega,Wm,Wl,show 4*(n/16)=2*(2*(n/16)) by omega,Wm,Wl,Wm];unfold L9;congr 1;have h:n%16<16:=Nat.mod_lt _ (by decide);generalize n%16=r at h
 have key:∀r,r<16→Ih.getD r 0=Fb (Fb (Fb (Fb r))):=by decide
 exact key r h
def Zv(n:Nat)(b:UInt8):Nat:=L9 (L9 (n ^^^ b.toNat))
def Oc(n:Nat)(b:UInt8):Nat:=Fb (Fb (Fb (Fb (Fb (Fb (Fb (Fb (n ^^^ b.toNat))))))))
theorem Aas(n:Nat)(b:UInt8):Zv n b=Oc n b:=by unfold Zv Oc;rw[kH,kH]
def Oe(n:Nat)(l:List UInt8):Nat:=l.foldl Oc n
theorem Of{n:Nat}(h:n<4294967296):Fb n<4294967296:=by
 unfold Fb;refine Nat.xor_lt_two_pow (n:=32) (by omega) ?_
 split<;>decide
theorem Aat{n:Nat}{b:UInt8}(h:n<4294967296):Oc n b<4294967296:=by
 have hb:=b.toNat_lt;unfold Oc;exact Of (Of (Of (Of (Of (Of (Of (Of (Nat.xor_lt_two_pow (n:=32) h (by omega)))))))))
end
end Go.Proofs.YtkagolpnaicdoaaGreatDoor
