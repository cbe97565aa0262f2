/-
 The disk's inner functions: set. The disk's inner functions: named; the small methods. The disk's small methods: New, On, Up, Size, Fuse, Synced, Read. The disk's Crash. The disk's gate: act and there.
-/
import Derived.Test.YtkagolpnaicdoaaGreatDoorMMaps
import Derived.Deep.RegionLaw
import Derived.Outline
import Derived.Deep.LoopGhost
set_option maxRecDepth 100000
set_option maxHeartbeats 8000000
open Go.Lib renaming hid→a0z
open List renaming mem_singleton→a0x
namespace Go.Proofs.YtkagolpnaicdoaaGreatDoor
section
open Go.RowKit Go.Maps Go.MapKept Go.ChangeMaps
theorem xT(w:World)(s:ByteArray)(n:Int):(Instr.field 251 (.agg #[.string s,.int .i64 n]) 0).run Tryz.prog w=.ok (.string s) w:=by kernel_rfl
theorem xU{w:World}{b bm:Nat}{d:Dk}(h:Ah w b bm d)(n:Int):Ah (w.setCell ⟨b,1,none⟩ (.int .i64 n)) b bm {d with size:=n}:=
 ⟨by rw[Bt h.cells];rfl,h.files.of_block (Lu (Ne.symm h.ne) _)⟩
theorem gV{w:World}{b bm:Nat}{d:Dk}(h:Ah w b bm d)(o:Obj):Ah (w.alloc o) b bm d:=h.of_fp (Fp.alloc w o) (by simp) (by simp)
theorem Yl{w:World}{b bm:Nat}{d:Dk}(h:Ah w b bm d):Ah w.drew b bm d:=h.of_fp (Fp.drew w) (by simp) (by simp)
theorem gW{w:World}{b bm:Nat}{d:Dk}(h:Ah w b bm d){o:Obj}{F:List (ByteArray × A3)}(hm:Dt fileTy (setBlock w bm o) bm F):Ah (setBlock w bm o) b bm {d with files:=F}:=
 ⟨by rw[(Fp.setBlock w bm o).block b (Ab h.cells) (by simp[h.ne])];exact h.cells,hm⟩
def gX(w w':World)(bm b:Nat)(d:Dk)(name:ByteArray)(f:A3)(gone:Bool):Prop:=
 gone=false→(Ak d.files name).isSome=true→∀r done,r≠b→r≠bm→Gz fileTy w bm r d.files done→Gz fileTy w' bm r (Bc d.files name f) done
theorem gY{w:World}{b r:Nat}{F:List (ByteArray × A3)}{done:List ByteArray}(h:Gz fileTy w b r F done):r<w.heap.size:=by
 obtain⟨es,clock,since,seen,c0,h1,h2,h3,h4,h5,_⟩:=h;exact Ab h5
theorem Oy(w:World)(b bm:Nat)(d:Dk)(name:ByteArray)(f:A3)(gone:Bool)(hd:Ah w b bm d)(hname:name.size≤maxLen)
  (h1:0≤d.size)(h2:d.size≤1000000000)(h3:f.s.size≤1000000000)(h4:(Bi d name).s.size≤1000000000):
  Calls Tryz.prog 188 #[.pointer (some ⟨b,0,none⟩),.string name,W7 f,.bool gone] w fun e w'=>e=.returned (.tuple #[])∧Ah w' b bm (d.set name f gone)∧Fp [b,bm] w w'∧gX w w' bm b d name f gone:=by
 have c1:w.cell? ⟨b,1,none⟩=some (.int .i64 d.size):=Aa hd.cells 1;have c2:w.cell? ⟨b,2,none⟩=some (.map (some bm)):=Aa hd.cells 2;have f1:w.frozen? ⟨b,1,none⟩=false:=Aw hd.cells 1;have hlt:=Ab hd.cells
 have hl:(Instr.lookup 116 (.map (some bm)) (.string name) false).run Tryz.prog ((w.alloc (.cells #[.string f.s,.int .i64 f.synced] 251)).drew)=.ok (.agg #[.string (Bi d name).s,.int .i64 (Bi d name).synced]) ((w.alloc (.cells #[.string f.s,.int .i64 f.synced] 251)).drew):=
  (Yl (gV hd _)).files.lookup false hname
 have hd1:=Yl (Yl (gV (xU hd (d.size+(↑f.s.size- ↑(Bi d name).s.size))) (.cells #[.string f.s,.int .i64 f.synced] 251)));obtain⟨es,clock,hu,hm,hborn⟩:=hd1.files.update (x:=name) hname f;have hd2:=gW hd1 hm
 change (Instr.mapUpdate 116 (.map (some bm)) (.string name) (.agg #[.string f.s,.int .i64 f.synced])).run Tryz.prog _ =_ at hu
 have hp:Fp [b,bm] w (setBlock ((w.setCell ⟨b,1,none⟩ (.int .i64 (d.size+(↑f.s.size- ↑(Bi d name).s.size)))).alloc (.cells #[.string f.s,.int .i64 f.synced] 251)).drew.drew bm (.map es clock)):=
  (((Fp.setCell w ⟨b,1,none⟩ _).mono (by simp)).trans ((Fp.alloc _ _).trans ((Fp.drew _).trans (Fp.drew _) (by simp)) (by simp)) (by simp)).trans (Fp.setBlock _ _ _) (by simp)
 have hro:gX w (setBlock ((w.setCell ⟨b,1,none⟩ (.int .i64 (d.size+(↑f.s.size- ↑(Bi d name).s.size)))).alloc (.cells #[.string f.s,.int .i64 f.synced] 251)).drew.drew bm (.map es clock)) bm b d name f false:=by
  intro _ hin r done h1 h2 hr
  have hbm:((w.setCell ⟨b,1,none⟩ (.int .i64 (d.size+(↑f.s.size- ↑(Bi d name).s.size)))).alloc (.cells #[.string f.s,.int .i64 f.synced] 251)).drew.drew.heap[bm]?=w.heap[bm]?:=by
   show((w.setCell _ _).alloc _).heap[bm]?=_;rw[Below.heap_alloc _ _ _ (by simpa [World.setCell] using hd.files.lt),Lu (Ne.symm hd.ne)]
  have hr':=gY hr;refine hr.put hin (heap_setBlock_same (hbm.trans (hr.map).choose_spec.choose_spec.1) _) ?_ hm (fun es0 clock0 h0=>hborn es0 clock0 (hbm.trans h0));rw[(Fp.setBlock _ _ _).block r (by simpa [World.setCell] using Nat.lt_succ_of_lt hr') (by simpa using h2)];show((w.setCell _ _).alloc _).heap[r]?=_;rw[Below.heap_alloc _ _ _ (by simpa [World.setCell] using hr'),Lu h1]
 have hfd:=xT
 obtain⟨w2,hw2⟩:∃w2,w2=setBlock ((w.setCell ⟨b,1,none⟩ (.int .i64 (d.size+(↑f.s.size- ↑(Bi d name).s.size)))).alloc (.cells #[.string f.s,.int .i64 f.synced] 251)).drew.drew bm (.map es clock):=⟨_,rfl⟩
 rw[←hw2] at hu hd2 hp hro;clear hw2 hm hborn;have c2':w2.cell? ⟨b,2,none⟩=some (.map (some bm)):=Aa hd2.cells 2;have HD2:=a0z hd2;have HP:=a0z hp;have HRO:=a0z hro;obtain⟨es3,clock3,hu3,hm3⟩:=hd2.files.delete (x:=name) hname 0;have HD3:=a0z (gW hd2 hm3);clear hd2 hp hd1 hm3 hro
 change (Builtin.delete_ #[116,9] 0 #[.map (some bm),.string name]).run Tryz.prog _ =_ at hu3
 unfold W7;cases gone
 all_goals
  go_enter Tryz.func188,Tryz.ntmps188;go_wp2
  go_region
  go_wp2
  go_region
  go_wp2;go_end0
 ·exact⟨rfl,HD2.out,HP.out,HRO.out⟩
 ·exact⟨rfl,HD3.out,HP.out.trans (Fp.setBlock _ _ _) (by simp),fun h=>by cases h⟩
end
section
open Go.RowKit Go.Maps Go.MapKept Go.ChangeMaps
def Dl(s:ByteArray):Bool:=decide (1≤s.size∧s.size≤60)
def Dk.named(d:Dk)(names:List ByteArray):Int:=if d.off then 6 else if names.all Dl then 0 else 1
theorem gZ{d:Dk}{names:List ByteArray}(ho:d.off=false){x:ByteArray}(hx:x∈names)(h:Dl x=false):d.named names=1:=by
 unfold Dk.named;rw[ho,if_neg (by simp),if_neg];intro h1;rw[List.all_eq_true.1 h1 x hx] at h;cases h
theorem Ym{d:Dk}{names:List ByteArray}(ho:d.off=false)(h:names.all Dl=true):d.named names=0:=by
 unfold Dk.named;rw[ho,if_neg (by simp),if_pos h]
theorem xW{x:ByteArray}(h:x.size=0):Dl x=false:=by simp[Dl,h]
theorem xX{x:ByteArray}(h:¬x.size≤60):Dl x=false:=by
 unfold Dl;exact decide_eq_false (by omega)
theorem Yn{x:ByteArray}(h:¬x.size=0)(h':x.size≤60):Dl x=true:=by
 unfold Dl;exact decide_eq_true (by omega)
theorem xY{l:List ByteArray}{f:ByteArray→Bool}{k:Nat}(hk:k<l.length)(h:(l.take k).all f=true)(hx:f l[k]=true):(l.take (k+1)).all f=true:=by
 rw[List.take_succ_eq_append_getElem hk,List.all_append,h];simp[hx]
theorem Vn(w:World)(b bm sb:Nat)(d:Dk)(names:List ByteArray)(hd:Ah w b bm d)(hs:w.heap[sb]?=some (.cells (names.map Value.string).toArray 9 (0,0)))(hn:names.length≤1000):
  Calls Tryz.prog 175 #[.pointer (some ⟨b,0,none⟩),.slice (some ⟨sb,0,none⟩) names.length names.length] w fun e w'=>e=.returned (.int .i64 (d.named names))∧w=w':=by
 have c3:w.cell? ⟨b,3,none⟩=some (.bool d.off):=Aa hd.cells 3;have HD:=a0z hd;have HS:=a0z hs;have hlt:=Ab hd.cells;have hlt2:=Ab hs;clear hd hs;cases ho:d.off
 case true=>
  rw[ho] at c3
  have HO:Hid (d.named names=6):=by simp[Hid,Dk.named,ho]
  clear ho;go_enter Tryz.func175,Tryz.ntmps175;go_wp2;go_ret;exact⟨by rw[HO.out];rfl,rfl⟩
 rw[ho] at c3;have HO:=a0z ho;clear ho;go_enter Tryz.func175,Tryz.ntmps175;go_wp2
 go_loop [13] (fun i=>∃k:Nat,k≤names.length∧i=.int .i64 k∧(names.take k).all Dl=true) (fun i=>names.length-(intOf i).toNat)
 case atStart=>exact⟨0,by omega,rfl,by simp⟩
 case round=>
  obtain⟨k,hk,rfl,hall⟩:=hrel;have HA:=a0z hall;clear hall
  by_cases hlt':k<names.length
  ·have hcell:w.cell? ⟨sb,k,none⟩=some (.string names[k]):=by rw[Aa HS.out];simp[hlt']
   obtain⟨x,hx⟩:∃x,x=names[k]:=⟨_,rfl⟩
   rw[←hx] at hcell;have hxm:x∈names:=hx▸List.getElem_mem hlt';have HX:=a0z hx;have HXM:=a0z hxm;clear hx hxm
   by_cases h0:x.size=0
   ·have H1:=a0z (gZ HO.out HXM.out (xW h0))
    obtain rfl:x=⟨#[]⟩:=by
     obtain⟨⟨l⟩⟩:=x
     cases l with
     |nil=>rfl
     |cons a r=>cases h0
    clear h0;go_wp2;go_ret;exact⟨by rw[H1.out];rfl,rfl⟩
   ·have he:=N6 (Nat.pos_of_ne_zero h0);have H0:=a0z h0;clear h0
    by_cases h6:x.size≤60
    ·go_wp2
     go_round
     case rel=>exact⟨k+1,by omega,by go_num,xY hlt' HA.out (HX.out▸Yn H0.out h6)⟩
     case measure=>simp[intOf];omega
    ·have H1:=a0z (gZ HO.out HXM.out (xX h6));go_wp2;go_ret;exact⟨by rw[H1.out];rfl,rfl⟩
  ·have H1:=a0z (Ym HO.out (by have:=HA.out;rwa [List.take_of_length_le (by omega)] at this));go_wp2;go_ret;exact⟨by rw[H1.out];rfl,rfl⟩
end
section
open Go.RowKit Go.Maps Go.MapKept Go.ChangeMaps
def Dk.new(cap:Int):Dk:={cap:=max cap 0,size:=0,files:=[],off:=false,left:=0,keep:=0}
def Dk.on(d:Dk):Dk:={d with off:=false,left:=0}
def Dk.fuse(d:Dk)(n keep:Int):Dk:={d with left:=max n 0,keep:=keep}
def Dk.read(d:Dk)(name:ByteArray):ByteArray × Int:=
 if d.named [name]≠0 then(⟨#[]⟩,d.named [name]) else match Ak d.files name with
  |none=>(⟨#[]⟩,3)
  |some f=>(f.s,0)
theorem hO(cap:Int)(w:World):
  Calls Tryz.prog 21 #[.int .i64 cap] w fun e w'=>e=.returned (.pointer (some ⟨w.heap.size+1,0,none⟩))∧Ah w' (w.heap.size+1) w.heap.size (Dk.new cap)∧Fp [] w w':=by
 have hmm:=@run_makeMap Tryz.prog;have hm:=Dt.made fileTy w
 have hd:∀cp:Int,cp=max cap 0→Ah ((w.alloc (.map #[] 0)).alloc (.cells #[.int .i64 cp,.int .i64 0,.map (some w.heap.size),.bool false,.int .i64 0,.int .i64 0] 118 (0,0))) (w.heap.size+1) w.heap.size (Dk.new cap):=fun cp hc=>by
  subst hc;refine⟨?_,hm.of_block (Below.heap_alloc _ _ _ (by simp))⟩;exact Aj (by simp) _
 have HD:=a0z hd;clear hd hm
 by_cases h0:0≤cap
 all_goals
  go_enter Tryz.func21,Tryz.ntmps21;go_wp2;go_ret;exact⟨rfl,HD.out _ (by omega),(Fp.alloc _ _).trans (Fp.alloc _ _) (by simp)⟩
theorem xZ(w:World)(b bm:Nat)(d:Dk)(name:ByteArray)(hd:Ah w b bm d)(hname:name.size≤maxLen):
  Calls Tryz.prog 113 #[.pointer (some ⟨b,0,none⟩),.string name] w fun e w'=>e=.returned (.tuple #[.string (d.read name).1,.int .i64 (d.read name).2])∧Fp [] w w':=by
 have c2:w.cell? ⟨b,2,none⟩=some (.map (some bm)):=Aa hd.cells 2;have hlt:=Ab hd.cells;have hd1:=hd.of_fp (Fp.alloc w (.cells #[.string name] 9)) (by simp) (by simp);have hl:(Instr.lookup 116 (.map (some bm)) (.string name) true).run Tryz.prog (w.alloc (.cells #[.string name] 9))=.ok (.tuple #[.agg #[.string (Bi d name).s,.int .i64 (Bi d name).synced],.bool (Ak d.files name).isSome]) (w.alloc (.cells #[.string name] 9)):=hd1.files.lookup true hname;have HD1:=a0z hd1;clear hd hd1
 have hnm:Calls Tryz.prog 175 #[.pointer (some ⟨b,0,none⟩),.slice (some ⟨w.heap.size,0,none⟩) 1 1] (w.alloc (.cells #[.string name] 9)) fun e w'=>e=.returned (.int .i64 (d.named [name]))∧(w.alloc (.cells #[.string name] 9))=w':=
  Vn (w.alloc (.cells #[.string name] 9)) b bm w.heap.size d [name] HD1.out (MapKept.heap_alloc w _).1 (by simp)
 have HN:=a0z hnm;clear hnm;have HF:=a0z ((Fp.alloc w (.cells #[.string name] 9)))
 obtain⟨nm,hnm⟩:∃nm,nm=d.named [name]:=⟨_,rfl⟩
 rw[←hnm] at HN
 by_cases h0:nm=0
 ·subst h0
  cases hg:Ak d.files name with
  |none=>
   rw[hg] at hl
   have HR:Hid (d.read name=(⟨#[]⟩,3)):=by simp[Hid,Dk.read,←hnm,hg]
   clear hg hnm;go_enter Tryz.func113,Tryz.ntmps113;go_wp2_with (go_at_call 175;refine HN.out.mono ?_;rintro e w' ⟨rfl,rfl⟩);go_ret2;exact⟨by rw[HR.out];rfl,HF.out.alloc' _⟩
  |some f=>
   have hfg:Bi d name=f:=by simp[Bi,hg]
   rw[hg,hfg] at hl
   have HR:Hid (d.read name=(f.s,0)):=by simp[Hid,Dk.read,←hnm,hg]
   clear hg hnm hfg;go_enter Tryz.func113,Tryz.ntmps113;go_wp2_with (go_at_call 175;refine HN.out.mono ?_;rintro e w' ⟨rfl,rfl⟩);go_ret2;exact⟨by rw[HR.out];rfl,HF.out.alloc' _⟩
 ·have HR:Hid (d.read name=(⟨#[]⟩,nm)):=by simp[Hid,Dk.read,←hnm,h0]
  have hb:((nm:Int)!=0)=true:=by simpa using h0
  clear hnm hl h0;go_enter Tryz.func113,Tryz.ntmps113;go_wp2_with (go_at_call 175;refine HN.out.mono ?_;rintro e w' ⟨rfl,rfl⟩);go_ret2;exact⟨by rw[HR.out];rfl,HF.out⟩
end
section
open Go.RowKit Go.Maps Go.MapKept Go.ChangeMaps
def B4(F:List (ByteArray × A3)):Nat:=(F.map (fun p=>p.2.s.size)).sum
def H6(keep:Int)(f:A3):Nat:=f.synced+(if 0≤keep then keep.toNat%(f.s.size-f.synced+1) else 0)
def Ey(keep:Int)(f:A3):A3:=⟨f.s.extract 0 (H6 keep f),(f.s.extract 0 (H6 keep f)).size⟩
def Dk.crash(d:Dk)(keep:Int):Dk:={d with off:=true,files:=Ko (Ey keep) d.files,size:=B4 (Ko (Ey keep) d.files)}
structure Ap(d:Dk):Prop where
 size:d.size=B4 d.files
 fits:(B4 d.files:Int)≤d.cap
 caps:d.cap≤1000000000
 nodup:(Bf d.files).Nodup
 sync:∀p∈d.files,p.2.synced≤p.2.s.size
 many:d.files.length≤200
 left0:0≤d.left
 left1:d.left≤9223372036854775807
 keep0: -9223372036854775808≤d.keep
 keep1:d.keep≤9223372036854775807
theorem Ap.le{d:Dk}(h:Ap d):B4 d.files≤1000000000:=by
 have:=h.fits;have:=h.caps;omega
theorem hQ{keep:Int}{f:A3}(h:f.synced≤f.s.size):H6 keep f≤f.s.size:=by
 unfold H6;split
 ·have:=Nat.mod_lt keep.toNat (show 0<f.s.size-f.synced+1 by omega);omega
 ·omega
theorem Vo{s:ByteArray}{n:Nat}(h:n≤s.size):(s.extract 0 n).size=n:=by simp;omega
theorem hU{F:List (ByteArray × A3)}{p:ByteArray × A3}(h:p∈F):p.2.s.size≤B4 F:=by
 unfold B4
 induction F with
 |nil=>cases h
 |cons q r ih=>
  rcases List.mem_cons.1 h with rfl|h
  ·simp
  ·have:=ih h;simp;omega
theorem Yo:∀{F:List (ByteArray × A3)} (_ :(Bf F).Nodup) {x:ByteArray} {v f:A3} (_ :Ak F x=some v),B4 (Bc F x f)+v.s.size=B4 F+f.s.size
 |[],_,_,_,_,h=>by cases h
 |p::r,hn,x,v,f,h=>by
  unfold Bf at hn;rw[List.map_cons,List.nodup_cons] at hn;unfold Bc
  by_cases e:p.1=x
  ·rw[if_pos e]
   have:p.2=v:=by
    rw[Ha e] at h;exact Option.some.inj h
   simp[B4,this];omega
  ·rw[if_neg e]
   have h':Ak r x=some v:=by
    rw[I2 e] at h;exact h
   have:=Yo hn.2 (f:=f) h';simp[B4] at this ⊢;omega
def Dk.mid(d:Dk)(keep:Int)(done:List ByteArray):Dk:={d with off:=true,files:=Eg (Ey keep) done d.files,size:=B4 (Eg (Ey keep) done d.files)}
theorem iA{keep:Int}{done:List ByteArray}{F:List (ByteArray × A3)}(h:∀p∈F,p.2.synced≤p.2.s.size):B4 (Eg (Ey keep) done F)≤B4 F:=by
 induction F with
 |nil=>exact Nat.le_refl _
 |cons p r ih=>
  have h1:=ih (fun q hq=>h q (by simp[hq]));have h2:=h p (by simp);have h3:=hQ (keep:=keep) h2
  have h4:(Ey keep p.2).s.size≤p.2.s.size:=by show(p.2.s.extract 0 _).size≤_;rw[Vo h3];exact h3
  unfold B4 at h1 ⊢
  rcases pN (Ey keep) done p r with⟨_,hc⟩|⟨_,hc⟩<;>rw[hc]<;>simp<;>omega
theorem yA{d:Dk}{keep:Int}{done:List ByteArray}{x:ByteArray}{v:A3}(hn:(Bf d.files).Nodup)(hm:(x,v)∈d.files)(hx:x∉done):
  Bi (d.mid keep done) x=v∧(d.mid keep done).set x (Ey keep v) false=d.mid keep (done++[x])∧(Ak (d.mid keep done).files x).isSome=true:=by
 have h0:(x,v)∈Eg (Ey keep) done d.files:=cI hm hx
 have hn':(Bf (Eg (Ey keep) done d.files)).Nodup:=by rw[W5];exact hn
 have h1:Ak (d.mid keep done).files x=some v:=T0 hn' h0
 have h2:Bi (d.mid keep done) x=v:=by unfold Bi;rw[h1];rfl
 refine⟨h2,?_,by rw[h1];rfl⟩;have h3:=cG (g:=Ey keep) hn hm hx;have h4:=Yo hn' (f:=Ey keep v) (T0 hn' h0);rw[h3] at h4;unfold Dk.set;rw[h2];unfold Dk.mid;simp only[Bool.false_eq_true,if_false,h3,Dk.mk.injEq,true_and,and_true];omega
structure yB(w wr:World)(b bm r:Nat)(d:Dk)(keep:Int)(done:List ByteArray):Prop where
 disk:Ah wr b bm (d.mid keep done)
 range:Gz fileTy wr bm r (d.mid keep done).files done
 nodup:done.Nodup
 sub:∀x∈done,x∈Bf d.files
 fp:Fp [b,bm] w wr
 rnew:w.heap.size≤r
def iB(w wr:World)(b bm r:Nat)(d:Dk)(keep:Int)(n:Nat):Prop:=∃done,yB w wr b bm r d keep done∧n+done.length=d.files.length
theorem iC(w:World)(b bm:Nat)(d:Dk)(keep:Int)(hd:Ah w b bm d)(hok:Ap d)(hk1: -9223372036854775808≤keep)(hk2:keep≤9223372036854775807):
  Calls Tryz.prog 277 #[.pointer (some ⟨b,0,none⟩),.int .i64 keep] w fun e w'=>e=.returned (.tuple #[])∧Ah w' b bm (d.crash keep)∧Fp [b,bm] w w':=by
 have c3:w.cell? ⟨b,3,none⟩=some (.bool d.off):=Aa hd.cells 3;have c2:w.cell? ⟨b,2,none⟩=some (.map (some bm)):=Aa hd.cells 2;have f3:w.frozen? ⟨b,3,none⟩=false:=Aw hd.cells 3;have hlt:=Ab hd.cells
 have hd1:Ah (w.setCell ⟨b,3,none⟩ (.bool true)) b bm {d with off:=true}:=
  ⟨by rw[Bt hd.cells];rfl,hd.files.of_block (Lu (Ne.symm hd.ne) _)⟩
 obtain⟨it,hrun,hra⟩:=hd1.files.range;have hd2:=hd1.of_fp (Fp.alloc _ it) (by simp) (by simp);have HD2:=a0z hd2;have HRA:=a0z hra;have HD:=a0z hd;clear hd2 hra hd hd1;go_enter Tryz.func277,Tryz.ntmps277;go_wp2
 go_loopg [] d.files.length (fun n wr=>iB w wr b bm w.heap.size d keep n)
 case atStart=>
  refine⟨[],⟨?_,?_,List.nodup_nil,by simp,?_,Nat.le_refl _⟩,by simp⟩
  ·have:=HD2.out;unfold Dk.mid;rw[cJ,←hok.size];exact this
  ·have:=HRA.out;unfold Dk.mid;rw[cJ]
   simpa [World.setCell] using this
  ·exact(((Fp.refl _ _).setCell' (by simp) _).alloc' _)
 case round=>
  obtain⟨done,hrel,hcount⟩:=hrel;have HC:=a0z hcount;have HREL:=a0z hrel;have hbr:b<wr.heap.size:=Ab hrel.disk.cells;clear hcount hrel
  rcases HREL.out.range.next 0 with⟨hall,hnext⟩|⟨x,v,w1,o,hxm,hxd,hw1,hnext,hra',hent⟩
  ·have HALL:=a0z hall;clear hall;go_wp2;go_end0;have h1:=HREL.out.disk
   have h2:d.mid keep done=d.crash keep:=by
    have:=HALL.out;unfold Dk.mid Dk.crash;rw[cH (by intro y hy;exact this y (by show y∈Bf (Eg _ _ _);rw[W5];exact hy))]
   rw[h2] at h1;exact⟨rfl,h1,HREL.out.fp⟩
  ·have hin:(x,v)∈d.files:=pM hxm hxd;have hms:=yA (keep:=keep) (HREL.out.disk.files.keys_nodup |> fun h=>by rw[show Bf (d.mid keep done).files=Bf d.files from W5 _ _ _] at h;exact h) hin hxd;have hsy:=hok.sync _ hin;have hle:=Nat.le_trans (hU hin) hok.le
   have hfr:Fp [w.heap.size] wr (setBlock w1 w.heap.size o):=by
    rcases hw1 with rfl|rfl
    ·exact Fp.setBlock _ _ _
    ·exact((Fp.refl _ _).drew').setBlock' (by simp) _
   have hbl:b<w.heap.size:=Ab HD.out.cells;have hbml:=HD.out.files.lt;have hfp1:Fp [b,bm] w (setBlock w1 w.heap.size o):=HREL.out.fp.trans hfr (by simp);have hdk:=HREL.out.disk.of_fp hfr (by simp;omega) (by simp;omega)
   obtain⟨w2,hw2⟩:∃w2,w2=setBlock w1 w.heap.size o:=⟨_,rfl⟩
   rw[←hw2] at hnext hra' hent hfp1 hdk;have HMS:=a0z hms;have HRA2:=a0z hra';have HFP1:=a0z hfp1;have HDK:=a0z hdk;have HIN:=a0z hin;have HXD:=a0z hxd;clear hms hra' hfp1 hdk hin hxd hxm hw2 hw1
   dsimp only at hsy hle
   have hnm:x.size≤maxLen:=HDK.out.files.key_ok (cI HIN.out HXD.out)
   change (Instr.next (.pointer (some ⟨w.heap.size,0,none⟩)) false 0).run Tryz.prog wr=.ok (.tuple #[.bool true,.string x,.agg #[.string v.s,.int .i64 v.synced]]) w2 at hnext
   change (Instr.entry (.pointer (some ⟨w.heap.size,0,none⟩))).run Tryz.prog w2=.ok (.tuple #[.string x,.agg #[.string v.s,.int .i64 v.synced]]) w2 at hent
   have hset:∀(L:Nat) (z:Int),H6 keep v=L→z=L→L≤v.s.size→Calls Tryz.prog 188 #[.pointer (some ⟨b,0,none⟩),.string x,.agg #[.string (v.s.extract 0 L),.int .i64 z],.bool false] (w2.alloc (.cells #[.string (v.s.extract 0 L),.int .i64 z] 251))
     fun e w'=>e=.returned (.tuple #[])∧Fp [] w' w'∧iB w w' b bm w.heap.size d keep (gk-1):=by
    rintro L _ hL rfl hLs
    have hcf:Ey keep v=⟨v.s.extract 0 L,L⟩:=by
     unfold Ey;rw[hL,Vo hLs]
    obtain⟨hm1,hm2,hm3⟩:=HMS.out;have hfa:=Fp.alloc w2 (.cells #[.string (v.s.extract 0 L),.int .i64 L] 251);refine(Oy (w2.alloc (.cells #[.string (v.s.extract 0 L),.int .i64 L] 251)) b bm (d.mid keep done) x ⟨v.s.extract 0 L,L⟩ false (HDK.out.of_fp hfa (by simp) (by simp)) hnm (by simp[Dk.mid]) ?_ ?_ ?_).mono ?_
    ·have:=iA (keep:=keep) (done:=done) hok.sync;have:=hok.le;simp only[Dk.mid];omega
    ·show(v.s.extract 0 L).size≤_;rw[Vo hLs];omega
    ·rw[hm1];exact hle
    ·rintro e w3 ⟨rfl,hd3,hf3,hr3⟩;rw[←hcf] at hd3 hr3;rw[hm2] at hd3
     have hdl:(done++[x]).length≤d.files.length:=by
      have:=W6 (a:=done++[x]) (b:=Bf d.files) (by
       rw[List.nodup_append];refine⟨HREL.out.nodup,by simp,?_⟩;intro a ha c hc;rw[a0x] at hc;rintro rfl
       exact HXD.out (hc▸ha)) (by
       intro y hy
       rcases List.mem_append.1 hy with hy|hy
       ·exact HREL.out.sub y hy
       ·rw[a0x] at hy
        exact List.mem_map.2 ⟨(x,v),HIN.out,hy.symm⟩)
      simpa [Bf] using this
     refine⟨rfl,Fp.refl _ _,done++[x],⟨hd3,?_,?_,?_,?_,Nat.le_refl _⟩,?_⟩
     ·have h1:=hr3 rfl hm3 w.heap.size (done++[x]) (by omega) (by omega) (HRA2.out.of_block (Below.heap_alloc _ _ _ HRA2.out.map.lt) (Below.heap_alloc _ _ _ (gY HRA2.out)))
      have h2:Bc (d.mid keep done).files x (Ey keep v)=(d.mid keep (done++[x])).files:=by
       rw[←hm2];rfl
      rw[h2] at h1;exact h1
     ·rw[List.nodup_append];refine⟨HREL.out.nodup,by simp,?_⟩;intro a ha c hc;rw[a0x] at hc;rintro rfl;exact HXD.out (hc▸ha)
     ·intro y hy
      rcases List.mem_append.1 hy with hy|hy
      ·exact HREL.out.sub y hy
      ·rw[a0x] at hy;exact List.mem_map.2 ⟨(x,v),HIN.out,hy.symm⟩
     ·exact(HFP1.out.trans hfa (by simp)).trans hf3 (by simp)
     ·have:=HC.out;simp only[List.length_append,List.length_singleton] at hdl ⊢;omega
   have HSET:=a0z hset
   have hgk:gk-1<gk:=by
    have:=HC.out
    have:=W6 (a:=x::done) (b:=Bf d.files) (List.nodup_cons.2 ⟨HXD.out,HREL.out.nodup⟩) (by
     intro y hy
     rcases List.mem_cons.1 hy with rfl|hy
     ·exact List.mem_map.2 ⟨(y,v),HIN.out,rfl⟩
     ·exact HREL.out.sub y hy)
    simp[Bf] at this;omega
   clear hset
   by_cases hkp:0≤keep
   ·obtain⟨m,hm⟩:∃m:Nat,keep%(↑v.s.size- ↑v.synced+1)=(m:Int):=Int.eq_ofNat_of_zero_le (Int.emod_nonneg _ (by omega))
    have hm2:v.synced+m≤v.s.size:=by
     have:=Int.emod_lt_of_pos keep (show(0:Int)< ↑v.s.size- ↑v.synced+1 by omega);omega
    have HL:Hid (H6 keep v=v.synced+m):=by
     unfold Hid H6;rw[if_pos hkp]
     have:((keep.toNat%(v.s.size-v.synced+1):Nat):Int)=(m:Int):=by
      rw[←hm,Int.natCast_emod,Int.toNat_of_nonneg hkp];congr 1;omega
     omega
    go_wp2_with (fail);refine(HSET.out (v.synced+m) _ HL.out (by omega) hm2).mono ?_;rintro e w3 ⟨rfl,_,hr3⟩;go_wp2_with (fail)
    go_roundg (gk-1)
    case measure=>exact hgk
    case rel=>exact hr3
   ·have HL:Hid (H6 keep v=v.synced):=by
     unfold Hid H6;rw[if_neg hkp];rfl
    go_wp2_with (fail);refine(HSET.out v.synced _ HL.out (by omega) hsy).mono ?_;rintro e w3 ⟨rfl,_,hr3⟩;go_wp2_with (fail)
    go_roundg (gk-1)
    case measure=>exact hgk
    case rel=>exact hr3
end
section
open Go.RowKit Go.Maps Go.MapKept Go.ChangeMaps
def Dk.tick(d:Dk):Dk:={d with left:=max (d.left-1) 0}
def Dk.does(d:Dk)(always:Bool):Bool:=d.left !=1||always||d.keep.tmod 2 !=0
def Dk.burnt(d d2:Dk):Dk:=if d.left=1 then d2.crash d2.keep else d2
def Dk.told(d:Dk):Int:=if d.left=1 then 6 else 0
structure Yp(w:World)(b bm:Nat)(d d2:Dk)(K:Nat)(caps:Array Value):Prop where
 enters:∀w,(callFunc K caps).run Tryz.prog w=.ok (.enter K caps) w
 calls:∀w1,Ah w1 b bm d→Fp [b] w w1→Calls Tryz.prog K caps w1 fun e w'=>e=.returned (.tuple #[])∧Ah w' b bm d2∧Fp [b,bm] w1 w'
theorem Yq{w:World}{b bm:Nat}{d:Dk}(h:Ah w b bm d)(n:Int):Ah (w.setCell ⟨b,4,none⟩ (.int .i64 n)) b bm {d with left:=n}:=
 ⟨by rw[Bt h.cells];rfl,h.files.of_block (Lu (Ne.symm h.ne) _)⟩
theorem yC(w:World)(b bm:Nat)(d d2:Dk)(always:Bool)(K:Nat)(caps:Array Value)(hd:Ah w b bm d)(hok:Ap d)(hl:d.left≠1)(hdo:Yp w b bm d.tick d2 K caps):
  Calls Tryz.prog 237 #[.pointer (some ⟨b,0,none⟩),.bool always,.func (.func K) #[] caps] w fun e w'=>e=.returned (.int .i64 d.told)∧Ah w' b bm (d.burnt d2)∧Fp [b,bm] w w':=by
 have c4:w.cell? ⟨b,4,none⟩=some (.int .i64 d.left):=Aa hd.cells 4;have f4:w.frozen? ⟨b,4,none⟩=false:=Aw hd.cells 4;have hl0:=hok.left0;have hl1:=hok.left1;have HD:=a0z hd;have HDO:=a0z hdo;have HT:Hid (d.told=0):=if_neg hl;have HB:Hid (d.burnt d2=d2):=if_neg hl;have HL:=a0z hl
 have hlb:(d.left==1)=false:=by simpa using hl
 clear hd hdo hl hok;have hen:=HDO.out.enters
 by_cases hz:1≤d.left
 ·have hc:=HDO.out.calls _ (show Ah (w.setCell ⟨b,4,none⟩ (.int .i64 (d.left-1))) b bm d.tick from by
   have:=Yq HD.out (d.left-1);unfold Dk.tick;rwa [Int.max_eq_left (by omega)]) (Fp.setCell w ⟨b,4,none⟩ _)
  have HC:=a0z hc;clear hc;go_enter Tryz.func237,Tryz.ntmps237;go_wp2_with (fail);refine HC.out.mono ?_;rintro e w2 ⟨rfl,hd2,hf2⟩;have HD2:=a0z hd2;clear hd2;go_wp2_with (fail);go_ret;exact⟨by rw[HT.out];rfl,by rw[HB.out];exact HD2.out,((Fp.setCell _ _ _).mono (by simp)).trans hf2 (by simp)⟩
 ·have hc:=HDO.out.calls _ (show Ah (w.setCell ⟨b,4,none⟩ (.int .i64 0)) b bm d.tick from by
   have:=Yq HD.out 0;unfold Dk.tick;rwa [Int.max_eq_right (by omega)]) (Fp.setCell w ⟨b,4,none⟩ _)
  have HC:=a0z hc;clear hc;go_enter Tryz.func237,Tryz.ntmps237;go_wp2_with (fail);refine HC.out.mono ?_;rintro e w2 ⟨rfl,hd2,hf2⟩;have HD2:=a0z hd2;clear hd2;go_wp2_with (fail);go_ret;exact⟨by rw[HT.out];rfl,by rw[HB.out];exact HD2.out,((Fp.setCell _ _ _).mono (by simp)).trans hf2 (by simp)⟩
theorem yD(w:World)(b bm:Nat)(d d2:Dk)(always:Bool)(K:Nat)(caps:Array Value)(hd:Ah w b bm d)(hok:Ap d2)(hl:d.left=1)(hdo:d.does always=true→Yp w b bm d.tick d2 K caps)(hno:d.does always=false→d2=d.tick):
  Calls Tryz.prog 237 #[.pointer (some ⟨b,0,none⟩),.bool always,.func (.func K) #[] caps] w fun e w'=>e=.returned (.int .i64 d.told)∧Ah w' b bm (d.burnt d2)∧Fp [b,bm] w w':=by
 have c4:w.cell? ⟨b,4,none⟩=some (.int .i64 1):=by rw[←hl];exact Aa hd.cells 4
 have c5:w.cell? ⟨b,5,none⟩=some (.int .i64 d.keep):=Aa hd.cells 5;have f4:w.frozen? ⟨b,4,none⟩=false:=Aw hd.cells 4
 have hd1:Ah (w.setCell ⟨b,4,none⟩ (.int .i64 0)) b bm d.tick:=by
  have:=Yq hd 0;unfold Dk.tick;rw[hl];exact this
 have HT:Hid (d.told=6):=if_pos hl;have HB:Hid (d.burnt d2=d2.crash d2.keep):=if_pos hl;have HD:=a0z hd;have HD1:=a0z hd1;have HDO:=a0z hdo;have HNO:=a0z hno;have HL:=a0z hl;clear hd hd1 hdo hno hl;cases hdoes:d.does always
 ·have hd2:=HNO.out hdoes;have hcr:=iC _ b bm d2 d2.keep (hd2▸HD1.out) hok hok.keep0 hok.keep1
  have hkk:d2.keep=d.keep:=by rw[hd2];rfl
  rw[hkk] at hcr;have HCR:=a0z hcr
  have ha:always=false∧(d.keep.tmod 2 !=0)=false:=by
   unfold Dk.does at hdoes;rw[HL.out] at hdoes
   simpa using hdoes
  have HKK:=a0z hkk;obtain⟨rfl,hk⟩:=ha;clear hcr hdoes hd2 hkk;go_enter Tryz.func237,Tryz.ntmps237;go_wp2_with (fail);refine HCR.out.mono ?_;rintro e w2 ⟨rfl,hd2,hf2⟩;have HD2:=a0z hd2;clear hd2;go_wp2_with (fail);go_ret;exact⟨by rw[HT.out];rfl,by rw[HB.out,HKK.out];exact HD2.out,((Fp.setCell w ⟨b,4,none⟩ _).mono (by simp)).trans hf2 (by simp)⟩
 ·have htu:=HDO.out hdoes;have hen:=htu.enters;have hc:=htu.calls _ HD1.out (Fp.setCell w ⟨b,4,none⟩ _);have HC:=a0z hc
  have ha:always=true∨always=false∧(d.keep.tmod 2 !=0)=true:=by
   unfold Dk.does at hdoes;rw[HL.out] at hdoes;cases always
   ·right;simpa using hdoes
   ·left;rfl
  clear hc htu hdoes
  rcases ha with rfl|⟨rfl,hk⟩
  all_goals
   go_enter Tryz.func237,Tryz.ntmps237;go_wp2_with (fail);refine HC.out.mono ?_;rintro e w2 ⟨rfl,hd2,hf2⟩;have HD2:=a0z hd2;have c5':w2.cell? ⟨b,5,none⟩=some (.int .i64 d2.keep):=Aa hd2.cells 5;clear hd2;go_wp2_with (fail);refine(iC _ b bm d2 d2.keep HD2.out hok hok.keep0 hok.keep1).mono ?_;rintro e w3 ⟨rfl,hd3,hf3⟩;have HD3:=a0z hd3;clear hd3;go_wp2_with (fail);go_ret;exact⟨by rw[HT.out];rfl,by rw[HB.out];exact HD3.out,(((Fp.setCell w ⟨b,4,none⟩ _).mono (by simp)).trans hf2 (by simp)).trans hf3 (by simp)⟩
theorem iD(w:World)(b bm:Nat)(d d2:Dk)(always:Bool)(K:Nat)(caps:Array Value)(hd:Ah w b bm d)(hok:Ap d)(hok2:Ap d2)(hdo:d.does always=true→Yp w b bm d.tick d2 K caps)(hno:d.does always=false→d2=d.tick):
  Calls Tryz.prog 237 #[.pointer (some ⟨b,0,none⟩),.bool always,.func (.func K) #[] caps] w fun e w'=>e=.returned (.int .i64 d.told)∧Ah w' b bm (d.burnt d2)∧Fp [b,bm] w w':=by
 by_cases hl:d.left=1
 ·exact yD w b bm d d2 always K caps hd hok2 hl hdo hno
 ·exact yC w b bm d d2 always K caps hd hok hl (hdo (by simp[Dk.does,hl]))
end
end Go.Proofs.YtkagolpnaicdoaaGreatDoor
