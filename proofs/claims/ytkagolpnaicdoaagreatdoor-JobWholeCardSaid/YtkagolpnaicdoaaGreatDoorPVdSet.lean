/-
 The disk's inner functions: set. The disk's inner functions: named; the small methods. The disk's small methods: New, On, Up, Size, Fuse, Synced, Read. The disk's Crash. The disk's gate: act and there. The disk's gate for files that have to be there. The disk as data: what its calls keep to.
-/
import Derived.Test.YtkagolpnaicdoaaGreatDoorPParPrint
set_option maxRecDepth 100000
set_option maxHeartbeats 8000000
open Go.Lib renaming hid->a0z
open List renaming mem_singleton->a0x,filter_cons->a0w,nodup_append->a0u,nodup_cons->a1z,map_cons->a1x
open Nat renaming le_refl->a0v
namespace Go.Proofs.YtkagolpnaicdoaaGreatDoor
section
open Go.RowKit Go.Maps Go.MapKept Go.ChangeMaps
theorem Ahm(w:World)(s:ByteArray)(n:Int):(Instr.field 251 (.agg #[.string s,.int .i64 n]) 0).run Tryz.prog w=.ok (.string s) w:=by kernel_rfl
theorem Ahn{w:World}{b bm:Nat}{d:Dk}(h:Ak w b bm d)(n:Int):Ak (w.setCell ⟨b,1,none⟩ (.int .i64 n)) b bm {d with size:=n}:=
 ⟨by rw[Bd h.cells];rfl,h.files.of_block (O1 (Ne.symm h.ne) _)⟩
theorem rM{w:World}{b bm:Nat}{d:Dk}(h:Ak w b bm d)(o:Obj):Ak (w.alloc o) b bm d:=h.of_fp (Fp.alloc w o) (by simp) (by simp)
theorem eN{w:World}{b bm:Nat}{d:Dk}(h:Ak w b bm d):Ak w.drew b bm d:=h.of_fp (Fp.drew w) (by simp) (by simp)
theorem rN{w:World}{b bm:Nat}{d:Dk}(h:Ak w b bm d){o:Obj}{F:List (ByteArray × A7)}(hm:Ec fileTy (setBlock w bm o) bm F):Ak (setBlock w bm o) b bm {d with files:=F}:=
 ⟨by rw[(Fp.setBlock w bm o).block b (Ac h.cells) (by simp[h.ne])];exact h.cells,hm⟩
def rO(w w':World)(bm b:Nat)(d:Dk)(name:ByteArray)(f:A7)(gone:Bool):Prop:=
 gone=false->(Au d.files name).isSome=true->∀r done,r≠b->r≠bm->Ig fileTy w bm r d.files done->Ig fileTy w' bm r (Bf d.files name f) done
theorem rP{w:World}{b r:Nat}{F:List (ByteArray × A7)}{done:List ByteArray}(h:Ig fileTy w b r F done):r<w.heap.size:=by
 obtain⟨es,clock,since,seen,c0,h1,h2,h3,h4,h5,_⟩:=h;exact Ac h5
theorem R6(w:World)(b bm:Nat)(d:Dk)(name:ByteArray)(f:A7)(gone:Bool)(hd:Ak w b bm d)(hname:name.size≤maxLen)
  (h1:0<=d.size)(h2:d.size<=1000000000)(h3:f.s.size<=1000000000)(h4:(B5 d name).s.size<=1000000000):
  Calls Tryz.prog 188 #[.pointer (some ⟨b,0,none⟩),.string name,cZ f,.bool gone] w fun e w'=>e=.returned (.tuple #[])/\Ak w' b bm (d.set name f gone)/\Fp [b,bm] w w'/\rO w w' bm b d name f gone:=by
 have c1:w.cell? ⟨b,1,none⟩=some (.int .i64 d.size):=Ab hd.cells 1;have c2:w.cell? ⟨b,2,none⟩=some (.map (some bm)):=Ab hd.cells 2;have f1:w.frozen? ⟨b,1,none⟩=false:=Ar hd.cells 1;have hlt:=Ac hd.cells
 have hl:(Instr.lookup 116 (.map (some bm)) (.string name) false).run Tryz.prog ((w.alloc (.cells #[.string f.s,.int .i64 f.synced] 251)).drew)=.ok (.agg #[.string (B5 d name).s,.int .i64 (B5 d name).synced]) ((w.alloc (.cells #[.string f.s,.int .i64 f.synced] 251)).drew):=
  (eN (rM hd _)).files.lookup false hname
 have hd1:=eN (eN (rM (Ahn hd (d.size+(↑f.s.size- ↑(B5 d name).s.size))) (.cells #[.string f.s,.int .i64 f.synced] 251)));obtain⟨es,clock,hu,hm,hborn⟩:=hd1.files.update (x:=name) hname f;have hd2:=rN hd1 hm
 change (Instr.mapUpdate 116 (.map (some bm)) (.string name) (.agg #[.string f.s,.int .i64 f.synced])).run Tryz.prog _ =_ at hu
 have hp:Fp [b,bm] w (setBlock ((w.setCell ⟨b,1,none⟩ (.int .i64 (d.size+(↑f.s.size- ↑(B5 d name).s.size)))).alloc (.cells #[.string f.s,.int .i64 f.synced] 251)).drew.drew bm (.map es clock)):=
  (((Fp.setCell w ⟨b,1,none⟩ _).mono (by simp)).trans ((Fp.alloc _ _).trans ((Fp.drew _).trans (Fp.drew _) (by simp)) (by simp)) (by simp)).trans (Fp.setBlock _ _ _) (by simp)
 have hro:rO w (setBlock ((w.setCell ⟨b,1,none⟩ (.int .i64 (d.size+(↑f.s.size- ↑(B5 d name).s.size)))).alloc (.cells #[.string f.s,.int .i64 f.synced] 251)).drew.drew bm (.map es clock)) bm b d name f false:=by
  intro _ hin r done h1 h2 hr
  have hbm:((w.setCell ⟨b,1,none⟩ (.int .i64 (d.size+(↑f.s.size- ↑(B5 d name).s.size)))).alloc (.cells #[.string f.s,.int .i64 f.synced] 251)).drew.drew.heap[bm]?=w.heap[bm]?:=by
   show((w.setCell _ _).alloc _).heap[bm]?=_;rw[Below.heap_alloc _ _ _ (by simpa [World.setCell] using hd.files.lt),O1 (Ne.symm hd.ne)]
  have hr':=rP hr;refine hr.put hin (heap_setBlock_same (hbm.trans (hr.map).choose_spec.choose_spec.1) _) ?_ hm (fun es0 clock0 h0=>hborn es0 clock0 (hbm.trans h0));rw[(Fp.setBlock _ _ _).block r (by simpa [World.setCell] using Nat.lt_succ_of_lt hr') (by simpa using h2)];show((w.setCell _ _).alloc _).heap[r]?=_;rw[Below.heap_alloc _ _ _ (by simpa [World.setCell] using hr'),O1 h1]
 have hfd:=Ahm
 obtain⟨w2,hw2⟩:∃w2,w2=setBlock ((w.setCell ⟨b,1,none⟩ (.int .i64 (d.size+(↑f.s.size- ↑(B5 d name).s.size)))).alloc (.cells #[.string f.s,.int .i64 f.synced] 251)).drew.drew bm (.map es clock):=⟨_,rfl⟩
 rw[<-hw2] at hu hd2 hp hro;clear hw2 hm hborn;have c2':w2.cell? ⟨b,2,none⟩=some (.map (some bm)):=Ab hd2.cells 2;have HD2:=a0z hd2;have HP:=a0z hp;have HRO:=a0z hro;obtain⟨es3,clock3,hu3,hm3⟩:=hd2.files.delete (x:=name) hname 0;have HD3:=a0z (rN hd2 hm3);clear hd2 hp hd1 hm3 hro
 change (Builtin.delete_ #[116,9] 0 #[.map (some bm),.string name]).run Tryz.prog _ =_ at hu3
 unfold cZ;cases gone
 all_goals
  go_enter Tryz.func188,Tryz.ntmps188;go_wp2
  go_region
  go_wp2
  go_region
  go_wp2;go_end0
 ·exact⟨rfl,HD2.out,HP.out,HRO.out⟩
 ·exact⟨rfl,HD3.out,HP.out.trans (Fp.setBlock _ _ _) (by simp),fun h=>by cases h⟩
end
section
open Go.RowKit Go.Maps Go.MapKept Go.ChangeMaps
def D9(s:ByteArray):Bool:=decide (1<=s.size/\s.size<=60)
def Dk.named(d:Dk)(names:List ByteArray):Int:=if d.off then 6 else if names.all D9 then 0 else 1
theorem rQ{d:Dk}{names:List ByteArray}(ho:d.off=false){x:ByteArray}(hx:x∈names)(h:D9 x=false):d.named names=1:=by
 unfold Dk.named;rw[ho,if_neg (by simp),if_neg];intro h1;rw[List.all_eq_true.1 h1 x hx] at h;cases h
theorem eO{d:Dk}{names:List ByteArray}(ho:d.off=false)(h:names.all D9=true):d.named names=0:=by
 unfold Dk.named;rw[ho,if_neg (by simp),if_pos h]
theorem Aho{x:ByteArray}(h:x.size=0):D9 x=false:=by simp[D9,h]
theorem Ahp{x:ByteArray}(h:¬x.size<=60):D9 x=false:=by
 unfold D9;exact decide_eq_false (by omega)
theorem eP{x:ByteArray}(h:¬x.size=0)(h':x.size<=60):D9 x=true:=by
 unfold D9;exact decide_eq_true (by omega)
theorem Ahq{l:List ByteArray}{f:ByteArray->Bool}{k:Nat}(hk:k<l.length)(h:(l.take k).all f=true)(hx:f l[k]=true):(l.take (k+1)).all f=true:=by
 rw[List.take_succ_eq_append_getElem hk,List.all_append,h];simp[hx]
theorem Zw(w:World)(b bm sb:Nat)(d:Dk)(names:List ByteArray)(hd:Ak w b bm d)(hs:w.heap[sb]?=some (.cells (names.map Value.string).toArray 9 (0,0)))(hn:names.length≤1000):
  Calls Tryz.prog 175 #[.pointer (some ⟨b,0,none⟩),.slice (some ⟨sb,0,none⟩) names.length names.length] w fun e w'=>e=.returned (.int .i64 (d.named names))/\w=w':=by
 have c3:w.cell? ⟨b,3,none⟩=some (.bool d.off):=Ab hd.cells 3;have HD:=a0z hd;have HS:=a0z hs;have hlt:=Ac hd.cells;have hlt2:=Ac hs;clear hd hs;cases ho:d.off
 case true=>
  rw[ho] at c3
  have HO:Hid (d.named names=6):=by simp[Hid,Dk.named,ho]
  clear ho;go_enter Tryz.func175,Tryz.ntmps175;go_wp2;go_ret;exact⟨by rw[HO.out];rfl,rfl⟩
 rw[ho] at c3;have HO:=a0z ho;clear ho;go_enter Tryz.func175,Tryz.ntmps175;go_wp2
 go_loop [13] (fun i=>∃k:Nat,k<=names.length/\i=.int .i64 k/\(names.take k).all D9=true) (fun i=>names.length-(intOf i).toNat)
 case atStart=>exact⟨0,by omega,rfl,by simp⟩
 case round=>
  obtain⟨k,hk,rfl,hall⟩:=hrel;have HA:=a0z hall;clear hall
  by_cases hlt':k<names.length
  ·have hcell:w.cell? ⟨sb,k,none⟩=some (.string names[k]):=by rw[Ab HS.out];simp[hlt']
   obtain⟨x,hx⟩:∃x,x=names[k]:=⟨_,rfl⟩
   rw[<-hx] at hcell;have hxm:x∈names:=hx▸List.getElem_mem hlt';have HX:=a0z hx;have HXM:=a0z hxm;clear hx hxm
   by_cases h0:x.size=0
   ·have H1:=a0z (rQ HO.out HXM.out (Aho h0))
    obtain rfl:x=⟨#[]⟩:=by
     obtain⟨⟨l⟩⟩:=x
     cases l with
     |nil=>rfl
     |cons a r=>cases h0
    clear h0;go_wp2;go_ret;exact⟨by rw[H1.out];rfl,rfl⟩
   ·have he:=Rl (Nat.pos_of_ne_zero h0);have H0:=a0z h0;clear h0
    by_cases h6:x.size<=60
    ·go_wp2
     go_round
     case rel=>exact⟨k+1,by omega,by go_num,Ahq hlt' HA.out (HX.out▸eP H0.out h6)⟩
     case measure=>simp[intOf];omega
    ·have H1:=a0z (rQ HO.out HXM.out (Ahp h6));go_wp2;go_ret;exact⟨by rw[H1.out];rfl,rfl⟩
  ·have H1:=a0z (eO HO.out (by have:=HA.out;rwa [List.take_of_length_le (by omega)] at this));go_wp2;go_ret;exact⟨by rw[H1.out];rfl,rfl⟩
end
section
open Go.RowKit Go.Maps Go.MapKept Go.ChangeMaps
def Dk.new(cap:Int):Dk:={cap:=max cap 0,size:=0,files:=[],off:=false,left:=0,keep:=0}
def Dk.on(d:Dk):Dk:={d with off:=false,left:=0}
def Dk.read(d:Dk)(name:ByteArray):ByteArray × Int:=
 if d.named [name]≠0 then(⟨#[]⟩,d.named [name]) else match Au d.files name with
  |none=>(⟨#[]⟩,3)
  |some f=>(f.s,0)
theorem Ahr(cap:Int)(w:World):
  Calls Tryz.prog 21 #[.int .i64 cap] w fun e w'=>e=.returned (.pointer (some ⟨w.heap.size+1,0,none⟩))/\Ak w' (w.heap.size+1) w.heap.size (Dk.new cap)/\Fp [] w w':=by
 have hmm:=@run_makeMap Tryz.prog;have hm:=Ec.made fileTy w
 have hd:∀cp:Int,cp=max cap 0->Ak ((w.alloc (.map #[] 0)).alloc (.cells #[.int .i64 cp,.int .i64 0,.map (some w.heap.size),.bool false,.int .i64 0,.int .i64 0] 118 (0,0))) (w.heap.size+1) w.heap.size (Dk.new cap):=fun cp hc=>by
  subst hc;refine⟨?_,hm.of_block (Below.heap_alloc _ _ _ (by simp))⟩;exact Ai (by simp) _
 have HD:=a0z hd;clear hd hm
 by_cases h0:0<=cap
 all_goals
  go_enter Tryz.func21,Tryz.ntmps21;go_wp2;go_ret;exact⟨rfl,HD.out _ (by omega),(Fp.alloc _ _).trans (Fp.alloc _ _) (by simp)⟩
theorem Ahs(w:World)(b bm:Nat)(d:Dk)(name:ByteArray)(hd:Ak w b bm d)(hname:name.size≤maxLen):
  Calls Tryz.prog 113 #[.pointer (some ⟨b,0,none⟩),.string name] w fun e w'=>e=.returned (.tuple #[.string (d.read name).1,.int .i64 (d.read name).2])/\Fp [] w w':=by
 have c2:w.cell? ⟨b,2,none⟩=some (.map (some bm)):=Ab hd.cells 2;have hlt:=Ac hd.cells;have hd1:=hd.of_fp (Fp.alloc w (.cells #[.string name] 9)) (by simp) (by simp);have hl:(Instr.lookup 116 (.map (some bm)) (.string name) true).run Tryz.prog (w.alloc (.cells #[.string name] 9))=.ok (.tuple #[.agg #[.string (B5 d name).s,.int .i64 (B5 d name).synced],.bool (Au d.files name).isSome]) (w.alloc (.cells #[.string name] 9)):=hd1.files.lookup true hname;have HD1:=a0z hd1;clear hd hd1
 have hnm:Calls Tryz.prog 175 #[.pointer (some ⟨b,0,none⟩),.slice (some ⟨w.heap.size,0,none⟩) 1 1] (w.alloc (.cells #[.string name] 9)) fun e w'=>e=.returned (.int .i64 (d.named [name]))/\(w.alloc (.cells #[.string name] 9))=w':=
  Zw (w.alloc (.cells #[.string name] 9)) b bm w.heap.size d [name] HD1.out (MapKept.heap_alloc w _).1 (by simp)
 have HN:=a0z hnm;clear hnm;have HF:=a0z ((Fp.alloc w (.cells #[.string name] 9)))
 obtain⟨nm,hnm⟩:∃nm,nm=d.named [name]:=⟨_,rfl⟩
 rw[<-hnm] at HN
 by_cases h0:nm=0
 ·subst h0
  cases hg:Au d.files name with
  |none=>
   rw[hg] at hl
   have HR:Hid (d.read name=(⟨#[]⟩,3)):=by simp[Hid,Dk.read,<-hnm,hg]
   clear hg hnm;go_enter Tryz.func113,Tryz.ntmps113;go_wp2_with (go_at_call 175;refine HN.out.mono ?_;rintro e w' ⟨rfl,rfl⟩);go_ret2;exact⟨by rw[HR.out];rfl,HF.out.alloc' _⟩
  |some f=>
   have hfg:B5 d name=f:=by simp[B5,hg]
   rw[hg,hfg] at hl
   have HR:Hid (d.read name=(f.s,0)):=by simp[Hid,Dk.read,<-hnm,hg]
   clear hg hnm hfg;go_enter Tryz.func113,Tryz.ntmps113;go_wp2_with (go_at_call 175;refine HN.out.mono ?_;rintro e w' ⟨rfl,rfl⟩);go_ret2;exact⟨by rw[HR.out];rfl,HF.out.alloc' _⟩
 ·have HR:Hid (d.read name=(⟨#[]⟩,nm)):=by simp[Hid,Dk.read,<-hnm,h0]
  have hb:((nm:Int)!=0)=true:=by simpa using h0
  clear hnm hl h0;go_enter Tryz.func113,Tryz.ntmps113;go_wp2_with (go_at_call 175;refine HN.out.mono ?_;rintro e w' ⟨rfl,rfl⟩);go_ret2;exact⟨by rw[HR.out];rfl,HF.out⟩
end
section
open Go.RowKit Go.Maps Go.MapKept Go.ChangeMaps
def total(F:List (ByteArray × A7)):Nat:=(F.map (fun p=>p.2.s.size)).sum
def Px(keep:Int)(f:A7):Nat:=f.synced+(if 0<=keep then keep.toNat%(f.s.size-f.synced+1) else 0)
def Hf(keep:Int)(f:A7):A7:=⟨f.s.extract 0 (Px keep f),(f.s.extract 0 (Px keep f)).size⟩
def Dk.crash(d:Dk)(keep:Int):Dk:={d with off:=true,files:=L8 (Hf keep) d.files,size:=total (L8 (Hf keep) d.files)}
structure Av(d:Dk):Prop where
 size:d.size=total d.files
 fits:(total d.files:Int)<=d.cap
 caps:d.cap<=1000000000
 nodup:(Br d.files).Nodup
 sync:∀p∈d.files,p.2.synced<=p.2.s.size
 many:d.files.length<=200
 left0:0<=d.left
 left1:d.left<=9223372036854775807
 keep0: -9223372036854775808<=d.keep
 keep1:d.keep<=9223372036854775807
theorem Av.le{d:Dk}(h:Av d):total d.files<=1000000000:=by
 have:=h.fits;have:=h.caps;omega
theorem Aht{keep:Int}{f:A7}(h:f.synced<=f.s.size):Px keep f<=f.s.size:=by
 unfold Px;split
 ·have:=Nat.mod_lt keep.toNat (show 0<f.s.size-f.synced+1 by omega);omega
 ·omega
theorem eQ{s:ByteArray}{n:Nat}(h:n<=s.size):(s.extract 0 n).size=n:=by simp;omega
theorem rR{F:List (ByteArray × A7)}{p:ByteArray × A7}(h:p∈F):p.2.s.size≤total F:=by
 unfold total
 induction F with
 |nil=>cases h
 |cons q r ih=>
  rcases List.mem_cons.1 h with rfl|h
  ·simp
  ·have:=ih h;simp;omega
theorem eR:∀{F:List (ByteArray × A7)} (_ :(Br F).Nodup) {x:ByteArray} {v f:A7} (_ :Au F x=some v),total (Bf F x f)+v.s.size=total F+f.s.size
 |[],_,_,_,_,h=>by cases h
 |p::r,hn,x,v,f,h=>by
  unfold Br at hn;rw[a1x,a1z] at hn;unfold Bf
  by_cases e:p.1=x
  ·rw[if_pos e]
   have:p.2=v:=by
    rw[I8 e] at h;exact Option.some.inj h
   simp[total,this];omega
  ·rw[if_neg e]
   have h':Au r x=some v:=by
    rw[Kt e] at h;exact h
   have:=eR hn.2 (f:=f) h';simp[total] at this ⊢;omega
def Dk.mid(d:Dk)(keep:Int)(done:List ByteArray):Dk:={d with off:=true,files:=Ff (Hf keep) done d.files,size:=total (Ff (Hf keep) done d.files)}
theorem rS{keep:Int}{done:List ByteArray}{F:List (ByteArray × A7)}(h:∀p∈F,p.2.synced≤p.2.s.size):total (Ff (Hf keep) done F)≤total F:=by
 induction F with
 |nil=>exact a0v _
 |cons p r ih=>
  have h1:=ih (fun q hq=>h q (by simp[hq]));have h2:=h p (by simp);have h3:=Aht (keep:=keep) h2
  have h4:(Hf keep p.2).s.size<=p.2.s.size:=by show(p.2.s.extract 0 _).size<=_;rw[eQ h3];exact h3
  unfold total at h1 ⊢
  rcases Acu (Hf keep) done p r with⟨_,hc⟩|⟨_,hc⟩<;>rw[hc]<;>simp<;>omega
theorem Ahu{d:Dk}{keep:Int}{done:List ByteArray}{x:ByteArray}{v:A7}(hn:(Br d.files).Nodup)(hm:(x,v)∈d.files)(hx:x∉done):
  B5 (d.mid keep done) x=v/\(d.mid keep done).set x (Hf keep v) false=d.mid keep (done++[x])/\(Au (d.mid keep done).files x).isSome=true:=by
 have h0:(x,v)∈Ff (Hf keep) done d.files:=nO hm hx
 have hn':(Br (Ff (Hf keep) done d.files)).Nodup:=by rw[cX];exact hn
 have h1:Au (d.mid keep done).files x=some v:=Yn hn' h0
 have h2:B5 (d.mid keep done) x=v:=by unfold B5;rw[h1];rfl
 refine⟨h2,?_,by rw[h1];rfl⟩;have h3:=nM (g:=Hf keep) hn hm hx;have h4:=eR hn' (f:=Hf keep v) (Yn hn' h0);rw[h3] at h4;unfold Dk.set;rw[h2];unfold Dk.mid;simp only[Bool.false_eq_true,if_false,h3,Dk.mk.injEq,true_and,and_true];omega
structure Ahv(w wr:World)(b bm r:Nat)(d:Dk)(keep:Int)(done:List ByteArray):Prop where
 disk:Ak wr b bm (d.mid keep done)
 range:Ig fileTy wr bm r (d.mid keep done).files done
 nodup:done.Nodup
 sub:∀x∈done,x∈Br d.files
 fp:Fp [b,bm] w wr
 rnew:w.heap.size<=r
def rT(w wr:World)(b bm r:Nat)(d:Dk)(keep:Int)(n:Nat):Prop:=∃done,Ahv w wr b bm r d keep done/\n+done.length=d.files.length
theorem rU(w:World)(b bm:Nat)(d:Dk)(keep:Int)(hd:Ak w b bm d)(hok:Av d)(hk1: -9223372036854775808≤keep)(hk2:keep≤9223372036854775807):
  Calls Tryz.prog 277 #[.pointer (some ⟨b,0,none⟩),.int .i64 keep] w fun e w'=>e=.returned (.tuple #[])/\Ak w' b bm (d.crash keep)/\Fp [b,bm] w w':=by
 have c3:w.cell? ⟨b,3,none⟩=some (.bool d.off):=Ab hd.cells 3;have c2:w.cell? ⟨b,2,none⟩=some (.map (some bm)):=Ab hd.cells 2;have f3:w.frozen? ⟨b,3,none⟩=false:=Ar hd.cells 3;have hlt:=Ac hd.cells
 have hd1:Ak (w.setCell ⟨b,3,none⟩ (.bool true)) b bm {d with off:=true}:=
  ⟨by rw[Bd hd.cells];rfl,hd.files.of_block (O1 (Ne.symm hd.ne) _)⟩
 obtain⟨it,hrun,hra⟩:=hd1.files.range;have hd2:=hd1.of_fp (Fp.alloc _ it) (by simp) (by simp);have HD2:=a0z hd2;have HRA:=a0z hra;have HD:=a0z hd;clear hd2 hra hd hd1;go_enter Tryz.func277,Tryz.ntmps277;go_wp2
 go_loopg [] d.files.length (fun n wr=>rT w wr b bm w.heap.size d keep n)
 case atStart=>
  refine⟨[],⟨?_,?_,List.nodup_nil,by simp,?_,a0v _⟩,by simp⟩
  ·have:=HD2.out;unfold Dk.mid;rw[nP,<-hok.size];exact this
  ·have:=HRA.out;unfold Dk.mid;rw[nP]
   simpa [World.setCell] using this
  ·exact(((Fp.refl _ _).setCell' (by simp) _).alloc' _)
 case round=>
  obtain⟨done,hrel,hcount⟩:=hrel;have HC:=a0z hcount;have HREL:=a0z hrel;have hbr:b<wr.heap.size:=Ac hrel.disk.cells;clear hcount hrel
  rcases HREL.out.range.next 0 with⟨hall,hnext⟩|⟨x,v,w1,o,hxm,hxd,hw1,hnext,hra',hent⟩
  ·have HALL:=a0z hall;clear hall;go_wp2;go_end0;have h1:=HREL.out.disk
   have h2:d.mid keep done=d.crash keep:=by
    have:=HALL.out;unfold Dk.mid Dk.crash;rw[nN (by intro y hy;exact this y (by show y∈Br (Ff _ _ _);rw[cX];exact hy))]
   rw[h2] at h1;exact⟨rfl,h1,HREL.out.fp⟩
  ·have hin:(x,v)∈d.files:=Acs hxm hxd;have hms:=Ahu (keep:=keep) (HREL.out.disk.files.keys_nodup |> fun h=>by rw[show Br (d.mid keep done).files=Br d.files from cX _ _ _] at h;exact h) hin hxd;have hsy:=hok.sync _ hin;have hle:=Nat.le_trans (rR hin) hok.le
   have hfr:Fp [w.heap.size] wr (setBlock w1 w.heap.size o):=by
    rcases hw1 with rfl|rfl
    ·exact Fp.setBlock _ _ _
    ·exact((Fp.refl _ _).drew').setBlock' (by simp) _
   have hbl:b<w.heap.size:=Ac HD.out.cells;have hbml:=HD.out.files.lt;have hfp1:Fp [b,bm] w (setBlock w1 w.heap.size o):=HREL.out.fp.trans hfr (by simp);have hdk:=HREL.out.disk.of_fp hfr (by simp;omega) (by simp;omega)
   obtain⟨w2,hw2⟩:∃w2,w2=setBlock w1 w.heap.size o:=⟨_,rfl⟩
   rw[<-hw2] at hnext hra' hent hfp1 hdk;have HMS:=a0z hms;have HRA2:=a0z hra';have HFP1:=a0z hfp1;have HDK:=a0z hdk;have HIN:=a0z hin;have HXD:=a0z hxd;clear hms hra' hfp1 hdk hin hxd hxm hw2 hw1
   dsimp only at hsy hle
   have hnm:x.size<=maxLen:=HDK.out.files.key_ok (nO HIN.out HXD.out)
   change (Instr.next (.pointer (some ⟨w.heap.size,0,none⟩)) false 0).run Tryz.prog wr=.ok (.tuple #[.bool true,.string x,.agg #[.string v.s,.int .i64 v.synced]]) w2 at hnext
   change (Instr.entry (.pointer (some ⟨w.heap.size,0,none⟩))).run Tryz.prog w2=.ok (.tuple #[.string x,.agg #[.string v.s,.int .i64 v.synced]]) w2 at hent
   have hset:∀(L:Nat) (z:Int),Px keep v=L→z=L→L≤v.s.size→Calls Tryz.prog 188 #[.pointer (some ⟨b,0,none⟩),.string x,.agg #[.string (v.s.extract 0 L),.int .i64 z],.bool false] (w2.alloc (.cells #[.string (v.s.extract 0 L),.int .i64 z] 251))
     fun e w'=>e=.returned (.tuple #[])/\Fp [] w' w'/\rT w w' b bm w.heap.size d keep (gk-1):=by
    rintro L _ hL rfl hLs
    have hcf:Hf keep v=⟨v.s.extract 0 L,L⟩:=by
     unfold Hf;rw[hL,eQ hLs]
    obtain⟨hm1,hm2,hm3⟩:=HMS.out;have hfa:=Fp.alloc w2 (.cells #[.string (v.s.extract 0 L),.int .i64 L] 251);refine(R6 (w2.alloc (.cells #[.string (v.s.extract 0 L),.int .i64 L] 251)) b bm (d.mid keep done) x ⟨v.s.extract 0 L,L⟩ false (HDK.out.of_fp hfa (by simp) (by simp)) hnm (by simp[Dk.mid]) ?_ ?_ ?_).mono ?_
    ·have:=rS (keep:=keep) (done:=done) hok.sync;have:=hok.le;simp only[Dk.mid];omega
    ·show(v.s.extract 0 L).size<=_;rw[eQ hLs];omega
    ·rw[hm1];exact hle
    ·rintro e w3 ⟨rfl,hd3,hf3,hr3⟩;rw[←hcf] at hd3 hr3;rw[hm2] at hd3
     have hdl:(done++[x]).length≤d.files.length:=by
      have:=cY (a:=done++[x]) (b:=Br d.files) (by
       rw[a0u];refine⟨HREL.out.nodup,by simp,?_⟩;intro a ha c hc;rw[a0x] at hc;rintro rfl
       exact HXD.out (hc▸ha)) (by
       intro y hy
       rcases List.mem_append.1 hy with hy|hy
       ·exact HREL.out.sub y hy
       ·rw[a0x] at hy
        exact List.mem_map.2 ⟨(x,v),HIN.out,hy.symm⟩)
      simpa [Br] using this
     refine⟨rfl,Fp.refl _ _,done++[x],⟨hd3,?_,?_,?_,?_,a0v _⟩,?_⟩
     ·have h1:=hr3 rfl hm3 w.heap.size (done++[x]) (by omega) (by omega) (HRA2.out.of_block (Below.heap_alloc _ _ _ HRA2.out.map.lt) (Below.heap_alloc _ _ _ (rP HRA2.out)))
      have h2:Bf (d.mid keep done).files x (Hf keep v)=(d.mid keep (done++[x])).files:=by
       rw[<-hm2];rfl
      rw[h2] at h1;exact h1
     ·rw[a0u];refine⟨HREL.out.nodup,by simp,?_⟩;intro a ha c hc;rw[a0x] at hc;rintro rfl;exact HXD.out (hc▸ha)
     ·intro y hy
      rcases List.mem_append.1 hy with hy|hy
      ·exact HREL.out.sub y hy
      ·rw[a0x] at hy;exact List.mem_map.2 ⟨(x,v),HIN.out,hy.symm⟩
     ·exact(HFP1.out.trans hfa (by simp)).trans hf3 (by simp)
     ·have:=HC.out;simp only[List.length_append,List.length_singleton] at hdl ⊢;omega
   have HSET:=a0z hset
   have hgk:gk-1<gk:=by
    have:=HC.out
    have:=cY (a:=x::done) (b:=Br d.files) (List.nodup_cons.2 ⟨HXD.out,HREL.out.nodup⟩) (by
     intro y hy
     rcases List.mem_cons.1 hy with rfl|hy
     ·exact List.mem_map.2 ⟨(y,v),HIN.out,rfl⟩
     ·exact HREL.out.sub y hy)
    simp[Br] at this;omega
   clear hset
   by_cases hkp:0<=keep
   ·obtain⟨m,hm⟩:∃m:Nat,keep%(↑v.s.size- ↑v.synced+1)=(m:Int):=Int.eq_ofNat_of_zero_le (Int.emod_nonneg _ (by omega))
    have hm2:v.synced+m<=v.s.size:=by
     have:=Int.emod_lt_of_pos keep (show(0:Int)< ↑v.s.size- ↑v.synced+1 by omega);omega
    have HL:Hid (Px keep v=v.synced+m):=by
     unfold Hid Px;rw[if_pos hkp]
     have:((keep.toNat%(v.s.size-v.synced+1):Nat):Int)=(m:Int):=by
      rw[<-hm,Int.natCast_emod,Int.toNat_of_nonneg hkp];congr 1;omega
     omega
    go_wp2_with (fail);refine(HSET.out (v.synced+m) _ HL.out (by omega) hm2).mono ?_;rintro e w3 ⟨rfl,_,hr3⟩;go_wp2_with (fail)
    go_roundg (gk-1)
    case measure=>exact hgk
    case rel=>exact hr3
   ·have HL:Hid (Px keep v=v.synced):=by
     unfold Hid Px;rw[if_neg hkp];rfl
    go_wp2_with (fail);refine(HSET.out v.synced _ HL.out (by omega) hsy).mono ?_;rintro e w3 ⟨rfl,_,hr3⟩;go_wp2_with (fail)
    go_roundg (gk-1)
    case measure=>exact hgk
    case rel=>exact hr3
end
section
open Go.RowKit Go.Maps Go.MapKept Go.ChangeMaps
def Dk.tick(d:Dk):Dk:={d with left:=max (d.left-1) 0}
def Dk.does(d:Dk)(always:Bool):Bool:=d.left !=1||always||d.keep.tmod 2 !=0
def Dk.burnt(d d2:Dk):Dk:=if d.left=1 then d2.crash d2.keep else d2
def Dk.told(d:Dk):Int:=if d.left=1 then 6 else 0
structure eS(w:World)(b bm:Nat)(d d2:Dk)(K:Nat)(caps:Array Value):Prop where
 enters:∀w,(callFunc K caps).run Tryz.prog w=.ok (.enter K caps) w
 calls:∀w1,Ak w1 b bm d->Fp [b] w w1->Calls Tryz.prog K caps w1 fun e w'=>e=.returned (.tuple #[])/\Ak w' b bm d2/\Fp [b,bm] w1 w'
theorem eT{w:World}{b bm:Nat}{d:Dk}(h:Ak w b bm d)(n:Int):Ak (w.setCell ⟨b,4,none⟩ (.int .i64 n)) b bm {d with left:=n}:=
 ⟨by rw[Bd h.cells];rfl,h.files.of_block (O1 (Ne.symm h.ne) _)⟩
theorem Ahw(w:World)(b bm:Nat)(d d2:Dk)(always:Bool)(K:Nat)(caps:Array Value)(hd:Ak w b bm d)(hok:Av d)(hl:d.left≠1)(hdo:eS w b bm d.tick d2 K caps):
  Calls Tryz.prog 237 #[.pointer (some ⟨b,0,none⟩),.bool always,.func (.func K) #[] caps] w fun e w'=>e=.returned (.int .i64 d.told)/\Ak w' b bm (d.burnt d2)/\Fp [b,bm] w w':=by
 have c4:w.cell? ⟨b,4,none⟩=some (.int .i64 d.left):=Ab hd.cells 4;have f4:w.frozen? ⟨b,4,none⟩=false:=Ar hd.cells 4;have hl0:=hok.left0;have hl1:=hok.left1;have HD:=a0z hd;have HDO:=a0z hdo;have HT:Hid (d.told=0):=if_neg hl;have HB:Hid (d.burnt d2=d2):=if_neg hl;have HL:=a0z hl
 have hlb:(d.left==1)=false:=by simpa using hl
 clear hd hdo hl hok;have hen:=HDO.out.enters
 by_cases hz:1<=d.left
 ·have hc:=HDO.out.calls _ (show Ak (w.setCell ⟨b,4,none⟩ (.int .i64 (d.left-1))) b bm d.tick from by
   have:=eT HD.out (d.left-1);unfold Dk.tick;rwa [Int.max_eq_left (by omega)]) (Fp.setCell w ⟨b,4,none⟩ _)
  have HC:=a0z hc;clear hc;have hmx:max (d.left-1) 0=d.left-1:=Int.max_eq_left (by omega);go_enter Tryz.func237,Tryz.ntmps237;go_wp2_with (fail);refine HC.out.mono ?_;rintro e w2 ⟨rfl,hd2,hf2⟩;have HD2:=a0z hd2;clear hd2;go_wp2_with (fail);go_ret;exact⟨by rw[HT.out];rfl,by rw[HB.out];exact HD2.out,((Fp.setCell _ _ _).mono (by simp)).trans hf2 (by simp)⟩
 ·have hc:=HDO.out.calls _ (show Ak (w.setCell ⟨b,4,none⟩ (.int .i64 0)) b bm d.tick from by
   have:=eT HD.out 0;unfold Dk.tick;rwa [Int.max_eq_right (by omega)]) (Fp.setCell w ⟨b,4,none⟩ _)
  have HC:=a0z hc;clear hc;have hmx:max (d.left-1) 0=0:=Int.max_eq_right (by omega);go_enter Tryz.func237,Tryz.ntmps237;go_wp2_with (fail);refine HC.out.mono ?_;rintro e w2 ⟨rfl,hd2,hf2⟩;have HD2:=a0z hd2;clear hd2;go_wp2_with (fail);go_ret;exact⟨by rw[HT.out];rfl,by rw[HB.out];exact HD2.out,((Fp.setCell _ _ _).mono (by simp)).trans hf2 (by simp)⟩
theorem Ahx(w:World)(b bm:Nat)(d d2:Dk)(always:Bool)(K:Nat)(caps:Array Value)(hd:Ak w b bm d)(hok:Av d2)(hl:d.left=1)(hdo:d.does always=true→eS w b bm d.tick d2 K caps)(hno:d.does always=false→d2=d.tick):
  Calls Tryz.prog 237 #[.pointer (some ⟨b,0,none⟩),.bool always,.func (.func K) #[] caps] w fun e w'=>e=.returned (.int .i64 d.told)/\Ak w' b bm (d.burnt d2)/\Fp [b,bm] w w':=by
 have c4:w.cell? ⟨b,4,none⟩=some (.int .i64 1):=by rw[<-hl];exact Ab hd.cells 4
 have c5:w.cell? ⟨b,5,none⟩=some (.int .i64 d.keep):=Ab hd.cells 5;have f4:w.frozen? ⟨b,4,none⟩=false:=Ar hd.cells 4
 have hd1:Ak (w.setCell ⟨b,4,none⟩ (.int .i64 0)) b bm d.tick:=by
  have:=eT hd 0;unfold Dk.tick;rw[hl];exact this
 have HT:Hid (d.told=6):=if_pos hl;have HB:Hid (d.burnt d2=d2.crash d2.keep):=if_pos hl;have HD:=a0z hd;have HD1:=a0z hd1;have HDO:=a0z hdo;have HNO:=a0z hno;have HL:=a0z hl;clear hd hd1 hdo hno hl;cases hdoes:d.does always
 ·have hd2:=HNO.out hdoes;have hcr:=rU _ b bm d2 d2.keep (hd2▸HD1.out) hok hok.keep0 hok.keep1
  have hkk:d2.keep=d.keep:=by rw[hd2];rfl
  rw[hkk] at hcr;have HCR:=a0z hcr
  have ha:always=false/\(d.keep.tmod 2 !=0)=false:=by
   unfold Dk.does at hdoes;rw[HL.out] at hdoes
   simpa using hdoes
  have HKK:=a0z hkk;obtain⟨rfl,hk⟩:=ha;clear hcr hdoes hd2 hkk;go_enter Tryz.func237,Tryz.ntmps237;go_wp2_with (fail);refine HCR.out.mono ?_;rintro e w2 ⟨rfl,hd2,hf2⟩;have HD2:=a0z hd2;clear hd2;go_wp2_with (fail);go_ret;exact⟨by rw[HT.out];rfl,by rw[HB.out,HKK.out];exact HD2.out,((Fp.setCell w ⟨b,4,none⟩ _).mono (by simp)).trans hf2 (by simp)⟩
 ·have htu:=HDO.out hdoes;have hen:=htu.enters;have hc:=htu.calls _ HD1.out (Fp.setCell w ⟨b,4,none⟩ _);have HC:=a0z hc
  have ha:always=true∨always=false/\(d.keep.tmod 2 !=0)=true:=by
   unfold Dk.does at hdoes;rw[HL.out] at hdoes;cases always
   ·right;simpa using hdoes
   ·left;rfl
  clear hc htu hdoes
  rcases ha with rfl|⟨rfl,hk⟩
  all_goals
   go_enter Tryz.func237,Tryz.ntmps237;go_wp2_with (fail);refine HC.out.mono ?_;rintro e w2 ⟨rfl,hd2,hf2⟩;have HD2:=a0z hd2;have c5':w2.cell? ⟨b,5,none⟩=some (.int .i64 d2.keep):=Ab hd2.cells 5;clear hd2;go_wp2_with (fail);refine(rU _ b bm d2 d2.keep HD2.out hok hok.keep0 hok.keep1).mono ?_;rintro e w3 ⟨rfl,hd3,hf3⟩;have HD3:=a0z hd3;clear hd3;go_wp2_with (fail);go_ret;exact⟨by rw[HT.out];rfl,by rw[HB.out];exact HD3.out,(((Fp.setCell w ⟨b,4,none⟩ _).mono (by simp)).trans hf2 (by simp)).trans hf3 (by simp)⟩
theorem rV(w:World)(b bm:Nat)(d d2:Dk)(always:Bool)(K:Nat)(caps:Array Value)(hd:Ak w b bm d)(hok:Av d)(hok2:Av d2)(hdo:d.does always=true→eS w b bm d.tick d2 K caps)(hno:d.does always=false→d2=d.tick):
  Calls Tryz.prog 237 #[.pointer (some ⟨b,0,none⟩),.bool always,.func (.func K) #[] caps] w fun e w'=>e=.returned (.int .i64 d.told)/\Ak w' b bm (d.burnt d2)/\Fp [b,bm] w w':=by
 by_cases hl:d.left=1
 ·exact Ahx w b bm d d2 always K caps hd hok2 hl hdo hno
 ·exact Ahw w b bm d d2 always K caps hd hok hl (hdo (by simp[Dk.does,hl]))
end
section
open Go.RowKit Go.Maps Go.MapKept Go.ChangeMaps
structure Py(w:World)(b bm:Nat)(d:Dk)(f:A7)(d2:Dk)(K:Nat)(caps:Array Value):Prop where
 enters:∀w,(callFunc K (#[.agg #[.string f.s,.int .i64 f.synced]]++caps)).run Tryz.prog w=.ok (.enter K (#[.agg #[.string f.s,.int .i64 f.synced]]++caps)) w
 calls:∀w1,Ak w1 b bm d->Fp [b] w w1->Calls Tryz.prog K (#[.agg #[.string f.s,.int .i64 f.synced]]++caps) w1 fun e w'=>e=.returned (.tuple #[])/\Ak w' b bm d2/\Fp [b,bm] w1 w'
theorem Py.later{w w':World}{b bm:Nat}{d:Dk}{f:A7}{d2:Dk}{K:Nat}{caps:Array Value}(h:Py w b bm d f d2 K caps)(hf:Fp [b] w w'):Py w' b bm d f d2 K caps:=
 ⟨h.enters,fun w1 hd h1=>h.calls w1 hd (hf.trans h1 (by simp))⟩
theorem Ahy(w:World)(b bm p q:Nat)(d:Dk)(f:A7)(d2:Dk)(K:Nat)(caps:Array Value)
  (hp:w.cell? ⟨p,0,none⟩=some (.func (.func K) #[] caps))(hq0:w.cell? ⟨q,0,none⟩=some (.string f.s))(hq1:w.cell? ⟨q,1,none⟩=some (.int .i64 f.synced))(htu:Py w b bm d f d2 K caps)(hd:Ak w b bm d):
  Calls Tryz.prog 241 #[.pointer (some ⟨p,0,none⟩),.pointer (some ⟨q,0,none⟩)] w fun e w'=>e=.returned (.tuple #[])/\Ak w' b bm d2/\Fp [b,bm] w w':=by
 have hen:=htu.enters;have HC:=a0z (htu.calls w hd (Fp.refl _ _));clear htu hd;go_enter Tryz.func241,Tryz.ntmps241;go_wp2_with (fail);refine HC.out.mono ?_;rintro e w2 ⟨rfl,hd2,hf2⟩;have HD2:=a0z hd2;clear hd2;go_wp2_with (fail);go_end0;exact⟨rfl,HD2.out,hf2⟩
theorem Ahz(p q:Value):∀w,(callFunc 241 #[p,q]).run Tryz.prog w=.ok (.enter 241 #[p,q]) w:=fun w=>by kernel_rfl
def Dk.thereD(d:Dk)(name:ByteArray)(g:A7->Dk):Dk:=if d.named [name]≠0 then d else match Au d.files name with|none=>d|some f=>d.burnt (g f)
def Dk.thereE(d:Dk)(name:ByteArray):Int:=if d.named [name]≠0 then d.named [name] else match Au d.files name with|none=>3|some _=>d.told
theorem Zx(w:World)(b bm:Nat)(d:Dk)(name:ByteArray)(always:Bool)(K:Nat)(caps:Array Value)(g:A7→Dk)(hd:Ak w b bm d)(hok:Av d)(hname:name.size≤maxLen)
  (hg:d.named [name]=0->∀f,Au d.files name=some f->Av (g f)/\(d.does always=true->Py w b bm d.tick f (g f) K caps)/\(d.does always=false->g f=d.tick)):
  Calls Tryz.prog 186 #[.pointer (some ⟨b,0,none⟩),.string name,.bool always,.func (.func K) #[] caps] w fun e w'=>e=.returned (.int .i64 (d.thereE name))/\Ak w' b bm (d.thereD name g)/\Fp [b,bm] w w':=by
 have c2:w.cell? ⟨b,2,none⟩=some (.map (some bm)):=Ab hd.cells 2;have hlt:=Ac hd.cells;have hfp:Fp [] w ((w.alloc (.cells #[.func (.func K) #[] caps] 258)).alloc (.cells #[.string name] 9)):=(Fp.alloc _ _).alloc' _;have hd1:=hd.of_fp hfp (by simp) (by simp);have hl:(Instr.lookup 116 (.map (some bm)) (.string name) true).run Tryz.prog ((w.alloc (.cells #[.func (.func K) #[] caps] 258)).alloc (.cells #[.string name] 9))=.ok (.tuple #[.agg #[.string (B5 d name).s,.int .i64 (B5 d name).synced],.bool (Au d.files name).isSome]) ((w.alloc (.cells #[.func (.func K) #[] caps] 258)).alloc (.cells #[.string name] 9)):=hd1.files.lookup true hname
 have hnm:Calls Tryz.prog 175 #[.pointer (some ⟨b,0,none⟩),.slice (some ⟨w.heap.size+1,0,none⟩) 1 1] ((w.alloc (.cells #[.func (.func K) #[] caps] 258)).alloc (.cells #[.string name] 9)) fun e w'=>e=.returned (.int .i64 (d.named [name]))/\((w.alloc (.cells #[.func (.func K) #[] caps] 258)).alloc (.cells #[.string name] 9))=w':=
  Zw _ b bm (w.heap.size+1) d [name] hd1 (Ai (by simp) _) (by simp)
 have HD1:=a0z hd1;have HN:=a0z hnm;have HG:=a0z hg;have HFP:=a0z hfp;clear hd hd1 hnm hg hfp
 obtain⟨nm,hnm⟩:∃nm,nm=d.named [name]:=⟨_,rfl⟩
 rw[<-hnm] at HN
 by_cases h0:nm=0
 ·subst h0
  cases hg:Au d.files name with
  |none=>
   rw[hg] at hl
   have HE:Hid (d.thereE name=3):=by simp[Hid,Dk.thereE,<-hnm,hg]
   have HD:Hid (d.thereD name g=d):=by simp[Hid,Dk.thereD,<-hnm,hg]
   clear hg hnm;go_enter Tryz.func186,Tryz.ntmps186;go_wp2_with (go_at_call 175;refine HN.out.mono ?_;rintro e w' ⟨rfl,rfl⟩);go_ret;exact⟨by rw[HE.out];rfl,by rw[HD.out];exact HD1.out.of_fp (Fp.alloc _ _) (by simp) (by simp),(HFP.out.alloc' _).mono (by simp)⟩
  |some f=>
   have hfg:B5 d name=f:=by simp[B5,hg]
   rw[hg,hfg] at hl
   have HE:Hid (d.thereE name=d.told):=by simp[Hid,Dk.thereE,<-hnm,hg]
   have HD:Hid (d.thereD name g=d.burnt (g f)):=by simp[Hid,Dk.thereD,<-hnm,hg]
   obtain⟨hg1,hg2,hg3⟩:=HG.out hnm.symm f hg
   have hact:=rV (((w.alloc (.cells #[.func (.func K) #[] caps] 258)).alloc (.cells #[.string name] 9)).alloc (.cells #[.string f.s,.int .i64 f.synced] 251)) b bm d (g f) always 241 #[.pointer (some ⟨w.heap.size,0,none⟩),.pointer (some ⟨w.heap.size+1+1,0,none⟩)] (HD1.out.of_fp (Fp.alloc _ _) (by simp) (by simp)) hok hg1
    (fun hdo=>by
     have htu:=(hg2 hdo).later ((HFP.out.alloc' (.cells #[.string f.s,.int .i64 f.synced] 251)).mono (S':=[b]) (by simp));refine⟨Ahz _ _,fun w1 hdw hfw=>?_⟩;refine Ahy w1 b bm w.heap.size (w.heap.size+1+1) d.tick f (g f) K caps ?_ ?_ ?_ (htu.later hfw) hdw
     ·rw[hfw.cell (by simp;omega) (by simp;omega),World.cell?_of_block (w:=(w.alloc (.cells #[.func (.func K) #[] caps] 258)))]
      ·exact Ab (MapKept.heap_alloc w _).1 0
      ·show(((w.alloc _).alloc _).alloc _).heap[w.heap.size]?=_;rw[Below.heap_alloc _ _ _ (by simp;omega),Below.heap_alloc _ _ _ (by simp)]
     ·rw[hfw.cell (by simp) (by simp;omega)];exact Ab (Ai (by simp) _) 0
     ·rw[hfw.cell (by simp) (by simp;omega)]
      exact Ab (Ai (by simp) _) 1)
    hg3
   have HA:=a0z hact;clear hg hnm hact hg1 hg2 hg3 hfg;go_enter Tryz.func186,Tryz.ntmps186;go_wp2_with (go_at_call 175;refine HN.out.mono ?_;rintro e w' ⟨rfl,rfl⟩);refine HA.out.mono ?_;rintro e w2 ⟨rfl,hd2,hf2⟩;have HD2:=a0z hd2;clear hd2;go_wp2_with (fail);go_ret;exact⟨by rw[HE.out];rfl,by rw[HD.out];exact HD2.out,((HFP.out.alloc' _).mono (by simp)).trans hf2 (by simp)⟩
 ·have HE:Hid (d.thereE name=nm):=by simp[Hid,Dk.thereE,<-hnm,h0]
  have HD:Hid (d.thereD name g=d):=by simp[Hid,Dk.thereD,<-hnm,h0]
  have hb:((nm:Int)!=0)=true:=by simpa using h0
  clear hnm hl h0;go_enter Tryz.func186,Tryz.ntmps186;go_wp2_with (go_at_call 175;refine HN.out.mono ?_;rintro e w' ⟨rfl,rfl⟩);go_ret;exact⟨by rw[HE.out];rfl,by rw[HD.out];exact HD1.out,HFP.out.mono (by simp)⟩
end
section
open Go.RowKit Go.Maps Go.MapKept Go.ChangeMaps
theorem Av.tick{d:Dk}(h:Av d):Av d.tick:=by
 obtain⟨h1,h2,h3,h4,h5,h6,h7,h8,h9,h10⟩:=h;refine⟨h1,h2,h3,h4,h5,h6,?_,?_,h9,h10⟩
 ·show 0<=max (d.left-1) 0;omega
 ·show max (d.left-1) 0<=_;omega
theorem Ah0{keep:Int}{F:List (ByteArray × A7)}(h:∀p∈F,p.2.synced<=p.2.s.size):total (L8 (Hf keep) F)<=total F:=by
 have:=rS (keep:=keep) (done:=Br F) h
 rwa [nN (fun x hx=>hx)] at this
theorem Ah1(keep:Int)(f:A7):(Hf keep f).synced<=(Hf keep f).s.size:=a0v _
theorem Ah2{κ ν:Type}(g:ν->ν)(F:List (κ × ν)):Br (L8 g F)=Br F:=by
 unfold Br L8;rw[List.map_map];rfl
theorem Av.crash{d:Dk}(h:Av d)(keep:Int):Av (d.crash keep):=by
 obtain⟨h1,h2,h3,h4,h5,h6,h7,h8,h9,h10⟩:=h;refine⟨rfl,?_,h3,?_,?_,?_,h7,h8,h9,h10⟩
 ·show((total (L8 (Hf keep) d.files):Nat):Int)<=d.cap;have:=Ah0 (keep:=keep) h5;omega
 ·show(Br (L8 (Hf keep) d.files)).Nodup;rw[Ah2];exact h4
 ·intro p hp;obtain⟨q,_,rfl⟩:=List.mem_map.1 hp;exact Ah1 _ _
 ·show(L8 (Hf keep) d.files).length<=200;unfold L8
  simpa using h6
theorem Av.burnt{d d2:Dk}(h:Av d2):Av (d.burnt d2):=by
 unfold Dk.burnt;split
 ·exact h.crash _
 ·exact h
theorem Av.on{d:Dk}(h:Av d):Av d.on:=by
 obtain⟨h1,h2,h3,h4,h5,h6,h7,h8,h9,h10⟩:=h;exact⟨h1,h2,h3,h4,h5,h6,by show(0:Int)<=0;omega,by show(0:Int)<=_;omega,h9,h10⟩
theorem Av.new{cap:Int}(h:cap<=1000000000):Av (Dk.new cap):=
 ⟨rfl,by show((0:Nat):Int)<=max cap 0;omega,by show max cap 0<=_;omega,List.nodup_nil,(fun p hp=>absurd hp (List.not_mem_nil)),Nat.zero_le _,Int.le_refl _,(by show(0:Int)<=9223372036854775807;decide),(by show(-9223372036854775808:Int)<=0;decide),(by show(0:Int)<=9223372036854775807;decide)⟩
theorem Ah3{κ ν:Type}[DecidableEq κ]{F:List (κ × ν)}{x:κ}{v:ν}(h:Au F x=none):Br (Bf F x v)=Br F++[x]:=by
 rw[V9 (Yo.1 h)];simp[Br]
theorem Ux{κ ν:Type}[DecidableEq κ]{F:List (κ × ν)}{x:κ}{v:ν}(h:(Br F).Nodup):(Br (Bf F x v)).Nodup:=by
 cases hg:Au F x with
 |none=>
  rw[Ah3 hg,a0u];refine⟨h,by simp,?_⟩;intro a ha c hc;rw[a0x] at hc;rintro rfl;obtain⟨p,hp,rfl⟩:=List.mem_map.1 ha;exact Yo.1 hg p hp hc
 |some y=>rw[Yq (by rw[hg];rfl)];exact h
theorem Ah4{κ ν:Type}[DecidableEq κ]{F:List (κ × ν)}{x:κ}(h:(Br F).Nodup):(Br (Dt F x)).Nodup:=by
 unfold Br Dt;exact List.Nodup.sublist (List.Sublist.map _ (List.filter_sublist)) h
theorem Ah5{F:List (ByteArray × A7)}{x:ByteArray}{f:A7}(h:Au F x=none):total (Bf F x f)=total F+f.s.size:=by
 rw[V9 (Yo.1 h)];simp[total]
theorem eU{F:List (ByteArray × A7)}(hn:(Br F).Nodup)(x:ByteArray)(f:A7):total (Bf F x f)+((Au F x).getD A6).s.size=total F+f.s.size:=by
 cases h:Au F x with
 |none=>rw[Ah5 h];rfl
 |some v=>exact eR hn h
theorem eV:∀{F:List (ByteArray × A7)} (_ :(Br F).Nodup) (x:ByteArray),total (Dt F x)+((Au F x).getD A6).s.size=total F
 |[],_,x=>rfl
 |p::r,hn,x=>by
  unfold Br at hn;rw[a1x,a1z] at hn
  by_cases e:p.1=x
  ·have h0:∀q∈r,q.1≠x:=fun q hq e2=>hn.1 (List.mem_map.2 ⟨q,hq,e2.trans e.symm⟩)
   have h1:Dt (p::r) x=Dt r x:=by
    unfold Dt;rw[a0w,if_neg (by simp[e])]
   rw[h1,Yp h0,I8 e];simp[total];omega
  ·have h1:Dt (p::r) x=p::Dt r x:=by
    unfold Dt;rw[a0w,if_pos (by simpa using e)]
   rw[h1,Kt e];have:=eV hn.2 x;simp[total] at this ⊢;omega
theorem eW{κ ν:Type}[DecidableEq κ](F:List (κ × ν))(x:κ)(v:ν):(Bf F x v).length=if(Au F x).isSome then F.length else F.length+1:=by
 cases h:Au F x with
 |none=>rw[V9 (Yo.1 h)];simp
 |some y=>
  have:=congrArg List.length (Yq (v:=v) (by rw[h];rfl:(Au F x).isSome=true))
  simpa [Br] using this
theorem eX{κ ν:Type}[DecidableEq κ]:∀{F:List (κ × ν)} (_ :(Br F).Nodup) (x:κ),(Dt F x).length+(if(Au F x).isSome then 1 else 0)=F.length
 |[],_,x=>rfl
 |p::r,hn,x=>by
  unfold Br at hn;rw[a1x,a1z] at hn
  by_cases e:p.1=x
  ·have h0:∀q∈r,q.1≠x:=fun q hq e2=>hn.1 (List.mem_map.2 ⟨q,hq,e2.trans e.symm⟩)
   have h1:Dt (p::r) x=Dt r x:=by
    unfold Dt;rw[a0w,if_neg (by simp[e])]
   rw[h1,Yp h0,I8 e];simp
  ·have h1:Dt (p::r) x=p::Dt r x:=by
    unfold Dt;rw[a0w,if_pos (by simpa using e)]
   rw[h1,Kt e];have:=eX hn.2 x;simp only[List.length_cons];omega
theorem Av.put{d:Dk}(h:Av d)(name:ByteArray)(f:A7)(h1:(total d.files:Int)+f.s.size-(B5 d name).s.size≤d.cap)(h2:f.synced≤f.s.size)(h3:(Au d.files name).isSome=true∨d.files.length<200):Av (d.set name f false):=by
 obtain⟨g1,g2,g3,g4,g5,g6,g7,g8,g9,g10⟩:=h;have ht:=eU g4 name f;have hf:((Au d.files name).getD A6)=B5 d name:=rfl;rw[hf] at ht;refine⟨?_,?_,g3,Ux g4,?_,?_,g7,g8,g9,g10⟩
 ·show d.size+_ =((total (Bf d.files name f):Nat):Int)
  omega
 ·show((total (Bf d.files name f):Nat):Int)<=d.cap;omega
 ·intro p hp
  rcases cW hp with hp|rfl
  ·exact g5 p hp
  ·exact h2
 ·show(Bf d.files name f).length<=200;rw[eW]
  rcases h3 with h3|h3
  ·rw[if_pos h3];exact g6
  ·split<;>omega
theorem Av.gone{d:Dk}(h:Av d)(name:ByteArray)(h3:(Au d.files name).isSome=true):Av (d.set name A6 true):=by
 obtain⟨g1,g2,g3,g4,g5,g6,g7,g8,g9,g10⟩:=h;have ht:=eU g4 name A6;have hf:((Au d.files name).getD A6)=B5 d name:=rfl;rw[hf] at ht;have ht2:=eV (Ux (x:=name) (v:=A6) g4) name;rw[Yr] at ht2;have hz:A6.s.size=0:=rfl;simp only[Option.getD_some] at ht2;have hl:=eX (Ux (x:=name) (v:=A6) g4) name;rw[Yr,eW,if_pos h3] at hl;refine⟨?_,?_,g3,Ah4 (Ux g4),?_,?_,g7,g8,g9,g10⟩
 ·show d.size+_ =((total (Dt (Bf d.files name A6) name):Nat):Int)
  omega
 ·show((total (Dt (Bf d.files name A6) name):Nat):Int)<=d.cap;omega
 ·intro p hp
  rcases cW (List.mem_filter.1 hp).1 with hp|rfl
  ·exact g5 p hp
  ·exact a0v _
 ·show(Dt (Bf d.files name A6) name).length<=200;omega
theorem Av.file{d:Dk}(h:Av d){name:ByteArray}{f:A7}(hf:Au d.files name=some f):f.synced<=f.s.size/\f.s.size<=total d.files:=
 ⟨h.sync _ (nJ hf),rR (nJ hf)⟩
theorem Av.fget_le{d:Dk}(h:Av d)(name:ByteArray):(B5 d name).s.size<=1000000000:=by
 unfold B5
 cases hf:Au d.files name with
 |none=>exact Nat.zero_le _
 |some f=>exact Nat.le_trans (h.file hf).2 h.le
end
end Go.Proofs.YtkagolpnaicdoaaGreatDoor
