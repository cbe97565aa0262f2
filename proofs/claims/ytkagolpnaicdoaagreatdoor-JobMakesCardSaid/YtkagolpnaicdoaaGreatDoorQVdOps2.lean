/- Lemmas. -/
import Derived.Test.YtkagolpnaicdoaaGreatDoorQMaps
import Derived.Test.YtkagolpnaicdoaaGreatDoorQBlkD
set_option maxRecDepth 100000
set_option maxHeartbeats 8000000
open Go.Lib renaming hid->X
open List renaming getElem?_cons_zero->Y,getElem?_toArray->Z,getElem?_cons_succ->a0z,setIfInBounds_toArray->a0x,set_cons_succ->a0w,set_cons_zero->a0v,reverse_cons->a0u,reverse_nil->a1z,cons_append->a1x,nil_append->a1w,not_mem_nil->a1v,mem_cons->a2w
open Go.IntKind renaming wrap_i64->a1u,wrap_u8->a3v
open Bool renaming false_eq_true->a2z
open Nat renaming le_refl->a2x,mod_eq_of_lt->a2u
open UInt8 renaming ofNat->a2v,toNat_ofNat'->a3x
open ByteArray renaming size_append->a3z
open BitVec renaming ofInt->a3w,ofInt_natCast->a3u,toNat_ofNat->a4z
namespace Go.Proofs.YtkagolpnaicdoaaGreatDoor
section
open Go.RowKit Go.Maps Go.MapKept Go.ChangeMaps
theorem oU{d:Dk}{name:ByteArray}{f:A9}(h:Ar d.files name=some f):Bw d.tick name=f:=by
 show(Ar d.files name).getD A6=f;rw[h];rfl
def synced(f:A9):A9:=⟨f.s,f.s.size⟩
def Dk.syncG(d:Dk)(name:ByteArray)(f:A9):Dk:=if d.does false then d.tick.set name (synced f) false else d.tick
def Dk.sync(d:Dk)(name:ByteArray):Dk:=d.thereD name (d.syncG name)
theorem Aep(f b a:Value):∀w,(callFunc 187 #[f,b,a]).run Tryz.prog w=.ok (.enter 187 #[f,b,a]) w:=fun w=>by kernel_rfl
theorem Aeq(w:World)(b i k j:Nat)(d:Dk)(f:A9)(name:ByteArray)(p:Am w b i d)(c:name.size≤maxLen)
  (r:w.cell? ⟨k,0,none⟩=some (.pointer (some ⟨b,0,none⟩)))(q:w.cell? ⟨j,0,none⟩=some (.string name))
  (x:0<=d.size)(v:d.size<=1000000000)(u:f.s.size<=1000000000)(t:(Bw d name).s.size<=1000000000):
  Calls Tryz.prog 187 #[.agg #[.string f.s,.int .i64 f.synced],.pointer (some ⟨k,0,none⟩),.pointer (some ⟨j,0,none⟩)] w fun e w'=>e=.returned (.tuple #[])/\Am w' b i (d.set name (synced f) false)/\Fp [b,i] w w':=by
 have g:=Fp.alloc w (.cells #[.string f.s,.int .i64 f.s.size] 251);have a:=Q2 (w.alloc (.cells #[.string f.s,.int .i64 f.s.size] 251)) b i d name (synced f) false (p.of_fp g (by simp) (by simp)) c x v u t
 change Calls Tryz.prog _ #[_,_,.agg #[.string f.s,.int .i64 f.s.size],_] _ _ at a
 have A:k<w.heap.size:=World.block_lt_of_cell? _ _ r;have z:j<w.heap.size:=World.block_lt_of_cell? _ _ q;have y:=X a;have m:=X g;clear a p g;go_in;go_wp2_with fail;refine y.o.mono ?_;rintro e w2 ⟨rfl,h,l,_⟩;have n:=X h;clear h;go_wp2_with fail;go_end0;exact⟨rfl,n.o,(m.o.mono (by simp)).trans l⟩
theorem Aer(w:World)(b n j i:Nat)(d:Dk)(name:ByteArray)(a:Au d)(c:name.size≤maxLen)
  (x:w.cell? ⟨j,0,none⟩=some (.pointer (some ⟨b,0,none⟩)))(v:w.cell? ⟨i,0,none⟩=some (.string name))(r:b≠j)(q:b≠i):
  d.named [name]=0->∀f,Ar d.files name=some f->Au (d.syncG name f)/\(d.does false=true->O0 w b n d.tick f (d.syncG name f) 187 #[.pointer (some ⟨j,0,none⟩),.pointer (some ⟨i,0,none⟩)])/\(d.does false=false->d.syncG name f=d.tick):=by
 intro _ f l;have k:=a.file l;have t:=a.le;have y:=a.size;have u:=a.fits;unfold Dk.syncG;cases hdo:d.does false
 .exact⟨a.tick,(fun h=>by cases h),(fun _=>rfl)⟩
 .refine⟨a.tick.put name _ ?_ (a2x _) (Or.inl (by show(Ar d.files name).isSome=true;rw[l];rfl)),fun _=>⟨Aep _ _ _,fun p m g=>?_⟩,fun h=>by cases h⟩
  .rw[oU l];show(total d.files:Int)+(f.s.size:Nat)-f.s.size<=d.cap;omega
  .exact Aeq p b n j i d.tick f name m c (Ls g r x) (Ls g q v) (by show 0<=d.size;omega) (by show d.size<=_;omega) (by omega) (a.tick.fget_le name)
theorem oV{w:World}{b h:Nat}{d:Dk}{name:ByteArray}(g:Am w b h d):
  ∃W,W=(w.alloc (.cells #[.pointer (some ⟨b,0,none⟩)] 52)).alloc (.cells #[.string name] 9)/\Fp [] w W/\Am W b h d/\
   W.cell? ⟨w.heap.size,0,none⟩=some (.pointer (some ⟨b,0,none⟩))/\W.cell? ⟨w.heap.size+1,0,none⟩=some (.string name)/\b<w.heap.size:=by
 have a:Fp [] w ((w.alloc (.cells #[.pointer (some ⟨b,0,none⟩)] 52)).alloc (.cells #[.string name] 9)):=(Fp.alloc _ _).alloc' _;refine⟨_,rfl,a,g.of_fp a (by simp) (by simp),?_,?_,Ae g.cells⟩
 .refine Ab (c:=#[.pointer (some ⟨b,0,none⟩)]) (T:=52) (fr:=(0,0)) ?_ 0;rw[Below.heap_alloc _ _ _ (by simp<;>omega)];exact Ai rfl _
 .exact Ab (Ai (by simp) _) 0
theorem dJ(w:World)(b k:Nat)(d:Dk)(name:ByteArray)(q:Am w b k d)(h:Au d)(a:name.size≤maxLen):
  Calls Tryz.prog 115 #[.pointer (some ⟨b,0,none⟩),.string name] w fun e w'=>e=.returned (.int .i64 (d.thereE name))/\Am w' b k (d.sync name)/\Fp [b,k] w w':=by
 obtain⟨W,r,g,i,p,n,s⟩:=oV (name:=name) q;have c:=Xx W b k d name false 187 _ _ i h a (Aer W b k w.heap.size (w.heap.size+1) d name h a p n (by omega) (by omega));rw[r] at c g;have t:=X c;have u:=X g;clear c g q i p n r;go_in;go_wp2_with fail;refine t.o.mono ?_;rintro e w2 ⟨rfl,j,l⟩;have m:=X j;clear j;go_wp2_with fail;go_ret;exact⟨rfl,m.o,(u.o.mono (by simp)).trans l⟩
def Dk.deleteG(d:Dk)(name:ByteArray):Dk:=if d.does false then d.tick.set name A6 true else d.tick
def Dk.delete(d:Dk)(name:ByteArray):Dk:=d.thereD name (fun _=>d.deleteG name)
theorem Aes(f b a:Value):∀w,(callFunc 236 #[f,b,a]).run Tryz.prog w=.ok (.enter 236 #[f,b,a]) w:=fun w=>by kernel_rfl
theorem Aet(w:World)(b i k j:Nat)(d:Dk)(f:A9)(name:ByteArray)(p:Am w b i d)(c:name.size≤maxLen)
  (r:w.cell? ⟨k,0,none⟩=some (.pointer (some ⟨b,0,none⟩)))(q:w.cell? ⟨j,0,none⟩=some (.string name))
  (v:0<=d.size)(u:d.size<=1000000000)(t:(Bw d name).s.size<=1000000000):
  Calls Tryz.prog 236 #[.agg #[.string f.s,.int .i64 f.synced],.pointer (some ⟨k,0,none⟩),.pointer (some ⟨j,0,none⟩)] w fun e w'=>e=.returned (.tuple #[])/\Am w' b i (d.set name A6 true)/\Fp [b,i] w w':=by
 have g:=Fp.alloc w (.cells #[.string f.s,.int .i64 f.synced] 251);have a:=Q2 (w.alloc (.cells #[.string f.s,.int .i64 f.synced] 251)) b i d name A6 true (p.of_fp g (by simp) (by simp)) c v u (by decide) t
 change Calls Tryz.prog _ #[_,_,.agg #[.string ⟨#[]⟩,.int .i64 0],_] _ _ at a
 have z:k<w.heap.size:=World.block_lt_of_cell? _ _ r;have y:j<w.heap.size:=World.block_lt_of_cell? _ _ q;have x:=X a;have m:=X g;clear a p g;go_in;go_wp2_with fail;refine x.o.mono ?_;rintro e w2 ⟨rfl,h,l,_⟩;have n:=X h;clear h;go_wp2_with fail;go_end0;exact⟨rfl,n.o,(m.o.mono (by simp)).trans l⟩
theorem Aeu(w:World)(b l j i:Nat)(d:Dk)(name:ByteArray)(a:Au d)(c:name.size≤maxLen)
  (t:w.cell? ⟨j,0,none⟩=some (.pointer (some ⟨b,0,none⟩)))(s:w.cell? ⟨i,0,none⟩=some (.string name))(p:b≠j)(n:b≠i):
  d.named [name]=0->∀f,Ar d.files name=some f->Au (d.deleteG name)/\(d.does false=true->O0 w b l d.tick f (d.deleteG name) 236 #[.pointer (some ⟨j,0,none⟩),.pointer (some ⟨i,0,none⟩)])/\(d.does false=false->d.deleteG name=d.tick):=by
 intro _ f r;have q:=a.le;have u:=a.size;unfold Dk.deleteG;cases hdo:d.does false
 .exact⟨a.tick,(fun h=>by cases h),(fun _=>rfl)⟩
 .refine⟨a.tick.gone name (by show(Ar d.files name).isSome=true;rw[r];rfl),fun _=>⟨Aes _ _ _,fun m k g=>?_⟩,fun h=>by cases h⟩;exact Aet m b l j i d.tick f name k c (Ls g p t) (Ls g n s) (by show 0<=d.size;omega) (by show d.size<=_;omega) (a.tick.fget_le name)
theorem Aev(w:World)(b k:Nat)(d:Dk)(name:ByteArray)(q:Am w b k d)(h:Au d)(a:name.size≤maxLen):
  Calls Tryz.prog 178 #[.pointer (some ⟨b,0,none⟩),.string name] w fun e w'=>e=.returned (.int .i64 (d.thereE name))/\Am w' b k (d.delete name)/\Fp [b,k] w w':=by
 obtain⟨W,r,g,i,p,n,s⟩:=oV (name:=name) q;have c:=Xx W b k d name false 236 _ _ i h a (Aeu W b k w.heap.size (w.heap.size+1) d name h a p n (by omega) (by omega));rw[r] at c g;have t:=X c;have u:=X g;clear c g q i p n r;go_in;go_wp2_with fail;refine t.o.mono ?_;rintro e w2 ⟨rfl,j,l⟩;have m:=X j;clear j;go_wp2_with fail;go_ret;exact⟨rfl,m.o,(u.o.mono (by simp)).trans l⟩
def Dk.renameG(d:Dk)(frm nto:ByteArray)(f:A9):Dk:=if d.does false then(d.tick.set frm A6 true).set nto f false else d.tick
def Dk.rename(d:Dk)(frm nto:ByteArray):Dk:=if d.named [frm,nto]≠0 then d else d.thereD frm (d.renameG frm nto)
def Dk.renameE(d:Dk)(frm nto:ByteArray):Int:=if d.named [frm,nto]≠0 then d.named [frm,nto] else d.thereE frm
theorem Aew(f c b a:Value):∀w,(callFunc 240 #[f,c,b,a]).run Tryz.prog w=.ok (.enter 240 #[f,c,b,a]) w:=fun w=>by kernel_rfl
theorem Aex(w:World)(b bm p u n:Nat)(d:Dk)(f:A9)(a c:ByteArray)(q:Am w b bm d)(j:a.size≤maxLen)(x:c.size≤maxLen)
  (A:w.cell? ⟨p,0,none⟩=some (.pointer (some ⟨b,0,none⟩)))(F:w.cell? ⟨u,0,none⟩=some (.string a))(z:w.cell? ⟨n,0,none⟩=some (.string c))
  (U:b≠p)(T:b≠n)
  (N:0<=d.size)(M:d.size<=1000000000)(L:f.s.size<=1000000000)(K:(Bw d a).s.size<=1000000000)(J:(Bw (d.set a A6 true) c).s.size<=1000000000)(I:0<=(d.set a A6 true).size)(G:(d.set a A6 true).size<=1000000000):
  Calls Tryz.prog 240 #[.agg #[.string f.s,.int .i64 f.synced],.pointer (some ⟨p,0,none⟩),.pointer (some ⟨u,0,none⟩),.pointer (some ⟨n,0,none⟩)] w fun e w'=>e=.returned (.tuple #[])/\Am w' b bm ((d.set a A6 true).set c f false)/\Fp [b,bm] w w':=by
 have k:=Fp.alloc w (.cells #[.string f.s,.int .i64 f.synced] 251);have h:=Q2 (w.alloc (.cells #[.string f.s,.int .i64 f.synced] 251)) b bm d a A6 true (q.of_fp k (by simp) (by simp)) j N M (by decide) K
 change Calls Tryz.prog _ #[_,_,.agg #[.string ⟨#[]⟩,.int .i64 0],_] _ _ at h
 have k2:p<w.heap.size:=World.block_lt_of_cell? _ _ A;have k3:u<w.heap.size:=World.block_lt_of_cell? _ _ F;have k4:n<w.heap.size:=World.block_lt_of_cell? _ _ z;have W:p≠bm:=fun e=>by
  obtain⟨O,l,v,_⟩:=q.files;subst e;simp[World.cell?,v] at A
 have V:n≠bm:=fun e=>by
  obtain⟨O,l,v,_⟩:=q.files;subst e;simp[World.cell?,v] at z
 have E:=Ae q.cells;have D:=q.files.lt;have P:=X h;have m:=X k;have R:=X A;have Q:=X z;clear h q k;go_in;go_wp2_with fail;refine P.o.mono ?_;rintro e w2 ⟨rfl,t,i,_⟩;have c2:w2.cell? ⟨p,0,none⟩=some (.pointer (some ⟨b,0,none⟩)):=by
  rw[i.cell (by simp;omega) (by simp;omega),m.o.cell (by simp;omega) (by simp)];exact R.o
 have c4:w2.cell? ⟨n,0,none⟩=some (.string c):=by
  rw[i.cell (by simp;omega) (by simp;omega),m.o.cell (by simp;omega) (by simp)];exact Q.o
 have c5:w2.cell? ⟨w.heap.size,0,none⟩=some (.string f.s):=by
  rw[i.cell (by simp) (by simp;omega)];exact Ab (Ai rfl _) 0
 have c6:w2.cell? ⟨w.heap.size,1,none⟩=some (.int .i64 f.synced):=by
  rw[i.cell (by simp) (by simp;omega)];exact Ab (Ai rfl _) 1
 have g:=Q2 w2 b bm _ c f false t x I G L J;have B:=X g;clear t g;go_wp2_with fail;refine B.o.mono ?_;rintro e S ⟨rfl,r,y,_⟩;have C:=X r;clear r;go_wp2_with fail;go_end0;exact⟨rfl,C.o,((m.o.mono (by simp)).trans i).trans y⟩
theorem Aey(d:Dk)(b a:ByteArray)(c:Au d):(Bw (d.set b A6 true) a).s.size<=1000000000:=by
 unfold Bw Dk.set;simp only[if_true];by_cases h:b=a
 .subst h;rw[wZ];exact Nat.zero_le _
 .rw[xA _ h,wY _ h];exact c.fget_le a
theorem oW{d:Dk}{a g:ByteArray}{f:A9}(b:Au d)(i:Ar d.files a=some f):Au (d.renameG a g f):=by
 have c:=b.file i;unfold Dk.renameG;cases d.does false
 .exact b.tick
 .have n:(Ar d.tick.files a).isSome=true:=by show(Ar d.files a).isSome=true;rw[i];rfl
  have l:=b.tick.gone a n;have k:=bK b.nodup a A6;have h:=bL (S3 (x:=a) (v:=A6) b.nodup) a;rw[Xv] at h;simp only[i,Option.getD_some] at k h;have m:=b.fits;have p:A6.s.size=0:=rfl;refine l.put g f ?_ c.1 (Or.inr ?_)
  .show((total (Dx (Bg d.files a A6) a):Nat):Int)+f.s.size-_ <=d.cap;omega
  .show(Dx (Bg d.files a A6) a).length<200;have j:=bN (S3 (x:=a) (v:=A6) b.nodup) a;rw[Xv,bM,i] at j;simp only[Option.isSome_some,if_true] at j;have:=b.many;omega
theorem Aez(w:World)(b x p n m:Nat)(d:Dk)(a g:ByteArray)(c:Au d)(i:a.size≤maxLen)(q:g.size≤maxLen)
  (F:w.cell? ⟨p,0,none⟩=some (.pointer (some ⟨b,0,none⟩)))(E:w.cell? ⟨n,0,none⟩=some (.string a))(D:w.cell? ⟨m,0,none⟩=some (.string g))(v:b≠p)(z:b≠n)(u:b≠m):
  d.named [a]=0->∀f,Ar d.files a=some f->Au (d.renameG a g f)/\(d.does false=true->O0 w b x d.tick f (d.renameG a g f) 240 #[.pointer (some ⟨p,0,none⟩),.pointer (some ⟨n,0,none⟩),.pointer (some ⟨m,0,none⟩)])/\(d.does false=false->d.renameG a g f=d.tick):=by
 intro _ f s;have C:=c.le;have G:=c.size;have r:=c.file s;refine⟨oW c s,fun k=>⟨Aew _ _ _ _,fun y t j=>?_⟩,fun k=>by unfold Dk.renameG;rw[k];rfl⟩;have l:=c.tick.gone a (by show(Ar d.files a).isSome=true;rw[s];rfl);have A:=l.size;have B:=l.le;have h:=Aex y b x p n m d.tick f a g t i q (Ls j v F) (Ls j z E) (Ls j u D) v u (by show 0<=d.size;omega) (by show d.size<=_;omega) (by omega) (c.tick.fget_le a) (Aey _ _ _ c.tick) (by omega) (by omega);unfold Dk.renameG;rw[k];exact h
theorem Ae0(w:World)(b m:Nat)(d:Dk)(a c:ByteArray)(A:Am w b m d)(n:Au d)(h:a.size≤maxLen)(y:c.size≤maxLen):
  Calls Tryz.prog 185 #[.pointer (some ⟨b,0,none⟩),.string a,.string c] w fun e w'=>e=.returned (.int .i64 (d.renameE a c))/\Am w' b m (d.rename a c)/\Fp [b,m] w w':=by
 have E:=Ae A.cells;obtain⟨W,l⟩:=Bz (((((w.alloc (.cells #[.pointer (some ⟨b,0,none⟩)] 52)).alloc (.cells #[.string a] 9)).alloc (.cells #[.string c] 9)).alloc (.cells #[.string a,.string c] 9)))
 have i:Fp [] w W:=by rw[l];exact(((Fp.alloc _ _).alloc' _).alloc' _).alloc' _
 have t:W.heap[w.heap.size]?=some (.cells #[.pointer (some ⟨b,0,none⟩)] 52 (0,0)):=by
  rw[l,Below.heap_alloc _ _ _ (by simp<;>omega),Below.heap_alloc _ _ _ (by simp<;>omega),Below.heap_alloc _ _ _ (by simp<;>omega)];exact Ai rfl _
 have s:W.heap[w.heap.size+1]?=some (.cells #[.string a] 9 (0,0)):=by
  rw[l,Below.heap_alloc _ _ _ (by simp<;>omega),Below.heap_alloc _ _ _ (by simp<;>omega)];exact Ai (by simp) _
 have r:W.heap[w.heap.size+1+1]?=some (.cells #[.string c] 9 (0,0)):=by
  rw[l,Below.heap_alloc _ _ _ (by simp<;>omega)];exact Ai (by simp) _
 have q:W.heap[w.heap.size+1+1+1]?=some (.cells #[.string a,.string c] 9 (0,0)):=by
  rw[l];exact Ai (by simp) _
 have j:=A.of_fp i (by simp) (by simp)
 have g:Calls Tryz.prog 175 #[.pointer (some ⟨b,0,none⟩),.slice (some ⟨w.heap.size+1+1+1,0,none⟩) 2 2] W fun e w'=>e=.returned (.int .i64 (d.named [a,c]))/\W=w':=
  Xw _ b m (w.heap.size+1+1+1) d [a,c] j q (by simp)
 have k:=Xx W b m d a false 240 _ _ j n h (Aez W b m w.heap.size (w.heap.size+1) (w.heap.size+1+1) d a c n h y (Ab t 0) (Ab s 0) (Ab r 0) (by omega) (by omega) (by omega));have x:=X j;rw[l] at k i g x;have F:=X k;have B:=X g;have D:=X i;clear k i A j t s r q l g;obtain⟨nm,g⟩:=Bz (d.named [a,c]);rw[<-g] at B;by_cases u:nm=0
 .subst u;have v:Hid (d.renameE a c=d.thereE a∧d.rename a c=d.thereD a (d.renameG a c)):=by
   unfold Hid Dk.renameE Dk.rename;rw[<-g];exact⟨rfl,rfl⟩
  clear g;go_in;go_wp2_with (go_at_call 175;refine B.o.mono ?_;rintro e w' ⟨rfl,rfl⟩);refine F.o.mono ?_;rintro e w2 ⟨rfl,p,z⟩;have C:=X p;clear p;go_wp2_with fail;go_ret;exact⟨by rw[v.o.1];rfl,by rw[v.o.2];exact C.o,(D.o.mono (by simp)).trans z⟩
 .have v:Hid (d.renameE a c=nm∧d.rename a c=d):=by
   unfold Hid Dk.renameE Dk.rename;rw[<-g,if_pos u,if_pos u];exact⟨rfl,rfl⟩
  have G:((nm:Int)!=0)=true:=by simpa using u
  clear g u;go_in;go_wp2_with (go_at_call 175;refine B.o.mono ?_;rintro e w' ⟨rfl,rfl⟩);go_ret;exact⟨by rw[v.o.1];rfl,by rw[v.o.2];exact x.o,D.o.mono (by simp)⟩
def Dk.createG(d:Dk)(name:ByteArray):Dk:=if d.does false then d.tick.set name A6 false else d.tick
def Dk.createE(d:Dk)(name:ByteArray):Int:=if d.named [name]≠0 then d.named [name] else if(Ar d.files name).isSome then 4 else if 200<=d.files.length then 2 else d.told
def Dk.create(d:Dk)(name:ByteArray):Dk:=if d.named [name]≠0 then d else if(Ar d.files name).isSome then d else if 200<=d.files.length then d else d.burnt (d.createG name)
theorem Ae1(b a:Value):∀w,(callFunc 238 #[b,a]).run Tryz.prog w=.ok (.enter 238 #[b,a]) w:=fun w=>by kernel_rfl
theorem Ae2(w:World)(b h l k:Nat)(d:Dk)(name:ByteArray)(m:Am w b h d)(c:name.size≤maxLen)
  (u:w.cell? ⟨l,0,none⟩=some (.pointer (some ⟨b,0,none⟩)))(t:w.cell? ⟨k,0,none⟩=some (.string name))
  (q:0<=d.size)(p:d.size<=1000000000)(n:(Bw d name).s.size<=1000000000):
  Calls Tryz.prog 238 #[.pointer (some ⟨l,0,none⟩),.pointer (some ⟨k,0,none⟩)] w fun e w'=>e=.returned (.tuple #[])/\Am w' b h (d.set name A6 false)/\Fp [b,h] w w':=by
 have a:=Q2 w b h d name A6 false m c q p (by decide) n
 change Calls Tryz.prog _ #[_,_,.agg #[.string ⟨#[]⟩,.int .i64 0],_] _ _ at a
 have r:=X a;clear a m;go_in;go_wp2_with fail;refine r.o.mono ?_;rintro e w2 ⟨rfl,g,i,_⟩;have j:=X g;clear g;go_wp2_with fail;go_end0;exact⟨rfl,j.o,i⟩
theorem oY{d:Dk}{name:ByteArray}(a:Au d)(b:d.files.length<200):Au (d.createG name):=by
 unfold Dk.createG;cases d.does false
 .exact a.tick
 .refine a.tick.put name A6 ?_ (a2x _) (Or.inr b);have:=a.fits;have c:A6.s.size=0:=rfl;show(total d.files:Int)+_ -_ <=d.cap;omega
theorem Ae3(w:World)(b j l k:Nat)(d:Dk)(name:ByteArray)(t:Am w b j d)(a:Au d)(c:name.size≤maxLen)(s:d.files.length<200)
  (v:w.cell? ⟨l,0,none⟩=some (.pointer (some ⟨b,0,none⟩)))(u:w.cell? ⟨k,0,none⟩=some (.string name))(q:b≠l)(p:b≠k):
  Calls Tryz.prog 237 #[.pointer (some ⟨b,0,none⟩),.bool false,.func (.func 238) #[] #[.pointer (some ⟨l,0,none⟩),.pointer (some ⟨k,0,none⟩)]] w fun e w'=>e=.returned (.int .i64 d.told)/\Am w' b j (d.burnt (d.createG name))/\Fp [b,j] w w':=by
 have r:=a.le;have x:=a.size;refine kX w b j d (d.createG name) false 238 _ t a (oY a s) (fun g=>⟨Ae1 _ _,fun n m i=>?_⟩) (fun g=>by unfold Dk.createG;rw[g];rfl);have h:=Ae2 n b j l k d.tick name m c (Ls i q v) (Ls i p u) (by show 0<=d.size;omega) (by show d.size<=_;omega) (a.tick.fget_le name);unfold Dk.createG;rw[g];exact h
theorem Ae4(w:World)(b u:Nat)(d:Dk)(name:ByteArray)(l:Am w b u d)(x:Au d)(g:name.size≤maxLen):
  Calls Tryz.prog 180 #[.pointer (some ⟨b,0,none⟩),.string name] w fun e w'=>e=.returned (.int .i64 (d.createE name))/\Am w' b u (d.create name)/\Fp [b,u] w w':=by
 have aa:=Ae l.cells
 have T:b<w.heap.size+1:=by omega
 have R:b<w.heap.size+1+1:=by omega
 have Q:b<w.heap.size+1+1+1:=by omega
 have P:b<w.heap.size+1+1+1+1:=by omega
 have c2:w.cell? ⟨b,2,none⟩=some (.map (some u)):=Ab l.cells 2;have h:Fp [] w (((w.alloc (.cells #[.pointer (some ⟨b,0,none⟩)] 52)).alloc (.cells #[.string name] 9)).alloc (.cells #[.string name] 9)):=((Fp.alloc _ _).alloc' _).alloc' _;have r:∀W,Fp [] w W->(Instr.lookup 116 (.map (some u)) (.string name) true).run Tryz.prog W=.ok (.tuple #[.agg #[.string (Bw d name).s,.int .i64 (Bw d name).synced],.bool (Ar d.files name).isSome]) W:=fun W K=>(l.of_fp K (by simp) (by simp)).files.lookup true g;have I:=r _ h.drew';have G:=r _ (h.alloc' (.cells #[.string ⟨#[]⟩,.int .i64 0] 251)).drew';clear r;obtain⟨W,v⟩:=Bz (((((w.alloc (.cells #[.pointer (some ⟨b,0,none⟩)] 52)).alloc (.cells #[.string name] 9)).alloc (.cells #[.string name] 9)).alloc (.cells #[.string (Bw d name).s,.int .i64 (Bw d name).synced] 251)))
 have t:Fp [] w W:=by rw[v];exact h.alloc' _
 have B:W.heap[w.heap.size]?=some (.cells #[.pointer (some ⟨b,0,none⟩)] 52 (0,0)):=by
  rw[v,Below.heap_alloc _ _ _ (by simp<;>omega),Below.heap_alloc _ _ _ (by simp<;>omega),Below.heap_alloc _ _ _ (by simp<;>omega)];exact Ai rfl _
 have A:W.heap[w.heap.size+1]?=some (.cells #[.string name] 9 (0,0)):=by
  rw[v,Below.heap_alloc _ _ _ (by simp<;>omega),Below.heap_alloc _ _ _ (by simp<;>omega)];exact Ai (by simp) _
 have k:=(l.of_fp t.drew' (by simp) (by simp)).files.len 3
 have a:Calls Tryz.prog 175 #[.pointer (some ⟨b,0,none⟩),.slice (some ⟨w.heap.size+1+1,0,none⟩) 1 1] (((w.alloc (.cells #[.pointer (some ⟨b,0,none⟩)] 52)).alloc (.cells #[.string name] 9)).alloc (.cells #[.string name] 9)) fun e w'=>e=.returned (.int .i64 (d.named [name]))/\(((w.alloc (.cells #[.pointer (some ⟨b,0,none⟩)] 52)).alloc (.cells #[.string name] 9)).alloc (.cells #[.string name] 9))=w':=
  Xw _ b u (w.heap.size+1+1) d [name] (l.of_fp h (by simp) (by simp)) (Ai (by simp) _) (by simp)
 have m:d.files.length<200->∀W',W'.heap=W.heap->Fp [] w W'->_ :=fun I W' U K=>Ae3 W' b u w.heap.size (w.heap.size+1) d name (l.of_fp K (by simp) (by simp)) x g I (Ab (by rw[U];exact B) 0) (Ab (by rw[U];exact A) 0) (by omega) (by omega);have O:=X l;have E:=X a;have HA:=X m;have p:=X v;have c:=X t;rw[v] at k;have q:=x.many;clear l a m v t B A h;obtain⟨is,i⟩:=Bz ((Ar d.files name).isSome);rw[<-i] at I G;obtain⟨n,y⟩:=Bz d.files.length;rw[<-y] at k q;obtain⟨nm,a⟩:=Bz (d.named [name]);rw[<-a] at E;by_cases C:nm=0
 .subst C;have j:Hid (d.createE name=(if is then 4 else if 200≤n then 2 else d.told)∧d.create name=(if is then d else if 200≤n then d else d.burnt (d.createG name))):=by
   unfold Hid Dk.createE Dk.create;rw[<-a,<-i,<-y];exact⟨rfl,rfl⟩
  have M:=X y;clear a i y;by_cases L:is=true
  .subst L;go_in;go_wp2_with (go_at_call 175;refine E.o.mono ?_;rintro e w' ⟨rfl,rfl⟩)
   go_region
   all_goals
    go_wp2_with fail;go_ret;exact⟨by rw[j.o.1];rfl,by rw[j.o.2];exact O.o.of_fp (S:=[]) ((p.o▸c.o).drew') (by simp) (by simp),(p.o▸c.o).drew'.mono (by simp)⟩
  .obtain rfl:is=false:=by simpa using L
   clear L;by_cases V:200<=n
   .have D:Hid (d.createE name=2∧d.create name=d):=(by unfold Hid;rw[j.o.1,j.o.2];simp[V])
    go_in;go_wp2_with (go_at_call 175;refine E.o.mono ?_;rintro e w' ⟨rfl,rfl⟩)
    go_region
    all_goals
     go_wp2_with fail;go_ret;exact⟨by rw[D.o.1];rfl,by rw[D.o.2];exact O.o.of_fp (S:=[]) ((p.o▸c.o).drew') (by simp) (by simp),(p.o▸c.o).drew'.mono (by simp)⟩
   .have D:Hid (d.createE name=d.told∧d.create name=d.burnt (d.createG name)):=(by unfold Hid;rw[j.o.1,j.o.2];simp[V])
    have F:=X (HA.o (by rw[<-M.o];omega) W.drew rfl c.o.drew');rw[p.o] at F;clear HA;go_in;go_wp2_with (go_at_call 175;refine E.o.mono ?_;rintro e w' ⟨rfl,rfl⟩)
    go_region
    all_goals
     go_wp2_with fail;refine F.o.mono ?_;rintro e w2 ⟨rfl,z,J⟩;have N:=X z;clear z;go_wp2_with fail;go_ret;exact⟨by rw[D.o.1];rfl,by rw[D.o.2];exact N.o,((p.o▸c.o).drew'.mono (by simp)).trans J⟩
 .have j:Hid (d.createE name=nm∧d.create name=d):=by
   unfold Hid Dk.createE Dk.create;rw[<-a,if_pos C,if_pos C];exact⟨rfl,rfl⟩
  have hb:((nm:Int)!=0)=true:=by simpa using C
  clear a C i y;cases is
  all_goals
   go_in;go_wp2_with (go_at_call 175;refine E.o.mono ?_;rintro e w' ⟨rfl,rfl⟩)
   go_region
   all_goals
    go_wp2_with fail;go_ret;exact⟨by rw[j.o.1];rfl,by rw[j.o.2];exact O.o.of_fp (S:=[]) ((p.o▸c.o).drew') (by simp) (by simp),(p.o▸c.o).drew'.mono (by simp)⟩
theorem Au.thereD{d:Dk}{name:ByteArray}{g:A9→Dk}(h:Au d)(b:d.named [name]=0→∀f,Ar d.files name=some f→Au (g f)):Au (d.thereD name g):=by
 unfold Dk.thereD;split
 .exact h
 .rename_i a;split
  .exact h
  .rename_i f c;exact(b (by simpa using a) f c).burnt
theorem Au.syncD{d:Dk}(h:Au d)(name:ByteArray):Au (d.sync name):=by
 refine h.thereD fun _ f b=>?_;unfold Dk.syncG;have a:=h.file b;have c:=h.fits;split
 .refine h.tick.put name _ ?_ (a2x _) (Or.inl (by show(Ar d.files name).isSome=true;rw[b];rfl));rw[oU b];show(total d.files:Int)+(f.s.size:Nat)-f.s.size<=d.cap;omega
 .exact h.tick
theorem Au.deleteD{d:Dk}(h:Au d)(name:ByteArray):Au (d.delete name):=by
 refine h.thereD fun _ f a=>?_;unfold Dk.deleteG;split
 .exact h.tick.gone name (by show(Ar d.files name).isSome=true;rw[a];rfl)
 .exact h.tick
theorem Au.appendD{d:Dk}(h:Au d)(name s:ByteArray):Au (d.append name s):=by
 unfold Dk.append;split
 .exact h
 .rename_i a;refine h.thereD fun k f b=>?_;have j:=kY k;have i:d.size+s.size≤d.cap:=by
   unfold Dk.full at a;rw[b,j] at a
   simpa using a
  have c:=h.file b;have l:=h.size;have g:Bw d.tick name=f:=by
   show(Ar d.files name).getD A6=f;rw[b];rfl
  refine h.tick.put name _ ?_ ?_ (Or.inl (by show(Ar d.files name).isSome=true;rw[b];rfl))
  .rw[g];show(total d.files:Int)+((f.s++s).size:Nat)-f.s.size<=d.cap;simp only[a3z];omega
  .show f.synced<=(f.s++s).size;simp only[a3z];omega
theorem Au.renameD{d:Dk}(h:Au d)(a b:ByteArray):Au (d.rename a b):=by
 unfold Dk.rename;split
 .exact h
 .exact h.thereD fun _ f c=>oW h c
theorem Au.createD{d:Dk}(h:Au d)(name:ByteArray):Au (d.create name):=by
 unfold Dk.create;split
 .exact h
 .split
  .exact h
  .split
   .exact h
   .exact(oY h (by omega)).burnt
def Iw:List (Dk->Dk × Int)->Dk->Dk × Int
 |[],d=>(d,0)
 |g::r,d=>if(g d).2=0 then Iw r (g d).1 else g d
def B4(l:List ByteArray):List UInt8:=l.flatMap Et
theorem dK(t:ByteArray)(r:List ByteArray):B4 (t::r)=Et t++B4 r:=rfl
theorem oZ(a b:List ByteArray):B4 (a++b)=B4 a++B4 b:=by unfold B4;rw[List.flatMap_append]
def Ci:List ByteArray->Nat
 |[]=>0
 |t::r=>6+t.size+Ci r
theorem Yz:∀(a b:List ByteArray),Ci (a++b)=Ci a+Ci b
 |[],b=>by simp[Ci]
 |t::r,b=>by show 6+t.size+Ci (r++b)=6+t.size+Ci r+Ci b;rw[Yz r b];omega
theorem Nb:∀(l:List ByteArray),(B4 l).length=Ci l
 |[]=>rfl
 |t::r=>by
  rw[dK,List.length_append,Nb r,Uu];rfl
def dL(l:List ByteArray):Bool:=l.all (fun t=>decide (t.size<=65535))
def Kq(l:List ByteArray):ByteArray × Int:=if dL l then(bl (B4 l),0) else(⟨#[]⟩,71)
def Kz:ByteArray:=⟨#[43]⟩
def Rq(name other s:ByteArray):List (Dk→Dk × Int):=
 [fun d=>(d.delete other,if d.thereE other=3 then 0 else d.thereE other),
  fun d=>(d.create other,d.createE other),
  fun d=>(d.append other s,d.appendE other s),
  fun d=>(d.sync other,d.thereE other),
  fun d=>(d.rename other name,d.renameE other name)]
def Dk.wWrite(d:Dk)(name s:ByteArray):Dk × Int:=Iw (Rq name (name++Kz) s) d
def Ug(name s:ByteArray):List (Dk->Dk × Int):=[fun d=>(d.append name s,d.appendE name s),fun d=>(d.sync name,d.thereE name)]
def Dk.wAppend(d:Dk)(name s:ByteArray):Dk × Int:=Iw (Ug name s) d
theorem Ae5(name other s:ByteArray):∀g∈Rq name other s,∀d,Au d->Au (g d).1:=by
 intro g b d a;simp only[Rq,a2w,a1v,or_false] at b;rcases b with rfl|rfl|rfl|rfl|rfl
 .exact a.deleteD _
 .exact a.createD _
 .exact a.appendD _ _
 .exact a.syncD _
 .exact a.renameD _ _
theorem Ae6(name s:ByteArray):∀g∈Ug name s,∀d,Au d->Au (g d).1:=by
 intro g a d b;simp only[Ug,a2w,a1v,or_false] at a;rcases a with rfl|rfl
 .exact b.appendD _ _
 .exact b.syncD _
def Dk.wOpen(d:Dk)(name:ByteArray):Dk × Int × List ByteArray:=
 if name.size=0∨59<name.size then(d,1,[])
 else if(d.read name).2≠0/\(d.read name).2≠3 then(d,(d.read name).2,[])
 else
  let s:=(d.read name).1
  let r:=if(d.read name).2=3∨Gy (Ey s)<s.size then d.wWrite name (s.extract 0 (Gy (Ey s))) else(d.sync name,d.thereE name)
  (r.1,r.2,if r.2=0 then(Ey s).map (·.2) else[])
structure Lg where
 name:ByteArray
 many:Nat
 off:Bool
def Lh(lg:Lg)(d:Dk)(texts:List ByteArray)(many:Nat)(g:ByteArray→Dk→Dk × Int):Lg × Dk × Int:=
 if lg.off then(lg,d,6)
 else if(Kq texts).2≠0 then(lg,d,(Kq texts).2)
 else
  let r:=g (Kq texts).1 d
  (if r.2=0 then{lg with many:=many} else if r.2=2 then lg else{lg with off:=true},r.1,r.2)
def H7(lg:Lg)(d:Dk)(texts:List ByteArray):Lg × Dk × Int:=Lh lg d texts (lg.many+texts.length) (fun s d=>d.wAppend lg.name s)
end
section
open Go.RowKit
structure A0 where
 id:Nat
 phase:Int
 e:Int
 input:ByteArray
structure Ph(j:A0):Prop where
 id:j.id<18446744073709551616
 p0: -9223372036854775808<=j.phase
 p1:j.phase<=9223372036854775807
 e0: -9223372036854775808<=j.e
 e1:j.e<=9223372036854775807
 input:j.input.size<=1000000000
def Nc:A0:=⟨0,0,0,⟨#[]⟩⟩
def F5(j:A0):List Value:=[.int .u64 j.id,.int .i64 j.phase,.int .i64 j.e,.string j.input]
def H8(j:A0):Value:=.agg (F5 j).toArray
def Fe:Hv A0:=⟨42,4,F5,fun _=>rfl,by decide,by intro x v hv;simp only[F5,a2w,a1v,or_false] at hv;rcases hv with rfl|rfl|rfl|rfl<;>rfl⟩
def Kr(id p e:Nat):List UInt8:=Hg id++[a2v p,a2v e,a2v (e/256)]
def Oc(j:A0):Bool:=decide (j.phase<1)||decide (5<j.phase)||decide (j.e<0)||decide (65535<j.e)
def Bi(j:A0):ByteArray:=bl (Kr j.id j.phase.toNat j.e.toNat)++j.input
def Eq(j:A0):ByteArray × Int:=if Oc j then(⟨#[]⟩,1) else if 60000<j.input.size then(⟨#[]⟩,71) else(Bi j,0)
def Y0(s:ByteArray):Bool:=decide (s.size<11)||decide ((A4 s 8).toNat<1)||decide (5<(A4 s 8).toNat)||decide (60011<s.size)
def dM(s:ByteArray):A0:=⟨F9 s 8,((A4 s 8).toNat:Int),(((A4 s 9).toNat+(A4 s 10).toNat*256:Nat):Int),s.extract 11 s.size⟩
def Hq(s:ByteArray):A0 × Int:=if Y0 s then(Nc,50) else(dM s,0)
theorem dN(id p e:Nat):(Kr id p e).length=11:=by simp[Kr,Np]
theorem Y1(j:A0):(Bi j).size=11+j.input.size:=by
 unfold Bi;rw[a3z,Dt,dN]
def G1:List A0->Nat->Option Nat
 |[],_=>none
 |x::r,id=>if x.id=id then some 0 else(G1 r id).map (· +1)
def Hr:List A0->A0->List A0
 |[],j=>[j]
 |x::r,j=>if x.id=j.id then j::r else x::Hr r j
def Lj(l:List A0)(id:Nat):Option A0:=l.find? (fun x=>x.id==id)
theorem Y2:∀{l:List A0} {id i:Nat},G1 l id=some i→i<l.length
 |x::r,id,i,h=>by
  unfold G1 at h;split at h
  .cases h;simp
  .obtain⟨k,a,rfl⟩:=Option.map_eq_some_iff.1 h;have:=Y2 a;simp;omega
theorem pA:∀{l:List A0} {id k:Nat} (a:k<l.length),(∀i (h:i<k),¬(l[i]'(Nat.lt_trans h a)).id=id)→(l[k]).id=id→G1 l id=some k
 |x::r,id,0,_,_,h=>by unfold G1;rw[if_pos (show x.id=id from h)]
 |x::r,id,k+1,a,hb,h=>by
  unfold G1;rw[if_neg (show ¬x.id=id from hb 0 (Nat.succ_pos _)),pA (k:=k) (by simpa using a) (fun i b=>hb (i+1) (Nat.succ_lt_succ b)) h];rfl
theorem pB:∀{l:List A0} {id:Nat},(∀i (h:i<l.length),¬(l[i]).id=id)→G1 l id=none
 |[],_,_=>rfl
 |x::r,id,hb=>by
  unfold G1;rw[if_neg (show ¬x.id=id from hb 0 (by simp)),pB (fun i a=>hb (i+1) (by simpa using a))];rfl
theorem dO:∀{l:List A0} {j:A0} {i:Nat},G1 l j.id=some i→Hr l j=l.set i j
 |x::r,j,i,h=>by
  unfold G1 at h;unfold Hr;split at h
  .cases h;rw[if_pos (by assumption)];rfl
  .obtain⟨k,a,rfl⟩:=Option.map_eq_some_iff.1 h;rw[if_neg (by assumption),dO a];rfl
theorem dP:∀{l:List A0} {j:A0},G1 l j.id=none→Hr l j=l++[j]
 |[],j,_=>rfl
 |x::r,j,h=>by
  unfold G1 at h;unfold Hr;split at h
  .cases h
  .rw[if_neg (by assumption),dP (by simpa using h)];rfl
theorem Ae7{l:List A0}{id i:Nat}(h:G1 l id=some i):Lj l id=some (l[i]'(Y2 h)):=by
 induction l generalizing i with
 |nil=>cases h
 |cons x r ih=>
  have c:=h;unfold G1 at h;unfold Lj;rw[List.find?_cons];split at h
  .cases h;rename_i a;rw[show(x.id==id)=true by simpa using a];rfl
  .rename_i a;obtain⟨k,b,rfl⟩:=Option.map_eq_some_iff.1 h;rw[show(x.id==id)=false by simpa using a];exact ih b
theorem Ae8{l:List A0}{id:Nat}(h:G1 l id=none):Lj l id=none:=by
 induction l with
 |nil=>rfl
 |cons x r ih=>
  unfold G1 at h;unfold Lj;rw[List.find?_cons];split at h
  .cases h
  .rename_i a;rw[show(x.id==id)=false by simpa using a];exact ih (by simpa using h)
theorem Ae9(l:List A0)(j:A0):(Hr l j).length<=l.length+1/\l.length<=(Hr l j).length:=by
 cases h:G1 l j.id with
 |none=>rw[dP h];simp
 |some i=>rw[dO h];simp
def Y3(l:List A0)(id:Nat)(input:ByteArray):A0 ⊕ Int:=
 match Lj l id with
 |some j=>if j.input=input then .inr 0 else .inr 191
 |none=>.inl ⟨id,1,0,input⟩
def Y4(l:List A0)(id:Nat)(phase e:Int):A0 ⊕ Int:=
 match Lj l id with
 |none=>.inr 3
 |some j=>if 4<=j.phase∨phase<1∨5<phase then .inr 5 else .inl ⟨j.id,phase,e,j.input⟩
def Ej(texts:List ByteArray):List A0:=texts.foldl (fun l t=>Hr l (Hq t).1) []
theorem pC(a:List ByteArray)(t:ByteArray):Ej (a++[t])=Hr (Ej a) (Hq t).1:=by unfold Ej;rw[List.foldl_append];rfl
theorem Afa(a:List ByteArray):(Ej a).length≤a.length:=by
 have b:∀(a:List ByteArray) (l:List A0),(a.foldl (fun l t=>Hr l (Hq t).1) l).length≤l.length+a.length:=by
  intro a
  induction a with
  |nil=>intro l;exact a2x _
  |cons t r ih=>
   intro l;have d:=ih (Hr l (Hq t).1);have c:=(Ae9 l (Hq t).1).1;simp only[List.foldl_cons,List.length_cons];omega
 have h:=b a [];rw[List.length_nil,Nat.zero_add] at h;exact h
end
section
open Go.RowKit Go.Lib
def Rr(id k:Nat):Array Value:=#[if 0<k then A5 (Cj id 0) else .int .u8 0,if 1<k then A5 (Cj id 1) else .int .u8 0,if 2<k then A5 (Cj id 2) else .int .u8 0,if 3<k then A5 (Cj id 3) else .int .u8 0,if 4<k then A5 (Cj id 4) else .int .u8 0,if 5<k then A5 (Cj id 5) else .int .u8 0,if 6<k then A5 (Cj id 6) else .int .u8 0,if 7<k then A5 (Cj id 7) else .int .u8 0,.int .u8 0,.int .u8 0,.int .u8 0]
def Rt(id:Nat)(c8 c9 c10:Bool)(p y z:Int):Array Value:=#[A5 (Cj id 0),A5 (Cj id 1),A5 (Cj id 2),A5 (Cj id 3),A5 (Cj id 4),A5 (Cj id 5),A5 (Cj id 6),A5 (Cj id 7),.int .u8 (if c8 then p else 0),.int .u8 (if c9 then y else 0),.int .u8 (if c10 then z else 0)]
theorem Afb(id k:Nat)(a:k<8):(Rr id k).setIfInBounds k (A5 (Cj id k))=Rr id (k+1):=by
 have h:k=0∨k=1∨k=2∨k=3∨k=4∨k=5∨k=6∨k=7:=by omega
 rcases h with rfl|rfl|rfl|rfl|rfl|rfl|rfl|rfl<;>rfl
theorem Afc(id k:Nat)(a:k<8):(Rr id k)[k]?=some (.int .u8 0):=by
 have h:k=0∨k=1∨k=2∨k=3∨k=4∨k=5∨k=6∨k=7:=by omega
 rcases h with rfl|rfl|rfl|rfl|rfl|rfl|rfl|rfl<;>rfl
theorem Afd(id:Nat)(p y z:Int):Rr id 8=Rt id false false false p y z:=rfl
structure Qi(g q:Nat)(w0:World)(box:Array Value)(id:Nat)(p y z:Int)(c8 c9 c10:Bool)(w:World):Prop where
 blk:w.heap[g]?=some (.cells (Rt id c8 c9 c10 p y z) 5 (0,0))
 box:w.heap[q]?=some (.cells box 42 (0,0))
 fp:Fp [] w0 w
theorem Qi.set{g q:Nat}{c w:World}{r:Array Value}{id o:Nat}{p y z:Int}{n m b l k a:Bool}{v:Value}(h:Qi g q c r id p y z n m b w)(u:c.heap.size≤g)
  (s:(Rt id n m b p y z).setIfInBounds o v=Rt id l k a p y z):Qi g q c r id p y z l k a (w.setCell ⟨g,o,none⟩ v):=by
 refine⟨(Cf h.blk _).trans (by rw[s]),?_,h.fp.trans (Fp.setCell w ⟨g,o,none⟩ v) (by intro i t;right;simp at t;omega)⟩;have d:q≠g:=by
  rintro rfl;have j:=h.blk;rw[h.box] at j;cases j
 exact(O1 d _).trans h.box
theorem Afe(w:World)(j:A0)(hj:Ph j):
  Calls Tryz.prog 17 #[H8 j] w fun e w'=>e=.returned (.tuple #[.string (Eq j).1,.int .i64 (Eq j).2])/\Fp [] w w':=by
 obtain⟨id,p,x,d⟩:=j;obtain⟨Q,O,N,L,J,aa⟩:=hj;simp only at Q O N L J aa;have y:Hid (Fp [] w (w.alloc (.cells #[.int .u64 id,.int .i64 p,.int .i64 x,.string d] 42))):=X (Fp.alloc _ _);unfold H8 F5;simp only;by_cases c1:p<1
 .have z:Hid (Eq ⟨id,p,x,d⟩=(⟨#[]⟩,1)):=by unfold Hid Eq Oc;rw[if_pos (by simp[c1])]
  go_in;go_wp2_with fail;go_ret2;rw[z.o];exact⟨rfl,y.o⟩
 by_cases c2:5<p
 .have z:Hid (Eq ⟨id,p,x,d⟩=(⟨#[]⟩,1)):=by unfold Hid Eq Oc;rw[if_pos (by simp[c2])]
  go_in;go_wp2_with fail;go_ret2;rw[z.o];exact⟨rfl,y.o⟩
 by_cases c3:x<0
 .have z:Hid (Eq ⟨id,p,x,d⟩=(⟨#[]⟩,1)):=by unfold Hid Eq Oc;rw[if_pos (by simp[c3])]
  go_in;go_wp2_with fail;go_ret2;rw[z.o];exact⟨rfl,y.o⟩
 by_cases c4:65535<x
 .have z:Hid (Eq ⟨id,p,x,d⟩=(⟨#[]⟩,1)):=by unfold Hid Eq Oc;rw[if_pos (by simp[c4])]
  go_in;go_wp2_with fail;go_ret2;rw[z.o];exact⟨rfl,y.o⟩
 have B:Oc ⟨id,p,x,d⟩=false:=by unfold Oc;simp only[Bool.or_eq_false_iff,decide_eq_false_iff_not];exact⟨⟨⟨c1,c2⟩,c3⟩,c4⟩
 by_cases c5:60000<d.size
 .have z:Hid (Eq ⟨id,p,x,d⟩=(⟨#[]⟩,71)):=by unfold Hid Eq;rw[B,if_neg (by simp),if_pos c5]
  have z5:(60000:Int)<(d.size:Int):=by omega
  clear B;go_in;go_wp2_with fail;go_ret2;rw[z.o];exact⟨rfl,y.o⟩
 have z:Hid (Eq ⟨id,p,x,d⟩=(Bi ⟨id,p,x,d⟩,0)):=by unfold Hid Eq;rw[B,if_neg (by simp),if_neg c5]
 have z5:¬(60000:Int)<(d.size:Int):=by omega
 obtain⟨pn,rfl⟩:∃n:Nat,p=n:=⟨p.toNat,by omega⟩
 obtain⟨q,rfl⟩:∃n:Nat,x=n:=⟨x.toNat,by omega⟩
 have ao:∀W:World,(Instr.makeSlice 113 (.int .i64 11) (.int .i64 11)).run Tryz.prog W=.ok (.slice (some ⟨W.heap.size,0,none⟩) 11 11) (W.alloc (.cells (Rr id 0) 5)):=fun W=>by
  have h:=run_makeSlice (P:=Tryz.prog) W 113 5 Tryz.t5 (.int .u8 0) Tryz.underlying113 (by kernel_rfl) (by kernel_rfl) .i64 .i64 11 11 (by omega) (Int.le_refl _) (by decide) (by decide) (by decide);exact h.trans (congrArg (fun c=>Result.ok _ (W.alloc (.cells c 5))) (show madeCells (Value.int .u8 0).cells 11=Rr id 0 by kernel_rfl))
 have u1:IntKind.u8.wrap (pn:Int)=(pn:Int):=by rw[a3v];omega
 have u2:IntKind.u8.wrap (q:Int)=((q%256:Nat):Int):=by rw[a3v];omega
 have u3:IntKind.u8.wrap ((q:Int)/256)=((q/256:Nat):Int):=by rw[a3v];omega
 have U:Hid (bl (Kr id pn q)++d=Bi ⟨id,pn,q,d⟩):=by unfold Hid Bi;simp only[Int.toNat_natCast]
 have N:1<=pn:=by omega
 have an:pn<=5:=by omega
 have am:q<=65535:=by omega
 have ah:Hid (∀o,((w.alloc (.cells #[.int .u64 id,.int .i64 pn,.int .i64 q,.string d] 42)).alloc o).heap[w.heap.size]?=some (.cells #[.int .u64 id,.int .i64 pn,.int .i64 q,.string d] 42 (0,0))):=X (fun o=>Dy (Ai rfl _));have ag:Hid (∀o I,((w.alloc I).alloc o).heap[w.heap.size+1]?=some o):=X (fun o I=>Ai (by simp) _);have ae:Hid (∀o I,Fp [] w ((w.alloc I).alloc o)):=X (fun o I=>(Fp.alloc _ _).alloc' _);have F:=Z2 id;clear B Q O L J;go_in;go_wp2_with fail
 go_loopg [31] 8 (fun g vi W=>∃k:Nat,g+k=8/\vi=.int .i64 k/\W.heap[w.heap.size+1]?=some (.cells (Rr id k) 5 (0,0))/\W.heap[w.heap.size]?=some (.cells #[.int .u64 id,.int .i64 pn,.int .i64 q,.string d] 42 (0,0))/\Fp [] w W)
 case atStart=>exact⟨0,rfl,rfl,ag.o _ _,ah.o _,ae.o _ _⟩
 case round=>
  obtain⟨k,hg,rfl,D,s,hf⟩:=hrel;have u:=X D;have E:=X s;have HF:=X hf;have r0:wr.cell? ⟨w.heap.size,0,none⟩=some (.int .u64 id):=Ab s 0;have r3:wr.cell? ⟨w.heap.size,3,none⟩=some (.string d):=Ab s 3;clear D s hf;by_cases hk:k<8
  .have q0:wr.cell? ⟨w.heap.size+1,k,none⟩=some (.int .u8 0):=(Ab u.o k).trans (Afc id k hk);have f0:wr.frozen? ⟨w.heap.size+1,k,none⟩=false:=Av u.o k;have T:=X (Afb id k hk);have af:=X (F k);clear F;go_wp2_with fail
   go_roundg (gk-1)
   case measure=>omega
   case rel=>
    refine⟨k+1,by omega,by go_num,?_,?_,HF.o.trans (Fp.setCell _ ⟨w.heap.size+1,k,none⟩ _) (by intro i hi;right;simp at hi;omega)⟩
    .rw[<-T.o,af.o];exact(Cf u.o _).trans rfl
    .exact(O1 (by omega) _).trans E.o
  .obtain rfl:k=8:=by omega
   have A:Hid (Qi (w.heap.size+1) w.heap.size w #[.int .u64 id,.int .i64 pn,.int .i64 q,.string d] id pn (q%256:Nat) (q/256:Nat) false false false wr):=X ⟨by rw[<-Afd];exact u.o,E.o,HF.o⟩;clear F;go_wp2_with fail;refine E3 (fun V w'=>Qi (w.heap.size+1) w.heap.size w #[.int .u64 id,.int .i64 pn,.int .i64 q,.string d] id pn (q%256:Nat) (q/256:Nat) (V 14) (V 16) (V 18) w') (fun _ _=>True) (by kernel_rfl) (by kernel_rfl) ⟨((Fp.drew wr).block _ (Ae A.o.blk) (by simp)).trans A.o.blk,((Fp.drew wr).block _ (Ae A.o.box) (by simp)).trans A.o.box,A.o.fp.drew'⟩ ?_
   iterate 14
    apply A3 (fun _ _ h=>h) rfl rfl rfl
    .intro b a w l m K v;have:=m.f 4;have:=m.f 1;(try have:=m.e 3 47);(try have:=m.e 4 48);(try have:=m.e 6 50);(try have:=m.e 7 51);(try have:=m.e 9 53);(try have:=m.e 10 54);(try have:=m.e 11 55);(try have:=m.e 0 44);have q1:=Ab l.box 1;have G:=Ab l.box 2;simp only[Z,a0z,Y] at q1 G;simp only[Oper.wp,execOp];go_simp;exact v _ l trivial
   apply F3 (fun _=>True) rfl rfl
   .intro b a w l m K v;have ar:=m.e 13 57;have aw:=m.e 5 49;have S:=m.self;rw[S] at l;have q0:=Ab l.blk 8;have f0:=Av l.blk 8;simp only[Rt,Z,a0z,Y] at q0;simp only[Oper.wp,execOp];go_simp;exact v undef _ (Qi.set l (Nat.le_succ _) rfl) trivial trivial
   apply A3 (fun _ _ h=>h) rfl rfl rfl
   .intro b a w l m K v;have ay:=m.e 1 45;have q1:=Ab l.box 1;have G:=Ab l.box 2;simp only[Z,a0z,Y] at q1 G;simp only[Oper.wp,execOp];go_simp;exact v _ l trivial
   apply F3 (fun _=>True) rfl rfl
   .intro b a w l m K v;have aq:=m.e 15 58;have av:=m.e 8 52;have S:=m.self;rw[S] at l;have q0:=Ab l.blk 9;have f0:=Av l.blk 9;simp only[Rt,Z,a0z,Y] at q0;simp only[Oper.wp,execOp];go_simp;exact v undef _ (Qi.set l (Nat.le_succ _) rfl) trivial trivial
   apply A3 (fun _ _ h=>h) rfl rfl rfl
   .intro b a w l m K v;have ax:=m.e 2 46;have q1:=Ab l.box 1;have G:=Ab l.box 2;simp only[Z,a0z,Y] at q1 G;simp only[Oper.wp,execOp];go_simp;exact v _ l trivial
   apply F3 (fun _=>True) rfl rfl
   .intro b a w l m K v;have ap:=m.e 17 59;have au:=m.e 12 56;have S:=m.self;rw[S] at l;have q0:=Ab l.blk 10;have f0:=Av l.blk 10;simp only[Rt,Z,a0z,Y] at q0;simp only[Oper.wp,execOp];go_simp;exact v undef _ (Qi.set l (Nat.le_succ _) rfl) trivial trivial
   refine⟨?_,?_⟩
   .refine⟨fun _ _ _ _ _=>trivial,?_⟩;refine Cb _ ?_;refine⟨fun _ _ _ _ _=>trivial,?_⟩;refine Cb _ ?_;refine⟨fun _ _ _ _ _=>trivial,?_⟩
    iterate 14 refine Cb _ ?_
    exact trivial
   .intro wa V l C;simp only[a0u,a1z,a1w,a1x]
    iterate 14 (refine A2 ?_)
    refine As ?_;intro al u14
    iterate 1 (refine A2 ?_)
    refine As ?_;intro ak u16
    iterate 1 (refine A2 ?_)
    refine As ?_;intro aj u18;refine C7 ?_;simp only[Aj,Act.put,a0x,a0w,a0v];have r:=l;rw[C 14 (by decide),C 16 (by decide),C 18 (by decide)] at r;have HC:=X r;have r4:wa.cell? ⟨w.heap.size,3,none⟩=some (.string d):=Ab r.box 3;have ab:(convert 113 9 (.slice (some ⟨w.heap.size+1,0,none⟩) 11 11)).run Tryz.prog wa=.ok (.string (bl (Kr id pn q))) wa:=by
     refine(P3 (cap:=11) (f:=fun t=>(Kr id pn q).getD t 0) ⟨Ae r.blk,fun j hj=>?_,fun j _=>Av r.blk j⟩).trans ?_
     .rw[Ab r.blk]
      have ac:j=0∨j=1∨j=2∨j=3∨j=4∨j=5∨j=6∨j=7∨j=8∨j=9∨j=10:=(by omega)
      have b8:A5 (a2v pn)=.int .u8 (pn:Int):=(by unfold A5;rw[a3x,a2u (by omega)])
      have b9:A5 (a2v q)=.int .u8 ((q%256:Nat):Int):=(by unfold A5;rw[a3x])
      have ad:A5 (a2v (q/256))=.int .u8 ((q/256:Nat):Int):=(by unfold A5;rw[a3x,a2u (by omega)])
      rcases ac with rfl|rfl|rfl|rfl|rfl|rfl|rfl|rfl|rfl|rfl|rfl
      .rfl
      .rfl
      .rfl
      .rfl
      .rfl
      .rfl
      .rfl
      .rfl
      .exact congrArg some b8.symm
      .exact congrArg some b9.symm
      .exact congrArg some ad.symm
     .rfl
    have M:(bl (Kr id pn q)).size=11:=(by rw[Dt,dN])
    obtain⟨hs,R⟩:=Aa (bl (Kr id pn q));rw[R] at ab M U
    have ai:¬hs.size+d.size>9223372036854775807:=(by omega)
    clear l C r R M;go_wp2_with fail;go_ret2;rw[z.o,<-U.o];exact⟨rfl,HC.o.fp⟩
theorem Aff(n m:Nat)(g:n<256)(h:m<256):bits .or .i64 (n:Int) ((m*256:Nat):Int)=((n+m*256:Nat):Int):=by
 have d:(a3w 64 (n:Int)).toNat=n:=by
  rw[a3u,a4z];exact a2u (by omega)
 have c:(a3w 64 ((m*256:Nat):Int)).toNat=m*256:=by
  rw[a3u,a4z];exact a2u (by omega)
 show IntKind.i64.wrap ((a3w 64 (n:Int) ||| a3w 64 ((m*256:Nat):Int)).toNat:Int)=_;have a:=Nat.two_pow_add_eq_or_of_lt (i:=8) (b:=n) (by omega) m;rw[BitVec.toNat_or,d,c,Nat.or_comm,show m*256=2^8*m by omega,<-a,a1u];omega
def Pi(n:Nat)(c1 c2 c3:Bool)(p x:Int)(s:ByteArray):Array Value:=#[.int .u64 n,.int .i64 (if c1 then p else 0),.int .i64 (if c2 then x else 0),.string (if c3 then s else⟨#[]⟩)]
structure K0(q:Nat)(w0:World)(cs:Array Value)(w:World):Prop where
 blk:w.heap[q]?=some (.cells cs 42 (0,0))
 fp:Fp [] w0 w
theorem K0.set{q o:Nat}{b w:World}{c a:Array Value}{v:Value}(h:K0 q b c w)(j:b.heap.size<=q)(d:c.setIfInBounds o v=a):K0 q b a (w.setCell ⟨q,o,none⟩ v):=
 ⟨(Cf h.blk _).trans (by rw[d]),h.fp.trans (Fp.setCell w ⟨q,o,none⟩ v) (by intro i g;right;simp at g;omega)⟩
theorem K0.drew{q:Nat}{a w:World}{b:Array Value}(h:K0 q a b w):K0 q a b w.drew:=⟨h.blk,h.fp.drew'⟩
theorem Afg(w:World)(s:ByteArray)(hs:s.size≤1000000000):
  Calls Tryz.prog 19 #[.string s] w fun e w'=>e=.returned (.tuple #[H8 (Hq s).1,.int .i64 (Hq s).2])/\Fp [] w w':=by
 have O:K0 w.heap.size w (Pi 0 false false false 0 0 ⟨#[]⟩) (w.alloc (.cells #[.int .u64 0,.int .i64 0,.int .i64 0,.string ⟨#[]⟩] 42)):=⟨Ai rfl _,Fp.alloc _ _⟩
 have t:=X O;have B:∀W:World,Fp [] w W->∀o v,Fp [] w (W.setCell ⟨w.heap.size,o,none⟩ v):=fun W h o v=>h.trans (Fp.setCell W ⟨w.heap.size,o,none⟩ v) (by intro i hi;right;simp at hi;omega);have q:=X B;clear O B;by_cases F:s.size<11
 .have x:Hid (Hq s=(Nc,50)):=by unfold Hid Hq Y0;rw[if_pos (by simp[F])]
  have z:(s.size:Int)<11:=by omega
  clear F;go_in;go_wp2_with fail;refine bodyPost_ret (v:=.tuple #[.agg #[.int .u64 0,.int .i64 0,.int .i64 0,.string ⟨#[]⟩],.int .i64 50]) (by simp[results,Tryz.results19,go_sem, *]) rfl ?_;rw[x.o];exact⟨rfl,t.o.fp⟩
 have ac:¬(s.size:Int)<11:=by omega
 have e8:=Oh s 8 (by omega);have e9:=Oh s 9 (by omega);have aw:=Oh s 10 (by omega)
 have p8:(8:Int)<(s.size:Int):=by omega
 have p9:(9:Int)<(s.size:Int):=by omega
 have ah:(10:Int)<(s.size:Int):=by omega
 have N:=(A4 s 8).toNat_lt;have D:=(A4 s 9).toNat_lt;have r:=(A4 s 10).toNat_lt;obtain⟨l,M⟩:=Aa ((A4 s 8).toNat);obtain⟨C,L⟩:=Aa ((A4 s 9).toNat);obtain⟨n,A⟩:=Aa ((A4 s 10).toNat);rw[M] at N;rw[L] at D;rw[A] at r;have Q:Hid (Hq s=if l<1∨5<l∨60011<s.size then(Nc,50) else(⟨F9 s 8,(l:Int),((C+n*256:Nat):Int),s.extract 11 s.size⟩,0)):=by
  unfold Hid Hq Y0 dM;rw[M,L,A,show decide (s.size<11)=false by simpa using F];by_cases h:l<1∨5<l∨60011<s.size
  .rw[if_pos h,if_pos]
   rcases h with h|h|h<;>simp[h]
  .rw[if_neg h,if_neg];simp only[Bool.false_or,Bool.or_eq_true,decide_eq_true_eq];omega
 have ab:11<=s.size:=by omega
 by_cases U:l<1
 .have x:Hid (Hq s=(Nc,50)):=Q.o.trans (if_pos (Or.inl U))
  have z:(l:Int)<1:=by omega
  clear U;go_in;go_wp2_with fail;refine bodyPost_ret (v:=.tuple #[.agg #[.int .u64 0,.int .i64 0,.int .i64 0,.string ⟨#[]⟩],.int .i64 50]) (by simp[results,Tryz.results19,go_sem, *]) rfl ?_;rw[x.o];exact⟨rfl,t.o.fp⟩
 have z8:¬(l:Int)<1:=by omega
 by_cases c5:5<l
 .have x:Hid (Hq s=(Nc,50)):=Q.o.trans (if_pos (Or.inr (Or.inl c5)))
  have z:(5:Int)<(l:Int):=by omega
  clear c5;go_in;go_wp2_with fail;refine bodyPost_ret (v:=.tuple #[.agg #[.int .u64 0,.int .i64 0,.int .i64 0,.string ⟨#[]⟩],.int .i64 50]) (by simp[results,Tryz.results19,go_sem, *]) rfl ?_;rw[x.o];exact⟨rfl,t.o.fp⟩
 have z5:¬(5:Int)<(l:Int):=by omega
 by_cases V:60011<s.size
 .have x:Hid (Hq s=(Nc,50)):=Q.o.trans (if_pos (Or.inr (Or.inr V)))
  have z:(60011:Int)<(s.size:Int):=by omega
  clear V;go_in;go_wp2_with fail;refine bodyPost_ret (v:=.tuple #[.agg #[.int .u64 0,.int .i64 0,.int .i64 0,.string ⟨#[]⟩],.int .i64 50]) (by simp[results,Tryz.results19,go_sem, *]) rfl ?_;rw[x.o];exact⟨rfl,t.o.fp⟩
 have z6:¬(60011:Int)<(s.size:Int):=by omega
 have x:Hid (Hq s=(⟨F9 s 8,(l:Int),((C+n*256:Nat):Int),s.extract 11 s.size⟩,0)):=Q.o.trans (if_neg (by omega))
 have k8:IntKind.i64.wrap (l:Int)=(l:Int):=by rw[a1u];omega
 have k9:IntKind.i64.wrap (C:Int)=(C:Int):=by rw[a1u];omega
 have ai:IntKind.i64.wrap (n:Int)=(n:Int):=by rw[a1u];omega
 obtain⟨y,hy⟩:=Aa (n*256)
 have ks:IntKind.i64.wrap ((n:Int)*256)=(y:Int):=by rw[a1u];omega
 have ho:=Aff C n D r;rw[hy] at ho;obtain⟨I,J⟩:=Aa (C+y);rw[J] at ho
 have aa:Hid (C+n*256=I):=by unfold Hid;omega
 clear U c5 V hy J N D r Q;go_in;go_wp2_with fail
 go_loopg [24] 8 (fun g vi W=>∃k:Nat,g+k=8/\vi=.int .i64 k/\K0 w.heap.size w (Pi (F9 s k) false false false l I (s.extract 11 s.size)) W)
 case atStart=>exact⟨0,rfl,rfl,t.o⟩
 case round=>
  obtain⟨k,hg,rfl,hD⟩:=hrel;have HD:=X hD;clear hD;by_cases hk:k<8
  .have T:k<s.size:=(by omega)
   have zk:(k:Int)<(s.size:Int):=(by omega)
   have R:Hid (bits .or .u64 (F9 s k:Int) (IntKind.u64.wrap (IntKind.u64.wrap (s[k].toNat:Int)*2^(8*(k:Int)).toNat))=(F9 s (k+1):Int)):=X (by rw[show(8*(k:Int)).toNat=8*k by omega];exact uB T hk)
   have w8:IntKind.i64.wrap (8*(k:Int))=8*(k:Int):=(by rw[a1u];omega)
   go_wp2_with fail;refine E3 (fun G w'=>K0 w.heap.size w (Pi (if G 11 then F9 s (k+1) else F9 s k) false false false l I (s.extract 11 s.size)) w') (fun _ _=>True) (by kernel_rfl) (by kernel_rfl) HD.o.drew ?_;apply A3 (fun _ _ h=>h) rfl rfl rfl
   .intro b a w d c K m;have h2:=c.f 2;simp only[Oper.wp,execOp];go_simp;exact m _ d trivial
   apply A3 (fun _ _ h=>h) rfl rfl rfl
   .intro b a w d c K m;have av:=c.e 0 27;have q0:=Ab d.blk 0;have E:=c.post 11 (by kernel_rfl);rw[E] at q0;simp only[Pi,Z,Y,a2z,if_false] at q0;simp only[Oper.wp,execOp];go_simp;exact m _ d trivial
   iterate 9
    apply A3 (fun _ _ h=>h) rfl rfl rfl
    .intro b a w d c K m;have:=c.f 0;have:=c.f 4;(try have:=c.e 1 28);have:=c.f 2;(try have:=c.e 2 29);(try have:=c.e 3 30);(try have:=c.e 4 31);(try have:=c.e 6 33);(try have:=c.e 5 32);(try have:=c.e 7 34);(try have:=c.e 8 35);have aj:=R.o;simp only[Oper.wp,execOp];go_simp;exact m _ d trivial
   apply F3 (fun _=>True) rfl rfl
   .intro b a w d c K m;have ar:=c.e 10 37;have au:=c.e 9 36;have E:=c.self;rw[E] at d;have q0:=Ab d.blk 0;have S:=Av d.blk 0;simp only[Pi,Z,Y,a2z,if_false] at q0;simp only[Oper.wp,execOp];go_simp;exact m undef _ (K0.set d (a2x _) (by first|rfl|(rw[R.o];rfl))) trivial trivial
   refine⟨?_,?_⟩
   .refine⟨fun _ _ _ _ _=>trivial,?_⟩
    iterate 11 refine Cb _ ?_
    exact trivial
   .intro u G d p;simp only[a0u,a1z,a1w,a1x]
    iterate 11 (refine A2 ?_)
    refine As ?_;intro ag u11;refine C7 ?_;simp only[Aj,Act.put,a0x,a0w,a0v];have j:=d;rw[p 11 (by decide),if_pos rfl] at j;have HC:=X j;clear d p j;go_wp2_with fail
    go_roundg (gk-1)
    case measure=>omega
    case rel=>exact⟨k+1,by omega,by go_num,HC.o⟩
  .obtain rfl:k=8:=by omega
   have ak:(s.extract 11 s.size).size<=1000000000:=(by rw[ByteArray.size_extract];omega)
   go_wp2_with fail;refine E3 (fun G w'=>K0 w.heap.size w (Pi (F9 s 8) (G 14) (G 16) (G 18) l I (s.extract 11 s.size)) w') (fun _ _=>True) (by kernel_rfl) (by kernel_rfl) HD.o.drew ?_
   iterate 14
    apply A3 (fun _ _ h=>h) rfl rfl rfl
    .intro b a w d c K m;have:=c.f 0;have:=c.f 2;(try have:=c.e 0 39);(try have:=c.e 1 40);(try have:=c.e 3 42);(try have:=c.e 4 43);(try have:=c.e 6 45);(try have:=c.e 7 46);(try have:=c.e 8 47);(try have:=c.e 5 44);(try have:=c.e 9 48);(try have:=c.e 11 50);simp only[Oper.wp,execOp];go_simp;exact m _ d trivial
   apply F3 (fun _=>True) rfl rfl
   .intro b a w d c K m;have an:=c.e 13 52;have aq:=c.e 2 41;have P:=c.self;rw[P] at d;have q0:=Ab d.blk 1;have S:=Av d.blk 1;simp only[Pi,Z,a0z,Y,a2z,if_false] at q0;simp only[Oper.wp,execOp];go_simp;exact m undef _ (K0.set d (a2x _) rfl) trivial trivial
   apply A3 (fun _ _ h=>h) rfl rfl rfl
   .intro b a w d c K m;have h2:=c.f 2;simp only[Oper.wp,execOp];go_simp;exact m _ d trivial
   apply F3 (fun _=>True) rfl rfl
   .intro b a w d c K m;have am:=c.e 15 53;have ap:=c.e 10 49;have P:=c.self;rw[P] at d;have q0:=Ab d.blk 2;have S:=Av d.blk 2;simp only[Pi,Z,a0z,Y,a2z,if_false] at q0;simp only[Oper.wp,execOp];go_simp;exact m undef _ (K0.set d (a2x _) rfl) trivial trivial
   apply A3 (fun _ _ h=>h) rfl rfl rfl
   .intro b a w d c K m;have h2:=c.f 2;simp only[Oper.wp,execOp];go_simp;exact m _ d trivial
   apply F3 (fun _=>True) rfl rfl
   .intro b a w d c K m;have al:=c.e 17 54;have ao:=c.e 12 51;have P:=c.self;rw[P] at d;have q0:=Ab d.blk 3;have S:=Av d.blk 3;simp only[Pi,Z,a0z,Y,a2z,if_false] at q0;simp only[Oper.wp,execOp];go_simp;exact m undef _ (K0.set d (a2x _) rfl) trivial trivial
   refine⟨?_,?_⟩
   .refine⟨fun _ _ _ _ _=>trivial,?_⟩;refine Cb _ ?_;refine⟨fun _ _ _ _ _=>trivial,?_⟩;refine Cb _ ?_;refine⟨fun _ _ _ _ _=>trivial,?_⟩
    iterate 14 refine Cb _ ?_
    exact trivial
   .intro u G d p;simp only[a0u,a1z,a1w,a1x]
    iterate 14 (refine A2 ?_)
    refine As ?_;intro af u14
    iterate 1 (refine A2 ?_)
    refine As ?_;intro ae u16
    iterate 1 (refine A2 ?_)
    refine As ?_;intro ad u18;refine C7 ?_;simp only[Aj,Act.put,a0x,a0w,a0v];have j:=d;rw[p 14 (by decide),p 16 (by decide),p 18 (by decide)] at j;have HC:=X j;have r0:u.cell? ⟨w.heap.size,0,none⟩=some (.int .u64 (F9 s 8)):=Ab j.blk 0;have r1:u.cell? ⟨w.heap.size,1,none⟩=some (.int .i64 l):=Ab j.blk 1;have r2:u.cell? ⟨w.heap.size,2,none⟩=some (.int .i64 I):=Ab j.blk 2;have r3:u.cell? ⟨w.heap.size,3,none⟩=some (.string (s.extract 11 s.size)):=Ab j.blk 3;have S:u.frozen? ⟨w.heap.size,0,none⟩=false:=Av j.blk 0;have f1:u.frozen? ⟨w.heap.size,1,none⟩=false:=Av j.blk 1;have f2:u.frozen? ⟨w.heap.size,2,none⟩=false:=Av j.blk 2;have f3:u.frozen? ⟨w.heap.size,3,none⟩=false:=Av j.blk 3;clear d p j;go_wp2_with fail;refine bodyPost_ret (v:=.tuple #[.agg #[.int .u64 (F9 s 8),.int .i64 l,.int .i64 I,.string (s.extract 11 s.size)],.int .i64 0]) (by simp[results,Tryz.results19,go_sem, *]) rfl ?_;rw[x.o,aa.o];exact⟨rfl,q.o _ (q.o _ (q.o _ (q.o _ HC.o.fp _ _) _ _) _ _) _ _⟩
end
section
open Go.RowKit Go.Lib Go.Maps Go.MapKept Go.ChangeMaps
structure Afh(w0:World)(b bm:Nat)(f:Nat × Array Value)(g:Dk->Dk × Int):Prop where
 enters:∀w,(callFunc f.1 f.2).run Tryz.prog w=.ok (.enter f.1 f.2) w
 calls:∀d W,Am W b bm d->Au d->Fp [b,bm] w0 W->Calls Tryz.prog f.1 f.2 W fun e w'=>e=.returned (.int .i64 (g d).2)/\Am w' b bm (g d).1/\Fp [b,bm] W w'
def dQ(f:Nat × Array Value):Value:=.func (.func f.1) #[] f.2
structure dR(w:World)(b bm:Nat)(fs:List (Nat × Array Value))(gs:List (Dk->Dk × Int)):Prop where
 len:fs.length=gs.length
 step:∀i (h:i<fs.length) (h2:i<gs.length),Afh w b bm fs[i] gs[i]
 ok:∀g∈gs,∀d,Au d->Au (g d).1
theorem Afi{a:List (Dk->Dk × Int)}{k:Nat}(h:k<a.length)(d:Dk):Iw (a.drop k) d=if(a[k] d).2=0 then Iw (a.drop (k+1)) (a[k] d).1 else a[k] d:=by
 rw[List.drop_eq_getElem_cons h];rfl
theorem pD(w:World)(b B C:Nat)(d:Dk)(l:List (Nat × Array Value))(m:List (Dk→Dk × Int))(Q:Am w b B d)(E:Au d)
  (P:w.heap[C]?=some (.cells (l.map dQ).toArray 254 (0,0)))(hn:l.length<=1000)(D:dR w b B l m):
  Calls Tryz.prog 176 #[.slice (some ⟨C,0,none⟩) l.length l.length] w fun e w'=>e=.returned (.int .i64 (Iw m d).2)/\Am w' b B (Iw m d).1/\Fp [b,B] w w':=by
 have T:C∉[b,B]:=by
  intro h;simp only[a2w,a1v,or_false] at h;rcases h with rfl|rfl
  .have h2:=Q.cells;rw[P] at h2
   injection Option.some.inj h2 with _ h3
   exact absurd h3 (by decide)
  .obtain⟨es,aa,h1,_⟩:=Q.files;rw[P] at h1;cases h1
 have HD:=X Q;have ab:=X E;have HS:=X P;have q:=X D;clear Q E P D;go_in;go_wp2_with fail
 go_loopg [8] l.length (fun g vi W=>∃(k:Nat) (n:Dk),g+k=l.length/\vi=.int .i64 k/\Iw m d=Iw (m.drop k) n/\Am W b B n/\Au n/\Fp [b,B] w W)
 case atStart=>exact⟨0,d,by omega,rfl,rfl,HD.o,ab.o,Fp.refl _ _⟩
 case round=>
  obtain⟨k,n,hg,rfl,hp,J,t,hf⟩:=hrel;have HP:=X hp;have O:=X J;have v:=X t;have S:=X hf;clear hp J t hf;by_cases U:k<l.length
  .have zk:(k:Int)<(l.length:Int):=(by omega)
   have y:k<m.length:=(by rw[<-q.o.len];exact U)
   have j:=q.o.step k U y;have a:=Afi y n;have c:wr.cell? ⟨C,k,none⟩=some (dQ l[k]):=by
    rw[Ab ((S.o.block C (Ae HS.o) T).trans HS.o)];simp[U]
   obtain⟨⟨F,cap⟩,z⟩:∃f,l[k]=f:=⟨_,rfl⟩
   obtain⟨A,p⟩:=Aa (m[k]);have s:Au (A n).1:=q.o.ok A (by rw[<-p];exact List.getElem_mem y) n v.o;rw[z,p] at j;rw[z] at c;rw[p] at a;unfold dQ at c;have V:=j.enters;have HC:=X (j.calls n wr O.o v.o S.o);have u:=X s
   obtain⟨⟨d3,x⟩,hx⟩:∃r,A n=r:=⟨_,rfl⟩
   rw[hx] at HC a u;have M:=X a;simp only at V c;clear j a z p s hx;go_wp2_with fail;refine HC.o.mono ?_;rintro e w2 ⟨rfl,I,G⟩;have N:=X I;have K:=X (S.o.trans G (by intro i hi;exact Or.inl hi));clear I G;by_cases R:x=0
   .subst R;have L:Hid (Iw m d=Iw (m.drop (k+1)) d3):=by
     have:=M.o;rw[if_pos rfl] at this;exact HP.o.trans this
    go_wp2_with fail
    go_roundg (gk-1)
    case measure=>omega
    case rel=>exact⟨k+1,d3,by omega,by go_num,L.o,N.o,u.o,K.o⟩
   .have L:Hid (Iw m d=(d3,x)):=by
     have:=M.o;rw[if_neg R] at this;exact HP.o.trans this
    have hb:((x:Int)!=0)=true:=(by simpa using R)
    clear R;go_wp2_with fail;go_ret;rw[L.o];exact⟨rfl,N.o,K.o⟩
  .have zk:¬(k:Int)<(l.length:Int):=(by omega)
   have L:Hid (Iw m d=(n,0)):=by
    refine HP.o.trans ?_;rw[List.drop_of_length_le (by rw[<-q.o.len];omega)];rfl
   go_wp2_with fail;go_ret;rw[L.o];exact⟨rfl,O.o,S.o⟩
def Gq(b:Nat)(lg:Lg):Array Value:=#[.pointer (some ⟨b,0,none⟩),.string lg.name,.int .i64 lg.many,.bool lg.off]
def Df(w:World)(L b:Nat)(lg:Lg):Prop:=w.heap[L]?=some (.cells (Gq b lg) 185 (0,0))
theorem Df.fp{w w':World}{S:List Nat}{L b:Nat}{lg:Lg}(h:Df w L b lg)(a:Fp S w w')(c:L∉S:=by simp):Df w' L b lg:=(a.block L (Ae h) c).trans h
theorem Df.ne{w:World}{L b j:Nat}{lg:Lg}{d:Dk}(h:Df w L b lg)(g:Am w b j d):L∉[b,j]:=by
 intro c;simp only[a2w,a1v,or_false] at c;rcases c with rfl|rfl
 .have:=g.cells;rw[h] at this;cases this
 .obtain⟨k,a,i,_⟩:=g.files;rw[h] at i;cases i
theorem G2{w:World}{q b k:Nat}{d:Dk}{c:Array Value}{T:TypeId}{fr:Nat × Nat}(h:w.heap[q]?=some (.cells c T fr))(l:T≠118)(i:Am w b k d):q∉[b,k]:=by
 intro g;simp only[a2w,a1v,or_false] at g;rcases g with rfl|rfl
 .have:=i.cells;rw[h] at this;cases this;exact l rfl
 .obtain⟨m,a,j,_⟩:=i.files;rw[h] at j;cases j
structure Iy(b bm:Nat)(w0:World)(d d2:Dk)(done:Bool)(w:World):Prop where
 disk:Am w b bm (if done then d2 else d)
 fp:Fp [b,bm] w0 w
theorem Iy.first{b a:Nat}{c:World}{d i:Dk}{done:Bool}{w:World}(h:Iy b a c d i done w)(g:done=false):Am w b a d:=by
 have:=h.disk;rw[g] at this;exact this
theorem Iy.start{b c:Nat}{a:World}{d g:Dk}(h:Am a b c d):Iy b c a d g false a.drew:=⟨h.of_fp (Fp.drew a) (by simp) (by simp),(Fp.drew a).mono (by simp)⟩
theorem Afj(w:World)(b m L D C:Nat)(lg:Lg)(d:Dk)(other:ByteArray)(n:Am w b m d)(t:Au d)(k:other.size≤maxLen)
  (u:Df w L b lg)(A:w.heap[D]?=some (.cells #[.pointer (some ⟨L,0,none⟩)] 119 (0,0)))(z:w.heap[C]?=some (.cells #[.string other] 9 (0,0))):
  Calls Tryz.prog 177 #[.pointer (some ⟨D,0,none⟩),.pointer (some ⟨C,0,none⟩)] w fun e w'=>e=.returned (.int .i64 (if d.thereE other=3 then 0 else d.thereE other))/\Am w' b m (d.delete other)/\Fp [b,m] w w':=by
 have Q:=u.ne n;have P:=G2 A (by decide) n;have O:=G2 z (by decide) n;have T:=X n;have S:=X u;have M:=X A;have J:=X z;have I:=X (fun W (h:Am W b m d)=>Aev W b m d other h t k);clear n u A z;obtain⟨x,E⟩:=Aa (d.thereE other);obtain⟨G,j⟩:=Aa (d.delete other);rw[E,j] at I ⊢;clear E j;go_in;go_wp2_with fail;refine E3 (fun B w'=>Iy b m w d G (B 5) w') (fun _ _=>True) (by kernel_rfl) (by kernel_rfl) (Iy.start T.o) ?_
 iterate 5
  apply A3 (fun _ _ h=>h) rfl rfl rfl
  .intro b a w c g K q;have:=g.f 0;have:=g.f 1;(try have:=g.e 0 4);(try have:=g.e 1 5);(try have:=g.e 2 6);have q0:=Ab ((c.fp.block _ (Ae M.o) P).trans M.o) 0;have q1:=Ab ((c.fp.block _ (Ae J.o) O).trans J.o) 0;have N:=Ab (S.o.fp c.fp Q) 0;simp only[Gq,Z,Y] at q0 q1 N;simp only[Oper.wp,execOp];go_simp;exact q _ c trivial
 apply Hi (Cc (.int .i64 x)) rfl rfl rfl
 .intro b a w c g K q;have h7:=g.e 3 7;have h8:=g.e 4 8;simp only[Oper.wp,execOp];go_simp;refine(I.o _ (c.first g.self)).mono ?_;rintro e w2 ⟨rfl,j,v⟩;exact q _ _ ⟨j,c.fp.trans v (by intro i R;exact Or.inl R)⟩ trivial rfl
 apply A3 (fun _ _ h=>h) rfl rfl rfl
 .intro b a w c g K q;have h9:=g.e 5 9;simp only[Oper.wp,execOp];go_simp;exact q _ c trivial
 refine⟨?_,?_⟩
 .refine Cb _ ?_;refine⟨fun _ _ _ _ h=>h,?_⟩
  iterate 5 refine Cb _ ?_
  exact trivial
 .intro w' B c p;simp only[a0u,a1z,a1w,a1x]
  iterate 5 (refine A2 ?_)
  refine As ?_;intro U u5;obtain rfl:=u5
  iterate 1 (refine A2 ?_)
  refine C7 ?_;simp only[Aj,Act.put,a0x,a0w,a0v];have y:B 5=true:=p 5 (by decide);have l:=c.disk;rw[y] at l;have s:Hid (Am w' b m G):=X l;have r:=X c.fp;clear c p l;by_cases F:x=3
  .subst F;go_wp2_with fail;go_ret;exact⟨rfl,s.o,r.o⟩
  .have V:((x:Int)!=3)=true:=(by simpa using F)
   go_wp2_with fail;go_ret;exact⟨rfl,s.o,r.o⟩
theorem Afk(w:World)(b p L I G:Nat)(lg:Lg)(d:Dk)(other:ByteArray)(q:Am w b p d)(z:Au d)(m:other.size≤maxLen)(A:Df w L b lg)(l:w.heap[I]?=some (.cells #[.pointer (some ⟨L,0,none⟩)] 119 (0,0)))(k:w.heap[G]?=some (.cells #[.string other] 9 (0,0))):
  Calls Tryz.prog 179 #[.pointer (some ⟨I,0,none⟩),.pointer (some ⟨G,0,none⟩)] w fun e w'=>e=.returned (.int .i64 (d.createE other))/\Am w' b p (d.create other)/\Fp [b,p] w w':=by
 have J:=A.ne q;have y:=G2 l (by decide) q;have v:=G2 k (by decide) q;have T:=X q;have O:=X A;have Hql:=X l;have Hqo:=X k;have P:=X (fun W (h:Am W b p d)=>Ae4 W b p d other h z m);clear q A l k;obtain⟨x,M⟩:=Aa (d.createE other);obtain⟨N,j⟩:=Aa (d.create other);rw[M,j] at P ⊢;clear M j;go_in;go_wp2_with fail;refine E3 (fun D w'=>Iy b p w d N (D 5) w') (fun _ _=>True) (by kernel_rfl) (by kernel_rfl) (Iy.start T.o) ?_
 iterate 5
  apply A3 (fun _ _ h=>h) rfl rfl rfl
  .intro b a w c g K s;have:=g.f 0;have:=g.f 1;(try have:=g.e 0 3);(try have:=g.e 1 4);(try have:=g.e 2 5);have u:=Ab ((c.fp.block _ (Ae Hql.o) y).trans Hql.o) 0;have t:=Ab ((c.fp.block _ (Ae Hqo.o) v).trans Hqo.o) 0;have S:=Ab (O.o.fp c.fp J) 0;have R:=Ab (O.o.fp c.fp J) 1;simp only[Gq,Z,a0z,Y] at S R u t;simp only[Oper.wp,execOp];go_simp;exact s _ c trivial
 apply Hi (Cc (.int .i64 x)) rfl rfl rfl
 .intro b a w c g K s;have h6:=g.e 3 6;have h7:=g.e 4 7;simp only[Oper.wp,execOp];go_simp;refine(P.o _ (c.first g.self)).mono ?_;rintro e w2 ⟨rfl,j,B⟩;exact s _ _ ⟨j,c.fp.trans B (by intro i Q;exact Or.inl Q)⟩ trivial rfl
 apply A3 (fun _ _ h=>h) rfl rfl rfl
 .intro b a w c g K s;have V:=g.e 5 8;simp only[Oper.wp,execOp];go_simp;exact s _ c trivial
 refine⟨?_,?_⟩
 .refine Cb _ ?_;refine⟨fun _ _ _ _ h=>h,?_⟩
  iterate 5 refine Cb _ ?_
  exact trivial
 .intro w' D c r;simp only[a0u,a1z,a1w,a1x]
  iterate 5 (refine A2 ?_)
  refine As ?_;intro U u5;obtain rfl:=u5
  iterate 1 (refine A2 ?_)
  refine C7 ?_;simp only[Aj,Act.put,a0x,a0w,a0v];have C:D 5=true:=r 5 (by decide);have n:=c.disk;rw[C] at n;have F:Hid (Am w' b p N):=X n;have E:=X c.fp;clear c r n;go_wp2_with fail;go_ret;exact⟨rfl,F.o,E.o⟩
theorem Afl(w:World)(b q L P O N:Nat)(lg:Lg)(d:Dk)(other s:ByteArray)(r:Am w b q d)(D:Au d)(n:other.size≤maxLen)(V:s.size≤1000000000)(E:Df w L b lg)(m:w.heap[P]?=some (.cells #[.pointer (some ⟨L,0,none⟩)] 119 (0,0)))(l:w.heap[O]?=some (.cells #[.string other] 9 (0,0)))(k:w.heap[N]?=some (.cells #[.string s] 9 (0,0))):
  Calls Tryz.prog 181 #[.pointer (some ⟨P,0,none⟩),.pointer (some ⟨O,0,none⟩),.pointer (some ⟨N,0,none⟩)] w fun e w'=>e=.returned (.int .i64 (d.appendE other s))/\Am w' b q (d.append other s)/\Fp [b,q] w w':=by
 have Q:=E.ne r;have C:=G2 m (by decide) r;have B:=G2 l (by decide) r;have A:=G2 k (by decide) r;have HD:=X r;have T:=X E;have Hql:=X m;have Hqo:=X l;have Hqs:=X k;have U:=X (fun W (h:Am W b q d)=>kZ W b q d other s h D n V);clear r E m l k;obtain⟨x,R⟩:=Aa (d.appendE other s);obtain⟨S,j⟩:=Aa (d.append other s);rw[R,j] at U ⊢;clear R j;go_in;go_wp2_with fail;refine E3 (fun I w'=>Iy b q w d S (I 6) w') (fun _ _=>True) (by kernel_rfl) (by kernel_rfl) (Iy.start HD.o) ?_
 iterate 6
  apply A3 (fun _ _ h=>h) rfl rfl rfl
  .intro b a w c g K u;have:=g.f 0;have:=g.f 1;have:=g.f 2;(try have:=g.e 0 4);(try have:=g.e 1 5);(try have:=g.e 2 6);have z:=Ab ((c.fp.block _ (Ae Hql.o) C).trans Hql.o) 0;have y:=Ab ((c.fp.block _ (Ae Hqo.o) B).trans Hqo.o) 0;have v:=Ab ((c.fp.block _ (Ae Hqs.o) A).trans Hqs.o) 0;have g0:=Ab (T.o.fp c.fp Q) 0;have g1:=Ab (T.o.fp c.fp Q) 1;simp only[Gq,Z,a0z,Y] at g0 g1 z y v;simp only[Oper.wp,execOp];go_simp;exact u _ c trivial
 apply Hi (Cc (.int .i64 x)) rfl rfl rfl
 .intro b a w c g K u;have h7:=g.e 3 7;have h8:=g.e 4 8;have h9:=g.e 5 9;simp only[Oper.wp,execOp];go_simp;refine(U.o _ (c.first g.self)).mono ?_;rintro e w2 ⟨rfl,j,F⟩;exact u _ _ ⟨j,c.fp.trans F (by intro i hi;exact Or.inl hi)⟩ trivial rfl
 apply A3 (fun _ _ h=>h) rfl rfl rfl
 .intro b a w c g K u;have aa:=g.e 6 10;simp only[Oper.wp,execOp];go_simp;exact u _ c trivial
 refine⟨?_,?_⟩
 .refine Cb _ ?_;refine⟨fun _ _ _ _ h=>h,?_⟩
  iterate 6 refine Cb _ ?_
  exact trivial
 .intro w' I c t;simp only[a0u,a1z,a1w,a1x]
  iterate 6 (refine A2 ?_)
  refine As ?_;intro v6 u6;obtain rfl:=u6
  iterate 1 (refine A2 ?_)
  refine C7 ?_;simp only[Aj,Act.put,a0x,a0w,a0v];have G:I 6=true:=t 6 (by decide);have p:=c.disk;rw[G] at p;have M:Hid (Am w' b q S):=X p;have J:=X c.fp;clear c t p;go_wp2_with fail;go_ret;exact⟨rfl,M.o,J.o⟩
theorem Afm(w:World)(b p L I G:Nat)(lg:Lg)(d:Dk)(other:ByteArray)(q:Am w b p d)(z:Au d)(m:other.size≤maxLen)(A:Df w L b lg)(l:w.heap[I]?=some (.cells #[.pointer (some ⟨L,0,none⟩)] 119 (0,0)))(k:w.heap[G]?=some (.cells #[.string other] 9 (0,0))):
  Calls Tryz.prog 183 #[.pointer (some ⟨I,0,none⟩),.pointer (some ⟨G,0,none⟩)] w fun e w'=>e=.returned (.int .i64 (d.thereE other))/\Am w' b p (d.sync other)/\Fp [b,p] w w':=by
 have J:=A.ne q;have y:=G2 l (by decide) q;have v:=G2 k (by decide) q;have T:=X q;have O:=X A;have Hql:=X l;have Hqo:=X k;have P:=X (fun W (h:Am W b p d)=>dJ W b p d other h z m);clear q A l k;obtain⟨x,M⟩:=Aa (d.thereE other);obtain⟨N,j⟩:=Aa (d.sync other);rw[M,j] at P ⊢;clear M j;go_in;go_wp2_with fail;refine E3 (fun D w'=>Iy b p w d N (D 5) w') (fun _ _=>True) (by kernel_rfl) (by kernel_rfl) (Iy.start T.o) ?_
 iterate 5
  apply A3 (fun _ _ h=>h) rfl rfl rfl
  .intro b a w c g K s;have:=g.f 0;have:=g.f 1;(try have:=g.e 0 3);(try have:=g.e 1 4);(try have:=g.e 2 5);have u:=Ab ((c.fp.block _ (Ae Hql.o) y).trans Hql.o) 0;have t:=Ab ((c.fp.block _ (Ae Hqo.o) v).trans Hqo.o) 0;have S:=Ab (O.o.fp c.fp J) 0;have R:=Ab (O.o.fp c.fp J) 1;simp only[Gq,Z,a0z,Y] at S R u t;simp only[Oper.wp,execOp];go_simp;exact s _ c trivial
 apply Hi (Cc (.int .i64 x)) rfl rfl rfl
 .intro b a w c g K s;have h6:=g.e 3 6;have h7:=g.e 4 7;simp only[Oper.wp,execOp];go_simp;refine(P.o _ (c.first g.self)).mono ?_;rintro e w2 ⟨rfl,j,B⟩;exact s _ _ ⟨j,c.fp.trans B (by intro i Q;exact Or.inl Q)⟩ trivial rfl
 apply A3 (fun _ _ h=>h) rfl rfl rfl
 .intro b a w c g K s;have V:=g.e 5 8;simp only[Oper.wp,execOp];go_simp;exact s _ c trivial
 refine⟨?_,?_⟩
 .refine Cb _ ?_;refine⟨fun _ _ _ _ h=>h,?_⟩
  iterate 5 refine Cb _ ?_
  exact trivial
 .intro w' D c r;simp only[a0u,a1z,a1w,a1x]
  iterate 5 (refine A2 ?_)
  refine As ?_;intro U u5;obtain rfl:=u5
  iterate 1 (refine A2 ?_)
  refine C7 ?_;simp only[Aj,Act.put,a0x,a0w,a0v];have C:D 5=true:=r 5 (by decide);have n:=c.disk;rw[C] at n;have F:Hid (Am w' b p N):=X n;have E:=X c.fp;clear c r n;go_wp2_with fail;go_ret;exact⟨rfl,F.o,E.o⟩
theorem Afn(w:World)(b p L J I:Nat)(lg:Lg)(d:Dk)(other:ByteArray)(q:Am w b p d)(A:Au d)(m:other.size≤maxLen)(z:lg.name.size≤maxLen)(B:Df w L b lg)(l:w.heap[J]?=some (.cells #[.pointer (some ⟨L,0,none⟩)] 119 (0,0)))(k:w.heap[I]?=some (.cells #[.string other] 9 (0,0))):
  Calls Tryz.prog 184 #[.pointer (some ⟨J,0,none⟩),.pointer (some ⟨I,0,none⟩)] w fun e w'=>e=.returned (.int .i64 (d.renameE other lg.name))/\Am w' b p (d.rename other lg.name)/\Fp [b,p] w w':=by
 have M:=B.ne q;have y:=G2 l (by decide) q;have v:=G2 k (by decide) q;have HD:=X q;have P:=X B;have Hql:=X l;have Hqo:=X k;have Q:=X (fun W (h:Am W b p d)=>Ae0 W b p d other lg.name h A m z);clear q B l k;obtain⟨x,N⟩:=Aa (d.renameE other lg.name);obtain⟨O,j⟩:=Aa (d.rename other lg.name);rw[N,j] at Q ⊢;clear N j;go_in;go_wp2_with fail;refine E3 (fun E w'=>Iy b p w d O (E 9) w') (fun _ _=>True) (by kernel_rfl) (by kernel_rfl) (Iy.start HD.o) ?_
 iterate 9
  apply A3 (fun _ _ h=>h) rfl rfl rfl
  .intro b a w g c K s;have:=c.f 0;have:=c.f 1;(try have:=c.e 0 3);(try have:=c.e 1 4);(try have:=c.e 2 5);(try have:=c.e 5 8);(try have:=c.e 6 9);(try have:=c.e 7 10);have u:=Ab ((g.fp.block _ (Ae Hql.o) y).trans Hql.o) 0;have t:=Ab ((g.fp.block _ (Ae Hqo.o) v).trans Hqo.o) 0;have V:=Ab (P.o.fp g.fp M) 0;have U:=Ab (P.o.fp g.fp M) 1;simp only[Gq,Z,a0z,Y] at V U u t;simp only[Oper.wp,execOp];go_simp;exact s _ g trivial
 apply Hi (Cc (.int .i64 x)) rfl rfl rfl
 .intro b a w g c K s;have h6:=c.e 3 6;have h7:=c.e 4 7;have T:=c.e 8 11;simp only[Oper.wp,execOp];go_simp;refine(Q.o _ (g.first c.self)).mono ?_;rintro e w2 ⟨rfl,j,C⟩;exact s _ _ ⟨j,g.fp.trans C (by intro i R;exact Or.inl R)⟩ trivial rfl
 apply A3 (fun _ _ h=>h) rfl rfl rfl
 .intro b a w g c K s;have S:=c.e 9 12;simp only[Oper.wp,execOp];go_simp;exact s _ g trivial
 refine⟨?_,?_⟩
 .refine Cb _ ?_;refine⟨fun _ _ _ _ h=>h,?_⟩
  iterate 9 refine Cb _ ?_
  exact trivial
 .intro w' E g r;simp only[a0u,a1z,a1w,a1x]
  iterate 9 (refine A2 ?_)
  refine As ?_;intro v9 u9;obtain rfl:=u9
  iterate 1 (refine A2 ?_)
  refine C7 ?_;simp only[Aj,Act.put,a0x,a0w,a0v];have D:E 9=true:=r 9 (by decide);have n:=g.disk;rw[D] at n;have G:Hid (Am w' b p O):=X n;have F:=X g.fp;clear g r n;go_wp2_with fail;go_ret;exact⟨rfl,G.o,F.o⟩
theorem Afo(w:World)(b n L J I:Nat)(lg:Lg)(d:Dk)(s:ByteArray)(p:Am w b n d)(A:Au d)(z:lg.name.size≤maxLen)(R:s.size≤1000000000)(B:Df w L b lg)(l:w.heap[J]?=some (.cells #[.pointer (some ⟨L,0,none⟩)] 119 (0,0)))(k:w.heap[I]?=some (.cells #[.string s] 9 (0,0))):
  Calls Tryz.prog 191 #[.pointer (some ⟨J,0,none⟩),.pointer (some ⟨I,0,none⟩)] w fun e w'=>e=.returned (.int .i64 (d.appendE lg.name s))/\Am w' b n (d.append lg.name s)/\Fp [b,n] w w':=by
 have M:=B.ne p;have y:=G2 l (by decide) p;have v:=G2 k (by decide) p;have HD:=X p;have P:=X B;have Hql:=X l;have Hqs:=X k;have Q:=X (fun W (h:Am W b n d)=>kZ W b n d lg.name s h A z R);clear p B l k;obtain⟨x,N⟩:=Aa (d.appendE lg.name s);obtain⟨O,j⟩:=Aa (d.append lg.name s);rw[N,j] at Q ⊢;clear N j;go_in;go_wp2_with fail;refine E3 (fun E w'=>Iy b n w d O (E 9) w') (fun _ _=>True) (by kernel_rfl) (by kernel_rfl) (Iy.start HD.o) ?_
 iterate 9
  apply A3 (fun _ _ h=>h) rfl rfl rfl
  .intro b a w g c K r;have:=c.f 0;have:=c.f 1;(try have:=c.e 0 3);(try have:=c.e 1 4);(try have:=c.e 2 5);(try have:=c.e 4 7);(try have:=c.e 5 8);(try have:=c.e 6 9);have u:=Ab ((g.fp.block _ (Ae Hql.o) y).trans Hql.o) 0;have t:=Ab ((g.fp.block _ (Ae Hqs.o) v).trans Hqs.o) 0;have g0:=Ab (P.o.fp g.fp M) 0;have g1:=Ab (P.o.fp g.fp M) 1;simp only[Gq,Z,a0z,Y] at g0 g1 u t;simp only[Oper.wp,execOp];go_simp;exact r _ g trivial
 apply Hi (Cc (.int .i64 x)) rfl rfl rfl
 .intro b a w g c K r;have h6:=c.e 3 6;have V:=c.e 7 10;have U:=c.e 8 11;simp only[Oper.wp,execOp];go_simp;refine(Q.o _ (g.first c.self)).mono ?_;rintro e w2 ⟨rfl,j,C⟩;exact r _ _ ⟨j,g.fp.trans C (by intro i S;exact Or.inl S)⟩ trivial rfl
 apply A3 (fun _ _ h=>h) rfl rfl rfl
 .intro b a w g c K r;have T:=c.e 9 12;simp only[Oper.wp,execOp];go_simp;exact r _ g trivial
 refine⟨?_,?_⟩
 .refine Cb _ ?_;refine⟨fun _ _ _ _ h=>h,?_⟩
  iterate 9 refine Cb _ ?_
  exact trivial
 .intro w' E g q;simp only[a0u,a1z,a1w,a1x]
  iterate 9 (refine A2 ?_)
  refine As ?_;intro v9 u9;obtain rfl:=u9
  iterate 1 (refine A2 ?_)
  refine C7 ?_;simp only[Aj,Act.put,a0x,a0w,a0v];have D:E 9=true:=q 9 (by decide);have m:=g.disk;rw[D] at m;have G:Hid (Am w' b n O):=X m;have F:=X g.fp;clear g q m;go_wp2_with fail;go_ret;exact⟨rfl,G.o,F.o⟩
theorem Afp(w:World)(b m L D:Nat)(lg:Lg)(d:Dk)(q:Am w b m d)(u:Au d)(t:lg.name.size≤maxLen)(v:Df w L b lg)(k:w.heap[D]?=some (.cells #[.pointer (some ⟨L,0,none⟩)] 119 (0,0))):
  Calls Tryz.prog 192 #[.pointer (some ⟨D,0,none⟩)] w fun e w'=>e=.returned (.int .i64 (d.thereE lg.name))/\Am w' b m (d.sync lg.name)/\Fp [b,m] w w':=by
 have E:=v.ne q;have s:=G2 k (by decide) q;have Q:=X q;have I:=X v;have Hql:=X k;have J:=X (fun W (h:Am W b m d)=>dJ W b m d lg.name h u t);clear q v k;obtain⟨x,F⟩:=Aa (d.thereE lg.name);obtain⟨G,j⟩:=Aa (d.sync lg.name);rw[F,j] at J ⊢;clear F j;go_in;go_wp2_with fail;refine E3 (fun A w'=>Iy b m w d G (A 8) w') (fun _ _=>True) (by kernel_rfl) (by kernel_rfl) (Iy.start Q.o) ?_
 iterate 8
  apply A3 (fun _ _ h=>h) rfl rfl rfl
  .intro b a w c g K p;have:=g.f 0;(try have:=g.e 0 2);(try have:=g.e 1 3);(try have:=g.e 2 4);(try have:=g.e 4 6);(try have:=g.e 5 7);(try have:=g.e 6 8);have r:=Ab ((c.fp.block _ (Ae Hql.o) s).trans Hql.o) 0;have P:=Ab (I.o.fp c.fp E) 0;have O:=Ab (I.o.fp c.fp E) 1;simp only[Gq,Z,a0z,Y] at P O r;simp only[Oper.wp,execOp];go_simp;exact p _ c trivial
 apply Hi (Cc (.int .i64 x)) rfl rfl rfl
 .intro b a w c g K p;have T:=g.e 3 5;have S:=g.e 7 9;simp only[Oper.wp,execOp];go_simp;refine(J.o _ (c.first g.self)).mono ?_;rintro e w2 ⟨rfl,j,y⟩;exact p _ _ ⟨j,c.fp.trans y (by intro i M;exact Or.inl M)⟩ trivial rfl
 apply A3 (fun _ _ h=>h) rfl rfl rfl
 .intro b a w c g K p;have N:=g.e 8 10;simp only[Oper.wp,execOp];go_simp;exact p _ c trivial
 refine⟨?_,?_⟩
 .refine Cb _ ?_;refine⟨fun _ _ _ _ h=>h,?_⟩
  iterate 8 refine Cb _ ?_
  exact trivial
 .intro w' A c n;simp only[a0u,a1z,a1w,a1x]
  iterate 8 (refine A2 ?_)
  refine As ?_;intro R u8;obtain rfl:=u8
  iterate 1 (refine A2 ?_)
  refine C7 ?_;simp only[Aj,Act.put,a0x,a0w,a0v];have z:A 8=true:=n 8 (by decide);have l:=c.disk;rw[z] at l;have C:Hid (Am w' b m G):=X l;have B:=X c.fp;clear c n l;go_wp2_with fail;go_ret;exact⟨rfl,C.o,B.o⟩
end
end Go.Proofs.YtkagolpnaicdoaaGreatDoor
