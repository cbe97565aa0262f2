/-
 Maps as lists of entries: laws on the model's map operations, over any program. Frames and blocks of memory, over any program. The cell of internal/bytealg.MaxLen holds a number. The disk as data, and where it lies in memory. The disk's inner functions: set. The disk's inner functions: named; the small methods. The disk's small methods: New, On, Up, Size, Fuse, Synced, Read.
-/
import Derived.Maps.RangeWalk
import Derived.WalkKit
import Derived.Lib.Hide
import Derived.Deep.QuietTactic
import Derived.BigQuiet
import Derived.Deep.LoopGhost
import Derived.Deep.RegionLaw
import Derived.Test.YtkagolpnaicdoaaGreatDoorRows
import Derived.Outline
set_option maxRecDepth 100000
set_option maxHeartbeats 8000000
open Go.Lib renaming hid→a0z
open List renaming getElem?_eq_getElem→a0x,mem_of_getElem?→a0w,nodup_cons→a0v,getElem?_map→a0u,filter_cons→a1z,find?_cons→a1x,getElem_of_mem→a1w,map_congr_left→a1v,map_cons→a2z,map_set→a2x
open Nat renaming le_refl→a1u
namespace Go.Proofs.YtkagolpnaicdoaaGreatDoor
section
open Go.RowKit Go.Maps Go.MapKept Go.ChangeMaps
section
variable {κ ν : Type}
def Ao[DecidableEq κ](F:List (κ × ν))(x:κ):Option ν:=(F.find? (fun p=>p.1==x)).map (·.2)
def Bd[DecidableEq κ]:List (κ × ν)→κ→ν→List (κ × ν)
 |[],x,v=>[(x,v)]
 |p::r,x,v=>if p.1=x then(x,v)::r else p::Bd r x v
def C6[DecidableEq κ](F:List (κ × ν))(x:κ):List (κ × ν):=F.filter (fun p=>p.1≠x)
def Bh(F:List (κ × ν)):List κ:=F.map (·.1)
structure G6(P:Program)(t k e:TypeId)(κ ν:Type) where
 K:Keyed P k
 ht:P.underlying t=some (.map k e)
 kv:κ→Value
 mv:ν→Value
 ok:κ→Prop
 inj:∀{a b},kv a=kv b→a=b
 key:∀{a},ok a→∃l,keyOf P k (kv a)=some l
 zero:ν
 hz:∀w,(zeroValue e).run P w=.ok (mv zero) w
variable {P : Program} {t k e : TypeId} (M : G6 P t k e κ ν)
def Dw(w:World)(b:Nat)(F:List (κ × ν)):Prop:=
 ∃es clock,w.heap[b]?=some (.map es clock)∧Stamped es clock∧es.toList.map (fun x=>(x.key,x.val))=F.map (fun p=>(M.kv p.1,M.mv p.2))∧∀p∈F,M.ok p.1
theorem X6{M:G6 P t k e κ ν}{es:List MapEntry}{F:List (κ × ν)}(h:es.map (fun x=>(x.key,x.val))=F.map (fun p=>(M.kv p.1,M.mv p.2))){j:Nat}{x:MapEntry}(hx:es[j]?=some x):
  ∃p,F[j]?=some p∧x.key=M.kv p.1∧x.val=M.mv p.2:=by
 have h1:=congrArg (fun l=>l[j]?) h;simp only[a0u,hx,Option.map_some] at h1
 cases hF:F[j]? with
 |none=>rw[hF] at h1;cases h1
 |some p=>rw[hF] at h1;simp at h1;exact⟨p,rfl,h1.1,h1.2⟩
theorem Dw.keys_nodup{M:G6 P t k e κ ν}{w:World}{b:Nat}{F:List (κ × ν)}(h:Dw M w b F):(Bh F).Nodup:=by
 obtain⟨es,clock,hb,hst,hF,hok⟩:=h;have h3:=((stamped_iff es clock).1 hst).2.2;unfold Bh List.Nodup;rw[List.pairwise_map]
 have h4:(es.toList.map (fun x=>(x.key,x.val))).Pairwise (fun p q=>p.1≠q.1):=by rw[List.pairwise_map];exact h3
 rw[hF,List.pairwise_map] at h4;exact h4.imp (fun hne e=>hne (by rw[e]))
theorem Dw.lt{M:G6 P t k e κ ν}{w:World}{b:Nat}{F:List (κ × ν)}(h:Dw M w b F):b<w.heap.size:=by
 obtain⟨es,clock,hb,_⟩:=h;exact(Array.getElem?_eq_some_iff.1 hb).1
theorem Dw.key_ok{M:G6 P t k e κ ν}{w:World}{b:Nat}{F:List (κ × ν)}(h:Dw M w b F){p:κ × ν}(hp:p∈F):M.ok p.1:=by
 obtain⟨es,clock,_,_,_,hok⟩:=h;exact hok p hp
theorem Dw.of_block{M:G6 P t k e κ ν}{w w':World}{b:Nat}{F:List (κ × ν)}(h:Dw M w b F)(hb:w'.heap[b]?=w.heap[b]?):Dw M w' b F:=by
 obtain⟨es,clock,h1,h2⟩:=h;exact⟨es,clock,hb.trans h1,h2⟩
theorem Dw.made(w:World):Dw M (w.alloc (.map #[] 0)) w.heap.size []:=
 ⟨#[],0,(MapKept.heap_alloc w _).1,stamped_empty 0,rfl,by simp⟩
theorem U5[DecidableEq κ]{F:List (κ × ν)}{x:κ}(h:∀p∈F,p.1≠x):Ao F x=none:=by
 unfold Ao;rw[List.find?_eq_none.2]
 ·rfl
 ·intro p hp;simpa using h p hp
theorem U6[DecidableEq κ]:∀{F:List (κ × ν)} (_ :(Bh F).Nodup) {x:κ} {v:ν} (_ :(x,v)∈F),Ao F x=some v
 |[],_,_,_,h=>by cases h
 |p::r,hn,x,v,h=>by
  unfold Bh at hn;rw[a2z,a0v] at hn;unfold Ao
  rcases List.mem_cons.1 h with rfl|h
  ·simp
  ·have:p.1≠x:=fun e=>hn.1 (List.mem_map.2 ⟨(x,v),h,e.symm⟩)
   rw[a1x];simp only[beq_eq_false_iff_ne.2 this];exact U6 hn.2 h
theorem eK[DecidableEq κ]{F:List (κ × ν)}{x:κ}{v:ν}(h:Ao F x=some v):(x,v)∈F:=by
 unfold Ao at h
 cases hf:F.find? (fun p=>p.1==x) with
 |none=>rw[hf] at h;cases h
 |some p=>
  rw[hf] at h;have h1:=List.mem_of_find?_eq_some hf;have h2:=List.find?_some hf;simp at h2 h;subst h2;subst h;exact h1
theorem U7[DecidableEq κ]{F:List (κ × ν)}{x:κ}:Ao F x=none↔∀p∈F,p.1≠x:=by
 constructor
 ·intro h p hp e;unfold Ao at h;rw[Option.map_eq_none_iff,List.find?_eq_none] at h;have:=h p hp;simp[e] at this
 ·exact U5
theorem Dw.find{M:G6 P t k e κ ν}{F:List (κ × ν)}{w:World}{es:Array MapEntry}(hF:es.toList.map (fun x=>(x.key,x.val))=F.map (fun p=>(M.kv p.1,M.mv p.2)))(hok:∀p∈F,M.ok p.1){x:κ}(hx:M.ok x):
  ((Instr.findKey k (M.kv x) es.toList).run P w=.ok none w∧(∀y∈es.toList,y.key≠M.kv x)∧∀p∈F,p.1≠x)∨
  ∃j y v,(Instr.findKey k (M.kv x) es.toList).run P w=.ok (some (j,y.val)) w∧es.toList[j]?=some y∧F[j]?=some (x,v)∧y.key=M.kv x∧y.val=M.mv v:=by
 obtain⟨l,hl⟩:=M.key hx
 rcases M.K.find w hl es.toList (fun y hy=>by
  obtain⟨j,hj,rfl⟩:=a1w hy;obtain⟨p,hp,h1,_⟩:=X6 hF (a0x hj);rw[h1]
  exact M.key (hok p (a0w hp))) with⟨h1,h2⟩|⟨j,y,h1,h2,h3⟩
 ·refine Or.inl ⟨h1,h2,fun p hp e=>?_⟩;have hm:(M.kv p.1,M.mv p.2)∈F.map (fun p=>(M.kv p.1,M.mv p.2)):=List.mem_map.2 ⟨p,hp,rfl⟩;rw[←hF] at hm;obtain⟨y,hy,he⟩:=List.mem_map.1 hm;have:y.key=M.kv p.1:=congrArg Prod.fst he;exact h2 y hy (by rw[this,e])
 ·obtain⟨p,hp,h4,h5⟩:=X6 hF h2;have:p.1=x:=M.inj (h4.symm.trans h3);exact Or.inr ⟨j,y,p.2,h1,h2,by rw[hp,←this],h3,h5⟩
theorem Dw.lookup[DecidableEq κ]{M:G6 P t k e κ ν}{w:World}{b:Nat}{F:List (κ × ν)}(h:Dw M w b F)(c:Bool){x:κ}(hx:M.ok x):
  (Instr.lookup t (.map (some b)) (M.kv x) c).run P w=.ok (if c then .tuple #[M.mv ((Ao F x).getD M.zero),.bool (Ao F x).isSome] else M.mv ((Ao F x).getD M.zero)) w:=by
 have hnd:=h.keys_nodup;obtain⟨es,clock,hb,hst,hF,hok⟩:=h;obtain⟨l,hl⟩:=M.key hx
 rcases Dw.find (w:=w) hF hok hx with⟨h1,_,h2⟩|⟨j,y,v,h1,h2,h3,h4,h5⟩
 ·rw[U5 h2]
  cases c<;>simp[Instr.lookup,run_underlying M.ht,MapKept.run_getObj_map hb,M.K.check w _ hl,h1,M.hz,Result.andThen]
 ·rw[U6 hnd (a0w h3)]
  cases c<;>simp[Instr.lookup,run_underlying M.ht,MapKept.run_getObj_map hb,M.K.check w _ hl,h1,h5,Result.andThen]
theorem R6[DecidableEq κ]:∀{F:List (κ × ν)} {x:κ} {v:ν} (_ :∀p∈F,p.1≠x),Bd F x v=F++[(x,v)]
 |[],_,_,_=>rfl
 |p::r,x,v,h=>by
  unfold Bd;rw[if_neg (h p (by simp)),R6 (fun q hq=>h q (by simp[hq]))];rfl
theorem eL[DecidableEq κ]:∀{F:List (κ × ν)} (_ :(Bh F).Nodup) {x:κ} {v v0:ν} {j:Nat} (_ :F[j]?=some (x,v0)),Bd F x v=F.set j (x,v)
 |[],_,_,_,_,_,h=>by simp at h
 |p::r,hn,x,v,v0,j,h=>by
  unfold Bh at hn;rw[a2z,a0v] at hn;unfold Bd
  cases j with
  |zero=>simp at h;subst h;simp
  |succ j=>
   simp at h
   have:p.1≠x:=fun e=>hn.1 (List.mem_map.2 ⟨(x,v0),a0w h,e.symm⟩)
   rw[if_neg this,eL hn.2 h];rfl
theorem X7[DecidableEq κ]{F:List (κ × ν)}{x:κ}{v:ν}{p:κ × ν}:p∈Bd F x v→p∈F∨p=(x,v):=by
 induction F with
 |nil=>intro h;right;simpa [Bd] using h
 |cons q r ih=>
  intro h;unfold Bd at h;split at h
  ·rcases List.mem_cons.1 h with rfl|h
   ·exact Or.inr rfl
   ·exact Or.inl (by simp[h])
  ·rcases List.mem_cons.1 h with rfl|h
   ·exact Or.inl (by simp)
   ·rcases ih h with h|h
    ·exact Or.inl (by simp[h])
    ·exact Or.inr h
theorem Dw.update[DecidableEq κ]{M:G6 P t k e κ ν}{w:World}{b:Nat}{F:List (κ × ν)}(h:Dw M w b F){x:κ}(hx:M.ok x)(v:ν):
  ∃es' clock',(Instr.mapUpdate t (.map (some b)) (M.kv x) (M.mv v)).run P w=.ok () (setBlock w b (.map es' clock'))∧Dw M (setBlock w b (.map es' clock')) b (Bd F x v)∧
   (∀es0 clock0,w.heap[b]?=some (.map es0 clock0)→(Ao F x).isSome=true→clock'=clock0∧es'.toList.map (·.born)=es0.toList.map (·.born)):=by
 have hnd:=h.keys_nodup;obtain⟨es,clock,hb,hst,hF,hok⟩:=h;obtain⟨l,hl⟩:=M.key hx
 have hok':∀p∈Bd F x v,M.ok p.1:=fun p hp=>by
  rcases X7 hp with h|rfl
  ·exact hok p h
  ·exact hx
 rcases Dw.find (w:=w) hF hok hx with⟨h1,h0,h2⟩|⟨j,y,v0,h1,h2,h3,h4,h5⟩
 ·refine⟨es.push ⟨M.kv x,M.mv v,clock⟩,clock+1,?_,⟨_,_,heap_setBlock_same hb _,stamped_push hst h0,?_,hok'⟩,?_⟩
  ·simp[Instr.mapUpdate,run_underlying M.ht,MapKept.run_getObj_map hb,M.K.check w false hl,h1,MapKept.run_setObj_map _ hb,Result.andThen,setBlock]
  ·rw[R6 h2];simp[hF]
  ·intro es0 clock0 _ hs;rw[U5 h2] at hs;cases hs
 ·have hj:es[j]?=some y:=by simpa using h2
  have hmod:(es.modify j (fun e'=>{e' with key:=M.kv x,val:=M.mv v})).toList=es.toList.set j {y with key:=M.kv x,val:=M.mv v}:=by rw[Array.toList_modify,modify_eq_set _ _ _ _ h2]
  refine⟨es.modify j (fun e'=>{e' with key:=M.kv x,val:=M.mv v}),clock,?_,⟨_,_,heap_setBlock_same hb _,stamped_modify hst _ _ (fun _ _=>rfl) (fun e' _ he'=>by rw[hj] at he';cases he';exact h4.symm),?_,hok'⟩,?_⟩
  ·simp[Instr.mapUpdate,run_underlying M.ht,MapKept.run_getObj_map hb,M.K.check w false hl,h1,hj,h4,M.K.stays w hl,MapKept.run_setObj_map _ hb,Result.andThen,setBlock]
  ·rw[eL hnd h3,hmod,a2x,a2x,hF]
  ·intro es0 clock0 hb0 _;rw[hb] at hb0;cases hb0;refine⟨rfl,?_⟩;rw[hmod,a2x];apply List.ext_getElem?;intro i;rw[List.getElem?_set];split
   ·rename_i e;subst e;rw[a0u,h2];split
    ·rfl
    ·rename_i hlt;exact absurd (by simpa using(List.getElem?_eq_some_iff.1 h2).1) hlt
   ·rfl
theorem U8[DecidableEq κ]{F:List (κ × ν)}{x:κ}(h:∀p∈F,p.1≠x):C6 F x=F:=by
 unfold C6;rw[List.filter_eq_self];intro p hp
 simpa using h p hp
theorem eM[DecidableEq κ]:∀{F:List (κ × ν)} (_ :(Bh F).Nodup) {x:κ} {v0:ν} {j:Nat} (_ :F[j]?=some (x,v0)),C6 F x=F.eraseIdx j
 |[],_,_,_,_,h=>by simp at h
 |p::r,hn,x,v0,j,h=>by
  unfold Bh at hn;rw[a2z,a0v] at hn;unfold C6
  cases j with
  |zero=>
   simp at h;subst h;rw[a1z];simp only[ne_eq,not_true_eq_false,decide_false,Bool.false_eq_true,if_false,List.eraseIdx_zero,List.tail_cons];exact U8 (fun q hq e=>hn.1 (List.mem_map.2 ⟨q,hq,e⟩))
  |succ j=>
   simp at h
   have:p.1≠x:=fun e=>hn.1 (List.mem_map.2 ⟨(x,v0),a0w h,e.symm⟩)
   rw[a1z,if_pos (by simpa using this),List.eraseIdx_cons_succ];exact congrArg _ (eM hn.2 h)
theorem Dw.delete[DecidableEq κ]{M:G6 P t k e κ ν}{w:World}{b:Nat}{F:List (κ × ν)}(h:Dw M w b F){x:κ}(hx:M.ok x)(ty:TypeId):
  ∃es' clock',(Builtin.delete_ #[t,k] ty #[.map (some b),M.kv x]).run P w=.ok (.tuple #[]) (setBlock w b (.map es' clock'))∧Dw M (setBlock w b (.map es' clock')) b (C6 F x):=by
 have hnd:=h.keys_nodup;obtain⟨es,clock,hb,hst,hF,hok⟩:=h;obtain⟨l,hl⟩:=M.key hx
 have hok':∀p∈C6 F x,M.ok p.1:=fun p hp=>hok p ((List.mem_filter.1 hp).1)
 rcases Dw.find (w:=w) hF hok hx with⟨h1,h0,h2⟩|⟨j,y,v0,h1,h2,h3,h4,h5⟩
 ·refine⟨es,clock,?_,_,_,heap_setBlock_same hb _,hst,?_,hok'⟩
  ·simp[Builtin.delete_,run_underlying M.ht,MapKept.run_getObj_map hb,M.K.check w _ hl,h1,MapKept.run_setObj_map _ hb,Result.andThen,setBlock]
  ·rw[U8 h2];exact hF
 ·refine⟨es.eraseIdxIfInBounds j,clock,?_,_,_,heap_setBlock_same hb _,stamped_erase hst j,?_,hok'⟩
  ·simp[Builtin.delete_,run_underlying M.ht,MapKept.run_getObj_map hb,M.K.check w _ hl,h1,MapKept.run_setObj_map _ hb,Result.andThen,setBlock]
  ·rw[eM hnd h3];have hjl:j<es.toList.length:=(List.getElem?_eq_some_iff.1 h2).1
   have:(es.eraseIdxIfInBounds j).toList=es.toList.eraseIdx j:=by
    have hjs:j<es.size:=by simpa using hjl
    simp only[Array.eraseIdxIfInBounds,dif_pos hjs,Array.toList_eraseIdx]
   rw[this,map_eraseIdx,map_eraseIdx,hF]
theorem Dw.len{M:G6 P t k e κ ν}{w:World}{b:Nat}{F:List (κ × ν)}(h:Dw M w b F)(ty:TypeId):
  (Builtin.len_ #[t] ty #[.map (some b)]).run P w=.ok (.int .i64 F.length) w:=by
 obtain⟨es,clock,hb,hst,hF,hok⟩:=h
 have:es.size=F.length:=by have:=congrArg List.length hF;simpa using this
 simp[Builtin.len_,run_underlying M.ht,MapKept.run_getObj_map hb,Result.andThen,goInt,this]
def G7(w:World)(b r:Nat)(F:List (κ × ν))(done:List κ):Prop:=
 ∃es clock since seen c0,w.heap[b]?=some (.map es clock)∧Stamped es clock∧es.toList.map (fun x=>(x.key,x.val))=F.map (fun p=>(M.kv p.1,M.mv p.2))∧(∀p∈F,M.ok p.1)∧
  w.heap[r]?=some (.mapIter (some b) since seen c0)∧(∀x∈es.toList,x.born<since)∧since≤c0∧since≤clock∧
  (∀(j:Nat) (x:MapEntry) (p:κ × ν),es.toList[j]?=some x→F[j]?=some p→(seen.contains x.born=true↔p.1∈done))
theorem G7.map{M:G6 P t k e κ ν}{w:World}{b r:Nat}{F:List (κ × ν)}{done:List κ}(h:G7 M w b r F done):Dw M w b F:=by
 obtain⟨es,clock,since,seen,c0,h1,h2,h3,h4,_⟩:=h;exact⟨es,clock,h1,h2,h3,h4⟩
theorem G7.ne{M:G6 P t k e κ ν}{w:World}{b r:Nat}{F:List (κ × ν)}{done:List κ}(h:G7 M w b r F done):r≠b:=by
 obtain⟨es,clock,since,seen,c0,h1,_,_,_,h5,_⟩:=h;rintro rfl;rw[h1] at h5;cases h5
theorem G7.of_block{M:G6 P t k e κ ν}{w w':World}{b r:Nat}{F:List (κ × ν)}{done:List κ}(h:G7 M w b r F done)(hb:w'.heap[b]?=w.heap[b]?)(hr:w'.heap[r]?=w.heap[r]?):G7 M w' b r F done:=by
 obtain⟨es,clock,since,seen,c0,h1,h2,h3,h4,h5,h6⟩:=h;exact⟨es,clock,since,seen,c0,hb.trans h1,h2,h3,h4,hr.trans h5,h6⟩
theorem Dw.range{M:G6 P t k e κ ν}{w:World}{b:Nat}{F:List (κ × ν)}(h:Dw M w b F):
  ∃o,(Instr.range t (.map (some b))).run P w=.ok (.pointer (some ⟨w.heap.size,0,none⟩)) (w.alloc o)∧G7 M (w.alloc o) b w.heap.size F []:=by
 have hlt:=h.lt;obtain⟨es,clock,hb,hst,hF,hok⟩:=h;refine⟨_,run_range_map w t k e b es clock M.ht hb,es,clock,clock,#[],clock,((MapKept.heap_alloc w _).2 b hlt).trans hb,hst,hF,hok,(MapKept.heap_alloc w _).1,((stamped_iff es clock).1 hst).1,a1u _,a1u _,?_⟩;intro j x p _ _;simp
theorem G7.next{M:G6 P t k e κ ν}{w:World}{b r:Nat}{F:List (κ × ν)}{done:List κ}(h:G7 M w b r F done)(ty:TypeId):
  ((∀x∈Bh F,x∈done)∧(Instr.next (.pointer (some ⟨r,0,none⟩)) false ty).run P w=.ok (.tuple #[.bool false]) w)∨
  ∃x v w1 o,(x,v)∈F∧x∉done∧(w1=w∨w1=w.drew)∧(Instr.next (.pointer (some ⟨r,0,none⟩)) false ty).run P w=.ok (.tuple #[.bool true,M.kv x,M.mv v]) (setBlock w1 r o)∧
   G7 M (setBlock w1 r o) b r F (done++[x])∧(Instr.entry (.pointer (some ⟨r,0,none⟩))).run P (setBlock w1 r o)=.ok (.tuple #[M.kv x,M.mv v]) (setBlock w1 r o):=by
 have hnd:=h.map.keys_nodup;have hne:=h.ne;obtain⟨es,clock,since,seen,c0,hb,hst,hF,hok,hr,hold,hsc,hsk,hseen⟩:=h
 rcases run_next_at (P:=P) w ty r b since c0 seen es clock hr hb hold hsc with⟨h0,hrun⟩|⟨y,hy,w1,hal,hrun⟩
 ·refine Or.inl ⟨fun x hx=>?_,hrun⟩;obtain⟨p,hp,rfl⟩:=List.mem_map.1 hx;obtain⟨j,hj,rfl⟩:=a1w hp
  have hlen:es.toList.length=F.length:=by have:=congrArg List.length hF;simpa using this
  have hj':j<es.toList.length:=by omega
  refine(hseen j es.toList[j] F[j] (a0x hj') (a0x hj)).1 ?_;exact all_seen es seen h0 _ (List.getElem_mem hj')
 ·have hy':y∈es.toList∧seen.contains y.born=false:=by
   unfold leftOf at hy;simp at hy;refine⟨by simpa using hy.1,by simpa using hy.2⟩
  obtain⟨j,hj,hjy⟩:=a1w hy'.1;obtain⟨p,hp,hk,hv⟩:=X6 hF (a0x hj);rw[hjy] at hk hv
  have hnot:p.1∉done:=fun hd=>by
   have:=(hseen j y p (by rw[←hjy];exact a0x hj) hp).2 hd;rw[hy'.2] at this;cases this
  have hw1:w1.heap=w.heap:=by rcases hal with rfl|rfl<;>rfl
  rw[hk,hv] at hrun
  have hb1:(setBlock w1 r (.mapIter (some b) since (seen.push y.born) clock)).heap[b]?=some (.map es clock):=by
   simp only[setBlock,hw1,Array.getElem?_setIfInBounds,if_neg hne];exact hb
  have hr1:(setBlock w1 r (.mapIter (some b) since (seen.push y.born) clock)).heap[r]?=some (.mapIter (some b) since (seen.push y.born) clock):=by
   have hlt:=(Array.getElem?_eq_some_iff.1 hr).1;simp[setBlock,hw1,hlt]
  refine Or.inr ⟨p.1,p.2,w1,_,a0w hp,hnot,hal,hrun,⟨es,clock,since,seen.push y.born,clock,hb1,hst,hF,hok,hr1,hold,hsk,hsk,?_⟩,?_⟩
  ·intro i x q hx hq;have hseen1:=hseen i x q hx hq;rw[Array.contains_push];simp only[Bool.or_eq_true,List.mem_append,List.mem_singleton];rw[hseen1];refine or_congr Iff.rfl ?_;have hborn:=((stamped_iff es clock).1 hst).2.1;constructor
   ·intro hbe
    have hbe':x.born=y.born:=by simpa using hbe
    have:i=j:=by
     have hi:i<es.toList.length:=(List.getElem?_eq_some_iff.1 hx).1;have e1:=List.getElem?_eq_some_iff.1 hx;obtain⟨_,e1⟩:=e1
     have hb2:(es.toList.map (·.born))[i]'(by simpa using hi)=(es.toList.map (·.born))[j]'(by simpa using hj):=by
      simp only[List.getElem_map,e1,hjy,hbe']
     exact(List.getElem_inj hborn).1 hb2
    subst this;rw[hp] at hq;cases hq;rfl
   ·intro hqe
    have:i=j:=by
     have hi:i<F.length:=(List.getElem?_eq_some_iff.1 hq).1;obtain⟨_,e1⟩:=List.getElem?_eq_some_iff.1 hq;have hj2:j<F.length:=(List.getElem?_eq_some_iff.1 hp).1;obtain⟨_,e2⟩:=List.getElem?_eq_some_iff.1 hp
     have hb2:(Bh F)[i]'(by simpa [Bh] using hi)=(Bh F)[j]'(by simpa [Bh] using hj2):=by
      simp only[Bh,List.getElem_map,e1,e2,hqe]
     exact(List.getElem_inj hnd).1 hb2
    subst this;rw[a0x hj,hjy] at hx;cases hx;simp
  ·rw[←hk,←hv];exact run_entry_at _ r b since seen es clock y hr1 hb1 hy'.1 ((stamped_iff es clock).1 hst).2.1
theorem U9[DecidableEq κ]:∀{F:List (κ × ν)} {x:κ} {v:ν} (_ :(Ao F x).isSome=true),Bh (Bd F x v)=Bh F
 |[],_,_,h=>by cases h
 |p::r,x,v,h=>by
  unfold Bd
  by_cases e:p.1=x
  ·rw[if_pos e];simp[Bh,e]
  ·rw[if_neg e]
   have h':(Ao r x).isSome=true:=by
    unfold Ao at h ⊢;rw[a1x,beq_eq_false_iff_ne.2 e] at h;exact h
   have:=U9 (v:=v) h';unfold Bh at this ⊢;simp[this]
theorem G7.put[DecidableEq κ]{M:G6 P t k e κ ν}{w w':World}{b r:Nat}{F:List (κ × ν)}{done:List κ}(h:G7 M w b r F done){x:κ}{v:ν}(hx:(Ao F x).isSome=true)
  {es':Array MapEntry}{clock':Nat}(hb:w'.heap[b]?=some (.map es' clock'))(hr:w'.heap[r]?=w.heap[r]?)(hm:Dw M w' b (Bd F x v))
  (hk:∀es0 clock0,w.heap[b]?=some (.map es0 clock0)→(Ao F x).isSome=true→clock'=clock0∧es'.toList.map (·.born)=es0.toList.map (·.born)):G7 M w' b r (Bd F x v) done:=by
 obtain⟨es,clock,since,seen,c0,h1,h2,h3,h4,h5,h6,h7,h8,h9⟩:=h;obtain⟨rfl,hborn⟩:=hk es clock h1 hx;obtain⟨es2,clock2,g1,g2,g3,g4⟩:=hm;rw[hb] at g1;cases g1;have hkeys:=U9 (v:=v) hx;refine⟨es',clock',since,seen,c0,hb,g2,g3,g4,hr.trans h5,?_,h7,h8,?_⟩
 ·intro y hy;have:y.born∈es'.toList.map (·.born):=List.mem_map.2 ⟨y,hy,rfl⟩;rw[hborn] at this;obtain⟨z,hz,hzb⟩:=List.mem_map.1 this;rw[←hzb];exact h6 z hz
 ·intro j y p hy hp;have e1:=congrArg (fun l=>l[j]?) hborn;simp only[a0u,hy,Option.map_some] at e1
  cases hz:es.toList[j]? with
  |none=>rw[hz] at e1;cases e1
  |some z=>
   rw[hz] at e1;simp only[Option.map_some,Option.some.injEq] at e1;have e2:=congrArg (fun l=>l[j]?) hkeys;simp only[Bh,a0u,hp,Option.map_some] at e2
   cases hq:F[j]? with
   |none=>rw[hq] at e2;cases e2
   |some q=>
    rw[hq] at e2;simp only[Option.map_some,Option.some.injEq] at e2;rw[e1,e2];exact h9 j z q hz hq
theorem Hn[DecidableEq κ]{p:κ × ν}{r:List (κ × ν)}{x:κ}(h:p.1=x):Ao (p::r) x=some p.2:=by
 unfold Ao;rw[a1x];simp[h]
theorem Je[DecidableEq κ]{p:κ × ν}{r:List (κ × ν)}{x:κ}(h:p.1≠x):Ao (p::r) x=Ao r x:=by
 unfold Ao;rw[a1x,beq_eq_false_iff_ne.2 h]
theorem Va[DecidableEq κ](F:List (κ × ν))(x:κ)(v:ν):Ao (Bd F x v) x=some v:=by
 induction F with
 |nil=>simp[Bd,Ao]
 |cons p r ih=>
  unfold Bd
  by_cases e:p.1=x
  ·rw[if_pos e];exact Hn rfl
  ·rw[if_neg e,Je e];exact ih
theorem sK[DecidableEq κ](F:List (κ × ν)){x y:κ}(h:x≠y)(v:ν):Ao (Bd F x v) y=Ao F y:=by
 induction F with
 |nil=>simp[Bd,Ao,h]
 |cons p r ih=>
  unfold Bd
  by_cases e:p.1=x
  ·rw[if_pos e,Je (p:=(x,v)) h,Je (by rw[e];exact h)]
  ·rw[if_neg e]
   by_cases e2:p.1=y
   ·rw[Hn e2,Hn e2]
   ·rw[Je e2,Je e2,ih]
theorem sL[DecidableEq κ](F:List (κ × ν))(x:κ):Ao (C6 F x) x=none:=by
 refine U5 fun p hp=>?_
 have:=(List.mem_filter.1 hp).2
 simpa using this
theorem sM[DecidableEq κ](F:List (κ × ν)){x y:κ}(h:x≠y):Ao (C6 F x) y=Ao F y:=by
 induction F with
 |nil=>rfl
 |cons p r ih=>
  unfold C6 at ih ⊢
  by_cases e:p.1=x
  ·rw[a1z,if_neg (by simp[e]),Je (by rw[e];exact h)];exact ih
  ·rw[a1z,if_pos (by simpa using e)]
   by_cases e2:p.1=y
   ·rw[Hn e2,Hn e2]
   ·rw[Je e2,Je e2,ih]
def En[DecidableEq κ](g:ν→ν)(done:List κ)(F:List (κ × ν)):List (κ × ν):=F.map (fun p=>if p.1∈done then(p.1,g p.2) else p)
def K1(g:ν→ν)(F:List (κ × ν)):List (κ × ν):=F.map (fun p=>(p.1,g p.2))
theorem X8[DecidableEq κ](g:ν→ν)(done:List κ)(F:List (κ × ν)):Bh (En g done F)=Bh F:=by
 unfold Bh En;rw[List.map_map]
 exact a1v fun p _=>by simp only[Function.comp];split<;>rfl
theorem sN[DecidableEq κ]{g:ν→ν}{done:List κ}{F:List (κ × ν)}{x:κ}{v:ν}(h:(x,v)∈En g done F)(hx:x∉done):(x,v)∈F:=by
 unfold En at h;obtain⟨p,hp,he⟩:=List.mem_map.1 h;split at he
 ·rename_i hd;have:p.1=x:=congrArg Prod.fst he;exact absurd (this▸hd) hx
 ·exact he▸hp
theorem eN[DecidableEq κ]{g:ν→ν}{done:List κ}:∀{F:List (κ × ν)} (_ :(Bh F).Nodup) {x:κ} {v:ν} (_ :(x,v)∈F) (_ :x∉done),Bd (En g done F) x (g v)=En g (done++[x]) F
 |[],_,_,_,h,_=>by cases h
 |p::r,hn,x,v,h,hx=>by
  unfold Bh at hn;rw[a2z,a0v] at hn
  have hc:∀d,En g d (p::r)=(if p.1∈d then(p.1,g p.2) else p)::En g d r:=fun d=>rfl
  rw[hc,hc]
  rcases List.mem_cons.1 h with rfl|h
  ·rw[if_neg hx,if_pos (by simp)];unfold Bd;rw[if_pos rfl];refine congrArg _ ?_;unfold En
   refine a1v fun q hq=>?_
   have:q.1≠x:=fun e=>hn.1 (List.mem_map.2 ⟨q,hq,e⟩)
   simp[this]
  ·have hne:p.1≠x:=fun e=>hn.1 (List.mem_map.2 ⟨(x,v),h,e.symm⟩)
   have e1:(if p.1∈done++[x] then(p.1,g p.2) else p)=if p.1∈done then(p.1,g p.2) else p:=by simp[hne]
   rw[e1];unfold Bd;rw[if_neg (by split<;>exact hne),eN hn.2 h hx]
theorem eO[DecidableEq κ]{g:ν→ν}{done:List κ}{F:List (κ × ν)}(h:∀x∈Bh F,x∈done):En g done F=K1 g F:=by
 unfold En K1
 exact a1v fun p hp=>if_pos (h _ (List.mem_map.2 ⟨p,hp,rfl⟩))
theorem sO[DecidableEq κ](g:ν→ν)(done:List κ)(p:κ × ν)(r:List (κ × ν)):(p.1∈done∧En g done (p::r)=(p.1,g p.2)::En g done r)∨(p.1∉done∧En g done (p::r)=p::En g done r):=by
 have hc:En g done (p::r)=(if p.1∈done then(p.1,g p.2) else p)::En g done r:=rfl
 by_cases h:p.1∈done
 ·left;rw[hc,if_pos h];exact⟨h,rfl⟩
 ·right;rw[hc,if_neg h];exact⟨h,rfl⟩
theorem eP[DecidableEq κ]{g:ν→ν}{done:List κ}{F:List (κ × ν)}{x:κ}{v:ν}(h:(x,v)∈F)(hx:x∉done):(x,v)∈En g done F:=by
 unfold En;exact List.mem_map.2 ⟨(x,v),h,if_neg hx⟩
theorem X9[DecidableEq κ]:∀{a b:List κ} (_ :a.Nodup) (_ :∀x∈a,x∈b),a.length≤b.length
 |[],_,_,_=>Nat.zero_le _
 |x::r,b,ha,h=>by
  rw[a0v] at ha;have h1:=X9 (b:=b.erase x) ha.2 (fun y hy=>(List.mem_erase_of_ne (by rintro rfl;exact ha.1 hy)).2 (h y (by simp[hy])));have h2:=List.length_erase_of_mem (h x (by simp));have h3:=List.length_pos_of_mem (h x (by simp));simp only[List.length_cons];omega
theorem eQ[DecidableEq κ](g:ν→ν)(F:List (κ × ν)):En g ([]:List κ) F=F:=by
 unfold En;simp
end
end
section
section
open Go.RowKit Go.Maps Go.MapKept Go.ChangeMaps
structure Fp(S:List Nat)(w w':World):Prop where
 os:w'.os=w.os
 tape:w'.tape=w.tape
 output:w'.output=w.output
 size:w.heap.size≤w'.heap.size
 block:∀k,k<w.heap.size→k∉S→w'.heap[k]?=w.heap[k]?
theorem Fp.refl(S:List Nat)(w:World):Fp S w w:=⟨rfl,rfl,rfl,a1u _,fun _ _ _=>rfl⟩
theorem Fp.trans{S S':List Nat}{a b c:World}(h:Fp S a b)(k:Fp S' b c)(hs:∀i∈S',i∈S∨a.heap.size≤i):Fp S a c:=
 ⟨k.os.trans h.os,k.tape.trans h.tape,k.output.trans h.output,Nat.le_trans h.size k.size,fun i hi hn=>
  (k.block i (Nat.lt_of_lt_of_le hi h.size) (fun hm=>by rcases hs i hm with h1|h1;exact hn h1;omega)).trans (h.block i hi hn)⟩
theorem Fp.mono{S S':List Nat}{a b:World}(h:Fp S a b)(hs:∀i∈S,i∈S'):Fp S' a b:=
 ⟨h.os,h.tape,h.output,h.size,fun i hi hn=>h.block i hi (fun hm=>hn (hs i hm))⟩
theorem Fp.alloc(w:World)(o:Obj):Fp [] w (w.alloc o):=⟨rfl,rfl,rfl,by simp,fun k hk _=>Below.heap_alloc _ _ _ hk⟩
theorem Fp.setCell(w:World)(p:Addr)(u:Value):Fp [p.block] w (w.setCell p u):=
 ⟨rfl,rfl,rfl,by simp[World.setCell],fun k _ hn=>Below.heap_setCell _ _ _ _ (by simpa using hn)⟩
theorem Fp.setBlock(w:World)(b:Nat)(o:Obj):Fp [b] w (setBlock w b o):=
 ⟨rfl,rfl,rfl,by simp[ChangeMaps.setBlock],fun k _ hn=>by
  have:b≠k:=fun e=>hn (by simp[e])
  simp[ChangeMaps.setBlock,this]⟩
theorem Fp.drew(w:World):Fp [] w w.drew:=⟨rfl,rfl,rfl,a1u _,fun _ _ _=>rfl⟩
theorem Fp.alloc'{S:List Nat}{a w:World}(h:Fp S a w)(o:Obj):Fp S a (w.alloc o):=h.trans (Fp.alloc w o) (by simp)
theorem Fp.drew'{S:List Nat}{a w:World}(h:Fp S a w):Fp S a w.drew:=h.trans (Fp.drew w) (by simp)
theorem Fp.setCell'{S:List Nat}{a w:World}(h:Fp S a w){p:Addr}(hp:p.block∈S∨a.heap.size≤p.block)(u:Value):Fp S a (w.setCell p u):=h.trans (Fp.setCell w p u) (by simpa using hp)
theorem Fp.setBlock'{S:List Nat}{a w:World}(h:Fp S a w){b:Nat}(hb:b∈S∨a.heap.size≤b)(o:Obj):Fp S a (ChangeMaps.setBlock w b o):=h.trans (Fp.setBlock w b o) (by simpa using hb)
theorem Fp.drewN(w:World)(n:Nat):Fp [] w (w.drewN n):=⟨rfl,rfl,rfl,a1u _,fun _ _ _=>rfl⟩
theorem Fp.cell{S:List Nat}{w w':World}(h:Fp S w w'){p:Addr}(hp:p.block<w.heap.size)(hn:p.block∉S):w'.cell? p=w.cell? p:=World.cell?_of_block (w:=w) (h.block p.block hp hn)
theorem Fp.below{w w':World}{S:List Nat}(h:Fp S w w'){B:Nat}(hB:B≤w.heap.size)(hs:∀i∈S,B≤i):Below B w w':=
 ⟨h.os,h.tape,h.output,h.size,fun k hk=>h.block k (by omega) (fun hm=>by have:=hs k hm;omega)⟩
theorem Below.toFp{w w':World}(h:Below w.heap.size w w'):Fp [] w w':=⟨h.os,h.tape,h.output,h.size,fun k hk _=>h.block k hk⟩
theorem Fp.belowTrans{a b c:World}(h:Fp [] a b)(k:Below a.heap.size b c):Fp [] a c:=
 ⟨k.os.trans h.os,k.tape.trans h.tape,k.output.trans h.output,Nat.le_trans h.size k.size,fun i hi hn=>(k.block i hi).trans (h.block i hi hn)⟩
theorem Bm{w:World}{b o:Nat}{c:Array Value}{T:TypeId}{fr:Nat × Nat}(h:w.heap[b]?=some (.cells c T fr))(v:Value):
  (w.setCell ⟨b,o,none⟩ v).heap[b]?=some (.cells (c.setIfInBounds o v) T fr):=by
 simp[World.setCell,Array.getElem?_modify,h]
theorem Jf{w:World}{b b' o:Nat}(hn:b≠b')(v:Value):(w.setCell ⟨b',o,none⟩ v).heap[b]?=w.heap[b]?:=Below.heap_setCell _ _ _ _ hn
theorem Cb{w:World}{b:Nat}{o o':Obj}(h:w.heap[b]?=some o):(w.alloc o').heap[b]?=some o:=by
 rw[Below.heap_alloc _ _ _ (Array.getElem?_eq_some_iff.1 h).1];exact h
theorem Ai{w:World}{n:Nat}(h:n=w.heap.size)(o:Obj):(w.alloc o).heap[n]?=some o:=by
 subst h;exact(MapKept.heap_alloc w o).1
theorem Ab{w:World}{b:Nat}{o:Obj}(h:w.heap[b]?=some o):b<w.heap.size:=(Array.getElem?_eq_some_iff.1 h).1
theorem Aa{w:World}{b:Nat}{c:Array Value}{T:TypeId}{fr:Nat × Nat}(h:w.heap[b]?=some (.cells c T fr))(o:Nat):w.cell? ⟨b,o,none⟩=c[o]?:=by
 simp[World.cell?,h]
theorem Ar{w:World}{b:Nat}{c:Array Value}{T:TypeId}(h:w.heap[b]?=some (.cells c T (0,0)))(o:Nat):w.frozen? ⟨b,o,none⟩=false:=by
 simp[World.frozen?,h]
theorem Ls{a b:Bool}(h:a=b):Ending.returned (.bool a)=.returned (.bool b):=by rw[h]
theorem sP{k:IntKind}{a b:Int}(h:a=b):Ending.returned (.int k a)=.returned (.int k b):=by rw[h]
theorem sQ{a b:ByteArray}(h:a=b):Ending.returned (.string a)=.returned (.string b):=by rw[h]
theorem eR{s:ByteArray}(h:s.size=0):s.toList.isEmpty=true:=by
 rw[ByteArray.toList_eq];obtain⟨⟨l⟩⟩:=s
 cases l with
 |nil=>rfl
 |cons x r=>cases h
theorem O2{s:ByteArray}(h:0<s.size):s.toList.isEmpty=false:=by
 rw[ByteArray.toList_eq];obtain⟨⟨l⟩⟩:=s
 cases l with
 |nil=>exact absurd h (by decide)
 |cons x r=>rfl
end
section
open Go.RowKit
def K2(w:World):Prop:=∃m,w.cell? ⟨2,0,none⟩=some (.int .i64 m)
theorem K2.fp{w w':World}{S:List Nat}(h:K2 w)(hf:Fp S w w')(hs:2∉S):K2 w':=by
 obtain⟨m,hm⟩:=h;exact⟨m,by rw[hf.cell (World.block_lt_of_cell? _ _ hm) hs];exact hm⟩
end
end
section
open Go.RowKit Go.Maps Go.MapKept Go.ChangeMaps
structure A5 where
 s:ByteArray
 synced:Nat
structure Dk where
 cap:Int
 size:Int
 files:List (ByteArray × A5)
 off:Bool
 left:Int
 keep:Int
def Ya(f:A5):Value:=.agg #[.string f.s,.int .i64 f.synced]
noncomputable def fileTy:G6 Tryz.prog 116 9 251 ByteArray A5 where
 K:=string_keyed Tryz.underlying9
 ht:=Tryz.underlying116
 kv:=.string
 mv:=Ya
 ok:=fun s=>s.size≤maxLen
 inj:=fun h=>by cases h;rfl
 key:=fun h=>⟨_,Go.WideMaps.keyOf_string_mk Tryz.underlying9 h⟩
 zero:=⟨⟨#[]⟩,0⟩
 hz:=fun w=>by kernel_rfl
def sR(d:Dk)(bm:Nat):Array Value:=#[.int .i64 d.cap,.int .i64 d.size,.map (some bm),.bool d.off,.int .i64 d.left,.int .i64 d.keep]
structure Ah(w:World)(b bm:Nat)(d:Dk):Prop where
 cells:w.heap[b]?=some (.cells (sR d bm) 118 (0,0))
 files:Dw fileTy w bm d.files
theorem Ah.ne{w:World}{b bm:Nat}{d:Dk}(h:Ah w b bm d):b≠bm:=by
 rintro rfl;obtain⟨es,clock,h1,_⟩:=h.files;rw[h.cells] at h1;cases h1
theorem Ah.of_fp{w w':World}{S:List Nat}{b bm:Nat}{d:Dk}(h:Ah w b bm d)(hf:Fp S w w')(h1:b∉S)(h2:bm∉S):Ah w' b bm d:=
 ⟨(hf.block b (Ab h.cells) h1).trans h.cells,h.files.of_block (hf.block bm h.files.lt h2)⟩
def A3:A5:=⟨⟨#[]⟩,0⟩
def Bj(d:Dk)(name:ByteArray):A5:=(Ao d.files name).getD A3
def Dk.set(d:Dk)(name:ByteArray)(f:A5)(gone:Bool):Dk:=
 {d with size:=d.size+(f.s.size-(Bj d name).s.size),files:=if gone then C6 (Bd d.files name f) name else Bd d.files name f}
end
section
open Go.RowKit Go.Maps Go.MapKept Go.ChangeMaps
theorem sS(w:World)(s:ByteArray)(n:Int):(Instr.field 251 (.agg #[.string s,.int .i64 n]) 0).run Tryz.prog w=.ok (.string s) w:=by kernel_rfl
theorem sT{w:World}{b bm:Nat}{d:Dk}(h:Ah w b bm d)(n:Int):Ah (w.setCell ⟨b,1,none⟩ (.int .i64 n)) b bm {d with size:=n}:=
 ⟨by rw[Bm h.cells];rfl,h.files.of_block (Jf (Ne.symm h.ne) _)⟩
theorem eS{w:World}{b bm:Nat}{d:Dk}(h:Ah w b bm d)(o:Obj):Ah (w.alloc o) b bm d:=h.of_fp (Fp.alloc w o) (by simp) (by simp)
theorem Yb{w:World}{b bm:Nat}{d:Dk}(h:Ah w b bm d):Ah w.drew b bm d:=h.of_fp (Fp.drew w) (by simp) (by simp)
theorem eT{w:World}{b bm:Nat}{d:Dk}(h:Ah w b bm d){o:Obj}{F:List (ByteArray × A5)}(hm:Dw fileTy (setBlock w bm o) bm F):Ah (setBlock w bm o) b bm {d with files:=F}:=
 ⟨by rw[(Fp.setBlock w bm o).block b (Ab h.cells) (by simp[h.ne])];exact h.cells,hm⟩
def eU(w w':World)(bm b:Nat)(d:Dk)(name:ByteArray)(f:A5)(gone:Bool):Prop:=
 gone=false→(Ao d.files name).isSome=true→∀r done,r≠b→r≠bm→G7 fileTy w bm r d.files done→G7 fileTy w' bm r (Bd d.files name f) done
theorem eV{w:World}{b r:Nat}{F:List (ByteArray × A5)}{done:List ByteArray}(h:G7 fileTy w b r F done):r<w.heap.size:=by
 obtain⟨es,clock,since,seen,c0,h1,h2,h3,h4,h5,_⟩:=h;exact Ab h5
theorem O3(w:World)(b bm:Nat)(d:Dk)(name:ByteArray)(f:A5)(gone:Bool)(hd:Ah w b bm d)(hname:name.size≤maxLen)
  (h1:0≤d.size)(h2:d.size≤1000000000)(h3:f.s.size≤1000000000)(h4:(Bj d name).s.size≤1000000000):
  Calls Tryz.prog 188 #[.pointer (some ⟨b,0,none⟩),.string name,Ya f,.bool gone] w fun e w'=>e=.returned (.tuple #[])∧Ah w' b bm (d.set name f gone)∧Fp [b,bm] w w'∧eU w w' bm b d name f gone:=by
 have c1:w.cell? ⟨b,1,none⟩=some (.int .i64 d.size):=Aa hd.cells 1;have c2:w.cell? ⟨b,2,none⟩=some (.map (some bm)):=Aa hd.cells 2;have f1:w.frozen? ⟨b,1,none⟩=false:=Ar hd.cells 1;have hlt:=Ab hd.cells
 have hl:(Instr.lookup 116 (.map (some bm)) (.string name) false).run Tryz.prog ((w.alloc (.cells #[.string f.s,.int .i64 f.synced] 251)).drew)=.ok (.agg #[.string (Bj d name).s,.int .i64 (Bj d name).synced]) ((w.alloc (.cells #[.string f.s,.int .i64 f.synced] 251)).drew):=
  (Yb (eS hd _)).files.lookup false hname
 have hd1:=Yb (Yb (eS (sT hd (d.size+(↑f.s.size- ↑(Bj d name).s.size))) (.cells #[.string f.s,.int .i64 f.synced] 251)));obtain⟨es,clock,hu,hm,hborn⟩:=hd1.files.update (x:=name) hname f;have hd2:=eT hd1 hm
 change (Instr.mapUpdate 116 (.map (some bm)) (.string name) (.agg #[.string f.s,.int .i64 f.synced])).run Tryz.prog _ =_ at hu
 have hp:Fp [b,bm] w (setBlock ((w.setCell ⟨b,1,none⟩ (.int .i64 (d.size+(↑f.s.size- ↑(Bj d name).s.size)))).alloc (.cells #[.string f.s,.int .i64 f.synced] 251)).drew.drew bm (.map es clock)):=
  (((Fp.setCell w ⟨b,1,none⟩ _).mono (by simp)).trans ((Fp.alloc _ _).trans ((Fp.drew _).trans (Fp.drew _) (by simp)) (by simp)) (by simp)).trans (Fp.setBlock _ _ _) (by simp)
 have hro:eU w (setBlock ((w.setCell ⟨b,1,none⟩ (.int .i64 (d.size+(↑f.s.size- ↑(Bj d name).s.size)))).alloc (.cells #[.string f.s,.int .i64 f.synced] 251)).drew.drew bm (.map es clock)) bm b d name f false:=by
  intro _ hin r done h1 h2 hr
  have hbm:((w.setCell ⟨b,1,none⟩ (.int .i64 (d.size+(↑f.s.size- ↑(Bj d name).s.size)))).alloc (.cells #[.string f.s,.int .i64 f.synced] 251)).drew.drew.heap[bm]?=w.heap[bm]?:=by
   show((w.setCell _ _).alloc _).heap[bm]?=_;rw[Below.heap_alloc _ _ _ (by simpa [World.setCell] using hd.files.lt),Jf (Ne.symm hd.ne)]
  have hr':=eV hr;refine hr.put hin (heap_setBlock_same (hbm.trans (hr.map).choose_spec.choose_spec.1) _) ?_ hm (fun es0 clock0 h0=>hborn es0 clock0 (hbm.trans h0));rw[(Fp.setBlock _ _ _).block r (by simpa [World.setCell] using Nat.lt_succ_of_lt hr') (by simpa using h2)];show((w.setCell _ _).alloc _).heap[r]?=_;rw[Below.heap_alloc _ _ _ (by simpa [World.setCell] using hr'),Jf h1]
 have hfd:=sS
 obtain⟨w2,hw2⟩:∃w2,w2=setBlock ((w.setCell ⟨b,1,none⟩ (.int .i64 (d.size+(↑f.s.size- ↑(Bj d name).s.size)))).alloc (.cells #[.string f.s,.int .i64 f.synced] 251)).drew.drew bm (.map es clock):=⟨_,rfl⟩
 rw[←hw2] at hu hd2 hp hro;clear hw2 hm hborn;have c2':w2.cell? ⟨b,2,none⟩=some (.map (some bm)):=Aa hd2.cells 2;have HD2:=a0z hd2;have HP:=a0z hp;have HRO:=a0z hro;obtain⟨es3,clock3,hu3,hm3⟩:=hd2.files.delete (x:=name) hname 0;have HD3:=a0z (eT hd2 hm3);clear hd2 hp hd1 hm3 hro
 change (Builtin.delete_ #[116,9] 0 #[.map (some bm),.string name]).run Tryz.prog _ =_ at hu3
 unfold Ya;cases gone
 all_goals
  go_enter Tryz.func188,Tryz.ntmps188;go_wp2
  go_region
  go_wp2
  go_region
  go_wp2;go_end0
 ·exact⟨rfl,HD2.out,HP.out,HRO.out⟩
 ·exact⟨rfl,HD3.out,HP.out.trans (Fp.setBlock _ _ _) (by simp),fun h=>by cases h⟩
end
section
open Go.RowKit Go.Maps Go.MapKept Go.ChangeMaps
def Dl(s:ByteArray):Bool:=decide (1≤s.size∧s.size≤60)
def Dk.named(d:Dk)(names:List ByteArray):Int:=if d.off then 6 else if names.all Dl then 0 else 1
theorem eW{d:Dk}{names:List ByteArray}(ho:d.off=false){x:ByteArray}(hx:x∈names)(h:Dl x=false):d.named names=1:=by
 unfold Dk.named;rw[ho,if_neg (by simp),if_neg];intro h1;rw[List.all_eq_true.1 h1 x hx] at h;cases h
theorem Yc{d:Dk}{names:List ByteArray}(ho:d.off=false)(h:names.all Dl=true):d.named names=0:=by
 unfold Dk.named;rw[ho,if_neg (by simp),if_pos h]
theorem sU{x:ByteArray}(h:x.size=0):Dl x=false:=by simp[Dl,h]
theorem sV{x:ByteArray}(h:¬x.size≤60):Dl x=false:=by
 unfold Dl;exact decide_eq_false (by omega)
theorem Yd{x:ByteArray}(h:¬x.size=0)(h':x.size≤60):Dl x=true:=by
 unfold Dl;exact decide_eq_true (by omega)
theorem sW{l:List ByteArray}{f:ByteArray→Bool}{k:Nat}(hk:k<l.length)(h:(l.take k).all f=true)(hx:f l[k]=true):(l.take (k+1)).all f=true:=by
 rw[List.take_succ_eq_append_getElem hk,List.all_append,h];simp[hx]
theorem Vb(w:World)(b bm sb:Nat)(d:Dk)(names:List ByteArray)(hd:Ah w b bm d)(hs:w.heap[sb]?=some (.cells (names.map Value.string).toArray 9 (0,0)))(hn:names.length≤1000):
  Calls Tryz.prog 175 #[.pointer (some ⟨b,0,none⟩),.slice (some ⟨sb,0,none⟩) names.length names.length] w fun e w'=>e=.returned (.int .i64 (d.named names))∧w=w':=by
 have c3:w.cell? ⟨b,3,none⟩=some (.bool d.off):=Aa hd.cells 3;have HD:=a0z hd;have HS:=a0z hs;have hlt:=Ab hd.cells;have hlt2:=Ab hs;clear hd hs;cases ho:d.off
 case true=>
  rw[ho] at c3
  have HO:Hid (d.named names=6):=by simp[Hid,Dk.named,ho]
  clear ho;go_enter Tryz.func175,Tryz.ntmps175;go_wp2;go_ret;exact⟨by rw[HO.out];rfl,rfl⟩
 rw[ho] at c3;have HO:=a0z ho;clear ho;go_enter Tryz.func175,Tryz.ntmps175;go_wp2
 go_loop [13] (fun i=>∃k:Nat,k≤names.length∧i=.int .i64 k∧(names.take k).all Dl=true) (fun i=>names.length-(intOf i).toNat)
 case atStart=>exact⟨0,by omega,rfl,by simp⟩
 case round=>
  obtain⟨k,hk,rfl,hall⟩:=hrel;have HA:=a0z hall;clear hall
  by_cases hlt':k<names.length
  ·have hcell:w.cell? ⟨sb,k,none⟩=some (.string names[k]):=by rw[Aa HS.out];simp[hlt']
   obtain⟨x,hx⟩:∃x,x=names[k]:=⟨_,rfl⟩
   rw[←hx] at hcell;have hxm:x∈names:=hx▸List.getElem_mem hlt';have HX:=a0z hx;have HXM:=a0z hxm;clear hx hxm
   by_cases h0:x.size=0
   ·have H1:=a0z (eW HO.out HXM.out (sU h0))
    obtain rfl:x=⟨#[]⟩:=by
     obtain⟨⟨l⟩⟩:=x
     cases l with
     |nil=>rfl
     |cons a r=>cases h0
    clear h0;go_wp2;go_ret;exact⟨by rw[H1.out];rfl,rfl⟩
   ·have he:=O2 (Nat.pos_of_ne_zero h0);have H0:=a0z h0;clear h0
    by_cases h6:x.size≤60
    ·go_wp2
     go_round
     case rel=>exact⟨k+1,by omega,by go_num,sW hlt' HA.out (HX.out▸Yd H0.out h6)⟩
     case measure=>simp[intOf];omega
    ·have H1:=a0z (eW HO.out HXM.out (sV h6));go_wp2;go_ret;exact⟨by rw[H1.out];rfl,rfl⟩
  ·have H1:=a0z (Yc HO.out (by have:=HA.out;rwa [List.take_of_length_le (by omega)] at this));go_wp2;go_ret;exact⟨by rw[H1.out];rfl,rfl⟩
end
section
open Go.RowKit Go.Maps Go.MapKept Go.ChangeMaps
def Dk.new(cap:Int):Dk:={cap:=max cap 0,size:=0,files:=[],off:=false,left:=0,keep:=0}
def Dk.on(d:Dk):Dk:={d with off:=false,left:=0}
def Dk.fuse(d:Dk)(n keep:Int):Dk:={d with left:=max n 0,keep:=keep}
def Dk.read(d:Dk)(name:ByteArray):ByteArray × Int:=
 if d.named [name]≠0 then(⟨#[]⟩,d.named [name]) else match Ao d.files name with
  |none=>(⟨#[]⟩,3)
  |some f=>(f.s,0)
theorem eX(cap:Int)(w:World):
  Calls Tryz.prog 21 #[.int .i64 cap] w fun e w'=>e=.returned (.pointer (some ⟨w.heap.size+1,0,none⟩))∧Ah w' (w.heap.size+1) w.heap.size (Dk.new cap)∧Fp [] w w':=by
 have hmm:=@run_makeMap Tryz.prog;have hm:=Dw.made fileTy w
 have hd:∀cp:Int,cp=max cap 0→Ah ((w.alloc (.map #[] 0)).alloc (.cells #[.int .i64 cp,.int .i64 0,.map (some w.heap.size),.bool false,.int .i64 0,.int .i64 0] 118 (0,0))) (w.heap.size+1) w.heap.size (Dk.new cap):=fun cp hc=>by
  subst hc;refine⟨?_,hm.of_block (Below.heap_alloc _ _ _ (by simp))⟩;exact Ai (by simp) _
 have HD:=a0z hd;clear hd hm
 by_cases h0:0≤cap
 all_goals
  go_enter Tryz.func21,Tryz.ntmps21;go_wp2;go_ret;exact⟨rfl,HD.out _ (by omega),(Fp.alloc _ _).trans (Fp.alloc _ _) (by simp)⟩
theorem sX(w:World)(b bm:Nat)(d:Dk)(hd:Ah w b bm d):
  Calls Tryz.prog 34 #[.pointer (some ⟨b,0,none⟩)] w fun e w'=>e=.returned (.tuple #[])∧Ah w' b bm d.on∧Fp [b] w w':=by
 have c3:w.cell? ⟨b,3,none⟩=some (.bool d.off):=Aa hd.cells 3;have c4:w.cell? ⟨b,4,none⟩=some (.int .i64 d.left):=Aa hd.cells 4;have f3:w.frozen? ⟨b,3,none⟩=false:=Ar hd.cells 3;have f4:w.frozen? ⟨b,4,none⟩=false:=Ar hd.cells 4;have HD:=a0z hd;clear hd;go_enter Tryz.func34,Tryz.ntmps34;go_wp2;go_end0;refine⟨rfl,⟨?_,HD.out.files.of_block ?_⟩,((Fp.setCell _ _ _).trans (Fp.setCell _ _ _) (by simp)).mono (by simp)⟩
 ·rw[Bm (Bm HD.out.cells _)];rfl
 ·rw[Jf (Ne.symm HD.out.ne),Jf (Ne.symm HD.out.ne)]
theorem eY(w:World)(b bm:Nat)(d:Dk)(n keep:Int)(hd:Ah w b bm d):
  Calls Tryz.prog 26 #[.pointer (some ⟨b,0,none⟩),.int .i64 n,.int .i64 keep] w fun e w'=>e=.returned (.tuple #[])∧Ah w' b bm (d.fuse n keep)∧Fp [b] w w':=by
 have c3:w.cell? ⟨b,4,none⟩=some (.int .i64 d.left):=Aa hd.cells 4;have c4:w.cell? ⟨b,5,none⟩=some (.int .i64 d.keep):=Aa hd.cells 5;have f3:w.frozen? ⟨b,4,none⟩=false:=Ar hd.cells 4;have f4:w.frozen? ⟨b,5,none⟩=false:=Ar hd.cells 5;have HD:=a0z hd;clear hd
 have hmax:∀m:Int,m=max n 0→Ah ((w.setCell ⟨b,4,none⟩ (.int .i64 m)).setCell ⟨b,5,none⟩ (.int .i64 keep)) b bm (d.fuse n keep):=by
  rintro m rfl;refine⟨?_,HD.out.files.of_block ?_⟩
  ·rw[Bm (Bm HD.out.cells _)];rfl
  ·rw[Jf (Ne.symm HD.out.ne),Jf (Ne.symm HD.out.ne)]
 have HM:=a0z hmax;clear hmax
 by_cases h0:0≤n
 all_goals
  go_enter Tryz.func26,Tryz.ntmps26;go_wp2;go_end0;exact⟨rfl,HM.out _ (by omega),((Fp.setCell _ _ _).trans (Fp.setCell _ _ _) (by simp)).mono (by simp)⟩
theorem sY(w:World)(b bm:Nat)(d:Dk)(name:ByteArray)(hd:Ah w b bm d)(hname:name.size≤maxLen):
  Calls Tryz.prog 113 #[.pointer (some ⟨b,0,none⟩),.string name] w fun e w'=>e=.returned (.tuple #[.string (d.read name).1,.int .i64 (d.read name).2])∧Fp [] w w':=by
 have c2:w.cell? ⟨b,2,none⟩=some (.map (some bm)):=Aa hd.cells 2;have hlt:=Ab hd.cells;have hd1:=hd.of_fp (Fp.alloc w (.cells #[.string name] 9)) (by simp) (by simp);have hl:(Instr.lookup 116 (.map (some bm)) (.string name) true).run Tryz.prog (w.alloc (.cells #[.string name] 9))=.ok (.tuple #[.agg #[.string (Bj d name).s,.int .i64 (Bj d name).synced],.bool (Ao d.files name).isSome]) (w.alloc (.cells #[.string name] 9)):=hd1.files.lookup true hname;have HD1:=a0z hd1;clear hd hd1
 have hnm:Calls Tryz.prog 175 #[.pointer (some ⟨b,0,none⟩),.slice (some ⟨w.heap.size,0,none⟩) 1 1] (w.alloc (.cells #[.string name] 9)) fun e w'=>e=.returned (.int .i64 (d.named [name]))∧(w.alloc (.cells #[.string name] 9))=w':=
  Vb (w.alloc (.cells #[.string name] 9)) b bm w.heap.size d [name] HD1.out (MapKept.heap_alloc w _).1 (by simp)
 have HN:=a0z hnm;clear hnm;have HF:=a0z ((Fp.alloc w (.cells #[.string name] 9)))
 obtain⟨nm,hnm⟩:∃nm,nm=d.named [name]:=⟨_,rfl⟩
 rw[←hnm] at HN
 by_cases h0:nm=0
 ·subst h0
  cases hg:Ao d.files name with
  |none=>
   rw[hg] at hl
   have HR:Hid (d.read name=(⟨#[]⟩,3)):=by simp[Hid,Dk.read,←hnm,hg]
   clear hg hnm;go_enter Tryz.func113,Tryz.ntmps113;go_wp2_with (go_at_call 175;refine HN.out.mono ?_;rintro e w' ⟨rfl,rfl⟩);go_ret2;exact⟨by rw[HR.out];rfl,HF.out.alloc' _⟩
  |some f=>
   have hfg:Bj d name=f:=by simp[Bj,hg]
   rw[hg,hfg] at hl
   have HR:Hid (d.read name=(f.s,0)):=by simp[Hid,Dk.read,←hnm,hg]
   clear hg hnm hfg;go_enter Tryz.func113,Tryz.ntmps113;go_wp2_with (go_at_call 175;refine HN.out.mono ?_;rintro e w' ⟨rfl,rfl⟩);go_ret2;exact⟨by rw[HR.out];rfl,HF.out.alloc' _⟩
 ·have HR:Hid (d.read name=(⟨#[]⟩,nm)):=by simp[Hid,Dk.read,←hnm,h0]
  have hb:((nm:Int)!=0)=true:=by simpa using h0
  clear hnm hl h0;go_enter Tryz.func113,Tryz.ntmps113;go_wp2_with (go_at_call 175;refine HN.out.mono ?_;rintro e w' ⟨rfl,rfl⟩);go_ret2;exact⟨by rw[HR.out];rfl,HF.out⟩
end
end Go.Proofs.YtkagolpnaicdoaaGreatDoor
