/-
 Maps as lists of entries: laws on the model's map operations, over any program. Frames and blocks of memory, over any program. The cell of internal/bytealg.MaxLen holds a number. The disk as data, and where it lies in memory.
-/
import Derived.Maps.RangeWalk
import Derived.WalkKit
import Derived.Lib.Hide
import Derived.Deep.QuietTactic
import Derived.BigQuiet
import Derived.Deep.LoopGhost
import Derived.Deep.RegionLaw
import Derived.Test.YtkagolpnaicdoaaGreatDoorRows
set_option maxRecDepth 100000
set_option maxHeartbeats 8000000
open List renaming getElem?_eq_getElem→a0z,mem_of_getElem?→a0x,nodup_cons→a0w,getElem?_map→a0v,filter_cons→a0u,find?_cons→a1z,getElem_of_mem→a1x,map_congr_left→a1w,map_cons→a1u,map_set→a2z
open Nat renaming le_refl→a1v
namespace Go.Proofs.YtkagolpnaicdoaaGreatDoor
section
open Go.RowKit Go.Maps Go.MapKept Go.ChangeMaps
section
variable {κ ν : Type}
def Ak[DecidableEq κ](F:List (κ × ν))(x:κ):Option ν:=(F.find? (fun p=>p.1==x)).map (·.2)
def Bc[DecidableEq κ]:List (κ × ν)→κ→ν→List (κ × ν)
 |[],x,v=>[(x,v)]
 |p::r,x,v=>if p.1=x then(x,v)::r else p::Bc r x v
def C0[DecidableEq κ](F:List (κ × ν))(x:κ):List (κ × ν):=F.filter (fun p=>p.1≠x)
def Bf(F:List (κ × ν)):List κ:=F.map (·.1)
structure Gy(P:Program)(t k e:TypeId)(κ ν:Type) where
 K:Keyed P k
 ht:P.underlying t=some (.map k e)
 kv:κ→Value
 mv:ν→Value
 ok:κ→Prop
 inj:∀{a b},kv a=kv b→a=b
 key:∀{a},ok a→∃l,keyOf P k (kv a)=some l
 zero:ν
 hz:∀w,(zeroValue e).run P w=.ok (mv zero) w
variable {P : Program} {t k e : TypeId} (M : Gy P t k e κ ν)
def Dt(w:World)(b:Nat)(F:List (κ × ν)):Prop:=
 ∃es clock,w.heap[b]?=some (.map es clock)∧Stamped es clock∧es.toList.map (fun x=>(x.key,x.val))=F.map (fun p=>(M.kv p.1,M.mv p.2))∧∀p∈F,M.ok p.1
theorem Wz{M:Gy P t k e κ ν}{es:List MapEntry}{F:List (κ × ν)}(h:es.map (fun x=>(x.key,x.val))=F.map (fun p=>(M.kv p.1,M.mv p.2))){j:Nat}{x:MapEntry}(hx:es[j]?=some x):
  ∃p,F[j]?=some p∧x.key=M.kv p.1∧x.val=M.mv p.2:=by
 have h1:=congrArg (fun l=>l[j]?) h;simp only[a0v,hx,Option.map_some] at h1
 cases hF:F[j]? with
 |none=>rw[hF] at h1;cases h1
 |some p=>rw[hF] at h1;simp at h1;exact⟨p,rfl,h1.1,h1.2⟩
theorem Dt.keys_nodup{M:Gy P t k e κ ν}{w:World}{b:Nat}{F:List (κ × ν)}(h:Dt M w b F):(Bf F).Nodup:=by
 obtain⟨es,clock,hb,hst,hF,hok⟩:=h;have h3:=((stamped_iff es clock).1 hst).2.2;unfold Bf List.Nodup;rw[List.pairwise_map]
 have h4:(es.toList.map (fun x=>(x.key,x.val))).Pairwise (fun p q=>p.1≠q.1):=by rw[List.pairwise_map];exact h3
 rw[hF,List.pairwise_map] at h4;exact h4.imp (fun hne e=>hne (by rw[e]))
theorem Dt.lt{M:Gy P t k e κ ν}{w:World}{b:Nat}{F:List (κ × ν)}(h:Dt M w b F):b<w.heap.size:=by
 obtain⟨es,clock,hb,_⟩:=h;exact(Array.getElem?_eq_some_iff.1 hb).1
theorem Dt.key_ok{M:Gy P t k e κ ν}{w:World}{b:Nat}{F:List (κ × ν)}(h:Dt M w b F){p:κ × ν}(hp:p∈F):M.ok p.1:=by
 obtain⟨es,clock,_,_,_,hok⟩:=h;exact hok p hp
theorem Dt.of_block{M:Gy P t k e κ ν}{w w':World}{b:Nat}{F:List (κ × ν)}(h:Dt M w b F)(hb:w'.heap[b]?=w.heap[b]?):Dt M w' b F:=by
 obtain⟨es,clock,h1,h2⟩:=h;exact⟨es,clock,hb.trans h1,h2⟩
theorem Dt.made(w:World):Dt M (w.alloc (.map #[] 0)) w.heap.size []:=
 ⟨#[],0,(MapKept.heap_alloc w _).1,stamped_empty 0,rfl,by simp⟩
theorem Tz[DecidableEq κ]{F:List (κ × ν)}{x:κ}(h:∀p∈F,p.1≠x):Ak F x=none:=by
 unfold Ak;rw[List.find?_eq_none.2]
 ·rfl
 ·intro p hp;simpa using h p hp
theorem T0[DecidableEq κ]:∀{F:List (κ × ν)} (_ :(Bf F).Nodup) {x:κ} {v:ν} (_ :(x,v)∈F),Ak F x=some v
 |[],_,_,_,h=>by cases h
 |p::r,hn,x,v,h=>by
  unfold Bf at hn;rw[a1u,a0w] at hn;unfold Ak
  rcases List.mem_cons.1 h with rfl|h
  ·simp
  ·have:p.1≠x:=fun e=>hn.1 (List.mem_map.2 ⟨(x,v),h,e.symm⟩)
   rw[a1z];simp only[beq_eq_false_iff_ne.2 this];exact T0 hn.2 h
theorem cD[DecidableEq κ]{F:List (κ × ν)}{x:κ}{v:ν}(h:Ak F x=some v):(x,v)∈F:=by
 unfold Ak at h
 cases hf:F.find? (fun p=>p.1==x) with
 |none=>rw[hf] at h;cases h
 |some p=>
  rw[hf] at h;have h1:=List.mem_of_find?_eq_some hf;have h2:=List.find?_some hf;simp at h2 h;subst h2;subst h;exact h1
theorem T8[DecidableEq κ]{F:List (κ × ν)}{x:κ}:Ak F x=none↔∀p∈F,p.1≠x:=by
 constructor
 ·intro h p hp e;unfold Ak at h;rw[Option.map_eq_none_iff,List.find?_eq_none] at h;have:=h p hp;simp[e] at this
 ·exact Tz
theorem Dt.find{M:Gy P t k e κ ν}{F:List (κ × ν)}{w:World}{es:Array MapEntry}(hF:es.toList.map (fun x=>(x.key,x.val))=F.map (fun p=>(M.kv p.1,M.mv p.2)))(hok:∀p∈F,M.ok p.1){x:κ}(hx:M.ok x):
  ((Instr.findKey k (M.kv x) es.toList).run P w=.ok none w∧(∀y∈es.toList,y.key≠M.kv x)∧∀p∈F,p.1≠x)∨
  ∃j y v,(Instr.findKey k (M.kv x) es.toList).run P w=.ok (some (j,y.val)) w∧es.toList[j]?=some y∧F[j]?=some (x,v)∧y.key=M.kv x∧y.val=M.mv v:=by
 obtain⟨l,hl⟩:=M.key hx
 rcases M.K.find w hl es.toList (fun y hy=>by
  obtain⟨j,hj,rfl⟩:=a1x hy;obtain⟨p,hp,h1,_⟩:=Wz hF (a0z hj);rw[h1]
  exact M.key (hok p (a0x hp))) with⟨h1,h2⟩|⟨j,y,h1,h2,h3⟩
 ·refine Or.inl ⟨h1,h2,fun p hp e=>?_⟩;have hm:(M.kv p.1,M.mv p.2)∈F.map (fun p=>(M.kv p.1,M.mv p.2)):=List.mem_map.2 ⟨p,hp,rfl⟩;rw[←hF] at hm;obtain⟨y,hy,he⟩:=List.mem_map.1 hm;have:y.key=M.kv p.1:=congrArg Prod.fst he;exact h2 y hy (by rw[this,e])
 ·obtain⟨p,hp,h4,h5⟩:=Wz hF h2;have:p.1=x:=M.inj (h4.symm.trans h3);exact Or.inr ⟨j,y,p.2,h1,h2,by rw[hp,←this],h3,h5⟩
theorem Dt.lookup[DecidableEq κ]{M:Gy P t k e κ ν}{w:World}{b:Nat}{F:List (κ × ν)}(h:Dt M w b F)(c:Bool){x:κ}(hx:M.ok x):
  (Instr.lookup t (.map (some b)) (M.kv x) c).run P w=.ok (if c then .tuple #[M.mv ((Ak F x).getD M.zero),.bool (Ak F x).isSome] else M.mv ((Ak F x).getD M.zero)) w:=by
 have hnd:=h.keys_nodup;obtain⟨es,clock,hb,hst,hF,hok⟩:=h;obtain⟨l,hl⟩:=M.key hx
 rcases Dt.find (w:=w) hF hok hx with⟨h1,_,h2⟩|⟨j,y,v,h1,h2,h3,h4,h5⟩
 ·rw[Tz h2]
  cases c<;>simp[Instr.lookup,run_underlying M.ht,MapKept.run_getObj_map hb,M.K.check w _ hl,h1,M.hz,Result.andThen]
 ·rw[T0 hnd (a0x h3)]
  cases c<;>simp[Instr.lookup,run_underlying M.ht,MapKept.run_getObj_map hb,M.K.check w _ hl,h1,h5,Result.andThen]
theorem Q3[DecidableEq κ]:∀{F:List (κ × ν)} {x:κ} {v:ν} (_ :∀p∈F,p.1≠x),Bc F x v=F++[(x,v)]
 |[],_,_,_=>rfl
 |p::r,x,v,h=>by
  unfold Bc;rw[if_neg (h p (by simp)),Q3 (fun q hq=>h q (by simp[hq]))];rfl
theorem cE[DecidableEq κ]:∀{F:List (κ × ν)} (_ :(Bf F).Nodup) {x:κ} {v v0:ν} {j:Nat} (_ :F[j]?=some (x,v0)),Bc F x v=F.set j (x,v)
 |[],_,_,_,_,_,h=>by simp at h
 |p::r,hn,x,v,v0,j,h=>by
  unfold Bf at hn;rw[a1u,a0w] at hn;unfold Bc
  cases j with
  |zero=>simp at h;subst h;simp
  |succ j=>
   simp at h
   have:p.1≠x:=fun e=>hn.1 (List.mem_map.2 ⟨(x,v0),a0x h,e.symm⟩)
   rw[if_neg this,cE hn.2 h];rfl
theorem W4[DecidableEq κ]{F:List (κ × ν)}{x:κ}{v:ν}{p:κ × ν}:p∈Bc F x v→p∈F∨p=(x,v):=by
 induction F with
 |nil=>intro h;right;simpa [Bc] using h
 |cons q r ih=>
  intro h;unfold Bc at h;split at h
  ·rcases List.mem_cons.1 h with rfl|h
   ·exact Or.inr rfl
   ·exact Or.inl (by simp[h])
  ·rcases List.mem_cons.1 h with rfl|h
   ·exact Or.inl (by simp)
   ·rcases ih h with h|h
    ·exact Or.inl (by simp[h])
    ·exact Or.inr h
theorem Dt.update[DecidableEq κ]{M:Gy P t k e κ ν}{w:World}{b:Nat}{F:List (κ × ν)}(h:Dt M w b F){x:κ}(hx:M.ok x)(v:ν):
  ∃es' clock',(Instr.mapUpdate t (.map (some b)) (M.kv x) (M.mv v)).run P w=.ok () (setBlock w b (.map es' clock'))∧Dt M (setBlock w b (.map es' clock')) b (Bc F x v)∧
   (∀es0 clock0,w.heap[b]?=some (.map es0 clock0)→(Ak F x).isSome=true→clock'=clock0∧es'.toList.map (·.born)=es0.toList.map (·.born)):=by
 have hnd:=h.keys_nodup;obtain⟨es,clock,hb,hst,hF,hok⟩:=h;obtain⟨l,hl⟩:=M.key hx
 have hok':∀p∈Bc F x v,M.ok p.1:=fun p hp=>by
  rcases W4 hp with h|rfl
  ·exact hok p h
  ·exact hx
 rcases Dt.find (w:=w) hF hok hx with⟨h1,h0,h2⟩|⟨j,y,v0,h1,h2,h3,h4,h5⟩
 ·refine⟨es.push ⟨M.kv x,M.mv v,clock⟩,clock+1,?_,⟨_,_,heap_setBlock_same hb _,stamped_push hst h0,?_,hok'⟩,?_⟩
  ·simp[Instr.mapUpdate,run_underlying M.ht,MapKept.run_getObj_map hb,M.K.check w false hl,h1,MapKept.run_setObj_map _ hb,Result.andThen,setBlock]
  ·rw[Q3 h2];simp[hF]
  ·intro es0 clock0 _ hs;rw[Tz h2] at hs;cases hs
 ·have hj:es[j]?=some y:=by simpa using h2
  have hmod:(es.modify j (fun e'=>{e' with key:=M.kv x,val:=M.mv v})).toList=es.toList.set j {y with key:=M.kv x,val:=M.mv v}:=by rw[Array.toList_modify,modify_eq_set _ _ _ _ h2]
  refine⟨es.modify j (fun e'=>{e' with key:=M.kv x,val:=M.mv v}),clock,?_,⟨_,_,heap_setBlock_same hb _,stamped_modify hst _ _ (fun _ _=>rfl) (fun e' _ he'=>by rw[hj] at he';cases he';exact h4.symm),?_,hok'⟩,?_⟩
  ·simp[Instr.mapUpdate,run_underlying M.ht,MapKept.run_getObj_map hb,M.K.check w false hl,h1,hj,h4,M.K.stays w hl,MapKept.run_setObj_map _ hb,Result.andThen,setBlock]
  ·rw[cE hnd h3,hmod,a2z,a2z,hF]
  ·intro es0 clock0 hb0 _;rw[hb] at hb0;cases hb0;refine⟨rfl,?_⟩;rw[hmod,a2z];apply List.ext_getElem?;intro i;rw[List.getElem?_set];split
   ·rename_i e;subst e;rw[a0v,h2];split
    ·rfl
    ·rename_i hlt;exact absurd (by simpa using(List.getElem?_eq_some_iff.1 h2).1) hlt
   ·rfl
theorem T9[DecidableEq κ]{F:List (κ × ν)}{x:κ}(h:∀p∈F,p.1≠x):C0 F x=F:=by
 unfold C0;rw[List.filter_eq_self];intro p hp
 simpa using h p hp
theorem cF[DecidableEq κ]:∀{F:List (κ × ν)} (_ :(Bf F).Nodup) {x:κ} {v0:ν} {j:Nat} (_ :F[j]?=some (x,v0)),C0 F x=F.eraseIdx j
 |[],_,_,_,_,h=>by simp at h
 |p::r,hn,x,v0,j,h=>by
  unfold Bf at hn;rw[a1u,a0w] at hn;unfold C0
  cases j with
  |zero=>
   simp at h;subst h;rw[a0u];simp only[ne_eq,not_true_eq_false,decide_false,Bool.false_eq_true,if_false,List.eraseIdx_zero,List.tail_cons];exact T9 (fun q hq e=>hn.1 (List.mem_map.2 ⟨q,hq,e⟩))
  |succ j=>
   simp at h
   have:p.1≠x:=fun e=>hn.1 (List.mem_map.2 ⟨(x,v0),a0x h,e.symm⟩)
   rw[a0u,if_pos (by simpa using this),List.eraseIdx_cons_succ];exact congrArg _ (cF hn.2 h)
theorem Dt.delete[DecidableEq κ]{M:Gy P t k e κ ν}{w:World}{b:Nat}{F:List (κ × ν)}(h:Dt M w b F){x:κ}(hx:M.ok x)(ty:TypeId):
  ∃es' clock',(Builtin.delete_ #[t,k] ty #[.map (some b),M.kv x]).run P w=.ok (.tuple #[]) (setBlock w b (.map es' clock'))∧Dt M (setBlock w b (.map es' clock')) b (C0 F x):=by
 have hnd:=h.keys_nodup;obtain⟨es,clock,hb,hst,hF,hok⟩:=h;obtain⟨l,hl⟩:=M.key hx
 have hok':∀p∈C0 F x,M.ok p.1:=fun p hp=>hok p ((List.mem_filter.1 hp).1)
 rcases Dt.find (w:=w) hF hok hx with⟨h1,h0,h2⟩|⟨j,y,v0,h1,h2,h3,h4,h5⟩
 ·refine⟨es,clock,?_,_,_,heap_setBlock_same hb _,hst,?_,hok'⟩
  ·simp[Builtin.delete_,run_underlying M.ht,MapKept.run_getObj_map hb,M.K.check w _ hl,h1,MapKept.run_setObj_map _ hb,Result.andThen,setBlock]
  ·rw[T9 h2];exact hF
 ·refine⟨es.eraseIdxIfInBounds j,clock,?_,_,_,heap_setBlock_same hb _,stamped_erase hst j,?_,hok'⟩
  ·simp[Builtin.delete_,run_underlying M.ht,MapKept.run_getObj_map hb,M.K.check w _ hl,h1,MapKept.run_setObj_map _ hb,Result.andThen,setBlock]
  ·rw[cF hnd h3];have hjl:j<es.toList.length:=(List.getElem?_eq_some_iff.1 h2).1
   have:(es.eraseIdxIfInBounds j).toList=es.toList.eraseIdx j:=by
    have hjs:j<es.size:=by simpa using hjl
    simp only[Array.eraseIdxIfInBounds,dif_pos hjs,Array.toList_eraseIdx]
   rw[this,map_eraseIdx,map_eraseIdx,hF]
theorem Dt.len{M:Gy P t k e κ ν}{w:World}{b:Nat}{F:List (κ × ν)}(h:Dt M w b F)(ty:TypeId):
  (Builtin.len_ #[t] ty #[.map (some b)]).run P w=.ok (.int .i64 F.length) w:=by
 obtain⟨es,clock,hb,hst,hF,hok⟩:=h
 have:es.size=F.length:=by have:=congrArg List.length hF;simpa using this
 simp[Builtin.len_,run_underlying M.ht,MapKept.run_getObj_map hb,Result.andThen,goInt,this]
def Gz(w:World)(b r:Nat)(F:List (κ × ν))(done:List κ):Prop:=
 ∃es clock since seen c0,w.heap[b]?=some (.map es clock)∧Stamped es clock∧es.toList.map (fun x=>(x.key,x.val))=F.map (fun p=>(M.kv p.1,M.mv p.2))∧(∀p∈F,M.ok p.1)∧
  w.heap[r]?=some (.mapIter (some b) since seen c0)∧(∀x∈es.toList,x.born<since)∧since≤c0∧since≤clock∧
  (∀(j:Nat) (x:MapEntry) (p:κ × ν),es.toList[j]?=some x→F[j]?=some p→(seen.contains x.born=true↔p.1∈done))
theorem Gz.map{M:Gy P t k e κ ν}{w:World}{b r:Nat}{F:List (κ × ν)}{done:List κ}(h:Gz M w b r F done):Dt M w b F:=by
 obtain⟨es,clock,since,seen,c0,h1,h2,h3,h4,_⟩:=h;exact⟨es,clock,h1,h2,h3,h4⟩
theorem Gz.ne{M:Gy P t k e κ ν}{w:World}{b r:Nat}{F:List (κ × ν)}{done:List κ}(h:Gz M w b r F done):r≠b:=by
 obtain⟨es,clock,since,seen,c0,h1,_,_,_,h5,_⟩:=h;rintro rfl;rw[h1] at h5;cases h5
theorem Gz.of_block{M:Gy P t k e κ ν}{w w':World}{b r:Nat}{F:List (κ × ν)}{done:List κ}(h:Gz M w b r F done)(hb:w'.heap[b]?=w.heap[b]?)(hr:w'.heap[r]?=w.heap[r]?):Gz M w' b r F done:=by
 obtain⟨es,clock,since,seen,c0,h1,h2,h3,h4,h5,h6⟩:=h;exact⟨es,clock,since,seen,c0,hb.trans h1,h2,h3,h4,hr.trans h5,h6⟩
theorem Dt.range{M:Gy P t k e κ ν}{w:World}{b:Nat}{F:List (κ × ν)}(h:Dt M w b F):
  ∃o,(Instr.range t (.map (some b))).run P w=.ok (.pointer (some ⟨w.heap.size,0,none⟩)) (w.alloc o)∧Gz M (w.alloc o) b w.heap.size F []:=by
 have hlt:=h.lt;obtain⟨es,clock,hb,hst,hF,hok⟩:=h;refine⟨_,run_range_map w t k e b es clock M.ht hb,es,clock,clock,#[],clock,((MapKept.heap_alloc w _).2 b hlt).trans hb,hst,hF,hok,(MapKept.heap_alloc w _).1,((stamped_iff es clock).1 hst).1,a1v _,a1v _,?_⟩;intro j x p _ _;simp
theorem Gz.next{M:Gy P t k e κ ν}{w:World}{b r:Nat}{F:List (κ × ν)}{done:List κ}(h:Gz M w b r F done)(ty:TypeId):
  ((∀x∈Bf F,x∈done)∧(Instr.next (.pointer (some ⟨r,0,none⟩)) false ty).run P w=.ok (.tuple #[.bool false]) w)∨
  ∃x v w1 o,(x,v)∈F∧x∉done∧(w1=w∨w1=w.drew)∧(Instr.next (.pointer (some ⟨r,0,none⟩)) false ty).run P w=.ok (.tuple #[.bool true,M.kv x,M.mv v]) (setBlock w1 r o)∧
   Gz M (setBlock w1 r o) b r F (done++[x])∧(Instr.entry (.pointer (some ⟨r,0,none⟩))).run P (setBlock w1 r o)=.ok (.tuple #[M.kv x,M.mv v]) (setBlock w1 r o):=by
 have hnd:=h.map.keys_nodup;have hne:=h.ne;obtain⟨es,clock,since,seen,c0,hb,hst,hF,hok,hr,hold,hsc,hsk,hseen⟩:=h
 rcases run_next_at (P:=P) w ty r b since c0 seen es clock hr hb hold hsc with⟨h0,hrun⟩|⟨y,hy,w1,hal,hrun⟩
 ·refine Or.inl ⟨fun x hx=>?_,hrun⟩;obtain⟨p,hp,rfl⟩:=List.mem_map.1 hx;obtain⟨j,hj,rfl⟩:=a1x hp
  have hlen:es.toList.length=F.length:=by have:=congrArg List.length hF;simpa using this
  have hj':j<es.toList.length:=by omega
  refine(hseen j es.toList[j] F[j] (a0z hj') (a0z hj)).1 ?_;exact all_seen es seen h0 _ (List.getElem_mem hj')
 ·have hy':y∈es.toList∧seen.contains y.born=false:=by
   unfold leftOf at hy;simp at hy;refine⟨by simpa using hy.1,by simpa using hy.2⟩
  obtain⟨j,hj,hjy⟩:=a1x hy'.1;obtain⟨p,hp,hk,hv⟩:=Wz hF (a0z hj);rw[hjy] at hk hv
  have hnot:p.1∉done:=fun hd=>by
   have:=(hseen j y p (by rw[←hjy];exact a0z hj) hp).2 hd;rw[hy'.2] at this;cases this
  have hw1:w1.heap=w.heap:=by rcases hal with rfl|rfl<;>rfl
  rw[hk,hv] at hrun
  have hb1:(setBlock w1 r (.mapIter (some b) since (seen.push y.born) clock)).heap[b]?=some (.map es clock):=by
   simp only[setBlock,hw1,Array.getElem?_setIfInBounds,if_neg hne];exact hb
  have hr1:(setBlock w1 r (.mapIter (some b) since (seen.push y.born) clock)).heap[r]?=some (.mapIter (some b) since (seen.push y.born) clock):=by
   have hlt:=(Array.getElem?_eq_some_iff.1 hr).1;simp[setBlock,hw1,hlt]
  refine Or.inr ⟨p.1,p.2,w1,_,a0x hp,hnot,hal,hrun,⟨es,clock,since,seen.push y.born,clock,hb1,hst,hF,hok,hr1,hold,hsk,hsk,?_⟩,?_⟩
  ·intro i x q hx hq;have hseen1:=hseen i x q hx hq;rw[Array.contains_push];simp only[Bool.or_eq_true,List.mem_append,List.mem_singleton];rw[hseen1];refine or_congr Iff.rfl ?_;have hborn:=((stamped_iff es clock).1 hst).2.1;constructor
   ·intro hbe
    have hbe':x.born=y.born:=by simpa using hbe
    have:i=j:=by
     have hi:i<es.toList.length:=(List.getElem?_eq_some_iff.1 hx).1;have e1:=List.getElem?_eq_some_iff.1 hx;obtain⟨_,e1⟩:=e1
     have hb2:(es.toList.map (·.born))[i]'(by simpa using hi)=(es.toList.map (·.born))[j]'(by simpa using hj):=by
      simp only[List.getElem_map,e1,hjy,hbe']
     exact(List.getElem_inj hborn).1 hb2
    subst this;rw[hp] at hq;cases hq;rfl
   ·intro hqe
    have:i=j:=by
     have hi:i<F.length:=(List.getElem?_eq_some_iff.1 hq).1;obtain⟨_,e1⟩:=List.getElem?_eq_some_iff.1 hq;have hj2:j<F.length:=(List.getElem?_eq_some_iff.1 hp).1;obtain⟨_,e2⟩:=List.getElem?_eq_some_iff.1 hp
     have hb2:(Bf F)[i]'(by simpa [Bf] using hi)=(Bf F)[j]'(by simpa [Bf] using hj2):=by
      simp only[Bf,List.getElem_map,e1,e2,hqe]
     exact(List.getElem_inj hnd).1 hb2
    subst this;rw[a0z hj,hjy] at hx;cases hx;simp
  ·rw[←hk,←hv];exact run_entry_at _ r b since seen es clock y hr1 hb1 hy'.1 ((stamped_iff es clock).1 hst).2.1
theorem Ua[DecidableEq κ]:∀{F:List (κ × ν)} {x:κ} {v:ν} (_ :(Ak F x).isSome=true),Bf (Bc F x v)=Bf F
 |[],_,_,h=>by cases h
 |p::r,x,v,h=>by
  unfold Bc
  by_cases e:p.1=x
  ·rw[if_pos e];simp[Bf,e]
  ·rw[if_neg e]
   have h':(Ak r x).isSome=true:=by
    unfold Ak at h ⊢;rw[a1z,beq_eq_false_iff_ne.2 e] at h;exact h
   have:=Ua (v:=v) h';unfold Bf at this ⊢;simp[this]
theorem Gz.put[DecidableEq κ]{M:Gy P t k e κ ν}{w w':World}{b r:Nat}{F:List (κ × ν)}{done:List κ}(h:Gz M w b r F done){x:κ}{v:ν}(hx:(Ak F x).isSome=true)
  {es':Array MapEntry}{clock':Nat}(hb:w'.heap[b]?=some (.map es' clock'))(hr:w'.heap[r]?=w.heap[r]?)(hm:Dt M w' b (Bc F x v))
  (hk:∀es0 clock0,w.heap[b]?=some (.map es0 clock0)→(Ak F x).isSome=true→clock'=clock0∧es'.toList.map (·.born)=es0.toList.map (·.born)):Gz M w' b r (Bc F x v) done:=by
 obtain⟨es,clock,since,seen,c0,h1,h2,h3,h4,h5,h6,h7,h8,h9⟩:=h;obtain⟨rfl,hborn⟩:=hk es clock h1 hx;obtain⟨es2,clock2,g1,g2,g3,g4⟩:=hm;rw[hb] at g1;cases g1;have hkeys:=Ua (v:=v) hx;refine⟨es',clock',since,seen,c0,hb,g2,g3,g4,hr.trans h5,?_,h7,h8,?_⟩
 ·intro y hy;have:y.born∈es'.toList.map (·.born):=List.mem_map.2 ⟨y,hy,rfl⟩;rw[hborn] at this;obtain⟨z,hz,hzb⟩:=List.mem_map.1 this;rw[←hzb];exact h6 z hz
 ·intro j y p hy hp;have e1:=congrArg (fun l=>l[j]?) hborn;simp only[a0v,hy,Option.map_some] at e1
  cases hz:es.toList[j]? with
  |none=>rw[hz] at e1;cases e1
  |some z=>
   rw[hz] at e1;simp only[Option.map_some,Option.some.injEq] at e1;have e2:=congrArg (fun l=>l[j]?) hkeys;simp only[Bf,a0v,hp,Option.map_some] at e2
   cases hq:F[j]? with
   |none=>rw[hq] at e2;cases e2
   |some q=>
    rw[hq] at e2;simp only[Option.map_some,Option.some.injEq] at e2;rw[e1,e2];exact h9 j z q hz hq
theorem Ha[DecidableEq κ]{p:κ × ν}{r:List (κ × ν)}{x:κ}(h:p.1=x):Ak (p::r) x=some p.2:=by
 unfold Ak;rw[a1z];simp[h]
theorem I2[DecidableEq κ]{p:κ × ν}{r:List (κ × ν)}{x:κ}(h:p.1≠x):Ak (p::r) x=Ak r x:=by
 unfold Ak;rw[a1z,beq_eq_false_iff_ne.2 h]
theorem Ub[DecidableEq κ](F:List (κ × ν))(x:κ)(v:ν):Ak (Bc F x v) x=some v:=by
 induction F with
 |nil=>simp[Bc,Ak]
 |cons p r ih=>
  unfold Bc
  by_cases e:p.1=x
  ·rw[if_pos e];exact Ha rfl
  ·rw[if_neg e,I2 e];exact ih
theorem pJ[DecidableEq κ](F:List (κ × ν)){x y:κ}(h:x≠y)(v:ν):Ak (Bc F x v) y=Ak F y:=by
 induction F with
 |nil=>simp[Bc,Ak,h]
 |cons p r ih=>
  unfold Bc
  by_cases e:p.1=x
  ·rw[if_pos e,I2 (p:=(x,v)) h,I2 (by rw[e];exact h)]
  ·rw[if_neg e]
   by_cases e2:p.1=y
   ·rw[Ha e2,Ha e2]
   ·rw[I2 e2,I2 e2,ih]
theorem pK[DecidableEq κ](F:List (κ × ν))(x:κ):Ak (C0 F x) x=none:=by
 refine Tz fun p hp=>?_
 have:=(List.mem_filter.1 hp).2
 simpa using this
theorem pL[DecidableEq κ](F:List (κ × ν)){x y:κ}(h:x≠y):Ak (C0 F x) y=Ak F y:=by
 induction F with
 |nil=>rfl
 |cons p r ih=>
  unfold C0 at ih ⊢
  by_cases e:p.1=x
  ·rw[a0u,if_neg (by simp[e]),I2 (by rw[e];exact h)];exact ih
  ·rw[a0u,if_pos (by simpa using e)]
   by_cases e2:p.1=y
   ·rw[Ha e2,Ha e2]
   ·rw[I2 e2,I2 e2,ih]
def Eg[DecidableEq κ](g:ν→ν)(done:List κ)(F:List (κ × ν)):List (κ × ν):=F.map (fun p=>if p.1∈done then(p.1,g p.2) else p)
def Ko(g:ν→ν)(F:List (κ × ν)):List (κ × ν):=F.map (fun p=>(p.1,g p.2))
theorem W5[DecidableEq κ](g:ν→ν)(done:List κ)(F:List (κ × ν)):Bf (Eg g done F)=Bf F:=by
 unfold Bf Eg;rw[List.map_map]
 exact a1w fun p _=>by simp only[Function.comp];split<;>rfl
theorem pM[DecidableEq κ]{g:ν→ν}{done:List κ}{F:List (κ × ν)}{x:κ}{v:ν}(h:(x,v)∈Eg g done F)(hx:x∉done):(x,v)∈F:=by
 unfold Eg at h;obtain⟨p,hp,he⟩:=List.mem_map.1 h;split at he
 ·rename_i hd;have:p.1=x:=congrArg Prod.fst he;exact absurd (this▸hd) hx
 ·exact he▸hp
theorem cG[DecidableEq κ]{g:ν→ν}{done:List κ}:∀{F:List (κ × ν)} (_ :(Bf F).Nodup) {x:κ} {v:ν} (_ :(x,v)∈F) (_ :x∉done),Bc (Eg g done F) x (g v)=Eg g (done++[x]) F
 |[],_,_,_,h,_=>by cases h
 |p::r,hn,x,v,h,hx=>by
  unfold Bf at hn;rw[a1u,a0w] at hn
  have hc:∀d,Eg g d (p::r)=(if p.1∈d then(p.1,g p.2) else p)::Eg g d r:=fun d=>rfl
  rw[hc,hc]
  rcases List.mem_cons.1 h with rfl|h
  ·rw[if_neg hx,if_pos (by simp)];unfold Bc;rw[if_pos rfl];refine congrArg _ ?_;unfold Eg
   refine a1w fun q hq=>?_
   have:q.1≠x:=fun e=>hn.1 (List.mem_map.2 ⟨q,hq,e⟩)
   simp[this]
  ·have hne:p.1≠x:=fun e=>hn.1 (List.mem_map.2 ⟨(x,v),h,e.symm⟩)
   have e1:(if p.1∈done++[x] then(p.1,g p.2) else p)=if p.1∈done then(p.1,g p.2) else p:=by simp[hne]
   rw[e1];unfold Bc;rw[if_neg (by split<;>exact hne),cG hn.2 h hx]
theorem cH[DecidableEq κ]{g:ν→ν}{done:List κ}{F:List (κ × ν)}(h:∀x∈Bf F,x∈done):Eg g done F=Ko g F:=by
 unfold Eg Ko
 exact a1w fun p hp=>if_pos (h _ (List.mem_map.2 ⟨p,hp,rfl⟩))
theorem pN[DecidableEq κ](g:ν→ν)(done:List κ)(p:κ × ν)(r:List (κ × ν)):(p.1∈done∧Eg g done (p::r)=(p.1,g p.2)::Eg g done r)∨(p.1∉done∧Eg g done (p::r)=p::Eg g done r):=by
 have hc:Eg g done (p::r)=(if p.1∈done then(p.1,g p.2) else p)::Eg g done r:=rfl
 by_cases h:p.1∈done
 ·left;rw[hc,if_pos h];exact⟨h,rfl⟩
 ·right;rw[hc,if_neg h];exact⟨h,rfl⟩
theorem cI[DecidableEq κ]{g:ν→ν}{done:List κ}{F:List (κ × ν)}{x:κ}{v:ν}(h:(x,v)∈F)(hx:x∉done):(x,v)∈Eg g done F:=by
 unfold Eg;exact List.mem_map.2 ⟨(x,v),h,if_neg hx⟩
theorem W6[DecidableEq κ]:∀{a b:List κ} (_ :a.Nodup) (_ :∀x∈a,x∈b),a.length≤b.length
 |[],_,_,_=>Nat.zero_le _
 |x::r,b,ha,h=>by
  rw[a0w] at ha;have h1:=W6 (b:=b.erase x) ha.2 (fun y hy=>(List.mem_erase_of_ne (by rintro rfl;exact ha.1 hy)).2 (h y (by simp[hy])));have h2:=List.length_erase_of_mem (h x (by simp));have h3:=List.length_pos_of_mem (h x (by simp));simp only[List.length_cons];omega
theorem cJ[DecidableEq κ](g:ν→ν)(F:List (κ × ν)):Eg g ([]:List κ) F=F:=by
 unfold Eg;simp
end
end
section
section
open Go.RowKit Go.Maps Go.MapKept Go.ChangeMaps
structure Fp(S:List Nat)(w w':World):Prop where
 os:w'.os=w.os
 tape:w'.tape=w.tape
 output:w'.output=w.output
 size:w.heap.size≤w'.heap.size
 block:∀k,k<w.heap.size→k∉S→w'.heap[k]?=w.heap[k]?
theorem Fp.refl(S:List Nat)(w:World):Fp S w w:=⟨rfl,rfl,rfl,a1v _,fun _ _ _=>rfl⟩
theorem Fp.trans{S S':List Nat}{a b c:World}(h:Fp S a b)(k:Fp S' b c)(hs:∀i∈S',i∈S∨a.heap.size≤i):Fp S a c:=
 ⟨k.os.trans h.os,k.tape.trans h.tape,k.output.trans h.output,Nat.le_trans h.size k.size,fun i hi hn=>
  (k.block i (Nat.lt_of_lt_of_le hi h.size) (fun hm=>by rcases hs i hm with h1|h1;exact hn h1;omega)).trans (h.block i hi hn)⟩
theorem Fp.mono{S S':List Nat}{a b:World}(h:Fp S a b)(hs:∀i∈S,i∈S'):Fp S' a b:=
 ⟨h.os,h.tape,h.output,h.size,fun i hi hn=>h.block i hi (fun hm=>hn (hs i hm))⟩
theorem Fp.alloc(w:World)(o:Obj):Fp [] w (w.alloc o):=⟨rfl,rfl,rfl,by simp,fun k hk _=>Below.heap_alloc _ _ _ hk⟩
theorem Fp.setCell(w:World)(p:Addr)(u:Value):Fp [p.block] w (w.setCell p u):=
 ⟨rfl,rfl,rfl,by simp[World.setCell],fun k _ hn=>Below.heap_setCell _ _ _ _ (by simpa using hn)⟩
theorem Fp.setBlock(w:World)(b:Nat)(o:Obj):Fp [b] w (setBlock w b o):=
 ⟨rfl,rfl,rfl,by simp[ChangeMaps.setBlock],fun k _ hn=>by
  have:b≠k:=fun e=>hn (by simp[e])
  simp[ChangeMaps.setBlock,this]⟩
theorem Fp.drew(w:World):Fp [] w w.drew:=⟨rfl,rfl,rfl,a1v _,fun _ _ _=>rfl⟩
theorem Fp.alloc'{S:List Nat}{a w:World}(h:Fp S a w)(o:Obj):Fp S a (w.alloc o):=h.trans (Fp.alloc w o) (by simp)
theorem Fp.drew'{S:List Nat}{a w:World}(h:Fp S a w):Fp S a w.drew:=h.trans (Fp.drew w) (by simp)
theorem Fp.setCell'{S:List Nat}{a w:World}(h:Fp S a w){p:Addr}(hp:p.block∈S∨a.heap.size≤p.block)(u:Value):Fp S a (w.setCell p u):=h.trans (Fp.setCell w p u) (by simpa using hp)
theorem Fp.setBlock'{S:List Nat}{a w:World}(h:Fp S a w){b:Nat}(hb:b∈S∨a.heap.size≤b)(o:Obj):Fp S a (ChangeMaps.setBlock w b o):=h.trans (Fp.setBlock w b o) (by simpa using hb)
theorem Fp.drewN(w:World)(n:Nat):Fp [] w (w.drewN n):=⟨rfl,rfl,rfl,a1v _,fun _ _ _=>rfl⟩
theorem Fp.cell{S:List Nat}{w w':World}(h:Fp S w w'){p:Addr}(hp:p.block<w.heap.size)(hn:p.block∉S):w'.cell? p=w.cell? p:=World.cell?_of_block (w:=w) (h.block p.block hp hn)
theorem Fp.below{w w':World}{S:List Nat}(h:Fp S w w'){B:Nat}(hB:B≤w.heap.size)(hs:∀i∈S,B≤i):Below B w w':=
 ⟨h.os,h.tape,h.output,h.size,fun k hk=>h.block k (by omega) (fun hm=>by have:=hs k hm;omega)⟩
theorem Below.toFp{w w':World}(h:Below w.heap.size w w'):Fp [] w w':=⟨h.os,h.tape,h.output,h.size,fun k hk _=>h.block k hk⟩
theorem Fp.belowTrans{a b c:World}(h:Fp [] a b)(k:Below a.heap.size b c):Fp [] a c:=
 ⟨k.os.trans h.os,k.tape.trans h.tape,k.output.trans h.output,Nat.le_trans h.size k.size,fun i hi hn=>(k.block i hi).trans (h.block i hi hn)⟩
theorem Bt{w:World}{b o:Nat}{c:Array Value}{T:TypeId}{fr:Nat × Nat}(h:w.heap[b]?=some (.cells c T fr))(v:Value):
  (w.setCell ⟨b,o,none⟩ v).heap[b]?=some (.cells (c.setIfInBounds o v) T fr):=by
 simp[World.setCell,Array.getElem?_modify,h]
theorem Lu{w:World}{b b' o:Nat}(hn:b≠b')(v:Value):(w.setCell ⟨b',o,none⟩ v).heap[b]?=w.heap[b]?:=Below.heap_setCell _ _ _ _ hn
theorem C7{w:World}{b:Nat}{o o':Obj}(h:w.heap[b]?=some o):(w.alloc o').heap[b]?=some o:=by
 rw[Below.heap_alloc _ _ _ (Array.getElem?_eq_some_iff.1 h).1];exact h
theorem Aj{w:World}{n:Nat}(h:n=w.heap.size)(o:Obj):(w.alloc o).heap[n]?=some o:=by
 subst h;exact(MapKept.heap_alloc w o).1
theorem Ab{w:World}{b:Nat}{o:Obj}(h:w.heap[b]?=some o):b<w.heap.size:=(Array.getElem?_eq_some_iff.1 h).1
theorem Aa{w:World}{b:Nat}{c:Array Value}{T:TypeId}{fr:Nat × Nat}(h:w.heap[b]?=some (.cells c T fr))(o:Nat):w.cell? ⟨b,o,none⟩=c[o]?:=by
 simp[World.cell?,h]
theorem Aw{w:World}{b:Nat}{c:Array Value}{T:TypeId}(h:w.heap[b]?=some (.cells c T (0,0)))(o:Nat):w.frozen? ⟨b,o,none⟩=false:=by
 simp[World.frozen?,h]
theorem K8{a b:Bool}(h:a=b):Ending.returned (.bool a)=.returned (.bool b):=by rw[h]
theorem pO{k:IntKind}{a b:Int}(h:a=b):Ending.returned (.int k a)=.returned (.int k b):=by rw[h]
theorem pP{a b:ByteArray}(h:a=b):Ending.returned (.string a)=.returned (.string b):=by rw[h]
theorem cK{s:ByteArray}(h:s.size=0):s.toList.isEmpty=true:=by
 rw[ByteArray.toList_eq];obtain⟨⟨l⟩⟩:=s
 cases l with
 |nil=>rfl
 |cons x r=>cases h
theorem N6{s:ByteArray}(h:0<s.size):s.toList.isEmpty=false:=by
 rw[ByteArray.toList_eq];obtain⟨⟨l⟩⟩:=s
 cases l with
 |nil=>exact absurd h (by decide)
 |cons x r=>rfl
end
section
open Go.RowKit
def Kp(w:World):Prop:=∃m,w.cell? ⟨2,0,none⟩=some (.int .i64 m)
theorem Kp.fp{w w':World}{S:List Nat}(h:Kp w)(hf:Fp S w w')(hs:2∉S):Kp w':=by
 obtain⟨m,hm⟩:=h;exact⟨m,by rw[hf.cell (World.block_lt_of_cell? _ _ hm) hs];exact hm⟩
end
end
section
open Go.RowKit Go.Maps Go.MapKept Go.ChangeMaps
structure A3 where
 s:ByteArray
 synced:Nat
structure Dk where
 cap:Int
 size:Int
 files:List (ByteArray × A3)
 off:Bool
 left:Int
 keep:Int
def W7(f:A3):Value:=.agg #[.string f.s,.int .i64 f.synced]
noncomputable def fileTy:Gy Tryz.prog 116 9 251 ByteArray A3 where
 K:=string_keyed Tryz.underlying9
 ht:=Tryz.underlying116
 kv:=.string
 mv:=W7
 ok:=fun s=>s.size≤maxLen
 inj:=fun h=>by cases h;rfl
 key:=fun h=>⟨_,Go.WideMaps.keyOf_string_mk Tryz.underlying9 h⟩
 zero:=⟨⟨#[]⟩,0⟩
 hz:=fun w=>by kernel_rfl
def pQ(d:Dk)(bm:Nat):Array Value:=#[.int .i64 d.cap,.int .i64 d.size,.map (some bm),.bool d.off,.int .i64 d.left,.int .i64 d.keep]
structure Ah(w:World)(b bm:Nat)(d:Dk):Prop where
 cells:w.heap[b]?=some (.cells (pQ d bm) 118 (0,0))
 files:Dt fileTy w bm d.files
theorem Ah.ne{w:World}{b bm:Nat}{d:Dk}(h:Ah w b bm d):b≠bm:=by
 rintro rfl;obtain⟨es,clock,h1,_⟩:=h.files;rw[h.cells] at h1;cases h1
theorem Ah.of_fp{w w':World}{S:List Nat}{b bm:Nat}{d:Dk}(h:Ah w b bm d)(hf:Fp S w w')(h1:b∉S)(h2:bm∉S):Ah w' b bm d:=
 ⟨(hf.block b (Ab h.cells) h1).trans h.cells,h.files.of_block (hf.block bm h.files.lt h2)⟩
def A2:A3:=⟨⟨#[]⟩,0⟩
def Bi(d:Dk)(name:ByteArray):A3:=(Ak d.files name).getD A2
def Dk.set(d:Dk)(name:ByteArray)(f:A3)(gone:Bool):Dk:=
 {d with size:=d.size+(f.s.size-(Bi d name).s.size),files:=if gone then C0 (Bc d.files name f) name else Bc d.files name f}
end
end Go.Proofs.YtkagolpnaicdoaaGreatDoor
