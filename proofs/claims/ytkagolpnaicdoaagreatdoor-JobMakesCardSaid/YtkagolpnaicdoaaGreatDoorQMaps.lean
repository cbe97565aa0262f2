/- Lemmas. -/
import Derived.Test.YtkagolpnaicdoaaGreatDoorRows
import Derived.Test.YtkagolpnaicdoaaGreatDoorQMem
set_option maxRecDepth 100000
set_option maxHeartbeats 8000000
open Go.Lib renaming hid->X
open List renaming getElem?_eq_getElem->Y,filter_cons->Z,nodup_cons->a0z,mem_singleton->a0x,mem_of_getElem?->a0w,map_cons->a0v,getElem?_map->a1z,find?_cons->a1x,getElem_of_mem->a1w,map_congr_left->a1v,nodup_append->a1u,map_set->a2x
open Nat renaming le_refl->a0u
open ByteArray renaming size_append->a2z
namespace Go.Proofs.YtkagolpnaicdoaaGreatDoor
section
open Go.RowKit Go.Maps Go.MapKept Go.ChangeMaps
section
variable {κ ν : Type}
def Ar[DecidableEq κ](F:List (κ × ν))(x:κ):Option ν:=(F.find? (fun p=>p.1==x)).map (·.2)
def Bg[DecidableEq κ]:List (κ × ν)->κ->ν->List (κ × ν)
 |[],x,v=>[(x,v)]
 |p::r,x,v=>if p.1=x then(x,v)::r else p::Bg r x v
def Dx[DecidableEq κ](F:List (κ × ν))(x:κ):List (κ × ν):=F.filter (fun p=>p.1≠x)
def Br(F:List (κ × ν)):List κ:=F.map (·.1)
structure Il(P:Program)(t k e:TypeId)(κ ν:Type) where
 K:Keyed P k
 ht:P.underlying t=some (.map k e)
 kv:κ->Value
 mv:ν->Value
 ok:κ->Prop
 inj:∀{a b},kv a=kv b->a=b
 key:∀{a},ok a->∃l,keyOf P k (kv a)=some l
 zero:ν
 hz:∀w,(zeroValue e).run P w=.ok (mv zero) w
variable {P : Program} {t k e : TypeId} (M : Il P t k e κ ν)
def Eh(w:World)(b:Nat)(F:List (κ × ν)):Prop:=
 ∃es clock,w.heap[b]?=some (.map es clock)/\Stamped es clock/\es.toList.map (fun x=>(x.key,x.val))=F.map (fun p=>(M.kv p.1,M.mv p.2))/\∀p∈F,M.ok p.1
theorem aY{M:Il P t k e κ ν}{b:List MapEntry}{F:List (κ × ν)}(h:b.map (fun x=>(x.key,x.val))=F.map (fun p=>(M.kv p.1,M.mv p.2))){j:Nat}{x:MapEntry}(c:b[j]?=some x):
  ∃p,F[j]?=some p/\x.key=M.kv p.1/\x.val=M.mv p.2:=by
 have a:=congrArg (fun l=>l[j]?) h;simp only[a1z,c,Option.map_some] at a
 cases hF:F[j]? with
 |none=>rw[hF] at a;cases a
 |some p=>rw[hF] at a;simp at a;exact⟨p,rfl,a.1,a.2⟩
theorem Eh.keys_nodup{M:Il P t k e κ ν}{w:World}{b:Nat}{F:List (κ × ν)}(h:Eh M w b F):(Br F).Nodup:=by
 obtain⟨i,a,n,c,l,j⟩:=h;have m:=((stamped_iff i a).1 c).2.2;unfold Br List.Nodup;rw[List.pairwise_map]
 have g:(i.toList.map (fun x=>(x.key,x.val))).Pairwise (fun p q=>p.1≠q.1):=by rw[List.pairwise_map];exact m
 rw[l,List.pairwise_map] at g;exact g.imp (fun d e=>d (by rw[e]))
theorem Eh.lt{M:Il P t k e κ ν}{w:World}{b:Nat}{F:List (κ × ν)}(h:Eh M w b F):b<w.heap.size:=by
 obtain⟨d,a,c,_⟩:=h;exact(Array.getElem?_eq_some_iff.1 c).1
theorem Eh.key_ok{M:Il P t k e κ ν}{w:World}{b:Nat}{F:List (κ × ν)}(h:Eh M w b F){p:κ × ν}(d:p∈F):M.ok p.1:=by
 obtain⟨g,c,_,_,_,a⟩:=h;exact a p d
theorem Eh.of_block{M:Il P t k e κ ν}{w w':World}{b:Nat}{F:List (κ × ν)}(h:Eh M w b F)(c:w'.heap[b]?=w.heap[b]?):Eh M w' b F:=by
 obtain⟨i,a,g,d⟩:=h;exact⟨i,a,c.trans g,d⟩
theorem Eh.made(w:World):Eh M (w.alloc (.map #[] 0)) w.heap.size []:=
 ⟨#[],0,(MapKept.heap_alloc w _).1,stamped_empty 0,rfl,by simp⟩
theorem Xq[DecidableEq κ]{F:List (κ × ν)}{x:κ}(h:∀p∈F,p.1≠x):Ar F x=none:=by
 unfold Ar;rw[List.find?_eq_none.2]
 .rfl
 .intro p a;simpa using h p a
theorem Xr[DecidableEq κ]:∀{F:List (κ × ν)} (_ :(Br F).Nodup) {x:κ} {v:ν} (_ :(x,v)∈F),Ar F x=some v
 |[],_,_,_,h=>by cases h
 |p::r,hn,x,v,h=>by
  unfold Br at hn;rw[a0v,a0z] at hn;unfold Ar;rcases List.mem_cons.1 h with rfl|h
  .simp
  .have:p.1≠x:=fun e=>hn.1 (List.mem_map.2 ⟨(x,v),h,e.symm⟩);rw[a1x];simp only[beq_eq_false_iff_ne.2 this];exact Xr hn.2 h
theorem kH[DecidableEq κ]{F:List (κ × ν)}{x:κ}{v:ν}(h:Ar F x=some v):(x,v)∈F:=by
 unfold Ar at h
 cases hf:F.find? (fun p=>p.1==x) with
 |none=>rw[hf] at h;cases h
 |some p=>
  rw[hf] at h;have b:=List.mem_of_find?_eq_some hf;have a:=List.find?_some hf;simp at a h;subst a;subst h;exact b
theorem Xs[DecidableEq κ]{F:List (κ × ν)}{x:κ}:Ar F x=none↔∀p∈F,p.1≠x:=by
 constructor
 .intro h p a e;unfold Ar at h;rw[Option.map_eq_none_iff,List.find?_eq_none] at h;have:=h p a;simp[e] at this
 .exact Xq
theorem Eh.find{M:Il P t k e κ ν}{F:List (κ × ν)}{w:World}{a:Array MapEntry}(h:a.toList.map (fun x=>(x.key,x.val))=F.map (fun p=>(M.kv p.1,M.mv p.2)))(g:∀p∈F,M.ok p.1){x:κ}(m:M.ok x):
  ((Instr.findKey k (M.kv x) a.toList).run P w=.ok none w/\(∀y∈a.toList,y.key≠M.kv x)/\∀p∈F,p.1≠x)∨
  ∃j y v,(Instr.findKey k (M.kv x) a.toList).run P w=.ok (some (j,y.val)) w/\a.toList[j]?=some y/\F[j]?=some (x,v)/\y.key=M.kv x/\y.val=M.mv v:=by
 obtain⟨l,n⟩:=M.key m
 rcases M.K.find w n a.toList (fun y d=>by
  obtain⟨j,q,rfl⟩:=a1w d;obtain⟨p,b,c,_⟩:=aY h (Y q);rw[c]
  exact M.key (g p (a0w b))) with⟨c,h2⟩|⟨j,y,c,h2,h3⟩
 .refine Or.inl ⟨c,h2,fun p b e=>?_⟩;have i:(M.kv p.1,M.mv p.2)∈F.map (fun p=>(M.kv p.1,M.mv p.2)):=List.mem_map.2 ⟨p,b,rfl⟩;rw[<-h] at i;obtain⟨y,d,r⟩:=List.mem_map.1 i;have:y.key=M.kv p.1:=congrArg Prod.fst r;exact h2 y d (by rw[this,e])
 .obtain⟨p,b,u,s⟩:=aY h h2;have:p.1=x:=M.inj (u.symm.trans h3);exact Or.inr ⟨j,y,p.2,c,h2,by rw[b,<-this],h3,s⟩
theorem Eh.lookup[DecidableEq κ]{M:Il P t k e κ ν}{w:World}{b:Nat}{F:List (κ × ν)}(h:Eh M w b F)(c:Bool){x:κ}(m:M.ok x):
  (Instr.lookup t (.map (some b)) (M.kv x) c).run P w=.ok (if c then .tuple #[M.mv ((Ar F x).getD M.zero),.bool (Ar F x).isSome] else M.mv ((Ar F x).getD M.zero)) w:=by
 have d:=h.keys_nodup;obtain⟨B,i,p,r,s,a⟩:=h;obtain⟨l,n⟩:=M.key m;rcases Eh.find (w:=w) s a m with⟨g,_,q⟩|⟨j,y,v,g,q,z,A,u⟩
 .rw[Xq q]
  cases c<;>simp[Instr.lookup,run_underlying M.ht,MapKept.run_getObj_map p,M.K.check w _ n,g,M.hz,Result.andThen]
 .rw[Xr d (a0w z)]
  cases c<;>simp[Instr.lookup,run_underlying M.ht,MapKept.run_getObj_map p,M.K.check w _ n,g,u,Result.andThen]
theorem Vd[DecidableEq κ]:∀{F:List (κ × ν)} {x:κ} {v:ν} (_ :∀p∈F,p.1≠x),Bg F x v=F++[(x,v)]
 |[],_,_,_=>rfl
 |p::r,x,v,h=>by
  unfold Bg;rw[if_neg (h p (by simp)),Vd (fun q a=>h q (by simp[a]))];rfl
theorem kI[DecidableEq κ]:∀{F:List (κ × ν)} (_ :(Br F).Nodup) {x:κ} {v a:ν} {j:Nat} (_ :F[j]?=some (x,a)),Bg F x v=F.set j (x,v)
 |[],_,_,_,_,_,h=>by simp at h
 |p::r,hn,x,v,a,j,h=>by
  unfold Br at hn;rw[a0v,a0z] at hn;unfold Bg
  cases j with
  |zero=>simp at h;subst h;simp
  |succ j=>
   simp at h;have:p.1≠x:=fun e=>hn.1 (List.mem_map.2 ⟨(x,a),a0w h,e.symm⟩);rw[if_neg this,kI hn.2 h];rfl
theorem aZ[DecidableEq κ]{F:List (κ × ν)}{x:κ}{v:ν}{p:κ × ν}:p∈Bg F x v→p∈F∨p=(x,v):=by
 induction F with
 |nil=>intro h;right;simpa [Bg] using h
 |cons q r ih=>
  intro h;unfold Bg at h;split at h
  .rcases List.mem_cons.1 h with rfl|h
   .exact Or.inr rfl
   .exact Or.inl (by simp[h])
  .rcases List.mem_cons.1 h with rfl|h
   .exact Or.inl (by simp)
   .rcases ih h with h|h
    .exact Or.inl (by simp[h])
    .exact Or.inr h
theorem Eh.update[DecidableEq κ]{M:Il P t k e κ ν}{w:World}{b:Nat}{F:List (κ × ν)}(h:Eh M w b F){x:κ}(E:M.ok x)(v:ν):
  ∃s c,(Instr.mapUpdate t (.map (some b)) (M.kv x) (M.mv v)).run P w=.ok () (setBlock w b (.map s c))/\Eh M (setBlock w b (.map s c)) b (Bg F x v)/\
   (∀g a,w.heap[b]?=some (.map g a)->(Ar F x).isSome=true->c=a/\s.toList.map (·.born)=g.toList.map (·.born)):=by
 have G:=h.keys_nodup;obtain⟨C,d,q,u,L,z⟩:=h;obtain⟨l,J⟩:=M.key E;have m:∀p∈Bg F x v,M.ok p.1:=fun p S=>by
  rcases aZ S with h|rfl
  .exact z p h
  .exact E
 rcases Eh.find (w:=w) L z E with⟨N,U,r⟩|⟨j,y,V,N,r,T,R,W⟩
 .refine⟨C.push ⟨M.kv x,M.mv v,d⟩,d+1,?_,⟨_,_,heap_setBlock_same q _,stamped_push u U,?_,m⟩,?_⟩
  .simp[Instr.mapUpdate,run_underlying M.ht,MapKept.run_getObj_map q,M.K.check w false J,N,MapKept.run_setObj_map _ q,Result.andThen,setBlock]
  .rw[Vd r];simp[L]
  .intro g a _ O;rw[Xq r] at O;cases O
 .have Q:C[j]?=some y:=by simpa using r
  have n:(C.modify j (fun D=>{D with key:=M.kv x,val:=M.mv v})).toList=C.toList.set j {y with key:=M.kv x,val:=M.mv v}:=by rw[Array.toList_modify,modify_eq_set _ _ _ _ r]
  refine⟨C.modify j (fun D=>{D with key:=M.kv x,val:=M.mv v}),d,?_,⟨_,_,heap_setBlock_same q _,stamped_modify u _ _ (fun _ _=>rfl) (fun D _ A=>by rw[Q] at A;cases A;exact R.symm),?_,m⟩,?_⟩
  .simp[Instr.mapUpdate,run_underlying M.ht,MapKept.run_getObj_map q,M.K.check w false J,N,Q,R,M.K.stays w J,MapKept.run_setObj_map _ q,Result.andThen,setBlock]
  .rw[kI G T,n,a2x,a2x,L]
  .intro g a B _;rw[q] at B;cases B;refine⟨rfl,?_⟩;rw[n,a2x];apply List.ext_getElem?;intro i;rw[List.getElem?_set];split
   .rename_i e;subst e;rw[a1z,r];split
    .rfl
    .rename_i I;exact absurd (by simpa using(List.getElem?_eq_some_iff.1 r).1) I
   .rfl
theorem Xt[DecidableEq κ]{F:List (κ × ν)}{x:κ}(h:∀p∈F,p.1≠x):Dx F x=F:=by
 unfold Dx;rw[List.filter_eq_self];intro p a
 simpa using h p a
theorem kJ[DecidableEq κ]:∀{F:List (κ × ν)} (_ :(Br F).Nodup) {x:κ} {a:ν} {j:Nat} (_ :F[j]?=some (x,a)),Dx F x=F.eraseIdx j
 |[],_,_,_,_,h=>by simp at h
 |p::r,hn,x,a,j,h=>by
  unfold Br at hn;rw[a0v,a0z] at hn;unfold Dx
  cases j with
  |zero=>
   simp at h;subst h;rw[Z];simp only[ne_eq,not_true_eq_false,decide_false,Bool.false_eq_true,if_false,List.eraseIdx_zero,List.tail_cons];exact Xt (fun q b e=>hn.1 (List.mem_map.2 ⟨q,b,e⟩))
  |succ j=>
   simp at h;have:p.1≠x:=fun e=>hn.1 (List.mem_map.2 ⟨(x,a),a0w h,e.symm⟩);rw[Z,if_pos (by simpa using this),List.eraseIdx_cons_succ];exact congrArg _ (kJ hn.2 h)
theorem Eh.delete[DecidableEq κ]{M:Il P t k e κ ν}{w:World}{b:Nat}{F:List (κ × ν)}(h:Eh M w b F){x:κ}(B:M.ok x)(D:TypeId):
  ∃q a,(Builtin.delete_ #[t,k] D #[.map (some b),M.kv x]).run P w=.ok (.tuple #[]) (setBlock w b (.map q a))/\Eh M (setBlock w b (.map q a)) b (Dx F x):=by
 have r:=h.keys_nodup;obtain⟨i,c,g,m,v,n⟩:=h;obtain⟨l,C⟩:=M.key B;have d:∀p∈Dx F x,M.ok p.1:=fun p E=>n p ((List.mem_filter.1 E).1);rcases Eh.find (w:=w) v n B with⟨A,N,z⟩|⟨j,y,I,A,z,G,L,J⟩
 .refine⟨i,c,?_,_,_,heap_setBlock_same g _,m,?_,d⟩
  .simp[Builtin.delete_,run_underlying M.ht,MapKept.run_getObj_map g,M.K.check w _ C,A,MapKept.run_setObj_map _ g,Result.andThen,setBlock]
  .rw[Xt z];exact v
 .refine⟨i.eraseIdxIfInBounds j,c,?_,_,_,heap_setBlock_same g _,stamped_erase m j,?_,d⟩
  .simp[Builtin.delete_,run_underlying M.ht,MapKept.run_getObj_map g,M.K.check w _ C,A,MapKept.run_setObj_map _ g,Result.andThen,setBlock]
  .rw[kJ r G];have u:j<i.toList.length:=(List.getElem?_eq_some_iff.1 z).1;have:(i.eraseIdxIfInBounds j).toList=i.toList.eraseIdx j:=by
    have s:j<i.size:=(by simpa using u)
    simp only[Array.eraseIdxIfInBounds,dif_pos s,Array.toList_eraseIdx]
   rw[this,map_eraseIdx,map_eraseIdx,v]
theorem Eh.len{M:Il P t k e κ ν}{w:World}{b:Nat}{F:List (κ × ν)}(h:Eh M w b F)(c:TypeId):
  (Builtin.len_ #[t] c #[.map (some b)]).run P w=.ok (.int .i64 F.length) w:=by
 obtain⟨l,a,i,d,j,g⟩:=h
 have:l.size=F.length:=by have:=congrArg List.length j;simpa using this
 simp[Builtin.len_,run_underlying M.ht,MapKept.run_getObj_map i,Result.andThen,goInt,this]
def Im(w:World)(b r:Nat)(F:List (κ × ν))(done:List κ):Prop:=
 ∃es clock since seen c0,w.heap[b]?=some (.map es clock)/\Stamped es clock/\es.toList.map (fun x=>(x.key,x.val))=F.map (fun p=>(M.kv p.1,M.mv p.2))/\(∀p∈F,M.ok p.1)/\
  w.heap[r]?=some (.mapIter (some b) since seen c0)/\(∀x∈es.toList,x.born<since)/\since<=c0/\since<=clock/\
  (∀(j:Nat) (x:MapEntry) (p:κ × ν),es.toList[j]?=some x->F[j]?=some p->(seen.contains x.born=true↔p.1∈done))
theorem Im.map{M:Il P t k e κ ν}{w:World}{b r:Nat}{F:List (κ × ν)}{done:List κ}(h:Im M w b r F done):Eh M w b F:=by
 obtain⟨m,a,c,d,n,l,j,i,g,_⟩:=h;exact⟨m,a,l,j,i,g⟩
theorem Im.ne{M:Il P t k e κ ν}{w:World}{b r:Nat}{F:List (κ × ν)}{done:List κ}(h:Im M w b r F done):r≠b:=by
 obtain⟨j,c,a,d,l,i,_,_,_,g,_⟩:=h;rintro rfl;rw[i] at g;cases g
theorem Im.of_block{M:Il P t k e κ ν}{w w':World}{b r:Nat}{F:List (κ × ν)}{done:List κ}(h:Im M w b r F done)(i:w'.heap[b]?=w.heap[b]?)(g:w'.heap[r]?=w.heap[r]?):Im M w' b r F done:=by
 obtain⟨s,c,a,d,u,q,p,n,m,l,j⟩:=h;exact⟨s,c,a,d,u,i.trans q,p,n,m,g.trans l,j⟩
theorem Eh.range{M:Il P t k e κ ν}{w:World}{b:Nat}{F:List (κ × ν)}(h:Eh M w b F):
  ∃o,(Instr.range t (.map (some b))).run P w=.ok (.pointer (some ⟨w.heap.size,0,none⟩)) (w.alloc o)/\Im M (w.alloc o) b w.heap.size F []:=by
 have g:=h.lt;obtain⟨i,a,l,c,m,d⟩:=h;refine⟨_,run_range_map w t k e b i a M.ht l,i,a,a,#[],a,((MapKept.heap_alloc w _).2 b g).trans l,c,m,d,(MapKept.heap_alloc w _).1,((stamped_iff i a).1 c).1,a0u _,a0u _,?_⟩;intro j x p _ _;simp
theorem Im.next{M:Il P t k e κ ν}{w:World}{b r:Nat}{F:List (κ × ν)}{done:List κ}(h:Im M w b r F done)(W:TypeId):
  ((∀x∈Br F,x∈done)/\(Instr.next (.pointer (some ⟨r,0,none⟩)) false W).run P w=.ok (.tuple #[.bool false]) w)∨
  ∃x v n o,(x,v)∈F/\x∉done/\(n=w∨n=w.drew)/\(Instr.next (.pointer (some ⟨r,0,none⟩)) false W).run P w=.ok (.tuple #[.bool true,M.kv x,M.mv v]) (setBlock n r o)/\
   Im M (setBlock n r o) b r F (done++[x])/\(Instr.entry (.pointer (some ⟨r,0,none⟩))).run P (setBlock n r o)=.ok (.tuple #[M.kv x,M.mv v]) (setBlock n r o):=by
 have ae:=h.map.keys_nodup;have ad:=h.ne;obtain⟨m,a,c,d,c0,hb,C,hF,ac,hr,z,aa,K,g⟩:=h;rcases run_next_at (P:=P) w W r b c c0 d m a hr hb z aa with⟨h0,l⟩|⟨y,V,n,T,l⟩
 .refine Or.inl ⟨fun x B=>?_,l⟩;obtain⟨p,D,rfl⟩:=List.mem_map.1 B;obtain⟨j,I,rfl⟩:=a1w D
  have ai:m.toList.length=F.length:=by have:=congrArg List.length hF;simpa using this
  have Q:j<m.toList.length:=by omega
  refine(g j m.toList[j] F[j] (Y Q) (Y I)).1 ?_;exact all_seen m d h0 _ (List.getElem_mem Q)
 .have A:y∈m.toList∧d.contains y.born=false:=by
   unfold leftOf at V;simp at V;refine⟨by simpa using V.1,by simpa using V.2⟩
  obtain⟨j,I,u⟩:=a1w A.1;obtain⟨p,D,hk,hv⟩:=aY hF (Y I);rw[u] at hk hv;have O:p.1∉done:=fun hd=>by
   have:=(g j y p (by rw[<-u];exact Y I) D).2 hd;rw[A.2] at this;cases this
  have J:n.heap=w.heap:=by rcases T with rfl|rfl<;>rfl
  rw[hk,hv] at l;have S:(setBlock n r (.mapIter (some b) c (d.push y.born) a)).heap[b]?=some (.map m a):=by
   simp only[setBlock,J,Array.getElem?_setIfInBounds,if_neg ad];exact hb
  have L:(setBlock n r (.mapIter (some b) c (d.push y.born) a)).heap[r]?=some (.mapIter (some b) c (d.push y.born) a):=by
   have af:=(Array.getElem?_eq_some_iff.1 hr).1;simp[setBlock,J,af]
  refine Or.inr ⟨p.1,p.2,n,_,a0w D,O,T,l,⟨m,a,c,d.push y.born,a,S,C,hF,ac,L,z,K,K,?_⟩,?_⟩
  .intro i x q B N;have s:=g i x q B N;rw[Array.contains_push];simp only[Bool.or_eq_true,List.mem_append,a0x];rw[s];refine or_congr Iff.rfl ?_;have E:=((stamped_iff m a).1 C).2.1;constructor
   .intro ah
    have R:x.born=y.born:=(by simpa using ah)
    have:i=j:=by
     have hi:i<m.toList.length:=(List.getElem?_eq_some_iff.1 B).1;have U:=List.getElem?_eq_some_iff.1 B;obtain⟨_,U⟩:=U;have G:(m.toList.map (·.born))[i]'(by simpa using hi)=(m.toList.map (·.born))[j]'(by simpa using I):=by
      simp only[List.getElem_map,U,u,R]
     exact(List.getElem_inj E).1 G
    subst this;rw[D] at N;cases N;rfl
   .intro ab;have:i=j:=by
     have hi:i<F.length:=(List.getElem?_eq_some_iff.1 N).1;obtain⟨_,U⟩:=List.getElem?_eq_some_iff.1 N;have ag:j<F.length:=(List.getElem?_eq_some_iff.1 D).1;obtain⟨_,e2⟩:=List.getElem?_eq_some_iff.1 D;have G:(Br F)[i]'(by simpa [Br] using hi)=(Br F)[j]'(by simpa [Br] using ag):=by
      simp only[Br,List.getElem_map,U,e2,ab]
     exact(List.getElem_inj ae).1 G
    subst this;rw[Y I,u] at B;cases B;simp
  .rw[<-hk,<-hv];exact run_entry_at _ r b c d m a y L S A.1 ((stamped_iff m a).1 C).2.1
theorem Xu[DecidableEq κ]:∀{F:List (κ × ν)} {x:κ} {v:ν} (_ :(Ar F x).isSome=true),Br (Bg F x v)=Br F
 |[],_,_,h=>by cases h
 |p::r,x,v,h=>by
  unfold Bg;by_cases e:p.1=x
  .rw[if_pos e];simp[Br,e]
  .rw[if_neg e];have a:(Ar r x).isSome=true:=by
    unfold Ar at h ⊢;rw[a1x,beq_eq_false_iff_ne.2 e] at h;exact h
   have:=Xu (v:=v) a;unfold Br at this ⊢;simp[this]
theorem Im.put[DecidableEq κ]{M:Il P t k e κ ν}{w w':World}{b r:Nat}{F:List (κ × ν)}{done:List κ}(h:Im M w b r F done){x:κ}{v:ν}(I:(Ar F x).isSome=true)
  {g:Array MapEntry}{a:Nat}(J:w'.heap[b]?=some (.map g a))(N:w'.heap[r]?=w.heap[r]?)(Q:Eh M w' b (Bg F x v))
  (R:∀C c,w.heap[b]?=some (.map C c)->(Ar F x).isSome=true->a=c/\g.toList.map (·.born)=C.toList.map (·.born)):Im M w' b r (Bg F x v) done:=by
 obtain⟨L,n,i,A,c0,h1,h2,h3,h4,W,V,U,T,S⟩:=h;obtain⟨rfl,d⟩:=R L n h1 I;obtain⟨aa,D,K,g2,g3,g4⟩:=Q;rw[J] at K;cases K;have m:=Xu (v:=v) I;refine⟨g,a,i,A,c0,J,g2,g3,g4,N.trans W,?_,U,T,?_⟩
 .intro y G;have:y.born∈g.toList.map (·.born):=List.mem_map.2 ⟨y,G,rfl⟩;rw[d] at this;obtain⟨z,B,E⟩:=List.mem_map.1 this;rw[<-E];exact V z B
 .intro j y p G O;have u:=congrArg (fun l=>l[j]?) d;simp only[a1z,G,Option.map_some] at u
  cases B:L.toList[j]? with
  |none=>rw[B] at u;cases u
  |some z=>
   rw[B] at u;simp only[Option.map_some,Option.some.injEq] at u;have s:=congrArg (fun l=>l[j]?) m;simp only[Br,a1z,O,Option.map_some] at s
   cases hq:F[j]? with
   |none=>rw[hq] at s;cases s
   |some q=>
    rw[hq] at s;simp only[Option.map_some,Option.some.injEq] at s;rw[u,s];exact S j z q B hq
theorem Jl[DecidableEq κ]{p:κ × ν}{r:List (κ × ν)}{x:κ}(h:p.1=x):Ar (p::r) x=some p.2:=by
 unfold Ar;rw[a1x];simp[h]
theorem K6[DecidableEq κ]{p:κ × ν}{r:List (κ × ν)}{x:κ}(h:p.1≠x):Ar (p::r) x=Ar r x:=by
 unfold Ar;rw[a1x,beq_eq_false_iff_ne.2 h]
theorem Xv[DecidableEq κ](F:List (κ × ν))(x:κ)(v:ν):Ar (Bg F x v) x=some v:=by
 induction F with
 |nil=>simp[Bg,Ar]
 |cons p r ih=>
  unfold Bg;by_cases e:p.1=x
  .rw[if_pos e];exact Jl rfl
  .rw[if_neg e,K6 e];exact ih
theorem wY[DecidableEq κ](F:List (κ × ν)){x y:κ}(h:x≠y)(v:ν):Ar (Bg F x v) y=Ar F y:=by
 induction F with
 |nil=>simp[Bg,Ar,h]
 |cons p r ih=>
  unfold Bg;by_cases e:p.1=x
  .rw[if_pos e,K6 (p:=(x,v)) h,K6 (by rw[e];exact h)]
  .rw[if_neg e];by_cases a:p.1=y
   .rw[Jl a,Jl a]
   .rw[K6 a,K6 a,ih]
theorem wZ[DecidableEq κ](F:List (κ × ν))(x:κ):Ar (Dx F x) x=none:=by
 refine Xq fun p a=>?_;have:=(List.mem_filter.1 a).2
 simpa using this
theorem xA[DecidableEq κ](F:List (κ × ν)){x y:κ}(h:x≠y):Ar (Dx F x) y=Ar F y:=by
 induction F with
 |nil=>rfl
 |cons p r ih=>
  unfold Dx at ih ⊢;by_cases e:p.1=x
  .rw[Z,if_neg (by simp[e]),K6 (by rw[e];exact h)];exact ih
  .rw[Z,if_pos (by simpa using e)];by_cases a:p.1=y
   .rw[Jl a,Jl a]
   .rw[K6 a,K6 a,ih]
def Fj[DecidableEq κ](g:ν->ν)(done:List κ)(F:List (κ × ν)):List (κ × ν):=F.map (fun p=>if p.1∈done then(p.1,g p.2) else p)
def Me(g:ν->ν)(F:List (κ × ν)):List (κ × ν):=F.map (fun p=>(p.1,g p.2))
theorem bA[DecidableEq κ](g:ν->ν)(done:List κ)(F:List (κ × ν)):Br (Fj g done F)=Br F:=by
 unfold Br Fj;rw[List.map_map]
 exact a1v fun p _=>by simp only[Function.comp];split<;>rfl
theorem xB[DecidableEq κ]{g:ν->ν}{done:List κ}{F:List (κ × ν)}{x:κ}{v:ν}(h:(x,v)∈Fj g done F)(b:x∉done):(x,v)∈F:=by
 unfold Fj at h;obtain⟨p,c,a⟩:=List.mem_map.1 h;split at a
 .rename_i d;have:p.1=x:=congrArg Prod.fst a;exact absurd (this▸d) b
 .exact a▸c
theorem kK[DecidableEq κ]{g:ν→ν}{done:List κ}:∀{F:List (κ × ν)} (_ :(Br F).Nodup) {x:κ} {v:ν} (_ :(x,v)∈F) (_ :x∉done),Bg (Fj g done F) x (g v)=Fj g (done++[x]) F
 |[],_,_,_,h,_=>by cases h
 |p::r,hn,x,v,h,hx=>by
  unfold Br at hn;rw[a0v,a0z] at hn;have b:∀d,Fj g d (p::r)=(if p.1∈d then(p.1,g p.2) else p)::Fj g d r:=fun d=>rfl;rw[b,b];rcases List.mem_cons.1 h with rfl|h
  .rw[if_neg hx,if_pos (by simp)];unfold Bg;rw[if_pos rfl];refine congrArg _ ?_;unfold Fj;refine a1v fun q c=>?_;have:q.1≠x:=fun e=>hn.1 (List.mem_map.2 ⟨q,c,e⟩);simp[this]
  .have a:p.1≠x:=fun e=>hn.1 (List.mem_map.2 ⟨(x,v),h,e.symm⟩)
   have i:(if p.1∈done++[x] then(p.1,g p.2) else p)=if p.1∈done then(p.1,g p.2) else p:=by simp[a]
   rw[i];unfold Bg;rw[if_neg (by split<;>exact a),kK hn.2 h hx]
theorem kL[DecidableEq κ]{g:ν->ν}{done:List κ}{F:List (κ × ν)}(h:∀x∈Br F,x∈done):Fj g done F=Me g F:=by
 unfold Fj Me;exact a1v fun p a=>if_pos (h _ (List.mem_map.2 ⟨p,a,rfl⟩))
theorem xC[DecidableEq κ](g:ν->ν)(done:List κ)(p:κ × ν)(r:List (κ × ν)):(p.1∈done/\Fj g done (p::r)=(p.1,g p.2)::Fj g done r)∨(p.1∉done/\Fj g done (p::r)=p::Fj g done r):=by
 have a:Fj g done (p::r)=(if p.1∈done then(p.1,g p.2) else p)::Fj g done r:=rfl;by_cases h:p.1∈done
 .left;rw[a,if_pos h];exact⟨h,rfl⟩
 .right;rw[a,if_neg h];exact⟨h,rfl⟩
theorem kM[DecidableEq κ]{g:ν->ν}{done:List κ}{F:List (κ × ν)}{x:κ}{v:ν}(h:(x,v)∈F)(a:x∉done):(x,v)∈Fj g done F:=by
 unfold Fj;exact List.mem_map.2 ⟨(x,v),h,if_neg a⟩
theorem bB[DecidableEq κ]:∀{a b:List κ} (_ :a.Nodup) (_ :∀x∈a,x∈b),a.length≤b.length
 |[],_,_,_=>Nat.zero_le _
 |x::r,b,ha,h=>by
  rw[a0z] at ha;have i:=bB (b:=b.erase x) ha.2 (fun y c=>(List.mem_erase_of_ne (by rintro rfl;exact ha.1 c)).2 (h y (by simp[c])));have g:=List.length_erase_of_mem (h x (by simp));have d:=List.length_pos_of_mem (h x (by simp));simp only[List.length_cons];omega
theorem kN[DecidableEq κ](g:ν->ν)(F:List (κ × ν)):Fj g ([]:List κ) F=F:=by
 unfold Fj;simp
end
structure A9 where
 s:ByteArray
 synced:Nat
structure Dk where
 cap:Int
 size:Int
 files:List (ByteArray × A9)
 off:Bool
 left:Int
 keep:Int
def bC(f:A9):Value:=.agg #[.string f.s,.int .i64 f.synced]
noncomputable def fileTy:Il Tryz.prog 116 9 251 ByteArray A9 where
 K:=string_keyed Tryz.underlying9
 ht:=Tryz.underlying116
 kv:=.string
 mv:=bC
 ok:=fun s=>s.size<=maxLen
 inj:=fun h=>by cases h;rfl
 key:=fun h=>⟨_,Go.WideMaps.keyOf_string_mk Tryz.underlying9 h⟩
 zero:=⟨⟨#[]⟩,0⟩
 hz:=fun w=>by kernel_rfl
def xE(d:Dk)(bm:Nat):Array Value:=#[.int .i64 d.cap,.int .i64 d.size,.map (some bm),.bool d.off,.int .i64 d.left,.int .i64 d.keep]
structure Am(w:World)(b bm:Nat)(d:Dk):Prop where
 cells:w.heap[b]?=some (.cells (xE d bm) 118 (0,0))
 files:Eh fileTy w bm d.files
theorem Am.ne{w:World}{b bm:Nat}{d:Dk}(h:Am w b bm d):b≠bm:=by
 rintro rfl;obtain⟨g,a,c,_⟩:=h.files;rw[h.cells] at c;cases c
theorem Am.of_fp{w w':World}{S:List Nat}{b a:Nat}{d:Dk}(h:Am w b a d)(c:Fp S w w')(i:b∉S)(g:a∉S):Am w' b a d:=
 ⟨(c.block b (Ae h.cells) i).trans h.cells,h.files.of_block (c.block a h.files.lt g)⟩
def A6:A9:=⟨⟨#[]⟩,0⟩
def Bw(d:Dk)(name:ByteArray):A9:=(Ar d.files name).getD A6
def Dk.set(d:Dk)(name:ByteArray)(f:A9)(gone:Bool):Dk:=
 {d with size:=d.size+(f.s.size-(Bw d name).s.size),files:=if gone then Dx (Bg d.files name f) name else Bg d.files name f}
theorem xF(w:World)(s:ByteArray)(n:Int):(Instr.field 251 (.agg #[.string s,.int .i64 n]) 0).run Tryz.prog w=.ok (.string s) w:=by kernel_rfl
theorem xG{w:World}{b a:Nat}{d:Dk}(h:Am w b a d)(n:Int):Am (w.setCell ⟨b,1,none⟩ (.int .i64 n)) b a {d with size:=n}:=
 ⟨by rw[Cf h.cells];rfl,h.files.of_block (O1 (Ne.symm h.ne) _)⟩
theorem kO{w:World}{b a:Nat}{d:Dk}(h:Am w b a d)(o:Obj):Am (w.alloc o) b a d:=h.of_fp (Fp.alloc w o) (by simp) (by simp)
theorem bD{w:World}{b a:Nat}{d:Dk}(h:Am w b a d):Am w.drew b a d:=h.of_fp (Fp.drew w) (by simp) (by simp)
theorem kP{w:World}{b a:Nat}{d:Dk}(h:Am w b a d){o:Obj}{F:List (ByteArray × A9)}(c:Eh fileTy (setBlock w a o) a F):Am (setBlock w a o) b a {d with files:=F}:=
 ⟨by rw[(Fp.setBlock w a o).block b (Ae h.cells) (by simp[h.ne])];exact h.cells,c⟩
def kQ(w w':World)(bm b:Nat)(d:Dk)(name:ByteArray)(f:A9)(gone:Bool):Prop:=
 gone=false->(Ar d.files name).isSome=true->∀r done,r≠b->r≠bm->Im fileTy w bm r d.files done->Im fileTy w' bm r (Bg d.files name f) done
theorem kR{w:World}{b r:Nat}{F:List (ByteArray × A9)}{done:List ByteArray}(h:Im fileTy w b r F done):r<w.heap.size:=by
 obtain⟨n,c,a,d,p,m,l,j,i,g,_⟩:=h;exact Ae g
theorem Q2(w:World)(b a:Nat)(d:Dk)(name:ByteArray)(f:A9)(gone:Bool)(m:Am w b a d)(c:name.size≤maxLen)
  (O:0<=d.size)(N:d.size<=1000000000)(h3:f.s.size<=1000000000)(h4:(Bw d name).s.size<=1000000000):
  Calls Tryz.prog 188 #[.pointer (some ⟨b,0,none⟩),.string name,bC f,.bool gone] w fun e w'=>e=.returned (.tuple #[])/\Am w' b a (d.set name f gone)/\Fp [b,a] w w'/\kQ w w' a b d name f gone:=by
 have c1:w.cell? ⟨b,1,none⟩=some (.int .i64 d.size):=Ab m.cells 1;have c2:w.cell? ⟨b,2,none⟩=some (.map (some a)):=Ab m.cells 2;have f1:w.frozen? ⟨b,1,none⟩=false:=Av m.cells 1;have R:=Ae m.cells
 have W:(Instr.lookup 116 (.map (some a)) (.string name) false).run Tryz.prog ((w.alloc (.cells #[.string f.s,.int .i64 f.synced] 251)).drew)=.ok (.agg #[.string (Bw d name).s,.int .i64 (Bw d name).synced]) ((w.alloc (.cells #[.string f.s,.int .i64 f.synced] 251)).drew):=
  (bD (kO m _)).files.lookup false c
 have p:=bD (bD (kO (xG m (d.size+(↑f.s.size- ↑(Bw d name).s.size))) (.cells #[.string f.s,.int .i64 f.synced] 251)));obtain⟨G,g,L,D,j⟩:=p.files.update (x:=name) c f;have i:=kP p D
 change (Instr.mapUpdate 116 (.map (some a)) (.string name) (.agg #[.string f.s,.int .i64 f.synced])).run Tryz.prog _ =_ at L
 have C:Fp [b,a] w (setBlock ((w.setCell ⟨b,1,none⟩ (.int .i64 (d.size+(↑f.s.size- ↑(Bw d name).s.size)))).alloc (.cells #[.string f.s,.int .i64 f.synced] 251)).drew.drew a (.map G g)):=
  (((Fp.setCell w ⟨b,1,none⟩ _).mono (by simp)).trans ((Fp.alloc _ _).trans ((Fp.drew _).trans (Fp.drew _) (by simp)) (by simp))).trans (Fp.setBlock _ _ _)
 have n:kQ w (setBlock ((w.setCell ⟨b,1,none⟩ (.int .i64 (d.size+(↑f.s.size- ↑(Bw d name).s.size)))).alloc (.cells #[.string f.s,.int .i64 f.synced] 251)).drew.drew a (.map G g)) a b d name f false:=by
  intro _ E r done O N B;have y:((w.setCell ⟨b,1,none⟩ (.int .i64 (d.size+(↑f.s.size- ↑(Bw d name).s.size)))).alloc (.cells #[.string f.s,.int .i64 f.synced] 251)).drew.drew.heap[a]?=w.heap[a]?:=by
   show((w.setCell _ _).alloc _).heap[a]?=_;rw[Below.heap_alloc _ _ _ (by simpa [World.setCell] using m.files.lt),O1 (Ne.symm m.ne)]
  have u:=kR B;refine B.put E (heap_setBlock_same (y.trans (B.map).choose_spec.choose_spec.1) _) ?_ D (fun F l T=>j F l (y.trans T));rw[(Fp.setBlock _ _ _).block r (by simpa [World.setCell] using Nat.lt_succ_of_lt u) (by simpa using N)];show((w.setCell _ _).alloc _).heap[r]?=_;rw[Below.heap_alloc _ _ _ (by simpa [World.setCell] using u),O1 O]
 have S:=xF;obtain⟨w2,q⟩:=Bz (setBlock ((w.setCell ⟨b,1,none⟩ (.int .i64 (d.size+(↑f.s.size- ↑(Bw d name).s.size)))).alloc (.cells #[.string f.s,.int .i64 f.synced] 251)).drew.drew a (.map G g));rw[<-q] at L i C n;clear q D j;have V:w2.cell? ⟨b,2,none⟩=some (.map (some a)):=Ab i.cells 2;have K:=X i;have Q:=X C;have I:=X n;obtain⟨U,z,A,v⟩:=i.files.delete (x:=name) c 0;have J:=X (kP i v);clear i C p v n
 change (Builtin.delete_ #[116,9] 0 #[.map (some a),.string name]).run Tryz.prog _ =_ at A
 unfold bC;cases gone
 all_goals
  go_in;go_wp2
  go_region
  go_wp2
  go_region
  go_wp2;go_end0
 .exact⟨rfl,K.o,Q.o,I.o⟩
 .exact⟨rfl,J.o,Q.o.trans (Fp.setBlock _ _ _),fun h=>by cases h⟩
def Ed(s:ByteArray):Bool:=decide (1<=s.size/\s.size<=60)
def Dk.named(d:Dk)(names:List ByteArray):Int:=if d.off then 6 else if names.all Ed then 0 else 1
theorem kS{d:Dk}{names:List ByteArray}(b:d.off=false){x:ByteArray}(a:x∈names)(h:Ed x=false):d.named names=1:=by
 unfold Dk.named;rw[b,if_neg (by simp),if_neg];intro c;rw[List.all_eq_true.1 c x a] at h;cases h
theorem bE{d:Dk}{names:List ByteArray}(a:d.off=false)(h:names.all Ed=true):d.named names=0:=by
 unfold Dk.named;rw[a,if_neg (by simp),if_pos h]
theorem xH{x:ByteArray}(h:x.size=0):Ed x=false:=by simp[Ed,h]
theorem xI{x:ByteArray}(h:¬x.size<=60):Ed x=false:=by
 unfold Ed;exact decide_eq_false (by omega)
theorem bF{x:ByteArray}(h:¬x.size=0)(a:x.size<=60):Ed x=true:=by
 unfold Ed;exact decide_eq_true (by omega)
theorem xJ{l:List ByteArray}{f:ByteArray->Bool}{k:Nat}(b:k<l.length)(h:(l.take k).all f=true)(a:f l[k]=true):(l.take (k+1)).all f=true:=by
 rw[List.take_succ_eq_append_getElem b,List.all_append,h];simp[a]
theorem Xw(w:World)(b E v:Nat)(d:Dk)(names:List ByteArray)(u:Am w b E d)(y:w.heap[v]?=some (.cells (names.map Value.string).toArray 9 (0,0)))(J:names.length≤1000):
  Calls Tryz.prog 175 #[.pointer (some ⟨b,0,none⟩),.slice (some ⟨v,0,none⟩) names.length names.length] w fun e w'=>e=.returned (.int .i64 (d.named names))/\w=w':=by
 have B:w.cell? ⟨b,3,none⟩=some (.bool d.off):=Ab u.cells 3;have N:=X u;have G:=X y;have D:=Ae u.cells;have z:=Ae y;clear u y;cases ho:d.off
 case true=>
  rw[ho] at B
  have p:Hid (d.named names=6):=by simp[Hid,Dk.named,ho]
  clear ho;go_in;go_wp2;go_ret;exact⟨by rw[p.o];rfl,rfl⟩
 rw[ho] at B;have p:=X ho;clear ho;go_in;go_wp2
 go_loop [13] (fun i=>∃k:Nat,k<=names.length/\i=.int .i64 k/\(names.take k).all Ed=true) (fun i=>names.length-(intOf i).toNat)
 case atStart=>exact⟨0,by omega,rfl,by simp⟩
 case round=>
  obtain⟨k,K,rfl,g⟩:=hrel;have C:=X g;clear g;by_cases c:k<names.length
  .have h:w.cell? ⟨v,k,none⟩=some (.string names[k]):=(by rw[Ab G.o];simp[c])
   obtain⟨x,s⟩:=Bz (names[k]);rw[<-s] at h;have m:x∈names:=s▸List.getElem_mem c;have F:=X s;have n:=X m;clear s m;by_cases j:x.size=0
   .have q:=X (kS p.o n.o (xH j));obtain rfl:x=⟨#[]⟩:=by
     obtain⟨⟨l⟩⟩:=x
     cases l with
     |nil=>rfl
     |cons a r=>cases j
    clear j;go_wp2;go_ret;exact⟨by rw[q.o];rfl,rfl⟩
   .have L:=Nw (Nat.pos_of_ne_zero j);have I:=X j;clear j;by_cases A:x.size≤60
    .go_wp2
     go_round
     case rel=>exact⟨k+1,by omega,by go_num,xJ c C.o (F.o▸bF I.o A)⟩
     case measure=>simp[intOf];omega
    .have q:=X (kS p.o n.o (xI A));go_wp2;go_ret;exact⟨by rw[q.o];rfl,rfl⟩
  .have q:=X (bE p.o (by have:=C.o;rwa [List.take_of_length_le (by omega)] at this));go_wp2;go_ret;exact⟨by rw[q.o];rfl,rfl⟩
def Dk.new(cap:Int):Dk:={cap:=max cap 0,size:=0,files:=[],off:=false,left:=0,keep:=0}
def Dk.on(d:Dk):Dk:={d with off:=false,left:=0}
def Dk.read(d:Dk)(name:ByteArray):ByteArray × Int:=
 if d.named [name]≠0 then(⟨#[]⟩,d.named [name]) else match Ar d.files name with
  |none=>(⟨#[]⟩,3)
  |some f=>(f.s,0)
theorem xK(cap:Int)(w:World):
  Calls Tryz.prog 21 #[.int .i64 cap] w fun e w'=>e=.returned (.pointer (some ⟨w.heap.size+1,0,none⟩))/\Am w' (w.heap.size+1) w.heap.size (Dk.new cap)/\Fp [] w w':=by
 have d:=@run_makeMap Tryz.prog;have b:=Eh.made fileTy w;have c:∀a:Int,a=max cap 0->Am ((w.alloc (.map #[] 0)).alloc (.cells #[.int .i64 a,.int .i64 0,.map (some w.heap.size),.bool false,.int .i64 0,.int .i64 0] 118 (0,0))) (w.heap.size+1) w.heap.size (Dk.new cap):=fun a g=>by
  subst g;refine⟨?_,b.of_block (Below.heap_alloc _ _ _ (by simp))⟩;exact Ai (by simp) _
 have h:=X c;clear c b;by_cases i:0<=cap
 all_goals
  go_in;go_wp2;go_ret;exact⟨rfl,h.o _ (by omega),(Fp.alloc _ _).trans (Fp.alloc _ _)⟩
theorem xM(w:World)(b m:Nat)(d:Dk)(name:ByteArray)(j:Am w b m d)(c:name.size≤maxLen):
  Calls Tryz.prog 113 #[.pointer (some ⟨b,0,none⟩),.string name] w fun e w'=>e=.returned (.tuple #[.string (d.read name).1,.int .i64 (d.read name).2])/\Fp [] w w':=by
 have x:w.cell? ⟨b,2,none⟩=some (.map (some m)):=Ab j.cells 2;have u:=Ae j.cells;have g:=j.of_fp (Fp.alloc w (.cells #[.string name] 9)) (by simp) (by simp);have p:(Instr.lookup 116 (.map (some m)) (.string name) true).run Tryz.prog (w.alloc (.cells #[.string name] 9))=.ok (.tuple #[.agg #[.string (Bw d name).s,.int .i64 (Bw d name).synced],.bool (Ar d.files name).isSome]) (w.alloc (.cells #[.string name] 9)):=g.files.lookup true c;have r:=X g;clear j g
 have a:Calls Tryz.prog 175 #[.pointer (some ⟨b,0,none⟩),.slice (some ⟨w.heap.size,0,none⟩) 1 1] (w.alloc (.cells #[.string name] 9)) fun e w'=>e=.returned (.int .i64 (d.named [name]))/\(w.alloc (.cells #[.string name] 9))=w':=
  Xw (w.alloc (.cells #[.string name] 9)) b m w.heap.size d [name] r.o (MapKept.heap_alloc w _).1 (by simp)
 have n:=X a;clear a;have q:=X ((Fp.alloc w (.cells #[.string name] 9)));obtain⟨nm,a⟩:=Bz (d.named [name]);rw[<-a] at n;by_cases l:nm=0
 .subst l
  cases hg:Ar d.files name with
  |none=>
   rw[hg] at p
   have i:Hid (d.read name=(⟨#[]⟩,3)):=(by simp[Hid,Dk.read,<-a,hg])
   clear hg a;go_in;go_wp2_with (go_at_call 175;refine n.o.mono ?_;rintro e w' ⟨rfl,rfl⟩);go_ret2;exact⟨by rw[i.o];rfl,q.o.alloc' _⟩
  |some f=>
   have h:Bw d name=f:=(by simp[Bw,hg])
   rw[hg,h] at p
   have i:Hid (d.read name=(f.s,0)):=(by simp[Hid,Dk.read,<-a,hg])
   clear hg a h;go_in;go_wp2_with (go_at_call 175;refine n.o.mono ?_;rintro e w' ⟨rfl,rfl⟩);go_ret2;exact⟨by rw[i.o];rfl,q.o.alloc' _⟩
 .have i:Hid (d.read name=(⟨#[]⟩,nm)):=by simp[Hid,Dk.read,<-a,l]
  have v:((nm:Int)!=0)=true:=by simpa using l
  clear a p l;go_in;go_wp2_with (go_at_call 175;refine n.o.mono ?_;rintro e w' ⟨rfl,rfl⟩);go_ret2;exact⟨by rw[i.o];rfl,q.o⟩
def total(F:List (ByteArray × A9)):Nat:=(F.map (fun p=>p.2.s.size)).sum
def Oz(keep:Int)(f:A9):Nat:=f.synced+(if 0<=keep then keep.toNat%(f.s.size-f.synced+1) else 0)
def Hj(keep:Int)(f:A9):A9:=⟨f.s.extract 0 (Oz keep f),(f.s.extract 0 (Oz keep f)).size⟩
def Dk.crash(d:Dk)(keep:Int):Dk:={d with off:=true,files:=Me (Hj keep) d.files,size:=total (Me (Hj keep) d.files)}
structure Au(d:Dk):Prop where
 size:d.size=total d.files
 fits:(total d.files:Int)<=d.cap
 caps:d.cap<=1000000000
 nodup:(Br d.files).Nodup
 sync:∀p∈d.files,p.2.synced<=p.2.s.size
 many:d.files.length<=200
 left0:0<=d.left
 left1:d.left<=9223372036854775807
 keep0: -9223372036854775808<=d.keep
 keep1:d.keep<=9223372036854775807
theorem Au.le{d:Dk}(h:Au d):total d.files<=1000000000:=by
 have:=h.fits;have:=h.caps;omega
theorem xN{keep:Int}{f:A9}(h:f.synced<=f.s.size):Oz keep f<=f.s.size:=by
 unfold Oz;split
 .have:=Nat.mod_lt keep.toNat (show 0<f.s.size-f.synced+1 by omega);omega
 .omega
theorem bG{s:ByteArray}{n:Nat}(h:n<=s.size):(s.extract 0 n).size=n:=by simp;omega
theorem kT{F:List (ByteArray × A9)}{p:ByteArray × A9}(h:p∈F):p.2.s.size≤total F:=by
 unfold total
 induction F with
 |nil=>cases h
 |cons q r ih=>
  rcases List.mem_cons.1 h with rfl|h
  .simp
  .have:=ih h;simp;omega
theorem bH:∀{F:List (ByteArray × A9)} (_ :(Br F).Nodup) {x:ByteArray} {v f:A9} (_ :Ar F x=some v),total (Bg F x f)+v.s.size=total F+f.s.size
 |[],_,_,_,_,h=>by cases h
 |p::r,hn,x,v,f,h=>by
  unfold Br at hn;rw[a0v,a0z] at hn;unfold Bg;by_cases e:p.1=x
  .rw[if_pos e];have:p.2=v:=by
    rw[Jl e] at h;exact Option.some.inj h
   simp[total,this];omega
  .rw[if_neg e];have a:Ar r x=some v:=by
    rw[K6 e] at h;exact h
   have:=bH hn.2 (f:=f) a;simp[total] at this ⊢;omega
def Dk.mid(d:Dk)(keep:Int)(done:List ByteArray):Dk:={d with off:=true,files:=Fj (Hj keep) done d.files,size:=total (Fj (Hj keep) done d.files)}
theorem kU{keep:Int}{done:List ByteArray}{F:List (ByteArray × A9)}(h:∀p∈F,p.2.synced≤p.2.s.size):total (Fj (Hj keep) done F)≤total F:=by
 induction F with
 |nil=>exact a0u _
 |cons p r ih=>
  have g:=ih (fun q c=>h q (by simp[c]));have d:=h p (by simp);have b:=xN (keep:=keep) d
  have i:(Hj keep p.2).s.size<=p.2.s.size:=by show(p.2.s.extract 0 _).size<=_;rw[bG b];exact b
  unfold total at g ⊢
  rcases xC (Hj keep) done p r with⟨_,a⟩|⟨_,a⟩<;>rw[a]<;>simp<;>omega
theorem xO{d:Dk}{keep:Int}{done:List ByteArray}{x:ByteArray}{v:A9}(c:(Br d.files).Nodup)(h:(x,v)∈d.files)(b:x∉done):
  Bw (d.mid keep done) x=v/\(d.mid keep done).set x (Hj keep v) false=d.mid keep (done++[x])/\(Ar (d.mid keep done).files x).isSome=true:=by
 have m:(x,v)∈Fj (Hj keep) done d.files:=kM h b
 have a:(Br (Fj (Hj keep) done d.files)).Nodup:=by rw[bA];exact c
 have l:Ar (d.mid keep done).files x=some v:=Xr a m
 have j:Bw (d.mid keep done) x=v:=by unfold Bw;rw[l];rfl
 refine⟨j,?_,by rw[l];rfl⟩;have i:=kK (g:=Hj keep) c h b;have n:=bH a (f:=Hj keep v) (Xr a m);rw[i] at n;unfold Dk.set;rw[j];unfold Dk.mid;simp only[Bool.false_eq_true,if_false,i,Dk.mk.injEq,true_and,and_true];omega
structure xP(w wr:World)(b bm r:Nat)(d:Dk)(keep:Int)(done:List ByteArray):Prop where
 disk:Am wr b bm (d.mid keep done)
 range:Im fileTy wr bm r (d.mid keep done).files done
 nodup:done.Nodup
 sub:∀x∈done,x∈Br d.files
 fp:Fp [b,bm] w wr
 rnew:w.heap.size<=r
def kV(w wr:World)(b bm r:Nat)(d:Dk)(keep:Int)(n:Nat):Prop:=∃done,xP w wr b bm r d keep done/\n+done.length=d.files.length
theorem kW(w:World)(b F:Nat)(d:Dk)(keep:Int)(E:Am w b F d)(r:Au d)(a1: -9223372036854775808≤keep)(a0:keep≤9223372036854775807):
  Calls Tryz.prog 277 #[.pointer (some ⟨b,0,none⟩),.int .i64 keep] w fun e w'=>e=.returned (.tuple #[])/\Am w' b F (d.crash keep)/\Fp [b,F] w w':=by
 have c3:w.cell? ⟨b,3,none⟩=some (.bool d.off):=Ab E.cells 3;have c2:w.cell? ⟨b,2,none⟩=some (.map (some F)):=Ab E.cells 2;have f3:w.frozen? ⟨b,3,none⟩=false:=Av E.cells 3;have az:=Ae E.cells
 have T:Am (w.setCell ⟨b,3,none⟩ (.bool true)) b F {d with off:=true}:=
  ⟨by rw[Cf E.cells];rfl,E.files.of_block (O1 (Ne.symm E.ne) _)⟩
 obtain⟨it,ax,ab⟩:=T.files.range;have ah:=T.of_fp (Fp.alloc _ it) (by simp) (by simp);have aw:=X ah;have au:=X ab;have HD:=X E;clear ah ab E T;go_in;go_wp2
 go_loopg [] d.files.length (fun n wr=>kV w wr b F w.heap.size d keep n)
 case atStart=>
  refine⟨[],⟨?_,?_,List.nodup_nil,by simp,?_,a0u _⟩,by simp⟩
  .have:=aw.o;unfold Dk.mid;rw[kN,<-r.size];exact this
  .have:=au.o;unfold Dk.mid;rw[kN]
   simpa [World.setCell] using this
  .exact(((Fp.refl _ _).setCell' (by simp) _).alloc' _)
 case round=>
  obtain⟨done,hrel,l⟩:=hrel;have HC:=X l;have g:=X hrel;have a2:b<wr.heap.size:=Ae hrel.disk.cells;clear l hrel;rcases g.o.range.next 0 with⟨N,j⟩|⟨x,v,w1,o,U,C,W,j,q,K⟩
  .have al:=X N;clear N;go_wp2;go_end0;have h1:=g.o.disk;have h2:d.mid keep done=d.crash keep:=by
    have:=al.o;unfold Dk.mid Dk.crash;rw[kL (by intro y i;exact this y (by show y∈Br (Fj _ _ _);rw[bA];exact i))]
   rw[h2] at h1;exact⟨rfl,h1,g.o.fp⟩
  .have u:(x,v)∈d.files:=xB U C;have ac:=xO (keep:=keep) (g.o.disk.files.keys_nodup |> fun h=>by rw[show Br (d.mid keep done).files=Br d.files from bA _ _ _] at h;exact h) u C;have aa:=r.sync _ u;have ad:=Nat.le_trans (kT u) r.le;have af:Fp [w.heap.size] wr (setBlock w1 w.heap.size o):=by
    rcases W with rfl|rfl
    .exact Fp.setBlock _ _ _
    .exact((Fp.refl _ _).drew').setBlock' (by simp) _
   have a3:b<w.heap.size:=Ae HD.o.cells;have ay:=HD.o.files.lt;have A:Fp [b,F] w (setBlock w1 w.heap.size o):=g.o.fp.trans af;have R:=g.o.disk.of_fp af (by simp;omega) (by simp;omega);obtain⟨w2,V⟩:=Bz (setBlock w1 w.heap.size o);rw[<-V] at j q K A R;have av:=X ac;have B:=X q;have aj:=X A;have ak:=X R;have I:=X u;have G:=X C;clear ac q A R u C U V W
   dsimp only at aa ad
   have am:x.size<=maxLen:=ak.o.files.key_ok (kM I.o G.o)
   change (Instr.next (.pointer (some ⟨w.heap.size,0,none⟩)) false 0).run Tryz.prog wr=.ok (.tuple #[.bool true,.string x,.agg #[.string v.s,.int .i64 v.synced]]) w2 at j
   change (Instr.entry (.pointer (some ⟨w.heap.size,0,none⟩))).run Tryz.prog w2=.ok (.tuple #[.string x,.agg #[.string v.s,.int .i64 v.synced]]) w2 at K
   have J:∀(L:Nat) (z:Int),Oz keep v=L→z=L→L≤v.s.size→Calls Tryz.prog 188 #[.pointer (some ⟨b,0,none⟩),.string x,.agg #[.string (v.s.extract 0 L),.int .i64 z],.bool false] (w2.alloc (.cells #[.string (v.s.extract 0 L),.int .i64 z] 251))
     fun e w'=>e=.returned (.tuple #[])/\Fp [] w' w'/\kV w w' b F w.heap.size d keep (gk-1):=by
    rintro L _ hL rfl ai;have ar:Hj keep v=⟨v.s.extract 0 L,L⟩:=by
     unfold Hj;rw[hL,bG ai]
    obtain⟨ao,D,an⟩:=av.o;have ag:=Fp.alloc w2 (.cells #[.string (v.s.extract 0 L),.int .i64 L] 251);refine(Q2 (w2.alloc (.cells #[.string (v.s.extract 0 L),.int .i64 L] 251)) b F (d.mid keep done) x ⟨v.s.extract 0 L,L⟩ false (ak.o.of_fp ag (by simp) (by simp)) am (by simp[Dk.mid]) ?_ ?_ ?_).mono ?_
    .have:=kU (keep:=keep) (done:=done) r.sync;have:=r.le;simp only[Dk.mid];omega
    .show(v.s.extract 0 L).size<=_;rw[bG ai];omega
    .rw[ao];exact ad
    .rintro e w3 ⟨rfl,S,ap,p⟩;rw[←ar] at S p;rw[D] at S;have aq:(done++[x]).length≤d.files.length:=by
      have:=bB (a:=done++[x]) (b:=Br d.files) (by
       rw[a1u];refine⟨g.o.nodup,by simp,?_⟩;intro a ha c hc;rw[a0x] at hc;rintro rfl
       exact G.o (hc▸ha)) (by
       intro y i;rcases List.mem_append.1 i with i|i
       .exact g.o.sub y i
       .rw[a0x] at i
        exact List.mem_map.2 ⟨(x,v),I.o,i.symm⟩)
      simpa [Br] using this
     refine⟨rfl,Fp.refl _ _,done++[x],⟨S,?_,?_,?_,?_,a0u _⟩,?_⟩
     .have h1:=p rfl an w.heap.size (done++[x]) (by omega) (by omega) (B.o.of_block (Below.heap_alloc _ _ _ B.o.map.lt) (Below.heap_alloc _ _ _ (kR B.o)));have h2:Bg (d.mid keep done).files x (Hj keep v)=(d.mid keep (done++[x])).files:=by
       rw[<-D];rfl
      rw[h2] at h1;exact h1
     .rw[a1u];refine⟨g.o.nodup,by simp,?_⟩;intro a ha c hc;rw[a0x] at hc;rintro rfl;exact G.o (hc▸ha)
     .intro y i;rcases List.mem_append.1 i with i|i
      .exact g.o.sub y i
      .rw[a0x] at i;exact List.mem_map.2 ⟨(x,v),I.o,i.symm⟩
     .exact(aj.o.trans ag).trans ap
     .have:=HC.o;simp only[List.length_append,List.length_singleton] at aq ⊢;omega
   have O:=X J;have ae:gk-1<gk:=by
    have:=HC.o
    have:=bB (a:=x::done) (b:=Br d.files) (List.nodup_cons.2 ⟨G.o,g.o.nodup⟩) (by
     intro y i;rcases List.mem_cons.1 i with rfl|i
     .exact List.mem_map.2 ⟨(y,v),I.o,rfl⟩
     .exact g.o.sub y i)
    simp[Br] at this;omega
   clear J;by_cases Q:0<=keep
   .obtain⟨m,hm⟩:∃m:Nat,keep%(↑v.s.size- ↑v.synced+1)=(m:Int):=Int.eq_ofNat_of_zero_le (Int.emod_nonneg _ (by omega));have D:v.synced+m≤v.s.size:=by
     have:=Int.emod_lt_of_pos keep (show(0:Int)< ↑v.s.size- ↑v.synced+1 by omega);omega
    have HL:Hid (Oz keep v=v.synced+m):=by
     unfold Hid Oz;rw[if_pos Q];have:((keep.toNat%(v.s.size-v.synced+1):Nat):Int)=(m:Int):=by
      rw[<-hm,Int.natCast_emod,Int.toNat_of_nonneg Q];congr 1;omega
     omega
    go_wp2_with fail;refine(O.o (v.synced+m) _ HL.o (by omega) D).mono ?_;rintro e w3 ⟨rfl,_,p⟩;go_wp2_with fail
    go_roundg (gk-1)
    case measure=>exact ae
    case rel=>exact p
   .have HL:Hid (Oz keep v=v.synced):=by
     unfold Hid Oz;rw[if_neg Q];rfl
    go_wp2_with fail;refine(O.o v.synced _ HL.o (by omega) aa).mono ?_;rintro e w3 ⟨rfl,_,p⟩;go_wp2_with fail
    go_roundg (gk-1)
    case measure=>exact ae
    case rel=>exact p
def Dk.tick(d:Dk):Dk:={d with left:=max (d.left-1) 0}
def Dk.does(d:Dk)(always:Bool):Bool:=d.left !=1||always||d.keep.tmod 2 !=0
def Dk.burnt(d d2:Dk):Dk:=if d.left=1 then d2.crash d2.keep else d2
def Dk.told(d:Dk):Int:=if d.left=1 then 6 else 0
structure bI(w:World)(b bm:Nat)(d d2:Dk)(K:Nat)(caps:Array Value):Prop where
 enters:∀w,(callFunc K caps).run Tryz.prog w=.ok (.enter K caps) w
 calls:∀w1,Am w1 b bm d->Fp [b] w w1->Calls Tryz.prog K caps w1 fun e w'=>e=.returned (.tuple #[])/\Am w' b bm d2/\Fp [b,bm] w1 w'
theorem bJ{w:World}{b a:Nat}{d:Dk}(h:Am w b a d)(n:Int):Am (w.setCell ⟨b,4,none⟩ (.int .i64 n)) b a {d with left:=n}:=
 ⟨by rw[Cf h.cells];rfl,h.files.of_block (O1 (Ne.symm h.ne) _)⟩
theorem xQ(w:World)(b m:Nat)(d s:Dk)(c:Bool)(K:Nat)(g:Array Value)(r:Am w b m d)(h:Au d)(n:d.left≠1)(p:bI w b m d.tick s K g):
  Calls Tryz.prog 237 #[.pointer (some ⟨b,0,none⟩),.bool c,.func (.func K) #[] g] w fun e w'=>e=.returned (.int .i64 d.told)/\Am w' b m (d.burnt s)/\Fp [b,m] w w':=by
 have G:w.cell? ⟨b,4,none⟩=some (.int .i64 d.left):=Ab r.cells 4;have F:w.frozen? ⟨b,4,none⟩=false:=Av r.cells 4;have C:=h.left0;have B:=h.left1;have y:=X r;have j:=X p;have x:Hid (d.told=0):=if_neg n;have z:Hid (d.burnt s=s):=if_neg n;have I:=X n
 have A:(d.left==1)=false:=by simpa using n
 clear r p n h;have D:=j.o.enters;by_cases E:1<=d.left
 .have q:=j.o.calls _ (show Am (w.setCell ⟨b,4,none⟩ (.int .i64 (d.left-1))) b m d.tick from by
   have:=bJ y.o (d.left-1);unfold Dk.tick;rwa [Int.max_eq_left (by omega)]) (Fp.setCell w ⟨b,4,none⟩ _)
  have v:=X q;clear q;have u:max (d.left-1) 0=d.left-1:=Int.max_eq_left (by omega);go_in;go_wp2_with fail;refine v.o.mono ?_;rintro e w2 ⟨rfl,a,i⟩;have l:=X a;clear a;go_wp2_with fail;go_ret;exact⟨by rw[x.o];rfl,by rw[z.o];exact l.o,((Fp.setCell _ _ _).mono (by simp)).trans i⟩
 .have q:=j.o.calls _ (show Am (w.setCell ⟨b,4,none⟩ (.int .i64 0)) b m d.tick from by
   have:=bJ y.o 0;unfold Dk.tick;rwa [Int.max_eq_right (by omega)]) (Fp.setCell w ⟨b,4,none⟩ _)
  have v:=X q;clear q;have u:max (d.left-1) 0=0:=Int.max_eq_right (by omega);go_in;go_wp2_with fail;refine v.o.mono ?_;rintro e w2 ⟨rfl,a,i⟩;have l:=X a;clear a;go_wp2_with fail;go_ret;exact⟨by rw[x.o];rfl,by rw[z.o];exact l.o,((Fp.setCell _ _ _).mono (by simp)).trans i⟩
theorem xR(w:World)(b p:Nat)(d h:Dk)(a:Bool)(K:Nat)(i:Array Value)(s:Am w b p d)(g:Au h)(r:d.left=1)(v:d.does a=true→bI w b p d.tick h K i)(u:d.does a=false→h=d.tick):
  Calls Tryz.prog 237 #[.pointer (some ⟨b,0,none⟩),.bool a,.func (.func K) #[] i] w fun e w'=>e=.returned (.int .i64 d.told)/\Am w' b p (d.burnt h)/\Fp [b,p] w w':=by
 have W:w.cell? ⟨b,4,none⟩=some (.int .i64 1):=by rw[<-r];exact Ab s.cells 4
 have V:w.cell? ⟨b,5,none⟩=some (.int .i64 d.keep):=Ab s.cells 5;have U:w.frozen? ⟨b,4,none⟩=false:=Av s.cells 4;have y:Am (w.setCell ⟨b,4,none⟩ (.int .i64 0)) b p d.tick:=by
  have:=bJ s 0;unfold Dk.tick;rw[r];exact this
 have J:Hid (d.told=6):=if_pos r;have N:Hid (d.burnt h=h.crash h.keep):=if_pos r;have HD:=X s;have z:=X y;have E:=X v;have C:=X u;have L:=X r;clear s y v u r;cases hdoes:d.does a
 .have c:=C.o hdoes;have n:=kW _ b p h h.keep (c▸z.o) g g.keep0 g.keep1
  have l:h.keep=d.keep:=by rw[c];rfl
  rw[l] at n;have G:=X n;have B:a=false/\(d.keep.tmod 2 !=0)=false:=by
   unfold Dk.does at hdoes;rw[L.o] at hdoes
   simpa using hdoes
  have D:=X l;obtain⟨rfl,O⟩:=B;clear n hdoes c l;go_in;go_wp2_with fail;refine G.o.mono ?_;rintro e w2 ⟨rfl,c,m⟩;have q:=X c;clear c;go_wp2_with fail;go_ret;exact⟨by rw[J.o];rfl,by rw[N.o,D.o];exact q.o,((Fp.setCell w ⟨b,4,none⟩ _).mono (by simp)).trans m⟩
 .have j:=E.o hdoes;have Q:=j.enters;have I:=j.calls _ z.o (Fp.setCell w ⟨b,4,none⟩ _);have S:=X I;have B:a=true∨a=false∧(d.keep.tmod 2 !=0)=true:=by
   unfold Dk.does at hdoes;rw[L.o] at hdoes;cases a
   .right;simpa using hdoes
   .left;rfl
  clear I j hdoes;rcases B with rfl|⟨rfl,O⟩
  all_goals
   go_in;go_wp2_with fail;refine S.o.mono ?_;rintro e w2 ⟨rfl,c,m⟩;have q:=X c;have R:w2.cell? ⟨b,5,none⟩=some (.int .i64 h.keep):=Ab c.cells 5;clear c;go_wp2_with fail;refine(kW _ b p h h.keep q.o g g.keep0 g.keep1).mono ?_;rintro e T ⟨rfl,x,A⟩;have F:=X x;clear x;go_wp2_with fail;go_ret;exact⟨by rw[J.o];rfl,by rw[N.o];exact F.o,(((Fp.setCell w ⟨b,4,none⟩ _).mono (by simp)).trans m).trans A⟩
theorem kX(w:World)(b h:Nat)(d g:Dk)(a:Bool)(K:Nat)(c:Array Value)(p:Am w b h d)(l:Au d)(i:Au g)(j:d.does a=true→bI w b h d.tick g K c)(m:d.does a=false→g=d.tick):
  Calls Tryz.prog 237 #[.pointer (some ⟨b,0,none⟩),.bool a,.func (.func K) #[] c] w fun e w'=>e=.returned (.int .i64 d.told)/\Am w' b h (d.burnt g)/\Fp [b,h] w w':=by
 by_cases n:d.left=1
 .exact xR w b h d g a K c p i n j m
 .exact xQ w b h d g a K c p l n (j (by simp[Dk.does,n]))
structure O0(w:World)(b bm:Nat)(d:Dk)(f:A9)(d2:Dk)(K:Nat)(caps:Array Value):Prop where
 enters:∀w,(callFunc K (#[.agg #[.string f.s,.int .i64 f.synced]]++caps)).run Tryz.prog w=.ok (.enter K (#[.agg #[.string f.s,.int .i64 f.synced]]++caps)) w
 calls:∀w1,Am w1 b bm d->Fp [b] w w1->Calls Tryz.prog K (#[.agg #[.string f.s,.int .i64 f.synced]]++caps) w1 fun e w'=>e=.returned (.tuple #[])/\Am w' b bm d2/\Fp [b,bm] w1 w'
theorem O0.later{w w':World}{b c:Nat}{d:Dk}{f:A9}{a:Dk}{K:Nat}{caps:Array Value}(h:O0 w b c d f a K caps)(i:Fp [b] w w'):O0 w' b c d f a K caps:=
 ⟨h.enters,fun g j l=>h.calls g j (i.trans l)⟩
theorem xT(w:World)(b h p q:Nat)(d:Dk)(f:A9)(m:Dk)(K:Nat)(a:Array Value)
  (x:w.cell? ⟨p,0,none⟩=some (.func (.func K) #[] a))(r:w.cell? ⟨q,0,none⟩=some (.string f.s))(n:w.cell? ⟨q,1,none⟩=some (.int .i64 f.synced))(c:O0 w b h d f m K a)(l:Am w b h d):
  Calls Tryz.prog 241 #[.pointer (some ⟨p,0,none⟩),.pointer (some ⟨q,0,none⟩)] w fun e w'=>e=.returned (.tuple #[])/\Am w' b h m/\Fp [b,h] w w':=by
 have u:=c.enters;have v:=X (c.calls w l (Fp.refl _ _));clear c l;go_in;go_wp2_with fail;refine v.o.mono ?_;rintro e w2 ⟨rfl,g,i⟩;have j:=X g;clear g;go_wp2_with fail;go_end0;exact⟨rfl,j.o,i⟩
theorem xU(p q:Value):∀w,(callFunc 241 #[p,q]).run Tryz.prog w=.ok (.enter 241 #[p,q]) w:=fun w=>by kernel_rfl
def Dk.thereD(d:Dk)(name:ByteArray)(g:A9->Dk):Dk:=if d.named [name]≠0 then d else match Ar d.files name with|none=>d|some f=>d.burnt (g f)
def Dk.thereE(d:Dk)(name:ByteArray):Int:=if d.named [name]≠0 then d.named [name] else match Ar d.files name with|none=>3|some _=>d.told
theorem Xx(w:World)(b m:Nat)(d:Dk)(name:ByteArray)(h:Bool)(K:Nat)(a:Array Value)(g:A9→Dk)(E:Am w b m d)(I:Au d)(q:name.size≤maxLen)
  (i:d.named [name]=0->∀f,Ar d.files name=some f->Au (g f)/\(d.does h=true->O0 w b m d.tick f (g f) K a)/\(d.does h=false->g f=d.tick)):
  Calls Tryz.prog 186 #[.pointer (some ⟨b,0,none⟩),.string name,.bool h,.func (.func K) #[] a] w fun e w'=>e=.returned (.int .i64 (d.thereE name))/\Am w' b m (d.thereD name g)/\Fp [b,m] w w':=by
 have W:w.cell? ⟨b,2,none⟩=some (.map (some m)):=Ab E.cells 2;have S:=Ae E.cells;have r:Fp [] w ((w.alloc (.cells #[.func (.func K) #[] a] 258)).alloc (.cells #[.string name] 9)):=(Fp.alloc _ _).alloc' _;have l:=E.of_fp r (by simp) (by simp);have J:(Instr.lookup 116 (.map (some m)) (.string name) true).run Tryz.prog ((w.alloc (.cells #[.func (.func K) #[] a] 258)).alloc (.cells #[.string name] 9))=.ok (.tuple #[.agg #[.string (Bw d name).s,.int .i64 (Bw d name).synced],.bool (Ar d.files name).isSome]) ((w.alloc (.cells #[.func (.func K) #[] a] 258)).alloc (.cells #[.string name] 9)):=l.files.lookup true q
 have c:Calls Tryz.prog 175 #[.pointer (some ⟨b,0,none⟩),.slice (some ⟨w.heap.size+1,0,none⟩) 1 1] ((w.alloc (.cells #[.func (.func K) #[] a] 258)).alloc (.cells #[.string name] 9)) fun e w'=>e=.returned (.int .i64 (d.named [name]))/\((w.alloc (.cells #[.func (.func K) #[] a] 258)).alloc (.cells #[.string name] 9))=w':=
  Xw _ b m (w.heap.size+1) d [name] l (Ai (by simp) _) (by simp)
 have u:=X l;have F:=X c;have T:=X i;have n:=X r;clear E l c i r;obtain⟨nm,c⟩:=Bz (d.named [name]);rw[<-c] at F;by_cases B:nm=0
 .subst B
  cases i:Ar d.files name with
  |none=>
   rw[i] at J
   have C:Hid (d.thereE name=3):=(by simp[Hid,Dk.thereE,<-c,i])
   have D:Hid (d.thereD name g=d):=(by simp[Hid,Dk.thereD,<-c,i])
   clear i c;go_in;go_wp2_with (go_at_call 175;refine F.o.mono ?_;rintro e w' ⟨rfl,rfl⟩);go_ret;exact⟨by rw[C.o];rfl,by rw[D.o];exact u.o.of_fp (Fp.alloc _ _) (by simp) (by simp),(n.o.alloc' _).mono (by simp)⟩
  |some f=>
   have z:Bw d name=f:=(by simp[Bw,i])
   rw[i,z] at J
   have C:Hid (d.thereE name=d.told):=(by simp[Hid,Dk.thereE,<-c,i])
   have D:Hid (d.thereD name g=d.burnt (g f)):=(by simp[Hid,Dk.thereD,<-c,i])
   obtain⟨y,x,v⟩:=T.o c.symm f i
   have p:=kX (((w.alloc (.cells #[.func (.func K) #[] a] 258)).alloc (.cells #[.string name] 9)).alloc (.cells #[.string f.s,.int .i64 f.synced] 251)) b m d (g f) h 241 #[.pointer (some ⟨w.heap.size,0,none⟩),.pointer (some ⟨w.heap.size+1+1,0,none⟩)] (u.o.of_fp (Fp.alloc _ _) (by simp) (by simp)) I y
    (fun O=>by
     have G:=(x O).later ((n.o.alloc' (.cells #[.string f.s,.int .i64 f.synced] 251)).mono (S':=[b]) (by simp));refine⟨xU _ _,fun R N j=>?_⟩;refine xT R b m w.heap.size (w.heap.size+1+1) d.tick f (g f) K a ?_ ?_ ?_ (G.later j) N
     .rw[j.cell (by simp;omega) (by simp;omega),World.cell?_of_block (w:=(w.alloc (.cells #[.func (.func K) #[] a] 258)))]
      .exact Ab (MapKept.heap_alloc w _).1 0
      .show(((w.alloc _).alloc _).alloc _).heap[w.heap.size]?=_;rw[Below.heap_alloc _ _ _ (by simp;omega),Below.heap_alloc _ _ _ (by simp)]
     .rw[j.cell (by simp) (by simp;omega)];exact Ab (Ai (by simp) _) 0
     .rw[j.cell (by simp) (by simp;omega)]
      exact Ab (Ai (by simp) _) 1)
    v
   have U:=X p;clear i c p y x v z;go_in;go_wp2_with (go_at_call 175;refine F.o.mono ?_;rintro e w' ⟨rfl,rfl⟩);refine U.o.mono ?_;rintro e w2 ⟨rfl,A,L⟩;have Q:=X A;clear A;go_wp2_with fail;go_ret;exact⟨by rw[C.o];rfl,by rw[D.o];exact Q.o,((n.o.alloc' _).mono (by simp)).trans L⟩
 .have C:Hid (d.thereE name=nm):=by simp[Hid,Dk.thereE,<-c,B]
  have D:Hid (d.thereD name g=d):=by simp[Hid,Dk.thereD,<-c,B]
  have V:((nm:Int)!=0)=true:=by simpa using B
  clear c J B;go_in;go_wp2_with (go_at_call 175;refine F.o.mono ?_;rintro e w' ⟨rfl,rfl⟩);go_ret;exact⟨by rw[C.o];rfl,by rw[D.o];exact u.o,n.o.mono (by simp)⟩
theorem Au.tick{d:Dk}(h:Au d):Au d.tick:=by
 obtain⟨m,l,j,i,g,c,p,n,b,a⟩:=h;refine⟨m,l,j,i,g,c,?_,?_,b,a⟩
 .show 0<=max (d.left-1) 0;omega
 .show max (d.left-1) 0<=_;omega
theorem xW{keep:Int}{F:List (ByteArray × A9)}(h:∀p∈F,p.2.synced<=p.2.s.size):total (Me (Hj keep) F)<=total F:=by
 have:=kU (keep:=keep) (done:=Br F) h
 rwa [kL (fun x a=>a)] at this
theorem xX(keep:Int)(f:A9):(Hj keep f).synced<=(Hj keep f).s.size:=a0u _
theorem xY{κ ν:Type}(g:ν->ν)(F:List (κ × ν)):Br (Me g F)=Br F:=by
 unfold Br Me;rw[List.map_map];rfl
theorem Au.crash{d:Dk}(h:Au d)(keep:Int):Au (d.crash keep):=by
 obtain⟨s,r,n,m,l,j,i,g,c,a⟩:=h;refine⟨rfl,?_,n,?_,?_,?_,i,g,c,a⟩
 .show((total (Me (Hj keep) d.files):Nat):Int)<=d.cap;have:=xW (keep:=keep) l;omega
 .show(Br (Me (Hj keep) d.files)).Nodup;rw[xY];exact m
 .intro p b;obtain⟨q,_,rfl⟩:=List.mem_map.1 b;exact xX _ _
 .show(Me (Hj keep) d.files).length<=200;unfold Me
  simpa using j
theorem Au.burnt{d a:Dk}(h:Au a):Au (d.burnt a):=by
 unfold Dk.burnt;split
 .exact h.crash _
 .exact h
theorem Au.on{d:Dk}(h:Au d):Au d.on:=by
 obtain⟨m,l,j,i,g,c,p,n,b,a⟩:=h;exact⟨m,l,j,i,g,c,by show(0:Int)<=0;omega,by show(0:Int)<=_;omega,b,a⟩
theorem Au.new{cap:Int}(h:cap<=1000000000):Au (Dk.new cap):=
 ⟨rfl,by show((0:Nat):Int)<=max cap 0;omega,by show max cap 0<=_;omega,List.nodup_nil,(fun p a=>absurd a (List.not_mem_nil)),Nat.zero_le _,Int.le_refl _,(by show(0:Int)<=9223372036854775807;decide),(by show(-9223372036854775808:Int)<=0;decide),(by show(0:Int)<=9223372036854775807;decide)⟩
theorem xZ{κ ν:Type}[DecidableEq κ]{F:List (κ × ν)}{x:κ}{v:ν}(h:Ar F x=none):Br (Bg F x v)=Br F++[x]:=by
 rw[Vd (Xs.1 h)];simp[Br]
theorem S3{κ ν:Type}[DecidableEq κ]{F:List (κ × ν)}{x:κ}{v:ν}(h:(Br F).Nodup):(Br (Bg F x v)).Nodup:=by
 cases hg:Ar F x with
 |none=>
  rw[xZ hg,a1u];refine⟨h,by simp,?_⟩;intro a g c b;rw[a0x] at b;rintro rfl;obtain⟨p,d,rfl⟩:=List.mem_map.1 g;exact Xs.1 hg p d b
 |some y=>rw[Xu (by rw[hg];rfl)];exact h
theorem yA{κ ν:Type}[DecidableEq κ]{F:List (κ × ν)}{x:κ}(h:(Br F).Nodup):(Br (Dx F x)).Nodup:=by
 unfold Br Dx;exact List.Nodup.sublist (List.Sublist.map _ (List.filter_sublist)) h
theorem yB{F:List (ByteArray × A9)}{x:ByteArray}{f:A9}(h:Ar F x=none):total (Bg F x f)=total F+f.s.size:=by
 rw[Vd (Xs.1 h)];simp[total]
theorem bK{F:List (ByteArray × A9)}(a:(Br F).Nodup)(x:ByteArray)(f:A9):total (Bg F x f)+((Ar F x).getD A6).s.size=total F+f.s.size:=by
 cases h:Ar F x with
 |none=>rw[yB h];rfl
 |some v=>exact bH a h
theorem bL:∀{F:List (ByteArray × A9)} (_ :(Br F).Nodup) (x:ByteArray),total (Dx F x)+((Ar F x).getD A6).s.size=total F
 |[],_,x=>rfl
 |p::r,hn,x=>by
  unfold Br at hn;rw[a0v,a0z] at hn;by_cases e:p.1=x
  .have c:∀q∈r,q.1≠x:=fun q b d=>hn.1 (List.mem_map.2 ⟨q,b,d.trans e.symm⟩);have a:Dx (p::r) x=Dx r x:=by
    unfold Dx;rw[Z,if_neg (by simp[e])]
   rw[a,Xt c,Jl e];simp[total];omega
  .have a:Dx (p::r) x=p::Dx r x:=by
    unfold Dx;rw[Z,if_pos (by simpa using e)]
   rw[a,K6 e];have:=bL hn.2 x;simp[total] at this ⊢;omega
theorem bM{κ ν:Type}[DecidableEq κ](F:List (κ × ν))(x:κ)(v:ν):(Bg F x v).length=if(Ar F x).isSome then F.length else F.length+1:=by
 cases h:Ar F x with
 |none=>rw[Vd (Xs.1 h)];simp
 |some y=>
  have:=congrArg List.length (Xu (v:=v) (by rw[h];rfl:(Ar F x).isSome=true))
  simpa [Br] using this
theorem bN{κ ν:Type}[DecidableEq κ]:∀{F:List (κ × ν)} (_ :(Br F).Nodup) (x:κ),(Dx F x).length+(if(Ar F x).isSome then 1 else 0)=F.length
 |[],_,x=>rfl
 |p::r,hn,x=>by
  unfold Br at hn;rw[a0v,a0z] at hn;by_cases e:p.1=x
  .have c:∀q∈r,q.1≠x:=fun q b d=>hn.1 (List.mem_map.2 ⟨q,b,d.trans e.symm⟩);have a:Dx (p::r) x=Dx r x:=by
    unfold Dx;rw[Z,if_neg (by simp[e])]
   rw[a,Xt c,Jl e];simp
  .have a:Dx (p::r) x=p::Dx r x:=by
    unfold Dx;rw[Z,if_pos (by simpa using e)]
   rw[a,K6 e];have:=bN hn.2 x;simp only[List.length_cons];omega
theorem Au.put{d:Dk}(h:Au d)(name:ByteArray)(f:A9)(w:(total d.files:Int)+f.s.size-(Bw d name).s.size≤d.cap)(l:f.synced≤f.s.size)(a:(Ar d.files name).isSome=true∨d.files.length<200):Au (d.set name f false):=by
 obtain⟨y,x,v,g,u,r,q,n,m,c⟩:=h;have i:=bK g name f;have j:((Ar d.files name).getD A6)=Bw d name:=rfl;rw[j] at i;refine⟨?_,?_,v,S3 g,?_,?_,q,n,m,c⟩
 .show d.size+_ =((total (Bg d.files name f):Nat):Int)
  omega
 .show((total (Bg d.files name f):Nat):Int)<=d.cap;omega
 .intro p b;rcases aZ b with b|rfl
  .exact u p b
  .exact l
 .show(Bg d.files name f).length<=200;rw[bM];rcases a with a|a
  .rw[if_pos a];exact r
  .split<;>omega
theorem Au.gone{d:Dk}(h:Au d)(name:ByteArray)(m:(Ar d.files name).isSome=true):Au (d.set name A6 true):=by
 obtain⟨B,A,w,b,u,z,r,q,n,g⟩:=h;have i:=bK b name A6;have l:((Ar d.files name).getD A6)=Bw d name:=rfl;rw[l] at i;have a:=bL (S3 (x:=name) (v:=A6) b) name;rw[Xv] at a;have y:A6.s.size=0:=rfl;simp only[Option.getD_some] at a;have j:=bN (S3 (x:=name) (v:=A6) b) name;rw[Xv,bM,if_pos m] at j;refine⟨?_,?_,w,yA (S3 b),?_,?_,r,q,n,g⟩
 .show d.size+_ =((total (Dx (Bg d.files name A6) name):Nat):Int)
  omega
 .show((total (Dx (Bg d.files name A6) name):Nat):Int)<=d.cap;omega
 .intro p c;rcases aZ (List.mem_filter.1 c).1 with c|rfl
  .exact u p c
  .exact a0u _
 .show(Dx (Bg d.files name A6) name).length<=200;omega
theorem Au.file{d:Dk}(h:Au d){name:ByteArray}{f:A9}(a:Ar d.files name=some f):f.synced<=f.s.size/\f.s.size<=total d.files:=
 ⟨h.sync _ (kH a),kT (kH a)⟩
theorem Au.fget_le{d:Dk}(h:Au d)(name:ByteArray):(Bw d name).s.size<=1000000000:=by
 unfold Bw
 cases hf:Ar d.files name with
 |none=>exact Nat.zero_le _
 |some f=>exact Nat.le_trans (h.file hf).2 h.le
def Ib(s:ByteArray)(f:A9):A9:=⟨f.s++s,f.synced⟩
def Dk.full(d:Dk)(name s:ByteArray):Bool:=(Ar d.files name).isSome&&!d.off&&decide (d.cap<d.size+s.size)
def Dk.append(d:Dk)(name s:ByteArray):Dk:=if d.full name s then d else d.thereD name (fun f=>d.tick.set name (Ib s f) false)
def Dk.appendE(d:Dk)(name s:ByteArray):Int:=if d.full name s then 2 else d.thereE name
theorem yC(f a c b:Value):∀w,(callFunc 239 #[f,a,c,b]).run Tryz.prog w=.ok (.enter 239 #[f,a,c,b]) w:=fun w=>by kernel_rfl
theorem yD(w:World)(b i j m l:Nat)(d:Dk)(f:A9)(name s:ByteArray)(r:Am w b i d)(c:name.size≤maxLen)
  (x:w.cell? ⟨j,0,none⟩=some (.string s))(v:w.cell? ⟨m,0,none⟩=some (.pointer (some ⟨b,0,none⟩)))(u:w.cell? ⟨l,0,none⟩=some (.string name))
  (A:0<=d.size)(z:d.size<=1000000000)(F:f.s.size+s.size<=1000000000)(y:(Bw d name).s.size<=1000000000):
  Calls Tryz.prog 239 #[.agg #[.string f.s,.int .i64 f.synced],.pointer (some ⟨j,0,none⟩),.pointer (some ⟨m,0,none⟩),.pointer (some ⟨l,0,none⟩)] w fun e w'=>e=.returned (.tuple #[])/\Am w' b i (d.set name (Ib s f) false)/\Fp [b,i] w w':=by
 have g:=Fp.alloc w (.cells #[.string (f.s++s),.int .i64 f.synced] 251);have a:=Q2 (w.alloc (.cells #[.string (f.s++s),.int .i64 f.synced] 251)) b i d name (Ib s f) false (r.of_fp g (by simp) (by simp)) c A z (by unfold Ib;simp;omega) y
 change Calls Tryz.prog _ #[_,_,.agg #[.string (f.s++s),.int .i64 f.synced],_] _ _ at a
 have E:j<w.heap.size:=World.block_lt_of_cell? _ _ x;have D:m<w.heap.size:=World.block_lt_of_cell? _ _ v;have C:l<w.heap.size:=World.block_lt_of_cell? _ _ u;have B:=X a;have p:=X g;clear a r g;go_in;go_wp2_with fail;refine B.o.mono ?_;rintro e w2 ⟨rfl,h,n,_⟩;have q:=X h;clear h;go_wp2_with fail;go_end0;exact⟨rfl,q.o,(p.o.mono (by simp)).trans n⟩
theorem Ls{w a:World}{b q:Nat}{v:Value}(c:Fp [b] w a)(d:b≠q)(h:w.cell? ⟨q,0,none⟩=some v):a.cell? ⟨q,0,none⟩=some v:=by
 rw[c.cell (World.block_lt_of_cell? _ _ h) (by simpa using Ne.symm d)];exact h
theorem kY{d:Dk}{l:List ByteArray}(h:d.named l=0):d.off=false:=by
 unfold Dk.named at h;cases ho:d.off
 .rfl
 .rw[ho] at h;simp at h
theorem yE(w:World)(b v j m l:Nat)(d:Dk)(name s:ByteArray)(c:Au d)(g:name.size≤maxLen)(a:d.full name s=false)(J:s.size≤1000000000)
  (G:w.cell? ⟨j,0,none⟩=some (.string s))(F:w.cell? ⟨m,0,none⟩=some (.pointer (some ⟨b,0,none⟩)))(E:w.cell? ⟨l,0,none⟩=some (.string name))(A:b≠j)(z:b≠m)(y:b≠l):
  d.named [name]=0->∀f,Ar d.files name=some f->Au (d.tick.set name (Ib s f) false)/\(d.does true=true->O0 w b v d.tick f (d.tick.set name (Ib s f) false) 239 #[.pointer (some ⟨j,0,none⟩),.pointer (some ⟨m,0,none⟩),.pointer (some ⟨l,0,none⟩)])/\(d.does true=false->d.tick.set name (Ib s f) false=d.tick):=by
 intro C f n;have B:=kY C;have u:d.size+s.size<=d.cap:=by
  unfold Dk.full at a;rw[n,B] at a
  simpa using a
 have p:=c.file n;have I:=c.size;have D:=c.caps;have q:Bw d.tick name=f:=by
  show(Ar d.files name).getD A6=f;rw[n];rfl
 refine⟨c.tick.put name _ ?_ ?_ (Or.inl (by show(Ar d.files name).isSome=true;rw[n];rfl)),fun _=>⟨yC _ _ _ _,fun x r i=>?_⟩,fun h=>by simp[Dk.does] at h⟩
 .rw[q];show(total d.files:Int)+((f.s++s).size:Nat)-f.s.size<=d.cap;simp only[a2z];omega
 .show f.synced<=(f.s++s).size;simp only[a2z];omega
 .refine yD x b v j m l d.tick f name s r g (Ls i A G) (Ls i z F) (Ls i y E) (by show 0<=d.size;omega) (by show d.size<=_;omega) (by omega) (c.tick.fget_le name)
theorem kZ(w:World)(b m:Nat)(d:Dk)(name s:ByteArray)(q:Am w b m d)(p:Au d)(c:name.size≤maxLen)(hs:s.size≤1000000000):
  Calls Tryz.prog 182 #[.pointer (some ⟨b,0,none⟩),.string name,.string s] w fun e w'=>e=.returned (.int .i64 (d.appendE name s))/\Am w' b m (d.append name s)/\Fp [b,m] w w':=by
 have ac:=Ae q.cells
 have V:b<w.heap.size+1:=by omega
 have U:b<w.heap.size+1+1:=by omega
 have T:b<w.heap.size+1+1+1:=by omega
 have c0:w.cell? ⟨b,0,none⟩=some (.int .i64 d.cap):=Ab q.cells 0;have c1:w.cell? ⟨b,1,none⟩=some (.int .i64 d.size):=Ab q.cells 1;have c2:w.cell? ⟨b,2,none⟩=some (.map (some m)):=Ab q.cells 2;have c3:w.cell? ⟨b,3,none⟩=some (.bool d.off):=Ab q.cells 3;have x:Fp [] w (((w.alloc (.cells #[.pointer (some ⟨b,0,none⟩)] 52)).alloc (.cells #[.string name] 9)).alloc (.cells #[.string s] 9)):=((Fp.alloc _ _).alloc' _).alloc' _;have u:∀W,Fp [] w W->(Instr.lookup 116 (.map (some m)) (.string name) true).run Tryz.prog W=.ok (.tuple #[.agg #[.string (Bw d name).s,.int .i64 (Bw d name).synced],.bool (Ar d.files name).isSome]) W:=fun W Q=>(q.of_fp Q (by simp) (by simp)).files.lookup true c;have hl:=u _ x.drew';have L:=u _ (x.alloc' (.cells #[.string ⟨#[]⟩,.int .i64 0] 251)).drew';clear u;obtain⟨W,A⟩:=Bz (((((w.alloc (.cells #[.pointer (some ⟨b,0,none⟩)] 52)).alloc (.cells #[.string name] 9)).alloc (.cells #[.string s] 9)).alloc (.cells #[.string (Bw d name).s,.int .i64 (Bw d name).synced] 251)))
 have C:Fp [] w W:=by rw[A];exact x.alloc' _
 have G:W.heap[w.heap.size]?=some (.cells #[.pointer (some ⟨b,0,none⟩)] 52 (0,0)):=by
  rw[A,Below.heap_alloc _ _ _ (by simp<;>omega),Below.heap_alloc _ _ _ (by simp<;>omega),Below.heap_alloc _ _ _ (by simp<;>omega)];exact Ai rfl _
 have F:W.heap[w.heap.size+1]?=some (.cells #[.string name] 9 (0,0)):=by
  rw[A,Below.heap_alloc _ _ _ (by simp<;>omega),Below.heap_alloc _ _ _ (by simp<;>omega)];exact Ai (by simp) _
 have E:W.heap[w.heap.size+1+1]?=some (.cells #[.string s] 9 (0,0)):=by
  rw[A,Below.heap_alloc _ _ _ (by simp<;>omega)];exact Ai (by simp) _
 have B:d.full name s=false->∀W',W'.heap=W.heap->Fp [] w W'->Calls Tryz.prog 186 #[.pointer (some ⟨b,0,none⟩),.string name,.bool true,.func (.func 239) #[] #[.pointer (some ⟨w.heap.size+1+1,0,none⟩),.pointer (some ⟨w.heap.size,0,none⟩),.pointer (some ⟨w.heap.size+1,0,none⟩)]] W' fun e w'=>e=.returned (.int .i64 (d.thereE name))/\Am w' b m (d.thereD name (fun f=>d.tick.set name (Ib s f) false))/\Fp [b,m] W' w':=by
  intro a W' N Q;refine Xx W' b m d name true 239 _ _ (q.of_fp Q (by simp) (by simp)) p c (yE W' b m (w.heap.size+1+1) w.heap.size (w.heap.size+1) d name s p c a hs ?_ ?_ ?_ (by omega) (by omega) (by omega))
  .exact Ab (by rw[N];exact E) 0
  .exact Ab (by rw[N];exact G) 0
  .exact Ab (by rw[N];exact F) 0
 have HD:=X q;have z:=X B;have K:=X A;have r:=X C;have hz:=p.size
 have ab:0<=d.size:=by omega
 have aa:d.size<=1000000000:=by have:=p.le;omega
 clear q B A C G F E hz;obtain⟨is,v⟩:=Bz ((Ar d.files name).isSome);obtain⟨off,j⟩:=Bz d.off;rw[<-v] at hl L;rw[<-j] at c3
 have HF:Hid (d.full name s=(is&&!off&&decide (d.cap<d.size+s.size))):=by unfold Hid Dk.full;rw[<-v,<-j]
 clear v j
 have l:d.full name s=true->d.appendE name s=2/\d.append name s=d:=fun h=>by unfold Dk.appendE Dk.append;rw[h];exact⟨rfl,rfl⟩
 have g:d.full name s=false->d.appendE name s=d.thereE name/\d.append name s=d.thereD name (fun f=>d.tick.set name (Ib s f) false):=fun h=>by unfold Dk.appendE Dk.append;rw[h];exact⟨rfl,rfl⟩
 have J:=X l;have I:=X g;clear l g;have y:(is=true/\off=false/\d.cap<d.size+s.size)∨is=false∨(is=true/\off=true)∨(is=true/\off=false/\¬d.cap<d.size+s.size):=by
  cases is<;>cases off<;>simp<;>omega
 rcases y with⟨rfl,rfl,a⟩|rfl|⟨rfl,rfl⟩|⟨rfl,rfl,a⟩
 .have i:Hid (d.full name s=true):=by unfold Hid;rw[HF.o];simpa using a
  clear z;go_in;go_wp2_with fail
  go_region
  all_goals
   go_wp2_with fail
   go_quiet (fail)
   go_wp2_with fail;go_ret;refine⟨by rw[(J.o i.o).1];rfl,?_,?_⟩
   .rw[(J.o i.o).2];exact HD.o.of_fp (S:=[]) ((((K.o▸r.o).drew').trans (Fp.drewN _ _))) (by simp) (by simp)
   .exact((((K.o▸r.o).drew').trans (Fp.drewN _ _))).mono (by simp)
 all_goals
  have i:Hid (d.full name s=false):=by unfold Hid;rw[HF.o];simp<;>omega
  have HT:∀n,Hid (Calls Tryz.prog 186 #[.pointer (some ⟨b,0,none⟩),.string name,.bool true,.func (.func 239) #[] #[.pointer (some ⟨w.heap.size+1+1,0,none⟩),.pointer (some ⟨w.heap.size,0,none⟩),.pointer (some ⟨w.heap.size+1,0,none⟩)]] (W.drewN n) fun e w'=>e=.returned (.int .i64 (d.thereE name))/\Am w' b m (d.thereD name (fun f=>d.tick.set name (Ib s f) false))/\Fp [b,m] (W.drewN n) w'):=fun n=>z.o i.o _ rfl (r.o.trans (Fp.drewN _ _));rw[K.o] at HT;clear z;go_in;go_wp2_with fail
  go_region
  all_goals
   go_wp2_with fail
   go_quiet (fail)
   go_wp2_with fail;refine(HT _).o.mono ?_;rintro e w2 ⟨rfl,D,O⟩;have R:=X D;clear D;go_wp2_with fail;go_ret;refine⟨by rw[(I.o i.o).1];rfl,by rw[(I.o i.o).2];exact R.o,?_⟩;exact((((K.o▸r.o).trans (Fp.drewN _ _))).mono (by simp)).trans O
end
end Go.Proofs.YtkagolpnaicdoaaGreatDoor
