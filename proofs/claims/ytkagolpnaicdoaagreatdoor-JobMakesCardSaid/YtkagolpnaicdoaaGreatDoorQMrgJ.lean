/- Lemmas. -/
import Derived.Test.YtkagolpnaicdoaaGreatDoorQParCells
import Derived.ProofKit
import Derived.OpenShut
import Derived.ShutString
import Derived.Test.YtkagolpnaicdoaaGreatDoorTie
import Derived.Test.YtkagolpnaicdoaaGreatDoorCards
import Derived.LaidMore
import Derived.Lay
import Derived.Lib.OwnBridge
set_option maxRecDepth 100000
set_option maxHeartbeats 8000000
open Go.Lib renaming hid->Y
open List renaming getElem?_eq_getElem->Z,replicate->a0z,getD_eq_getElem?_getD->a0w,length_map->a0v,getElem?_toArray->a1z,mem_cons_of_mem->a1x,length_take->a1w,getElem?_cons_zero->a1v,mem_cons_self->a1u,take_of_length_le->a2z,length_drop->a2x,setIfInBounds_toArray->a2w,map_append->a2u,take_succ_eq_append_getElem->a3z,range->a3w,map_map->a3v,length_append->a3u,map_cons->a4z,sum_cons->a4x,getElem_take->a4w,length_replicate->a5v,mem_of_mem_drop->a5u,mem_of_mem_take->a6z
open Nat renaming le_trans->a0x,le_refl->a2v,mod_eq_of_lt->a3x,not_lt_zero->a5z,zero_le->a5x,add_zero->a6w
open Go.IntKind renaming wrap_i64->a0u,wrap_u32->a4u
open BitVec renaming ofInt->a4v,ofInt_natCast->a6x,toNat_ofNat->a6v
open Array renaming getElem?_toList->a5w
namespace Go.Proofs.YtkagolpnaicdoaaGreatDoor
section
open Go.RowKit Go.Lib
theorem bY(a len s:Nat)(c:0<a)(i:Nat)(k:s<=i)(j:i<len):∃x∈D1 a len s,x.1<=i/\i<x.1+x.2:=by
 rw[Po (show s<len by omega) c];by_cases h:i<s+a
 .exact⟨_,a1u,k,by show i<s+min a (len-s);omega⟩
 .obtain⟨x,d,g⟩:=bY a len (s+a) c i (by omega) j;exact⟨x,a1x _ d,g⟩
 termination_by len-s
theorem lV(a len s:Nat)(c:2<=a):(D1 a len s).length<=(len-s+1)/2:=by
 by_cases h:s<len
 .rw[Po h (by omega),List.length_cons];have:=lV a len (s+a) c;omega
 .rw[Wb h];simp
 termination_by len-s
theorem lW{α:Type}{x:α}{l:List α}(h:x∈l):∃s t,l=s++x::t:=List.append_of_mem h
theorem lX{α:Type}:∀{r l:List α},r.Nodup→(∀x∈r,x∈l)→r.length≤l.length
 |[],_,_,_=>a5x _
 |x::r,l,hn,hs=>by
  obtain⟨s,t,rfl⟩:=lW (hs x a1u);have d:=List.nodup_cons.1 hn;have:=lX (r:=r) (l:=s++t) d.2 fun y c=>by
   have a:=hs y (a1x _ c);rw[List.mem_append,List.mem_cons] at a;rw[List.mem_append];rcases a with a|a|a
   .exact Or.inl a
   .exact absurd (a▸c) d.1
   .exact Or.inr a
  simp at this ⊢;omega
theorem Dv.nodup{r:List Ad}(a:Be r)(h:Dv r):r.Nodup:=by
 induction r with
 |nil=>exact List.nodup_nil
 |cons x r ih=>exact List.nodup_cons.2 ⟨h.irr (a x a1u),ih (fun y c=>a y (a1x _ c)) (List.pairwise_cons.1 h).2⟩
theorem Bf.len{all r:List Ad}(a:Be all)(h:Bf all r):r.length<=all.length:=lX (h.ris.nodup fun x c=>a x (h.sub x c)) h.sub
theorem bZ(a:List (List Ad)):a.flatten.length=(a.map (·.length)).sum:=by
 induction a with
 |nil=>rfl
 |cons x r ih=>rw[List.flatten_cons,a3u,ih];rfl
theorem lY(a:List (List Ad))(sz:Nat):∀(c s:Nat),a.length-s≤c→((D1 sz a.length s).map fun x=>((J4 a x).map (·.length)).sum).sum≤((a.drop s).map (·.length)).sum
 |0,s,h=>by rw[Wb (by omega)];simp
 |c+1,s,h=>by
  by_cases g:s<a.length/\0<sz
  .rw[Po g.1 g.2,a4z,a4x];have j:=lY a sz c (s+sz) (by omega);have e:((a.drop s).map (·.length)).sum=(((a.drop s).take sz).map (·.length)).sum+((a.drop (s+sz)).map (·.length)).sum:=by
    rw[<-List.sum_append,<-a2u];congr 2;rw[<-List.drop_drop,List.take_append_drop]
   have i:J4 a (s,min sz (a.length-s))=(a.drop s).take sz:=by
    unfold J4;simp only;rcases Nat.le_total sz (a.length-s) with d|d
    .rw[Nat.min_eq_left d]
    .rw[Nat.min_eq_right d,a2z (by rw[a2x];exact a2v _),a2z (by rw[a2x];exact d)]
   rw[i,e];omega
  .rw[D1,if_neg g];simp
theorem lZ{P:Nat × Nat→List Ad→Prop}{f:Nat × Nat→Nat}{l:List (Nat × Nat)}{m:List (List Ad)}(h:Dn P l m)(a:∀x r,P x r→r.length≤f x):(m.map (·.length)).sum≤(l.map f).sum:=by
 induction h with
 |nil=>exact a2v _
 |cons h _ ih=>
  simp only[a4z,a4x];have:=a _ _ h;omega
theorem Dn.memR{α β:Type}{P:α→β→Prop}{l:List α}{m:List β}(h:Dn P l m){r:β}(a:r∈m):∃x∈l,P x r:=by
 induction h with
 |nil=>cases a
 |cons hp _ ih=>
  rcases List.mem_cons.1 a with e|e
  .rw[e];exact⟨_,a1u,hp⟩
  .obtain⟨x,d,c⟩:=ih e;exact⟨x,a1x _ d,c⟩
theorem Dn.memL{α β:Type}{P:α→β→Prop}{l:List α}{m:List β}(h:Dn P l m){x:α}(a:x∈l):∃r∈m,P x r:=by
 induction h with
 |nil=>cases a
 |cons hp _ ih=>
  rcases List.mem_cons.1 a with e|e
  .rw[e];exact⟨_,a1u,hp⟩
  .obtain⟨r,d,c⟩:=ih e;exact⟨r,a1x _ d,c⟩
theorem Fa.ok{all:List Ad}{a:List (List Ad)}(h:Fa all a)(g:Be all):∀r∈a,Be r:=fun r d x c=>g x (h.sub r d x c)
theorem Fa.pass{all:List Ad}{a g:List (List Ad)}{m:Nat}(K:Be all)(h:Fa all a)(L:0<m)(n:Dn (fun x r=>Bf (J4 a x).flatten r) (D1 m a.length 0) g):
  Fa all g/\(g.map (·.length)).sum<=(a.map (·.length)).sum:=by
 have c:∀x z,z∈(J4 a x).flatten->z∈all:=fun x z j=>by
  obtain⟨p,N,d⟩:=List.mem_flatten.1 j;exact h.sub p (mY N) z d
 refine⟨⟨fun r k=>?_,fun r k z j=>?_,fun y D=>?_⟩,?_⟩
 .obtain⟨x,_,d⟩:=n.memR k;exact d.ris
 .obtain⟨x,_,d⟩:=n.memR k;exact c x z (d.sub z j)
 .obtain⟨p,u,z,j,I,J⟩:=h.cov y D;obtain⟨i,M,e⟩:=List.mem_iff_getElem.1 u;obtain⟨x,F,d,B⟩:=bY m a.length 0 L i (a5x _) M;obtain⟨r,k,l⟩:=n.memL F;have q:z∈(J4 a x).flatten:=by
   refine List.mem_flatten.2 ⟨p,?_,j⟩;unfold J4;refine List.mem_iff_getElem.2 ⟨i-x.1,?_,?_⟩
   .rw[a1w,a2x];omega
   .rw[a4w,List.getElem_drop]
    have:x.1+(i-x.1)=i:=(by omega)
    simp only[this];exact e
  obtain⟨C,s,t,A⟩:=l.cover z q;exact⟨r,k,C,s,Mc t I,a0x J A⟩
 .have d:=lZ (f:=fun x=>((J4 a x).map (·.length)).sum) n fun x r k=>by
   have:=k.len fun z j=>K z (c x z j);rw[bZ] at this;exact this
  have B:=lY a m a.length 0 (by omega);rw[List.drop_zero] at B;exact a0x d B
theorem zL{a:List (List Ad)}{r:List Ad}(h:r∈a):r.length<=(a.map (·.length)).sum:=by
 obtain⟨s,t,rfl⟩:=lW h;rw[a2u,List.sum_append,a4z,a4x];omega
theorem Ba.one{W:World}{g:Nat}{c:Ac}(h:W.heap[g]?=some (.cells #[.string c.row,.string c.col,.int .u64 c.ts,.int .u64 c.seq,.bool c.del,.string c.val] 80 (0,0)))(a:Di c):Ba W (some ⟨g,0,none⟩) 1 [c]:=by
 refine⟨rfl,Or.inr ⟨g,0,rfl,Ae h,fun i j=>?_⟩,by intro x d;rw[List.mem_singleton.1 d];exact a⟩
 have:i=0:=by simpa using j
 subst this;exact⟨Ab h 0,Ab h 1,Ab h 2,Ab h 3,Ab h 4,Ab h 5⟩
structure zM(w:World)(all:List Ad)(n0:Nat)(v:Value)(g k:Nat)(W:World):Prop where
 ex:∃a n cap rs,v=.slice a n cap/\g=n/\n<=cap/\Eu W a n rs/\Fa all rs/\0<n/\k+n<=n0/\(rs.map (·.length)).sum<=1000000
 fp:Fp [] w W
theorem Fa.form{all:List Ad}{a:List (List Ad)}(h:Fa all a)(g:Be all)(d:(a.map (·.length)).sum<=1000000):∀r∈a,Dv r/\Be r/\r.length<=1000000:=fun r c=>⟨h.ris r c,h.ok g r c,a0x (zL c) d⟩
theorem zN(w:World)(a:Option Addr)(n cap m:Nat)(all:List Ad)(D:List (List Ad))(h:Eu w a n D)(I:Fa all D)(ho:Be all)(hn:n≤900000)(c:(D.map (·.length)).sum≤1000000)(x:n≤cap)(Q:2≤m)(hm:m<2^63)(h0:0<n):
  Calls Tryz.prog 86 #[.slice a n cap,.int .i64 m] w fun e w'=>∃v r k,e=.returned (.tuple #[v,.int .i64 k,.int .i64 0])/\Bf all r/\Ag A8 w' w.heap.size v r/\Fp [] w w':=by
 have HP:=Y (fun w a n cap D h hr hn c x h0=>Aba w a n cap m D h hr hn c x Q hm h0);have HR:=Y h;have al:=Y I;have K:=Y ho;have ak:=Y c;have an:=Y x;have ac:=Y (HP.o w a n cap D h (I.form ho c) hn c x h0);clear h I ho c x;go_in;go_wp2_with fail;refine ac.o.mono ?_;rintro e w1 ⟨v1,ap,rfl,-,-,S⟩;have ad:=Y S;clear S ac;go_wp2_with fail
 go_loopg [0,5] n (fun g v vk wr=>∃k:Nat,vk=.int .i64 k/\zM w all n v g k wr)
 case atStart=>exact⟨0,rfl,⟨a,n,cap,D,rfl,rfl,an.o,HR.o.fp ad.o,al.o,h0,by omega,ak.o⟩,ad.o⟩
 case round=>
  obtain⟨k,rfl,hrel⟩:=hrel;obtain⟨a2,F,U,j,rfl,hg,ai,J,C,aj,hk,l⟩:=hrel.ex;have L:=Y hrel.fp;have ab:=Y J;have z:=Y C;have HG:=Y hg;have R:F=j.length:=J.len;have B:=Y R;have V:=Y l;clear hrel J C hg R;by_cases h1:1<F
  .have z1:(F:Int)>1:=(by omega)
   have am:=Y (HP.o wr a2 F U j ab.o (z.o.form K.o l) (by omega) l ai aj)
   have n1:IntKind.i64.wrap ((k:Int)+1)=((k+1:Nat):Int):=(by rw[a0u];omega)
   clear l;go_wp2_with fail;refine am.o.mono ?_;rintro e w3 ⟨v3,d,rfl,s,A,y⟩;rw[B.o] at A;obtain⟨a3,c3,rfl,T,P,N⟩:=s.at;have p:=z.o.pass K.o (by omega) A;have ah:d.length=(D1 m j.length 0).length:=A.length_eq.symm;have hh:=lV m j.length 0 Q;have O:0<(D1 m j.length 0).length:=by
    have:=B.o;rw[Po (by omega) (by omega)];simp
   have H1:=Y p;have H2:=Y N;have H3:=Y y;have H4:=Y T;have H5:Hid (0<d.length/\d.length<F):=by
    have:=B.o;show 0<d.length/\d.length<F;omega
   clear p N y T A s ah hh O P;go_wp2_with fail
   go_roundg d.length
   case measure=>have:=HG.o;have:=H5.o;omega
   case rel=>exact⟨k+1,by simp,⟨a3,_,c3,d,rfl,rfl,H4.o,H2.o,H1.o.1,H5.o.1,by have:=H5.o;omega,a0x H1.o.2 V.o⟩,L.o.trans H3.o⟩
  .obtain rfl:F=1:=by omega
   have ae:∃r,j=[r]:=by
    have:=B.o
    cases j with
    |nil=>simp at this
    |cons r t=>cases t with
     |nil=>exact⟨r,rfl⟩
     |cons r2 t=>simp at this
   obtain⟨r,rfl⟩:=ae;obtain⟨b,o,v,e,hc⟩:=ab.o.get (i:=0) (by simp);subst e;obtain⟨q,hv⟩:=hc wr (Fp.refl _ _);obtain⟨av,nv,cv,rfl,ag,u,hq⟩:=hv;rw[a6w] at q;have M:=z.o.one K.o;have af:nv=r.length:=hq.len
   have aq:r.length<=1000000:=by have:=V.o;simp at this;omega
   have aa:=Y M;have ao:=Y (nX wr av nv cv r hq u (by omega));clear hc hq u M l ag af h1;go_wp2_with fail;refine ao.o.mono ?_;rintro e w3 ⟨v3,rfl,s,y⟩;have H1:=Y s;have H2:=Y y;clear s y;go_wp2_with fail;refine bodyPost_ret (v:=.tuple #[v3,.int .i64 k,.int .i64 0]) (by simp[results,Tryz.results86,go_sem]) rfl ?_;exact⟨v3,r,k,rfl,aa.o,H1.o.mono L.o.size,L.o.trans H2.o⟩
theorem mA(w:World)(a:Option Addr)(n cap:Nat)(l:List Ad)(h:Bj A8 w a n l)(r:Be l)(hn:n≤1000000):
  Calls Tryz.prog 87 #[.slice a n cap] w fun e w'=>∃v,e=.returned v/\Ap w' w.heap.size v (l.map (·.c))/\Fp [] w w':=by
 have HL:=Y h;have u:=Y h.len;have B:=Y r;clear h r;go_in;go_wp2_with fail
 go_loopg [2,7] n (fun g F T wr=>∃(k:Nat) (v:Value),g+k=n/\v=F/\T=.int .i64 k/\Ap wr w.heap.size v ((l.take k).map (·.c))/\Fp [] w wr)
 case atStart=>exact⟨0,_,by omega,rfl,rfl,Ap.nil _ _,Fp.refl _ _⟩
 case round=>
  obtain⟨k,F,hg,rfl,rfl,J,K⟩:=hrel;have M:=Y J;have y:=Y K;clear J K;have aa:w.heap.size<=wr.heap.size:=y.o.size;by_cases hk:k<n
  .have N:(k:Int)<(n:Int):=(by omega)
   have n1:IntKind.i64.wrap ((k:Int)+1)=((k+1:Nat):Int):=(by rw[a0u];omega)
   have m:k<l.length:=by have:=u.o;omega
   obtain⟨b,o,e,_,L⟩:=HL.o.get m;subst e;have I:Ie wr b (o+k*7) l[k]:=Vv (L wr y.o);have j:=B.o _ (List.getElem_mem m);have i:(l.take (k+1)).map (·.c)=(l.take k).map (·.c)++[l[k].c]:=by
    rw[List.take_add_one,Z m,a2u];rfl
   obtain⟨x,q⟩:=Aa (l[k]);rw[q] at I j i;obtain⟨⟨Q,S,P,xs,R,O⟩,xp⟩:=x;obtain⟨q0,q1,q2,q3,q4,V,U⟩:=I;simp only at q0 q1 q2 q3 q4 V U;have z:=Y i;have A:=Y j.c
   have s:((l.take k).map (·.c)).length<=1000000:=(by simp;omega)
   have C:=Y s;clear L q i j s;go_wp2_with (at_builtin;(refine Ua rfl _ _ rfl w.heap.size _ ((l.take k).map (·.c)) rfl (M.o.fp ((Fp.alloc _ _).alloc' _)) _ _ _ [⟨Q,S,P,xs,R,O⟩] rfl (Ba.one (Ai (by simp) _) A.o) (fun h=>by cases h) (by have:=C.o;simp only[List.length_cons,List.length_nil];omega) (by simp;omega) ?_);intro v2 w2 d t;have p:=Y d;have D:=Y t;clear d t)
   go_roundg (gk-1)
   case measure=>omega
   case rel=>exact⟨k+1,_,by omega,rfl,by simp,by rw[z.o];exact p.o,(y.o.trans ((Fp.alloc _ _).alloc' _)).belowTrans D.o⟩
  .have N:¬(k:Int)<(n:Int):=(by omega)
   have d:=M.o;rw[a2z (by have:=u.o;omega)] at d;have p:=Y d;clear d;go_wp2_with fail;go_ret;exact⟨_,rfl,p.o,y.o⟩
theorem mB(a len s:Nat):((D1 a len s).map (·.2)).sum<=len-s:=by
 by_cases h:s<len/\0<a
 .rw[Po h.1 h.2,a4z,a4x];have:=mB a len (s+a);simp only;omega
 .rw[D1,if_neg h];simp
 termination_by len-s
theorem zO{l:List Ad}{h:List (List Ad)}{m:Nat}(A:Be l)(B:0<m)(g:Dn (fun x r=>Bf (Lt l x) r) (D1 m l.length 0) h):Fa l h∧(h.map (·.length)).sum≤l.length:=by
 refine⟨⟨fun r a=>?_,fun r a z s=>?_,fun y t=>?_⟩,?_⟩
 .obtain⟨x,_,c⟩:=g.memR a;exact c.ris
 .obtain⟨x,_,c⟩:=g.memR a;exact a5u (a6z (c.sub z s))
 .obtain⟨i,C,e⟩:=List.mem_iff_getElem.1 t;obtain⟨x,u,c,D⟩:=bY m l.length 0 B i (a5x _) C;obtain⟨r,a,d⟩:=g.memL u;have j:y∈Lt l x:=by
   unfold Lt;refine List.mem_iff_getElem.2 ⟨i-x.1,?_,?_⟩
   .rw[a1w,a2x];omega
   .rw[a4w,List.getElem_drop]
    have:x.1+(i-x.1)=i:=(by omega)
    simp only[this];exact e
  obtain⟨q,k,n,p⟩:=d.cover y j;exact⟨r,a,q,k,n,p⟩
 .have c:=lZ (f:=fun x=>x.2) g fun x r a=>by
   have:=a.len (lF A x);unfold Lt at this;rw[a1w] at this;exact a0x this (Nat.min_le_left _ _)
  exact a0x c (mB m l.length 0)
theorem S8(l:List Ac):(C4 l).length=l.length:=O9 l _
theorem zP(w:World)(a:Option Addr)(n cap m wid:Nat)(l:List Ac)(C:Ba w a n l)(hn:n≤900000)(h0:0<n)(p:0<m)(hm:m<2^63)(Q:2≤wid)(hw:wid<2^63):
  Calls Tryz.prog 49 #[.slice a n cap,.int .i64 m,.int .i64 wid] w fun e w'=>∃v r k,e=.returned (.tuple #[v,.int .i64 k,.int .i64 0])/\Bf (C4 l) r/\Ap w' w.heap.size v (r.map (·.c))/\Fp [] w w':=by
 have T:=Y (lH w a n cap m l C (by omega) p hm h0);have M:=Y C.len;have j:=Y (Nx C.ok (by have:=C.len;omega));clear C;go_in;go_wp2_with fail;refine T.o.mono ?_;rintro e w1 ⟨v1,P,rfl,z,i,J⟩;obtain⟨a1,c1,rfl,K,B,q⟩:=z.at
 have D:n=(C4 l).length:=by rw[S8];exact M.o
 rw[D] at i;have g:=zO j.o p i;have h:P.length=(D1 m (C4 l).length 0).length:=i.length_eq.symm;have h2:=Wc m (C4 l).length 0
 have t:0<(D1 m (C4 l).length 0).length:=by rw[Po (by omega) p];simp
 have O:=Y (zN w1 a1 P.length c1 wid (C4 l) P q g.1 j.o (by omega) (by omega) K Q hw (by omega));have V:=Y J;clear z i K B q D g h h2 t J;go_wp2_with fail;refine O.o.mono ?_;rintro e w2 ⟨v2,r,k,rfl,d,y,I⟩;obtain⟨a2,c2,rfl,A,R,s⟩:=y.at;have h:=d.len j.o;rw[S8] at h;have HC:=Y (mA w2 a2 r.length c2 r s (fun x hx=>j.o x (d.sub x hx)) (by have:=M.o;omega));have L:=Y d;have N:=Y (V.o.trans I);clear y A R s h d I;go_wp2_with fail;refine HC.o.mono ?_;rintro e w3 ⟨v3,rfl,u,F⟩;have S:=Y u;have U:=Y (N.o.trans F);clear u F;go_wp2_with fail;refine bodyPost_ret (v:=.tuple #[v3,.int .i64 k,.int .i64 0]) (by simp[results,Tryz.results49,go_sem]) rfl ?_;exact⟨v3,r,k,rfl,L.o,S.o.mono N.o.size,U.o⟩
theorem zQ(w:World)(v:Value)(m:Int)(c:m<1):Calls Tryz.prog 85 #[v,.int .i64 m] w fun e w'=>e=.returned (.tuple #[.slice none 0 0,.int .i64 1])/\Fp [] w w':=by
 go_in;go_wp2_with fail;have a:(w.alloc (.cells #[.slice none 0 0] 159)).cell? ⟨w.heap.size,0,none⟩=some (.slice none 0 0):=Ab (Ai rfl _) 0;exact bodyPost_ret (v:=.tuple #[.slice none 0 0,.int .i64 1]) (by simp[results,Tryz.results85,go_sem,a]) rfl ⟨rfl,Fp.alloc _ _⟩
theorem zR(w:World)(v:Value)(m:Int)(c:m<2):Calls Tryz.prog 143 #[v,.int .i64 m] w fun e w'=>e=.returned (.tuple #[.slice none 0 0,.int .i64 1])/\Fp [] w w':=by
 go_in;go_wp2_with fail;have a:(w.alloc (.cells #[.slice none 0 0] 159)).cell? ⟨w.heap.size,0,none⟩=some (.slice none 0 0):=Ab (Ai rfl _) 0;exact bodyPost_ret (v:=.tuple #[.slice none 0 0,.int .i64 1]) (by simp[results,Tryz.results143,go_sem,a]) rfl ⟨rfl,Fp.alloc _ _⟩
theorem zS(w:World)(v:Value)(m:Int)(a:m<2):Calls Tryz.prog 86 #[v,.int .i64 m] w fun e w'=>e=.returned (.tuple #[.slice none 0 0,.int .i64 0,.int .i64 1])/\Fp [] w w':=by
 have c:=Y (zR w v m a);clear a;go_in;go_wp2_with fail;refine c.o.nexh fun g d=>?_;go_wp2_with fail;exact bodyPost_ret (v:=.tuple #[.slice none 0 0,.int .i64 0,.int .i64 1]) (by simp[results,Tryz.results86,go_sem]) rfl ⟨rfl,d.o⟩
theorem zT(w:World)(v:Value)(m wid:Int)(a:m<1):Calls Tryz.prog 49 #[v,.int .i64 m,.int .i64 wid] w fun e w'=>e=.returned (.tuple #[.slice none 0 0,.int .i64 0,.int .i64 1])/\Fp [] w w':=by
 have c:=Y (zQ w v m a);clear a;go_in;go_wp2_with fail;refine c.o.nexh fun g d=>?_;go_wp2_with fail;exact bodyPost_ret (v:=.tuple #[.slice none 0 0,.int .i64 0,.int .i64 1]) (by simp[results,Tryz.results49,go_sem]) rfl ⟨rfl,d.o⟩
theorem zU(w:World)(a:Option Addr)(n cap m:Nat)(wid:Int)(l:List Ac)(z:Ba w a n l)(M:n≤900000)(F:0<n)(k:0<m)(D:m<2^63)(y:wid<2):
  Calls Tryz.prog 49 #[.slice a n cap,.int .i64 m,.int .i64 wid] w fun e w'=>∃v,e=.returned (.tuple #[v,.int .i64 0,.int .i64 1])/\Fp [] w w':=by
 have q:=Y (lH w a n cap m l z (by omega) k D F);have I:=Y y;clear z y;go_in;go_wp2_with fail;refine q.o.mono ?_;rintro e A ⟨B,L,rfl,j,p,g⟩;have h:=Y (zS A B wid I.o);have t:=Y g;clear j p g;go_wp2_with fail;refine h.o.mono ?_;rintro e w2 ⟨rfl,d⟩;have J:=Y (mA w2 none 0 0 [] (Bj.nil _ _) (fun x C=>by cases C) (by omega));have s:=Y (t.o.trans d);clear d;go_wp2_with fail;refine J.o.mono ?_;rintro e K ⟨u,rfl,i,c⟩;have r:=Y (s.o.trans c);clear i c;go_wp2_with fail;refine bodyPost_ret (v:=.tuple #[u,.int .i64 0,.int .i64 1]) (by simp[results,Tryz.results49,go_sem]) rfl ?_;exact⟨u,rfl,r.o⟩
end
section
open Go.ChangeShapes Go.WideShapes Go.ChangeAt Go.RowKit
open Go.ChangeMaps (open_string shut_string)
theorem S9{a:Int}(h:(Lit.int .i64 a).wf=true): -9223372036854775808<=a/\a<=9223372036854775807:=by simp only[Lit.wf,Bool.and_eq_true,decide_eq_true_eq] at h;exact h
theorem mC{a:Int}(h:(Lit.int .u64 a).wf=true):0<=a/\a<=18446744073709551615:=by simp only[Lit.wf,Bool.and_eq_true,decide_eq_true_eq] at h;exact h
theorem own:ownKnob Tryz.prog.godebug=none:=by kernel_rfl
theorem zV:laidOutB Tryz.prog=true:=by kernel_rfl
theorem Fp.toBelow{w w':World}(h:Fp [] w w'):Below w.heap.size w w':=h.below (a2v _) (by simp)
end
section
open Go.ChangeShapes Go.WideShapes Go.ChangeAt Go.RowKit
theorem zW{w:World}(h:w.ShapedOpen Tryz.prog):M5 w:=
 cell_of_shapedOpen_int (P:=Tryz.prog) (g:=2) (t:=3) (zero:=#[.int .i64 0]) h (of_decide_eq_true (by kernel_rfl)) (by kernel_rfl) (by kernel_rfl) (by kernel_rfl) (by kernel_rfl) Tryz.underlying3
structure D6(w:World)(a:Option Addr)(len:Nat)(l:List ByteArray):Prop where
 len:len=l.length
 cells:l=[]∨∃b o,a=some ⟨b,o,none⟩/\∀i (h:i<l.length),w.cell? ⟨b,o+i,none⟩=some (.string l[i])
 small:∀s∈l,s.size<=maxLen
theorem D6.of_fp{w w':World}{a:Option Addr}{len:Nat}{l:List ByteArray}(h:D6 w a len l)(g:Fp [] w w'):D6 w' a len l:=by
 refine⟨h.len,?_,h.small⟩;rcases h.cells with j|⟨b,o,rfl,d⟩
 .exact Or.inl j
 .exact Or.inr ⟨b,o,rfl,fun i c=>by rw[g.cell (World.block_lt_of_cell? _ _ (d i c)) (by simp)];exact d i c⟩
theorem zX{H:Type}{enc:TypeId × Value→H}{W:World}{p:Nat}{a:Option Addr}{len cap:Nat}{x:DataW H × List MemPlace}
  (h:DataW.trod enc Tryz.prog W 0 (fun _=>true) true p 22 [.slice a len cap]=some x):∃l,D6 W a len l/\len<=maxLen:=by
 rcases open_strings Tryz.underlying22 Tryz.underlying9 (by kernel_rfl) h with⟨c,_⟩|⟨y,u,A,q,c,_,I,F,m,_,d,r⟩
 .simp only[List.cons.injEq,Value.slice.injEq,and_true] at c;obtain⟨rfl,rfl,rfl⟩:=c;exact⟨[],⟨rfl,Or.inl rfl,by simp⟩,a5x _⟩
 .simp only[List.cons.injEq,Value.slice.injEq,and_true] at c;obtain⟨rfl,rfl,rfl⟩:=c;simp only[if_true] at m;refine⟨q.take len,⟨?_,?_,fun s B=>r s (a6z B)⟩,by omega⟩
  .rw[a1w];omega
  .by_cases z:q=[]
   .left;rw[z];simp
   .right;have k:=List.length_pos_iff.2 z;have t:=d 0 k;obtain⟨b,off,j⟩:=y
    have g:j=none:=(by simpa [Addr.add] using World.cell?_spot t)
    subst g;refine⟨b,off,rfl,fun i C=>?_⟩
    have n:i<q.length:=(by rw[a1w] at C;omega)
    have:=d i n
    have D:(⟨b,off,none⟩:Addr).add i=⟨b,off+i,none⟩:=(by unfold Addr.add;split<;>simp_all)
    rw[D] at this;rw[this,a4w,a0w,Z n];rfl
end
section
open Go.RowKit Go.Lib
def D4(l:List ByteArray)(k:Nat):ByteArray:=l.getD k ⟨#[]⟩
theorem Q5{l:List ByteArray}{k:Nat}(h:k<l.length):D4 l k=l[k]:=by unfold D4;rw[a0w,Z h];rfl
theorem Vg{w:World}{a:Option Addr}{n k:Nat}{l:List ByteArray}(h:D6 w a n l)(c:k<l.length):∃b o,a=some ⟨b,o,none⟩/\(∀j,j<l.length->∀w',Fp [] w w'->w'.cell? ⟨b,o+j,none⟩=some (.string (D4 l j))):=by
 rcases h.cells with p|⟨b,o,e,m⟩
 .rw[p] at c;exact absurd c (a5z _)
 .refine⟨b,o,e,fun j d w' i=>?_⟩;have g:=m j d;rw[Q5 d,i.cell (World.block_lt_of_cell? _ _ g) (by simp)];exact g
def Gm(a b:ByteArray):Bool:=Op.bytesLess a.toList b.toList
def F4(l:List ByteArray)(k:Nat):Bool:=((D4 l k).toList.isEmpty||decide (40<((D4 l k).size:Int)))||(decide (0<k)&&!(Gm (D4 l (k-1)) (D4 l k)))
def Ee(l:List ByteArray):Bool:=(a3w l.length).all fun k=>!(F4 l k)
theorem mD{l:List ByteArray}(h:∀j,j<l.length->F4 l j=false):Ee l=true:=by
 unfold Ee;rw[List.all_eq_true];intro j a;rw[h j (List.mem_range.1 a)];rfl
theorem cA{l:List ByteArray}{k:Nat}(a:k<l.length)(h:F4 l k=true):Ee l=false:=by
 cases e:Ee l with
 |false=>rfl
 |true=>
  unfold Ee at e;have:=List.all_eq_true.1 e k (List.mem_range.2 a);rw[h] at this;cases this
theorem mE(w:World)(a:Option Addr)(n cap:Nat)(l:List ByteArray)(h:D6 w a n l)(hn:n≤1000000):
  Calls Tryz.prog 35 #[.slice a n cap] w fun e w'=>e=.returned (.bool (Ee l))/\Fp [] w w':=by
 have HL:=Y h;have A:=Y h.len;obtain⟨R,J⟩:=Aa (Ee l);rw[J];have t:=Y J;clear h J;go_in;go_wp2_with fail
 go_loopg [7] n (fun gg T wr=>∃k:Nat,T=.int .i64 k/\gg+k=n/\(∀j,j<k->F4 l j=false)/\Fp [] w wr)
 case atStart=>exact⟨0,rfl,by omega,(fun j h=>absurd h (a5z _)),Fp.refl _ _⟩
 case round=>
  obtain⟨k,rfl,hg,O,B⟩:=hrel;have u:=Y B;have P:=Y O;clear B O;by_cases hk:k<n
  .have L:(k:Int)<(n:Int):=(by omega)
   have n1:IntKind.i64.wrap ((k:Int)+1)=((k+1:Nat):Int):=(by rw[a0u];omega)
   have x:k<l.length:=by have:=A.o;omega
   obtain⟨b,o,e,C⟩:=Vg HL.o x;subst e;have q0:=C k x wr u.o;have c:Hid (F4 l k=(((D4 l k).toList.isEmpty||decide (40<((D4 l k).size:Int)))||(decide (0<k)&&!(Gm (D4 l (k-1)) (D4 l k))))):=rfl;have i:0<k->wr.cell? ⟨b,o+(k-1),none⟩=some (.string (D4 l (k-1))):=fun h=>C (k-1) (by omega) wr u.o;have K:=Y i;obtain⟨s,M⟩:=Aa (D4 l k);rw[M] at q0 c;obtain⟨be,I⟩:=Aa s.toList.isEmpty;obtain⟨bz,D⟩:=Aa (decide (40<(s.size:Int)));rw[I,D] at c;clear C M i;have m:Hid (F4 l k=false->∀j,j<k+1->F4 l j=false):=fun h j V=>by
    by_cases e:j=k
    .rw[e];exact h
    .exact P.o j (by omega)
   have g:Hid (F4 l k=true->R=false):=fun h=>t.o.symm.trans (cA x h);cases be
   .cases bz
    .by_cases z:k=0
     .subst z;rw[show((0:Nat):Int)=0 from rfl];rw[show((0:Nat):Int)=0 from rfl] at L;simp only[a6w] at q0;have d:Hid (F4 l 0=false):=c.o.trans rfl;go_wp2_with fail
      go_roundg (gk-1)
      case measure=>omega
      case rel=>exact⟨0+1,by simp,by omega,m.o d.o,u.o⟩
     .have S:(k:Int)>0:=(by omega)
      have y:0<k:=(by omega)
      have U:IntKind.i64.wrap ((k:Int)-1)=((k-1:Nat):Int):=(by rw[a0u];omega)
      have q1:=K.o y;obtain⟨p,N⟩:=Aa (D4 l (k-1));rw[N] at q1 c
      obtain⟨k1,q⟩:∃k1,k-1=k1:=⟨_,rfl⟩
      rw[q] at q1 U
      have Q:(k1:Int)<(n:Int):=(by omega)
      obtain⟨bl,F⟩:=Aa (Op.bytesLess p.toList s.toList);have r:Gm p s=bl:=F;rw[r,decide_eq_true y] at c
      have aa:Hid (∀w',Fp [] wr w'->w'.cell? ⟨b,o+k1,none⟩=some (.string p)):=fun w' B=>by rw[B.cell (World.block_lt_of_cell? _ _ q1) (by simp)];exact q1
      clear N q r z;cases bl
      .have d:Hid (F4 l k=true):=c.o.trans rfl;go_wp2_with fail;go_ret;exact⟨by rw[g.o d.o];rfl,u.o⟩
      .have d:Hid (F4 l k=false):=c.o.trans rfl;go_wp2_with fail
       go_roundg (gk-1)
       case measure=>omega
       case rel=>exact⟨k+1,by simp,by omega,m.o d.o,u.o⟩
    .have d:Hid (F4 l k=true):=c.o.trans (by simp);go_wp2_with fail;go_ret;exact⟨by rw[g.o d.o];rfl,u.o⟩
   .have d:Hid (F4 l k=true):=c.o.trans (by simp);go_wp2_with fail;go_ret;exact⟨by rw[g.o d.o];rfl,u.o⟩
  .have L:¬(k:Int)<(n:Int):=(by omega)
   have HY:Hid (R=true):=t.o.symm.trans (mD fun j V=>P.o j (by have:=A.o;omega));go_wp2_with fail;go_ret;exact⟨by rw[HY.o];rfl,u.o⟩
theorem Dn.nth{α β:Type}{P:α→β→Prop}{l:List α}{m:List β}(h:Dn P l m):∀i (a:i<l.length) (c:i<m.length),P l[i] m[i]:=by
 induction h with
 |nil=>intro i a;exact absurd a (a5z _)
 |cons hp _ ih=>
  intro i a c
  cases i with
  |zero=>exact hp
  |succ i=>exact ih i (by simpa using a) (by simpa using c)
structure Q6(β:Type) where
 T:TypeId
 e:TypeId
 k:TypeId
 P:World->Nat->Value->β->Prop
 mono:∀{w base base' v x},P w base v x->base'<=base->P w base' v x
 kept:∀{w w' base S v x},P w base v x->Ao k base S w w'->P w' base v x
 sl:∀{w base v x},P w base v x->∃a n c,v=.slice a n c
 lt:∀{w base v x},P w base v x->∀q,v.ownBlock=some q->base<=q/\q<w.heap.size
 und:Tryz.prog.underlying T=some (.slice e)
 info:(Tryz.prog.info? e).map (fun i=>(i.zero,i.size,i.bytes))=some (some (.slice none 0 0),1,24)
 ne:k≠e
section
variable {β : Type} {E : Q6 β}
def Vh(vals:List Value):Prop:=vals.Pairwise fun u v=>∀q,u.ownBlock=some q->v.ownBlock≠some q
def C9(E:Q6 β)(W:World)(base:Nat)(v:Value)(xs:List β):Prop:=∃vals,An E.e W base v vals/\Dn (fun v x=>E.P W base v x) vals xs/\Vh vals
def Jm(E:Q6 β)(W:World)(base N:Nat)(v:Value)(xs:List β):Prop:=∃vals,An E.e W base v vals/\Dn (fun v x=>E.P W base v x) vals xs/\Vh vals/\∀u∈vals,∀q,u.ownBlock=some q->q<N
theorem C9.mono{W:World}{base base':Nat}{v:Value}{xs:List β}(h:C9 E W base v xs)(c:base'<=base):C9 E W base' v xs:=by
 obtain⟨a,i,g,d⟩:=h;exact⟨a,i.mono c,J9 (fun _ _ h=>E.mono h c) g,d⟩
theorem C9.fp{W W':World}{base:Nat}{S:List Nat}{v:Value}{xs:List β}(h:C9 E W base v xs)(c:Fp S W W')(d:∀k∈S,k<base:=by simp):C9 E W' base v xs:=by
 obtain⟨a,j,i,g⟩:=h;exact⟨a,j.fp c d,J9 (fun _ _ h=>E.kept h (Ao.of c d)) i,g⟩
theorem Jm.fp{W W':World}{base N:Nat}{S:List Nat}{v:Value}{xs:List β}(h:Jm E W base N v xs)(c:Fp S W W')(d:∀k∈S,k<base:=by simp):Jm E W' base N v xs:=by
 obtain⟨a,l,j,i,g⟩:=h;exact⟨a,l.fp c d,J9 (fun _ _ h=>E.kept h (Ao.of c d)) j,i,g⟩
theorem Dn.memQ{α β:Type}{P:α→β→Prop}{l:List α}{m:List β}(h:Dn P l m){x:α}(a:x∈l):∃r,P x r:=by
 induction h with
 |nil=>cases a
 |cons hp _ ih=>
  rcases List.mem_cons.1 a with e|e
  .rw[e];exact⟨_,hp⟩
  .exact ih e
theorem C9.toN{W:World}{base:Nat}{v:Value}{xs:List β}(h:C9 E W base v xs):Jm E W base W.heap.size v xs:=by
 obtain⟨a,k,c,j⟩:=h;refine⟨a,k,c,j,fun u d q i=>?_⟩;obtain⟨r,g⟩:=c.memQ d;exact(E.lt g q i).2
theorem Jm.toL{W:World}{base N:Nat}{v:Value}{xs:List β}(h:Jm E W base N v xs):C9 E W base v xs:=by
 obtain⟨a,g,d,c,_⟩:=h;exact⟨a,g,d,c⟩
theorem C9.nil(W:World)(base:Nat):C9 E W base (.slice none 0 0) []:=⟨[],An.nil _ _ _,.nil,List.Pairwise.nil⟩
theorem C9.slice{W:World}{base:Nat}{v:Value}{xs:List β}(h:C9 E W base v xs):∃a cap,v=.slice a xs.length cap:=by
 obtain⟨c,g,d,_⟩:=h;obtain⟨⟨a,cap,e⟩,_⟩:=g.at;exact⟨_,_,by rw[e,d.length_eq]⟩
theorem C9.get{W:World}{base:Nat}{v:Value}{xs:List β}(h:C9 E W base v xs){i:Nat}(t:i<xs.length):∃g cap,v=.slice (some ⟨g,0,none⟩) xs.length cap∧xs.length≤cap∧g<W.heap.size∧base≤g∧∀j (d:j<xs.length),∃u,W.cell? ⟨g,j,none⟩=some u∧E.P W base u xs[j]:=by
 obtain⟨a,s,m,_⟩:=h;have q:=m.length_eq;rcases s.2 with⟨_,y⟩|⟨g,cap,c,n,r,k,x,_,_,p⟩
 .omega
 .refine⟨g,cap,by rw[n,q],by omega,Ae k,r,fun j d=>⟨a[j]'(by omega),?_,m.nth j (by omega) d⟩⟩
  have l:(c.toList.take (a.length*1))[j]?=a[j]?:=by rw[p]
  rw[Nat.mul_one,List.getElem?_take,if_pos (by omega),a5w,Z (by omega)] at l;rw[Ab k];exact l
theorem X4{w:World}{g:Nat}{t:Value}(d:w.cell? ⟨g,0,none⟩=some t):∀(j:Nat) (u:Value),[t][j]?=some u→w.cell? ((⟨g,0,none⟩:Addr).add j)=some u:=by
 intro j u a;have c:j=0:=by
  have:=(List.getElem?_eq_some_iff.1 a).1
  simpa using this
 subst c;simp at a;subst a
 have h:(⟨g,0,none⟩:Addr).add 0=⟨g,0,none⟩:=by unfold Addr.add;split<;>simp_all
 rw[h];exact d
theorem mF{w w':World}{base:Nat}{a:List Value}{xs:List β}{v p:Value}{t:Value}{x:β}(r:An E.e w base v a)(z:Dn (fun v x=>E.P w base v x) a xs)(l:E.P w base t x)(d:Vh a){N:Nat}(n:∀u∈a,∀q,u.ownBlock=some q→q<N)(g:∀q,t.ownBlock=some q→N≤q)(c:base≤w.heap.size)
  (C:w'.ownsRow base E.e 1 p (a.length+1) (a++[t]))(s:w.grownBy w' v.ownBlock):C9 E w' base p (xs++[x])/\Below base w w'/\(∀D,D≠E.e->Ao D base [] w w'):=by
 have i:∀D,D≠E.e->Ao D base [] w w':=fun D B=>Vx B r s c;have j:=i _ E.ne;refine⟨⟨a++[t],?_,Ro (J9 (fun _ _ h=>E.kept h j) z) (E.kept l j),?_⟩,(Below.refl base w).grown s c (fun k j=>(World.ownsRow.lt r k j).1),i⟩
 .unfold An;rw[a3u];exact C
 .refine List.pairwise_append.2 ⟨d,List.pairwise_singleton _ _,fun u y F m q A e=>?_⟩;rw[List.mem_singleton.1 m] at e;have:=n u y q A;have:=g q e;omega
theorem X5(E:Q6 β){w:World}{o:Oper}{a:Act}{K:Act→World→Prop}{Q:Exit→Act→World→Prop}(s x:Operand)
  (U:o.op=.call {callee:=.builtin .append,args:=#[s,x],argTypes:=#[E.T,E.T]})(base:Nat)(v:Value)(xs:List β)(S:a.eval s=v){N:Nat}(k:Jm E w base N v xs)
  (g:Nat)(t:Value)(r:β)(i:E.P w base t r)(l:∀q,t.ownBlock=some q->N<=q)(O:a.eval x=.slice (some ⟨g,0,none⟩) 1 1)(hg:w.cell? ⟨g,0,none⟩=some t)(F:xs.length+1<=1000000000)(c:base<=w.heap.size)
  (h:∀m w',C9 E w' base m (xs++[r])->Below base w w'->(∀D,D≠E.e->Ao D base [] w w')->K (a.put o.dst m) w'):o.wp Tryz.prog a w K Q:=by
 obtain⟨d,A,C,j,z⟩:=k;have R:=C.length_eq;obtain⟨M,V,y,p,n⟩:=info_parts E.info;obtain⟨L,I,J,rfl⟩:=E.sl i;refine wp_append_own (P:=Tryz.prog) w s x E.T U base E.e M _ 1 24 E.und V y p n rfl (by decide) v d.length d S A ⟨g,0,none⟩ 1 1 [.slice L I J] O rfl (X4 hg) (by intro u B;simp at B;subst B;rfl) (by unfold maxLen;omega) (by omega) c ?_;intro m w' h1 h2 _;obtain⟨g1,g2,g3⟩:=mF A C i j z l c h1 h2;exact h m w' g1 g2 g3
theorem cB(E:Q6 β){w:World}{i:Array Oper}{rest:List Oper}{o:Oper}{a:Act}{Q:Exit→Act→World→Prop}(B:o.guard=none)(s x:Operand)
  (V:o.op=.call {callee:=.builtin .append,args:=#[s,x],argTypes:=#[E.T,E.T]})(base:Nat)(v:Value)(xs:List β)(U:a.eval s=v){N:Nat}(l:Jm E w base N v xs)
  (g:Nat)(t:Value)(r:β)(j:E.P w base t r)(m:∀q,t.ownBlock=some q->N<=q)(R:a.eval x=.slice (some ⟨g,0,none⟩) 1 1)(hg:w.cell? ⟨g,0,none⟩=some t)(J:xs.length+1<=1000000000)(c:base<=w.heap.size)
  (h:∀n w',C9 E w' base n (xs++[r])->Below base w w'->(∀D,D≠E.e->Ao D base [] w w')->wpList Tryz.prog i Q rest (a.put o.dst n) w'):wpList Tryz.prog i Q (o::rest) a w:=by
 obtain⟨d,C,I,k,A⟩:=l;have S:=I.length_eq;obtain⟨O,hi,z,y,p⟩:=info_parts E.info;obtain⟨M,K,L,rfl⟩:=E.sl j;refine wpList_append_own w B s x E.T V base E.e O _ 1 24 E.und hi z y p rfl (by decide) v d.length d U C ⟨g,0,none⟩ 1 1 [.slice M K L] R rfl (X4 hg) (by intro u F;simp at F;subst F;rfl) (by unfold maxLen;omega) (by omega) c ?_;intro n w' h1 h2 _;obtain⟨g1,g2,g3⟩:=mF C I j k A m c h1 h2;exact h n w' g1 g2 g3
structure Ew(E:Q6 β)(G:β->Prop)(w W0:World)(base cl:Nat)(Tc:TypeId)(X:Bool->Value->Value)(ic ib ia is:Nat)(v:Value)(xs:List β)(b:Nat->Bool)(vs:Nat->Value)(W:World):Prop where
 own0:b ia=false->Jm E W base W0.heap.size v xs
 own1:b ia=true->∃r,G r/\C9 E W base (vs ia) (xs++[r])
 res:b ic=true->b ia=false->∃r,G r/\E.P W base (vs ic) r/\∀q,(vs ic).ownBlock=some q->W0.heap.size<=q
 bld:b ib=true->b ia=false->∃g,vs ib=.slice (some ⟨g,0,none⟩) 1 1/\W.cell? ⟨g,0,none⟩=some (vs ic)
 cel:W.heap[cl]?=some (.cells #[X (b is) (vs ia)] Tc (0,0))
 keptD:∀D,D≠E.e->Ao D base [cl] W0 W
 fp:Fp [] w W
 o54:b is=true->b ia=true
 o43:b ia=true->b ib=true
 o32:b ib=true->b ic=true
 sz:base<=W.heap.size
structure Ta(ic ib ia is:Nat):Prop where
 a:ic≠ib
 b:ic≠ia
 c:ic≠is
 d:ib≠ia
 e:ib≠is
 f:ia≠is
variable {G : β -> Prop} {w W0 W W2 : World} {base cl : Nat} {Tc : TypeId} {X : Bool -> Value -> Value} {ic ib ia is : Nat} {v : Value} {xs : List β} {b : Nat -> Bool} {vs : Nat -> Value}
theorem Ew.kept(h:Ew E G w W0 base cl Tc X ic ib ia is v xs b vs W):Ao E.k base [cl] W0 W:=h.keptD _ E.ne
theorem Ew.start{vs:Nat->Value}(d:C9 E W0 base v xs){c:Value}(i:W0.heap[cl]?=some (.cells #[c] Tc (0,0)))(k:∀u,X false u=c)(g:Fp [] w W0)(j:base<=W0.heap.size)(a:cl<base):Ew E G w W0 base cl Tc X ic ib ia is v xs (fun _=>false) vs {W0 with drawn:=W0.drawn+1}:=
 ⟨fun _=>d.toN.fp (Fp.drew W0),(fun h=>by cases h),(fun h=>by cases h),(fun h=>by cases h),by rw[k];exact i,fun _ _=>Ao.of ((Fp.drew W0).mono (by simp)) (by simpa using a),g.trans (Fp.drew W0),(fun h=>by cases h),(fun h=>by cases h),(fun h=>by cases h),j⟩
theorem Ew.plain{k:Nat}{x:Value}(h:Ew E G w W0 base cl Tc X ic ib ia is v xs b vs W)(i:k≠ic/\k≠ib/\k≠ia/\k≠is):Ew E G w W0 base cl Tc X ic ib ia is v xs (Ak b k) (B6 vs k x) W:=by
 obtain⟨d,c,a,g⟩:=i;refine⟨?_,?_,?_,?_,?_,h.keptD,h.fp,?_,?_,?_,h.sz⟩
 .rw[Ah a.symm];exact h.own0
 .rw[Ah a.symm,Bd a.symm];exact h.own1
 .rw[Ah a.symm,Ah d.symm,Bd d.symm];exact h.res
 .rw[Ah a.symm,Ah c.symm,Bd c.symm,Bd d.symm];exact h.bld
 .rw[Ah g.symm,Bd a.symm];exact h.cel
 .rw[Ah g.symm,Ah a.symm];exact h.o54
 .rw[Ah a.symm,Ah c.symm];exact h.o43
 .rw[Ah c.symm,Ah d.symm];exact h.o32
theorem Ew.first(h:Ew E G w W0 base cl Tc X ic ib ia is v xs b vs W)(a:b ia=false):∃u,W.heap[cl]?=some (.cells #[X false u] Tc (0,0)):=by
 have:=h.cel;rw[E6 h.o54 a] at this;exact⟨_,this⟩
theorem Ew.call{r:β}{j:Value}(h:Ew E G w W0 base cl Tc X ic ib ia is v xs b vs W)(d:Ta ic ib ia is)(t:b ic=false)(g:Fp [] W W2)(n:G r)(k:E.P W2 W.heap.size j r):Ew E G w W0 base cl Tc X ic ib ia is v xs (Ak b ic) (B6 vs ic j) W2:=by
 have l:=E6 h.o32 t;have i:=E6 h.o43 l;have s:=E6 h.o54 i;refine⟨fun _=>(h.own0 i).fp g,fun e=>?_,fun _ _=>⟨r,n,by rw[Gu];exact E.mono k h.sz,by rw[Gu];exact fun q m=>a0x h.kept.size (E.lt k q m).1⟩,fun e=>?_,?_,fun D p=>(h.keptD D p).trans (Ao.of (g.mono (by simp):Fp [] W W2) (by simp)),h.fp.trans g,fun e=>?_,fun e=>?_,fun _=>Eg _ _,a0x h.sz g.size⟩
 .rw[Ah d.b.symm,i] at e;cases e
 .rw[Ah d.a.symm,l] at e;cases e
 .rw[Ah d.c.symm,Bd d.b.symm];exact(g.block _ (Ae h.cel) (by simp)).trans h.cel
 .rw[Ah d.c.symm,s] at e;cases e
 .rw[Ah d.b.symm,i] at e;cases e
theorem Ew.build(h:Ew E G w W0 base cl Tc X ic ib ia is v xs b vs W)(c:Ta ic ib ia is)(j:b ic=true)(q:b ib=false):Ew E G w W0 base cl Tc X ic ib ia is v xs (Ak b ib) (B6 vs ib (.slice (some ⟨W.heap.size,0,none⟩) 1 1)) (W.alloc (.cells #[vs ic] E.e)):=by
 have i:=E6 h.o43 q;have p:=E6 h.o54 i;have g:=Fp.alloc W (.cells #[vs ic] E.e);refine⟨fun _=>(h.own0 i).fp g,fun e=>?_,fun _ _=>?_,fun _ _=>⟨W.heap.size,Gu _ _ _,?_⟩,?_,fun D n=>(h.keptD D n).trans (Ao.of (g.mono (by simp):Fp [] W _) (by simp)),h.fp.trans g,fun e=>?_,fun e=>?_,fun e=>?_,a0x h.sz g.size⟩
 .rw[Ah c.d.symm,i] at e;cases e
 .obtain⟨r,m,k,l⟩:=h.res j i;exact⟨r,m,by rw[Bd c.a];exact E.kept k (Ao.of g (by simp)),by rw[Bd c.a];exact l⟩
 .rw[Bd c.a,Ab (Ai rfl _)];rfl
 .rw[Ah c.e.symm,Bd c.d.symm];exact Dy h.cel
 .rw[Ah c.e.symm,p] at e;cases e
 .rw[Ah c.d.symm,i] at e;cases e
 .rw[Ah c.a];exact j
theorem Ew.append{r:β}{c:Value}(h:Ew E G w W0 base cl Tc X ic ib ia is v xs b vs W)(a:Ta ic ib ia is)(n:b ib=true)(y:b ia=false)(t:G r)(q:C9 E W2 base c (xs++[r]))(j:Below base W W2)(s:∀D,D≠E.e→Ao D base [] W W2)(i:cl<base)(g:w.heap.size≤base)(x:∀u p,X false u=X false p):
  Ew E G w W0 base cl Tc X ic ib ia is v xs (Ak b ia) (B6 vs ia c) W2:=by
 have k:=E6 h.o54 y;refine⟨fun e=>?_,fun _=>⟨r,t,by rw[Gu];exact q⟩,fun _ e=>?_,fun _ e=>?_,?_,fun D l=>(h.keptD D l).trans (s D l),h.fp.belowTrans (j.mono g),fun e=>?_,fun _=>?_,fun e=>?_,a0x h.sz j.size⟩
 .rw[Eg] at e;cases e
 .rw[Eg] at e;cases e
 .rw[Eg] at e;cases e
 .rw[Ah a.f.symm,k,Gu,x c (vs ia)];have m:=h.cel;rw[k] at m;exact(j.block _ i).trans m
 .rw[Ah a.f.symm,k] at e;cases e
 .rw[Ah a.d];exact n
 .rw[Ah a.b];exact h.o32 n
theorem Ew.store{y:Value}(h:Ew E G w W0 base cl Tc X ic ib ia is v xs b vs W)(a:Ta ic ib ia is)(d:b ia=true)(g:cl<base)(l:w.heap.size<=cl)(k:X true (vs ia)=y):Ew E G w W0 base cl Tc X ic ib ia is v xs (Ak b is) (B6 vs is undef) (W.setCell ⟨cl,0,none⟩ y):=by
 have j:Fp [cl] W (W.setCell ⟨cl,0,none⟩ y):=Fp.setCell W ⟨cl,0,none⟩ y;refine⟨fun e=>?_,fun _=>?_,fun _ e=>?_,fun _ e=>?_,?_,fun D p=>(h.keptD D p).trans (Ao.of j (by simpa using g)),h.fp.trans j (by intro i a;right;simp at a;omega),fun _=>?_,fun e=>?_,fun e=>?_,a0x h.sz j.size⟩
 .rw[Ah a.f,d] at e;cases e
 .obtain⟨r,n,m⟩:=h.own1 d;exact⟨r,n,by rw[Bd a.f];exact m.fp j (by simpa using g)⟩
 .rw[Ah a.f,d] at e;cases e
 .rw[Ah a.f,d] at e;cases e
 .rw[Eg,Bd a.f,k];exact(Cf h.cel _).trans rfl
 .rw[Ah a.f];exact d
 .rw[Ah a.e];exact h.o43 d
 .rw[Ah a.c];rw[Ah a.e] at e;exact h.o32 e
end
theorem Tryz.infoCelL:(Tryz.prog.info? 78).map (fun i=>(i.zero,i.size,i.bytes))=some (some (.slice none 0 0),1,24):=by kernel_rfl
theorem Ap.keptT{w w':World}{base:Nat}{S:List Nat}{v:Value}{l:List Ac}(h:Ap w base v l)(c:Ao 80 base S w w'):Ap w' base v l:=by
 refine h.kept fun k a=>?_;rcases h.2 with⟨rfl,_⟩|⟨g,cap,j,rfl,i,d,_⟩
 .cases a
 .obtain rfl:g=k:=by simpa [Value.ownBlock] using a
  exact c.high _ _ _ i d
def Dz:Q6 (List Ac) where
 T:=149
 e:=78
 k:=80
 P:=Ap
 mono:=fun h hb=>Ap.mono h hb
 kept:=fun h hk=>h.keptT hk
 sl:=fun h=>by
  rcases h.2 with⟨rfl,_⟩|⟨g,cap,cur,rfl,_⟩
  .exact⟨_,_,_,rfl⟩
  .exact⟨_,_,_,rfl⟩
 lt:=fun h=>Ap.lt h
 und:=Tryz.underlying149
 info:=Tryz.infoCelL
 ne:=by decide
end
section
open Go.RowKit
def O3(l:List Ac)(j:Nat):Bool:=decide (j=0∨(l.getD j Aq).row≠(l.getD (j-1) Aq).row)
def Ny(l:List Ac)(m:Nat):List ByteArray:=((a3w m).filter (O3 l)).map fun j=>(l.getD j Aq).row
def En(l:List Ac):List ByteArray:=Ny l l.length
theorem zY(l:List Ac)(m:Nat):Ny l (m+1)=Ny l m++(if O3 l m then[(l.getD m Aq).row] else[]):=by
 unfold Ny;rw[List.range_succ,List.filter_append,a2u];congr 1
 by_cases h:O3 l m<;>simp[h]
theorem X6(l:List Ac)(m:Nat):(Ny l m).length<=m:=by
 unfold Ny;rw[a0v];exact a0x (List.length_filter_le _ _) (by simp)
theorem mG{a b:ByteArray}(h:a.data.toList=b.data.toList):a=b:=by
 have:=congrArg bl h
 rwa [Oo,Oo] at this
theorem zZ(l:List Ac):(Lib.compact (l.map fun c=>c.row.data.toList)).map encStr=(En l).map Value.string:=by
 unfold Lib.compact Lib.compactUpTo En Ny;rw[a0v,a3v,a3v];have a:∀j,j<l.length->(l.map fun c=>c.row.data.toList).toArray[j]! =(l.getD j Aq).row.data.toList:=by
  intro j g;rw[getElem!_pos _ j (by simpa using g)];simp only[List.getElem_toArray,List.getElem_map];rw[a0w,Z g];rfl
 have i:(a3w l.length).filter (Lib.keeps (l.map fun c=>c.row.data.toList).toArray)=(a3w l.length).filter (O3 l):=by
  apply List.filter_congr;intro j g;have d:=List.mem_range.1 g;unfold Lib.keeps O3;by_cases k:j=0
  .subst k;simp
  .rw[a j d,a (j-1) (by omega)];apply decide_eq_decide.2;constructor
   .rintro(h|h)
    .exact Or.inl h
    .exact Or.inr fun e=>h (by rw[e])
   .rintro(h|h)
    .exact Or.inl h
    .exact Or.inr fun e=>h (mG e)
 rw[i];apply List.map_congr_left;intro j g;have d:=List.mem_range.1 (List.mem_filter.1 g).1;simp only[Function.comp];rw[a j d]
theorem Aaa(w:World)(a:Option Addr)(len cap:Nat)(l:List Ac)(R:Ba w a len l)(hn:len≤1000000):
  Calls Tryz.prog 95 #[.slice a len cap] w fun e w'=>∃v,e=.returned v/\Ce w' w.heap.size v (En l)/\Fp [] w w':=by
 have HL:=Y R;have p:=Y R.len;clear R;go_in;go_wp2_with fail
 go_loopg [2,7] len (fun g A vi wr=>∃(k:Nat) (v:Value),g+k=len/\v=A/\vi=.int .i64 k/\Ce wr w.heap.size v ((l.take k).map (·.row))/\Fp [] w wr)
 case atStart=>exact⟨0,_,by omega,rfl,rfl,by simpa using Ce.nil _ _,Fp.refl _ _⟩
 case round=>
  obtain⟨k,A,hg,rfl,rfl,r,hf⟩:=hrel;have N:=Y hf;have HO:=Y r;clear hf r;by_cases hk:k<len
  .have zk:(k:Int)<(len:Int):=(by omega)
   have J:k<l.length:=(by rw[<-p.o];exact hk)
   obtain⟨b1,o1,rfl,af,i⟩:=J2 HL.o J
   have F:(l.take (k+1)).map (·.row)=(l.take k).map (·.row)++[l[k].row]:=(by rw[a3z J,a2u];rfl)
   have u:=Y F
   have D:((l.take k).map (·.row)).length<=1000000:=(by rw[a0v,a1w];omega)
   have V:=Y D;obtain⟨c,hc⟩:=Aa (l[k]);rw[hc] at i u;obtain⟨q0,q1,q2,q3,q4,q5⟩:=i wr N.o;clear i hc F D;obtain⟨O,ah,ts,seq,ag,ab⟩:=c;simp only at u q0 q1 q2 q3 q4 q5;have ae:w.heap.size<=wr.heap.size:=N.o.size;go_wp2_with (at_builtin;(refine Uo rfl _ _ rfl w.heap.size _ _ rfl ((HO.o.fp (Fp.alloc _ _)).fp (Fp.alloc _ _)) _ O rfl (by rw[Ab (Ai (by simp) _)];rfl) (by have:=V.o;omega) (by simp;omega) ?_);intro v2 w2 I K;have y:=Y I;have z:=Y K;clear I K)
   go_roundg (gk-1)
   case measure=>omega
   case rel=>exact⟨k+1,_,by omega,rfl,by simp,by rw[u.o];exact y.o,((N.o.alloc' _).alloc' _).belowTrans z.o⟩
  .obtain rfl:k=len:=by omega
   have zk:¬(k:Int)<(k:Int):=(by omega)
   have r:Ce wr w.heap.size A (l.map (·.row)):=by
    have:=HO.o
    rwa [a2z (by rw[p.o];exact a2v _)] at this
   have x:=Y (zZ l);have j:wr.ownsRow w.heap.size 9 1 A (l.map fun c=>c.row.data.toList).length ((l.map fun c=>c.row.data.toList).map encStr):=by
    have U:wr.ownsRow w.heap.size 9 1 A (l.map (·.row)).length ((l.map (·.row)).map Value.string):=r;rw[<-Lib.map_encStr,a3v,a3v,a0v] at U;rw[a3v,a0v];exact U
   by_cases hv:A=.slice none 0 0
   .subst hv;have h0:l.map (·.row)=[]:=by
     have U:=r.1;rcases r.2 with⟨_,B⟩|⟨g,_,_,B,_⟩
     .exact List.eq_nil_of_length_eq_zero B
     .cases B
    have Q:l=[]:=List.map_eq_nil_iff.1 h0;subst Q;have aa:=Y (Tryz.slices_Compact_string_empty none 0 wr);clear r j;go_wp2_with fail;refine aa.o.mono ?_;rintro e w2 ⟨rfl,rfl⟩;go_wp2_with fail;go_ret;exact⟨_,rfl,Ce.nil _ _,N.o⟩
   .obtain⟨g,L,rfl,T,ac,t,ad,P,hH⟩:=Lib.holds_of_ownsRow j hv;have HC:=Y (Tryz.slices_Compact_string g 0 L (l.map fun c=>c.row.data.toList) wr hH (by rw[a0v];have:=p.o;omega) (by rw[a0v] at t ⊢;exact t));have M:=Y j;clear r j hH;have m:=congrArg List.length x.o;rw[a0v,a0v] at m
    obtain⟨zs,s⟩:∃zs,(l.map fun c=>c.row.data.toList)=zs:=⟨_,rfl⟩
    rw[s] at HC M x m P t;rw[s];have S:(Lib.compact zs).length<=zs.length:=by
     unfold Lib.compact Lib.compactUpTo;rw[a0v];exact a0x (List.length_filter_le _ _) (by simp)
    clear s;go_wp2_with fail;refine HC.o.mono ?_;rintro e w2 ⟨rfl,q,rfl⟩;have h:=Lib.ownsRow_putRow (q:=q) (k:=(Lib.compact zs).length) (ys:=Lib.compact zs++a0z (zs.length-(Lib.compact zs).length) []) M.o (by rw[a3u,a5v];omega) S;rw[List.take_left' rfl,x.o] at h;have n:=Lib.below_putRow (enc:=encStr) (q:=q) (d:=(Lib.compact zs++a0z (zs.length-(Lib.compact zs).length) []).toArray) (Below.refl w.heap.size wr) T;obtain⟨w3,C⟩:=Aa (Sort.putRow encStr (Sort.ahead wr q) g 0 (Lib.compact zs++a0z (zs.length-(Lib.compact zs).length) []).toArray);rw[C] at h n ⊢;have y:=Y h;have z:=Y n;clear h n C;go_wp2_with fail;go_ret;refine⟨_,rfl,?_,N.o.belowTrans z.o⟩;have B:=y.o;rw[m] at B;exact B
def Td(x:UInt8)(k:Nat):UInt8:=UInt8.ofNat (x.toNat ||| 2^k)
def Lx(d:List UInt8)(i:Nat):List UInt8:=d.set (i/8) (Td (d.getD (i/8) 0) (i%8))
def Ly(s:ByteArray):Nat:=B0 0 s
def Qd(s:ByteArray):Nat:=B0 (Ly s) ⟨#[1]⟩
def K9(s:ByteArray)(k:Nat):Nat:=(Ly s+k*Qd s)%4294967296
def Jn(s:ByteArray)(many k:Nat):Nat:=K9 s k%many
def Jo(s:ByteArray)(d:List UInt8)(k:Nat):List UInt8:=(a3w k).foldl (fun d j=>Lx d (Jn s (8*d.length) j)) d
theorem mH(d:List UInt8)(i:Nat):(Lx d i).length=d.length:=by simp[Lx]
theorem cC(s:ByteArray)(d:List UInt8)(k:Nat):Jo s d (k+1)=Lx (Jo s d k) (Jn s (8*(Jo s d k).length) k):=by
 unfold Jo;rw[List.range_succ,List.foldl_append];rfl
theorem Ti(s:ByteArray)(d:List UInt8):∀k,(Jo s d k).length=d.length
 |0=>rfl
 |k+1=>by rw[cC,mH,Ti s d k]
theorem Aab(s:ByteArray):K9 s 0=Ly s:=by
 have:=Og 0 s;unfold K9 Ly;rw[Nat.zero_mul,a6w];exact a3x this
theorem Aac(s:ByteArray)(k:Nat):K9 s (k+1)=(K9 s k+Qd s)%4294967296:=by
 unfold K9;rw[Nat.add_mul,Nat.one_mul];omega
theorem Aad(s:ByteArray)(k:Nat):K9 s k<4294967296:=Nat.mod_lt _ (by decide)
theorem mI(s:ByteArray){many:Nat}(k:Nat)(h:0<many):Jn s many k<many:=Nat.mod_lt _ h
theorem Aae(a b:Nat)(i:a<256)(h:b<256):bits .or .u8 (a:Int) (b:Int)=((a ||| b:Nat):Int):=by
 have g:a ||| b<2^8:=Nat.or_lt_two_pow (by omega) (by omega);have d:(a4v 8 (a:Int)).toNat=a:=by
  rw[a6x,a6v];exact a3x (by omega)
 have c:(a4v 8 (b:Int)).toNat=b:=by
  rw[a6x,a6v];exact a3x (by omega)
 show IntKind.u8.wrap ((a4v 8 (a:Int) ||| a4v 8 (b:Int)).toNat:Int)=_;rw[BitVec.toNat_or,d,c,IntKind.wrap_u8];omega
theorem mJ(x:UInt8){k:Nat}(h:k<8):(Td x k).toNat=x.toNat ||| 2^k:=by
 unfold Td;rw[UInt8.toNat_ofNat'];apply a3x;have a:(2:Nat)^k<=2^7:=Nat.pow_le_pow_right (by decide) (by omega);exact Nat.or_lt_two_pow (n:=8) x.toNat_lt (by omega)
def Ft(w:World)(g:Nat)(d:List UInt8):Prop:=w.heap[g]?=some (.cells (d.map A5).toArray 5 (0,0))
theorem Ft.cell{w:World}{g j:Nat}{d:List UInt8}(h:Ft w g d)(a:j<d.length):w.cell? ⟨g,j,none⟩=some (.int .u8 (d.getD j 0).toNat):=by
 rw[Ab h];rw[a1z,List.getElem?_map,Z a,a0w,Z a];rfl
theorem Ft.free{w:World}{g:Nat}{d:List UInt8}(h:Ft w g d)(j:Nat):w.frozen? ⟨g,j,none⟩=false:=Av h j
theorem Ft.set{w:World}{g j:Nat}{d:List UInt8}{x:UInt8}(h:Ft w g d):Ft (w.setCell ⟨g,j,none⟩ (.int .u8 x.toNat)) g (d.set j x):=by
 unfold Ft;rw[Cf h];simp only[a2w];rw[show(Value.int .u8 (x.toNat:Int))=A5 x from rfl,<-List.map_set]
theorem Ft.fp{w w':World}{g:Nat}{d:List UInt8}{S:List Nat}(h:Ft w g d)(c:Fp S w w')(a:g∉S:=by simp):Ft w' g d:=(c.block g (Ae h) a).trans h
structure M7(w:World)(bx g n:Nat)(d d':List UInt8)(done:Bool)(w':World):Prop where
 row:Ft w' g (if done=true then d' else d)
 box:w'.heap[bx]?=some (.cells #[.slice (some ⟨g,0,none⟩) n n] 113 (0,0))
 fp:Fp [g] w w'
def CM(w:World)(bx g n:Nat)(d d':List UInt8)(b:Nat->Bool)(w':World):Prop:=M7 w bx g n d d' (b 10) w'
theorem Aaf(w:World)(z g n i:Nat)(d:List UInt8)(s:w.heap[z]?=some (.cells #[.slice (some ⟨g,0,none⟩) n n] 113 (0,0)))(N:Ft w g d)(hd:d.length=n)(U:i<8*n)(hn:n≤100000)(F:z≠g):
  Calls Tryz.prog 158 #[.int .i64 i,.pointer (some ⟨z,0,none⟩)] w fun e w'=>e=.returned (.bool true)/\Ft w' g (Lx d i)/\Fp [g] w w':=by
 have u:=Y s;have HG:=Y N;obtain⟨q,L⟩:=Aa (i/8);obtain⟨r,J⟩:=Aa (i%8)
 have e1:(i:Int)/8=(q:Int):=by omega
 have e2:(i:Int).tmod 8=(r:Int):=by rw[Int.tmod_eq_emod_of_nonneg (by omega)];omega
 have e3:IntKind.i64.wrap (q:Int)=(q:Int):=by rw[a0u];omega
 have e4:min r 8=r:=by omega
 have T:(q:Int)<(n:Int):=by omega
 have D:q<d.length:=by omega
 obtain⟨x,C⟩:=Aa (d.getD q 0);have I:=Y (fun w (h:Ft w g d)=>h.cell D);rw[C] at I
 have O:Hid (Lx d i=d.set q (Td x r)):=by unfold Hid Lx;rw[L,J,C]
 have M:(2:Nat)^r<=2^7:=Nat.pow_le_pow_right (by decide) (by omega);obtain⟨p,l⟩:=Aa (2^r);rw[l] at M;have R:IntKind.u8.wrap (((2:Nat):Int)^r)=(p:Int):=by
  rw[IntKind.wrap_u8,<-l]
  have:(((2:Nat):Int)^r)=((2^r:Nat):Int):=by push_cast;rfl
  rw[this,l];omega
 have Q:IntKind.u8.wrap ((2:Int)^r)=(p:Int):=R;have B:=x.toNat_lt;obtain⟨y,A⟩:=Aa (Td x r);have p2:bits .or .u8 (x.toNat:Int) (p:Int)=(y.toNat:Int):=by
  rw[Aae _ _ B (by omega),<-A,mJ x (by omega),l]
 rw[A] at O
 have S:r<8:=by omega
 clear L J C A l s N U M;go_in;go_wp2_with fail;refine E3 (CM w z g n d (d.set q y)) (fun _ _=>True) (by kernel_rfl) (by kernel_rfl) ⟨HG.o.fp (Fp.drew w),((Fp.drew w).block _ (Ae u.o) (by simp)).trans u.o,(Fp.drew w).mono (by simp)⟩ ?_
 iterate 4
  apply A3 (fun _ _ h=>h) rfl rfl rfl
  .intro b a w k j K m;have:=j.f 1;have:=j.f 0;(try have:=j.e 1 5);(try have:=j.e 0 4);(try have:=j.e 2 6);have q0:=Ab (M7.box k) 0;simp only[a1z,a1v] at q0;simp only[Oper.wp,execOp];go_simp;exact m _ k trivial
 apply A3 (fun _ _ h=>h) rfl rfl rfl
 .intro b a w k j K m;have h7:=j.e 3 7;have q0:=Ab (M7.box k) 0;simp only[a1z,a1v] at q0;have c:=M7.row k;rw[j.post 10 (by kernel_rfl)] at c;have q1:=I.o _ c;simp only[Oper.wp,execOp];go_simp;exact m _ k trivial
 iterate 5
  apply A3 (fun _ _ h=>h) rfl rfl rfl
  .intro b a w k j K m;have:=j.f 0;(try have:=j.e 4 8);(try have:=j.e 0 4);(try have:=j.e 2 6);(try have:=j.e 5 9);(try have:=j.e 6 10);(try have:=j.e 7 11);have q0:=Ab (M7.box k) 0;simp only[a1z,a1v] at q0;simp only[Oper.wp,execOp];go_simp;exact m _ k trivial
 apply F3 (fun _=>True) rfl rfl
 .intro b a w k j K m;have V:=j.e 9 13;have aa:=j.e 8 12;have c:=M7.row k;rw[j.self] at c;have q1:=I.o _ c;have z1:=c.free q;simp only[Oper.wp,execOp];go_simp;exact m undef _ ⟨c.set,((Fp.setCell w ⟨g,q,none⟩ _).block _ (Ae (M7.box k)) (by simpa using F)).trans (M7.box k),(M7.fp k).setCell' (Or.inl (by simp)) _⟩ trivial trivial
 refine⟨?_,?_⟩
 .refine⟨fun _ _ _ _ _=>trivial,?_⟩
  iterate 10 refine Cb _ ?_
  exact trivial
 .intro w1 bb k t;simp only[List.reverse_cons,List.reverse_nil,List.nil_append,List.cons_append]
  iterate 10 (refine A2 ?_)
  refine As ?_;intro P u10;refine C7 ?_;simp only[Aj,Act.put,a2w,List.set_cons_succ,List.set_cons_zero];have c:=M7.row k;rw[t 10 (by decide)] at c;have HR:=Y c;have HF:=Y (M7.fp k);clear c k t u10;go_wp2_with fail;go_ret;exact⟨rfl,by rw[O.o];exact HR.o,HF.o⟩
theorem Aag(name:ByteArray)(M z N:Nat)(I:Nat→World→Prop)(X:World→Prop)(w:World)(eg:∀args w,(callFunc z args).run Tryz.prog w=.ok (.enter z args) w)
  (h:name.size<=100000000)(hM:0<M)(ac:M<=1000000)(j:∀k w,I k w->Dp w)(K:∀k w w',I k w->Fp [] w w'->I k w')(L:I 0 w)
  (a:∀k w,k<4->I k w->Calls Tryz.prog z #[.int .i64 (Jn name M k:Nat),.pointer (some ⟨N,0,none⟩)] w fun e w'=>(e=.returned (.bool true)/\I (k+1) w')∨(e=.returned (.bool false)/\X w')):
  Calls Tryz.prog 157 #[.string name,.int .i64 M,.func (.func z) #[] #[.pointer (some ⟨N,0,none⟩)]] w fun e w'=>(e=.returned (.bool true)/\I 4 w')∨(e=.returned (.bool false)/\X w'):=by
 have O:=Y j;have Q:=Y K;have S:=Y L;have HL:=Y a;have P:Hid (∀w,Dp w->Calls Tryz.prog 52 #[.string name] w fun e w'=>e=.returned (.int .u32 (Ly name))/\Fp [] w w'):=fun w j=>Ur name w h j;have D:Hid (∀w,Dp w->Calls Tryz.prog 98 #[.int .u32 (Ly name),.string ⟨#[1]⟩] w fun e w'=>e=.returned (.int .u32 (Qd name))/\Fp [] w w'):=fun w j=>Wj (Ly name) ⟨#[1]⟩ w (Og _ _) (by show 1<=_;decide) j;clear j K L a;have s:=Y (Aab name);obtain⟨ha,m⟩:=Aa (Ly name);obtain⟨C,c⟩:=Aa (Qd name);have F:=Y c
 have ab:C<4294967296:=by rw[<-c];exact Og _ _
 rw[m] at P D s;rw[c] at D;clear m c
 have u0:IntKind.u32.wrap (M:Int)=(M:Int):=by rw[a4u];omega
 go_in;go_wp2_with fail;refine(P.o _ (O.o _ _ S.o)).mono ?_;rintro e w1 ⟨rfl,q⟩;have R:=Y (Q.o _ _ _ S.o q);clear q;go_wp2_with fail;refine(D.o _ (O.o _ _ R.o)).mono ?_;rintro e w2 ⟨rfl,n⟩;have H2:=Y (Q.o _ _ _ R.o n);clear n;go_wp2_with fail
 go_loopg [7,13] 4 (fun g U T wr=>∃k:Nat,g+k=4/\U=.int .u32 (K9 name k:Nat)/\T=.int .i64 k/\I k wr)
 case atStart=>exact⟨0,by omega,by rw[s.o],rfl,H2.o⟩
 case round=>
  obtain⟨k,hg,rfl,rfl,l⟩:=hrel;have t:=Y l;clear l;by_cases hk:k<4
  .have zk:(k:Int)<4:=(by omega)
   have d:=Y (Aac name k);rw[F.o] at d;have r:=Y (HL.o k wr hk t.o);have B:=Aad name k;have i:Hid (Jn name M k=K9 name k%M):=rfl;obtain⟨x,A⟩:=Aa (K9 name k);rw[A] at d B i;rw[A];obtain⟨p,u⟩:=Aa (x%M)
   have aa:(x:Int)%(M:Int)=(p:Int):=(by rw[<-u];rfl)
   have V:p<M:=(by rw[<-u];exact Nat.mod_lt _ hM)
   rw[i.o,u] at r
   have u1:IntKind.i64.wrap (p:Int)=(p:Int):=(by rw[a0u];omega)
   have u1':IntKind.u32.wrap (p:Int)=(p:Int):=(by rw[a4u];omega)
   have M0:¬M=0:=(by omega)
   obtain⟨y,J⟩:=Aa ((x+C)%4294967296)
   have u2:IntKind.u32.wrap ((x:Int)+(C:Int))=(y:Int):=(by rw[a4u];omega)
   rw[J] at d;clear A u J i;go_wp2_with fail;refine r.o.mono ?_;rintro e w3 (⟨rfl,hi3⟩|⟨rfl,hx3⟩)
   .have H3:=Y hi3;clear hi3;go_wp2_with fail
    go_roundg (gk-1)
    case measure=>omega
    case rel=>exact⟨k+1,by omega,by rw[d.o],by simp,H3.o⟩
   .have HX:=Y hx3;clear hx3;go_wp2_with fail;go_ret;exact Or.inr ⟨rfl,HX.o⟩
  .obtain rfl:k=4:=by omega
   go_wp2_with fail;go_ret;exact Or.inl ⟨rfl,t.o⟩
theorem Aah(name:ByteArray)(l g n:Nat)(d:List UInt8)(w:World)(c:name.size≤100000000)(z:0<n)(A:n≤100000)(u:d.length=n)(q:w.heap[l]?=some (.cells #[.slice (some ⟨g,0,none⟩) n n] 113 (0,0)))(C:Ft w g d)
  (m:l≠g)(p:g≠0)(x:Dp w):
  Calls Tryz.prog 157 #[.string name,.int .i64 (8*n:Nat),.func (.func 158) #[] #[.pointer (some ⟨l,0,none⟩)]] w fun e w'=>e=.returned (.bool true)/\Ft w' g (Jo name d 4)/\Fp [g] w w':=by
 refine(Aag name (8*n) 158 l (fun k w'=>Ft w' g (Jo name d k)/\w'.heap[l]?=some (.cells #[.slice (some ⟨g,0,none⟩) n n] 113 (0,0))/\Fp [g] w w') (fun _=>False) w (enters_of Tryz.func158 (by kernel_rfl) rfl) c (by omega) (by omega)
  (fun k w' h=>x.fp h.2.2 (by simpa using Ne.symm p)) (fun k a b h j=>⟨h.1.fp j,(j.block _ (Ae h.2.1) (by simp)).trans h.2.1,h.2.2.trans j⟩) ⟨C,q,Fp.refl _ _⟩ ?_).mono ?_
 .rintro k w' D ⟨t,s,r⟩;refine(Aaf w' l g n (Jn name (8*n) k) (Jo name d k) s t (by rw[Ti,u]) (mI _ _ (by omega)) A m).mono ?_;rintro e w2 ⟨rfl,y,j⟩;refine Or.inl ⟨rfl,?_,(j.block _ (Ae s) (by simpa using m)).trans s,r.trans j (by intro i B;exact Or.inl B)⟩;rw[cC,Ti,u];exact y
 .rintro e w' (⟨rfl,t,_,r⟩|⟨_,h⟩)
  .exact⟨rfl,t,r⟩
  .exact h.elim
def Nz(k:Nat):Nat:=max ((k*10+7)/8) 8
def Hl(names:List ByteArray)(k:Nat):List UInt8:=(names.take k).foldl (fun d s=>Jo s d 4) (a0z (Nz names.length) 0)
def Hy(names:List ByteArray):ByteArray:=bl (Hl names names.length)
theorem mK(names:List ByteArray){k:Nat}(h:k<names.length):Hl names (k+1)=Jo names[k] (Hl names k) 4:=by
 unfold Hl;rw[a3z h,List.foldl_append];rfl
theorem Aai(names:List ByteArray):∀d:List UInt8,(names.foldl (fun d s=>Jo s d 4) d).length=d.length:=by
 induction names with
 |nil=>intro d;rfl
 |cons s l ih=>intro d;rw[List.foldl_cons,ih,Ti]
theorem X7(names:List ByteArray)(k:Nat):(Hl names k).length=Nz names.length:=by
 unfold Hl;rw[Aai,a5v]
theorem Ft.str{w:World}{g cap:Nat}{d:List UInt8}(h:Ft w g d):(convert 113 9 (.slice (some ⟨g,0,none⟩) d.length cap)).run Tryz.prog w=.ok (.string (bl d)) w:=by
 have a:=P3 (cap:=cap) (n:=d.length) (f:=fun j=>d.getD j 0) (b:=g) (w:=w) ⟨Ae h,fun j c=>by
  rw[h.cell c];rfl,fun j _=>h.free j⟩
 rw[a];have e:(a3w d.length).map (fun j=>d.getD j 0)=d:=by
  apply List.ext_getElem
  .simp
  .intro i k a;simp only[List.getElem_map,List.getElem_range];rw[a0w,Z a];rfl
 rw[e];rfl
theorem mL(v:Value)(n:Nat):madeCells #[v] n=(a0z n v).toArray:=by
 apply Array.ext
 .rw[size_madeCells];simp
 .intro i c a;simp[madeCells,Nat.mod_one]
theorem mM(w:World)(n:Nat)(a:n<=100000):(Instr.makeSlice 113 (.int .i64 n) (.int .i64 n)).run Tryz.prog w=.ok (.slice (some ⟨w.heap.size,0,none⟩) n n) (w.alloc (.cells ((a0z n (0:UInt8)).map A5).toArray 5)):=by
 have h:=run_makeSlice (P:=Tryz.prog) w 113 5 Tryz.t5 (.int .u8 0) Tryz.underlying113 (by kernel_rfl) (by kernel_rfl) .i64 .i64 n n (by omega) (Int.le_refl _) (by show(n:Int).toNat*1<=_;omega) (by show((1:Nat):Int)*n<=_;omega) (by omega)
 change _ =Result.ok _ (w.alloc (.cells (madeCells (Value.int .u8 0).cells ((n:Int).toNat*1)) 5)) at h
 rw[h,Int.toNat_natCast,Nat.mul_one];rw[show(Value.int .u8 0).cells=#[Value.int .u8 0] from rfl,mL,List.map_replicate];rfl
theorem Aaj(w:World)(v:Value)(base:Nat)(names:List ByteArray)(hv:Ce w base v names)(hn:names.length≤2000)(D:∀s∈names,s.size≤100000000)(ht:Dp w):
  Calls Tryz.prog 94 #[v,.int .i64 10] w fun e w'=>e=.returned (.tuple #[.string (Hy names),.int .i64 0])/\Fp [] w w':=by
 obtain⟨⟨a,cap,rfl⟩,O⟩:=hv.at;have ah:=Y O;have HT:=Y ht;have af:=Y D;obtain⟨nl,c⟩:=Aa names.length;obtain⟨n,i⟩:=Aa (Nz nl)
 have ab:n=max ((nl*10+7)/8) 8:=by rw[<-i];rfl
 have n1:IntKind.i64.wrap ((nl:Int)*10)=((nl*10:Nat):Int):=by rw[a0u];omega
 obtain⟨m1,J⟩:=Aa (nl*10);rw[J] at n1
 have n2:IntKind.i64.wrap ((m1:Int)+7)=((m1+7:Nat):Int):=by rw[a0u];omega
 obtain⟨m2,I⟩:=Aa (m1+7);rw[I] at n2;obtain⟨m3,ad⟩:=Aa (m2/8)
 have n3:(m2:Int)/8=(m3:Int):=by omega
 have n4:max (m3:Int) 8=(n:Int):=by omega
 have ai:8<=n:=by omega
 have F:n<=100000:=by omega
 clear J I ad ab hv O ht D;rw[c];go_in;have ac:=mM w n F;have d:Ft (w.alloc (.cells ((a0z n (0:UInt8)).map A5).toArray 5)) w.heap.size (a0z n 0):=Ai rfl _;have u:=Fp.alloc w (.cells ((a0z n (0:UInt8)).map A5).toArray 5)
 have C:(w.alloc (.cells ((a0z n (0:UInt8)).map A5).toArray 5)).heap.size=w.heap.size+1:=by simp
 obtain⟨w1,A⟩:=Aa (w.alloc (.cells ((a0z n (0:UInt8)).map A5).toArray 5));rw[A] at ac d u C;have S:=Y d;have ag:=Y u;clear A d u;go_wp2_with fail
 go_loopg [30] nl (fun g vi wr=>∃k:Nat,g+k=nl/\vi=.int .i64 k/\Ft wr w.heap.size (Hl names k)/\wr.heap[w.heap.size+1]?=some (.cells #[.slice (some ⟨w.heap.size,0,none⟩) n n] 113 (0,0))/\Fp [] w wr)
 case atStart=>
  refine⟨0,by omega,rfl,?_,Ai C.symm _,ag.o.alloc' _⟩
  have e:Hl names 0=a0z n 0:=by unfold Hl;rw[c,i];rfl
  rw[e];exact S.o.fp (Fp.alloc _ _)
 case round=>
  obtain⟨k,hg,rfl,K,x,hf⟩:=hrel;have R:=Y K;have y:=Y x;have HF:=Y hf;have q1:wr.cell? ⟨w.heap.size+1,0,none⟩=some (.slice (some ⟨w.heap.size,0,none⟩) n n):=Ab x 0;clear K x hf;by_cases hk:k<nl
  .have zk:(k:Int)<(nl:Int):=(by omega)
   have t:k<names.length:=(by rw[c];exact hk)
   have q:(Hl names k).length=n:=(by rw[X7,c,i])
   have aj:=Y q;have U:=Y (mK names t);obtain⟨s,hs⟩:=Aa (names[k])
   have aa:s.size<=100000000:=(by rw[<-hs];exact af.o _ (List.getElem_mem t))
   rw[hs] at U;have N:∃z m,a=some ⟨z,0,none⟩∧cap=m∧wr.cell? ⟨z,k,none⟩=some (.string s):=by
    rcases ah.o with h|⟨z,c0,e0,_,ae,hc⟩
    .rw[h] at c;simp at c;omega
    .injection e0 with e1 _ e3
     refine⟨z,c0,e1,e3,?_⟩;rw[HF.o.cell (p:=⟨z,k,none⟩) ae (by simp),hc k t,hs]
   obtain⟨z,m,rfl,rfl,q0⟩:=N
   have n5:IntKind.i64.wrap (8*(n:Int))=((8*n:Nat):Int):=(by rw[a0u];omega)
   have B:=HT.o.fp HF.o;have h4:0<w.heap.size:=World.block_lt_of_cell? _ _ (HT.o 0 (by decide));have P:=Y (Aah s (w.heap.size+1) w.heap.size n (Hl names k) wr aa (by omega) F q y.o R.o (by omega) (by omega) B);obtain⟨n8,j⟩:=Aa (8*n);rw[j] at n5 P;clear hs q B j;go_wp2_with fail;refine P.o.mono ?_;rintro e w2 ⟨rfl,l,L⟩;have Q:=Y l;have T:=Y L;clear l L;go_wp2_with fail
   go_roundg (gk-1)
   case measure=>omega
   case rel=>exact⟨k+1,by omega,by simp,by rw[U.o];exact Q.o,(T.o.block _ (Ae y.o) (by simp)).trans y.o,HF.o.trans T.o⟩
  .obtain rfl:k=nl:=by omega
   have zk:¬(k:Int)<(k:Int):=(by omega)
   have M:=R.o.str (cap:=n);rw[show(Hl names k).length=n from by rw[X7,c,i]] at M
   have V:Hid (Hy names=bl (Hl names k)):=(by unfold Hid Hy;rw[c])
   obtain⟨r,hr⟩:=Aa (bl (Hl names k));rw[hr] at M V;clear hr;go_wp2_with fail;go_ret2;exact⟨by rw[V.o];rfl,HF.o⟩
end
section
open Go.RowKit
theorem Aak{a:Array Value}{l:List Ac}(h:a.toList.take (l.length*6)=l.flatMap E9)(i:Nat)(d:i<l.length)(j:Nat)(c:j<6):a[i*6+j]?=(E9 l[i])[j]?:=by
 rw[<-cQ l i j c d,<-h,List.getElem?_take,if_pos (by omega),a5w]
theorem Ap.cel{w:World}{base g n cap j:Nat}{l:List Ac}(h:Ap w base (.slice (some ⟨g,0,none⟩) n cap) l)(p:j<l.length):J1 w g (j*6) l[j]/\∀o,w.frozen? ⟨g,o,none⟩=false:=by
 obtain⟨x,d,q,e,u,c,s,t,r,i⟩:=h.open (by omega);cases e;have a:=fun k m=>Aak i j p k m;refine⟨⟨?_,?_,?_,?_,?_,?_⟩,fun o=>Av c o⟩
 .rw[Ab c];exact a 0 (by decide)
 .rw[Ab c];exact a 1 (by decide)
 .rw[Ab c];exact a 2 (by decide)
 .rw[Ab c];exact a 3 (by decide)
 .rw[Ab c];exact a 4 (by decide)
 .rw[Ab c];exact a 5 (by decide)
end
section
open Go.RowKit Go.Lib
theorem Vi(w:World)(a:Option Addr)(n cap:Nat)(l:List Ac)(j:Ba w a n l)(d:a=none→cap=0)(z:n≤1000000):
  Calls Tryz.prog 136 #[.slice a n cap] w fun e w'=>∃x,e=.returned x/\Ap w' w.heap.size x l/\Fp [] w w':=by
 have u:=Y j;have k:n=l.length:=j.len;have y:∀(w:World) (a:Option Addr) (n c m c':Nat),(binOp .eql 78 (.slice a n c) (.slice none m c')).run Tryz.prog w=.ok (.bool a.isNone) w:=fun w a n c m c'=>Lib.run_eql_slice_nil w _ _ a n c m c' Tryz.underlying78
 cases a with
 |none=>
  obtain rfl:=d rfl;have q:l=[]:=by
   rcases j.cells with h|⟨b,o,h,_⟩
   .exact h
   .cases h
  subst q;have p:n=0:=k;subst p;clear k j d z;go_in;go_wp2_with fail;go_ret;exact⟨_,rfl,Ap.nil _ _,Fp.refl _ _⟩
 |some ad=>
  have s:=Y k;clear j d k;go_in;go_wp2_with (at_builtin;refine Ua rfl _ _ rfl w.heap.size _ [] rfl (Ap.made w _ (a2v _)) _ _ _ l rfl (u.o.fp (Fp.alloc _ _)) (by intro h;cases h) (by have:=s.o;simp;omega) (by simp) ?_;intro A w2 g i;have r:=Y g;have t:=Y i;clear g i);go_ret;exact⟨_,rfl,r.o,(Fp.alloc w _).belowTrans (t.o.mono (by simp))⟩
theorem Aal(w:World)(C B:Nat)(a:Option Addr)(n cap i:Nat)(l:List Ac)(s:ByteArray)(q:w.heap[C]?=some (.cells #[.slice a n cap] 78 (0,0)))(p:w.heap[B]?=some (.cells #[.string s] 9 (0,0)))(u:Ba w a n l)(L:i<n):
  Calls Tryz.prog 146 #[.int .i64 i,.pointer (some ⟨C,0,none⟩),.pointer (some ⟨B,0,none⟩)] w fun e w'=>e=.returned (.bool (!(Gm (l.getD i Aq).row s)))/\Fp [] w w':=by
 have k:i<l.length:=by rw[<-u.len];exact L
 obtain⟨b1,S,e,_,x⟩:=J2 u k;subst e
 have A:l.getD i Aq=l[i]:=by rw[a0w,Z k];rfl
 rw[A];obtain⟨c,m⟩:=Aa (l[i]);rw[m] at x ⊢;obtain⟨j,O,R,seq,N,D⟩:=c;have z:=Y x;have t:=Y q;have r:=Y p
 have Q:(i:Int)<(n:Int):=by omega
 obtain⟨bl,y⟩:=Aa (Op.bytesLess j.toList s.toList);have g:Gm j s=bl:=y;simp only;rw[g];clear x q p m A u g;go_in;go_wp2_with fail;refine Bo (by kernel_rfl) (by kernel_rfl) ?_
 iterate 8
  apply A1 rfl rfl rfl
  .intro a w h d K M;have:=d.f 1;have:=d.f 0;have:=d.f 2;(try have:=d.e 0 5);(try have:=d.e 1 6);(try have:=d.e 2 7);(try have:=d.e 3 8);(try have:=d.e 4 9);(try have:=d.e 5 10);(try have:=d.e 6 11);obtain⟨J,k1,k2,V,U,T⟩:=z.o _ h;simp only at J;have I:=Ab ((h.block _ (Ae t.o) (by simp)).trans t.o) 0;have F:=Ab ((h.block _ (Ae r.o) (by simp)).trans r.o) 0;simp only[a1z,a1v] at I F;simp only[Oper.wp,execOp];go_simp;exact M _ h (Fp.refl _ _)
 refine Bn ?_
 iterate 8 refine Bm ?_
 refine Bl fun w' h=>?_
 .simp only[Aj,Act.put,a2w,List.set_cons_succ,List.set_cons_zero];have P:=Y h;clear h;go_wp2_with fail;go_ret;exact⟨rfl,P.o⟩
theorem Aam(w:World)(n A y:Nat)(p:Nat→Bool)(L:n≤1000000)
  (l:∀i W,i<n->Fp [] w W->Calls Tryz.prog 146 #[.int .i64 i,.pointer (some ⟨A,0,none⟩),.pointer (some ⟨y,0,none⟩)] W fun e W'=>e=.returned (.bool (p i))/\Fp [] W W'):
  Calls Tryz.prog 145 #[.int .i64 n,.func (.func 146) #[] #[.pointer (some ⟨A,0,none⟩),.pointer (some ⟨y,0,none⟩)]] w fun e w'=>
   ∃h:Nat,e=.returned (.int .i64 h)/\h<=n/\(h<n->p h=true)/\(0<h->p (h-1)=false)/\Fp [] w w':=by
 have x:=Y l;clear l;go_in;go_wp2_with fail
 go_loopg [5,6] n (fun g C B wr=>∃i j:Nat,g=j-i/\i<=j/\j<=n/\C=.int .i64 i/\B=.int .i64 j/\(j<n->p j=true)/\(0<i->p (i-1)=false)/\Fp [] w wr)
 case atStart=>exact⟨0,n,by omega,by omega,a2v _,rfl,rfl,fun h=>absurd h (Nat.lt_irrefl _),fun h=>absurd h (Nat.lt_irrefl _),Fp.refl _ _⟩
 case round=>
  obtain⟨i,j,rfl,K,d,rfl,rfl,a,c,k⟩:=hrel;have u:=Y k;have q:=Y a;have r:=Y c;clear k a c;by_cases J:i<j
  .have z:(i:Int)<(j:Int):=(by omega)
   obtain⟨m,I⟩:=Aa ((i+j)/2)
   have M:((i:Int)+(j:Int))/2=(m:Int):=(by omega)
   have F:i<=m:=(by omega)
   have D:m<j:=(by omega)
   clear I;go_wp2_with fail;refine(x.o m _ (by omega) u.o).mono ?_;rintro e w2 ⟨rfl,k⟩;have s:=Y (u.o.trans k);clear k;cases hp:p m
   .have t:=Y hp;clear hp;go_wp2_with fail
    go_roundg (j-(m+1))
    case measure=>omega
    case rel=>exact⟨m+1,j,rfl,by omega,d,by simp,rfl,q.o,fun _=>t.o,s.o⟩
   .have t:=Y hp;clear hp;go_wp2_with fail
    go_roundg (m-i)
    case measure=>omega
    case rel=>exact⟨i,m,rfl,by omega,by omega,rfl,rfl,fun _=>t.o,r.o,s.o⟩
  .obtain rfl:i=j:=by omega
   have z:¬(i:Int)<(i:Int):=(by omega)
   go_wp2_with fail;go_ret;exact⟨i,rfl,d,q.o,r.o,u.o⟩
inductive Eb:List Ac->List ByteArray->List (List Ac)->Prop
 |nil (l:List Ac):Eb l [] [l]
 |cons (l:List Ac) (s:ByteArray) (bs:List ByteArray) (out:List (List Ac)) (h:Nat):h<=l.length->(h<l.length->Gm (l.getD h Aq).row s=false)->(0<h->Gm (l.getD (h-1) Aq).row s=true)->Eb (l.drop h) bs out->Eb l (s::bs) (l.take h::out)
inductive La:List Ac->List ByteArray->List (List Ac)->List Ac->Prop
 |nil (l:List Ac):La l [] [] l
 |snoc (l:List Ac) (bs:List ByteArray) (out:List (List Ac)) (r:List Ac) (s:ByteArray) (h:Nat):La l bs out r->h<=r.length->(h<r.length->Gm (r.getD h Aq).row s=false)->(0<h->Gm (r.getD (h-1) Aq).row s=true)->La l (bs++[s]) (out++[r.take h]) (r.drop h)
theorem La.join{l r:List Ac}{g:List ByteArray}{d:List (List Ac)}(h:La l g d r):∀{c:List ByteArray} {a:List (List Ac)},Eb r c a→Eb l (g++c) (d++a):=by
 induction h with
 |nil=>exact fun h=>h
 |snoc g d r s h _ h1 h2 h3 ih=>
  intro c a i;rw[List.append_assoc,List.append_assoc];exact ih (Eb.cons r s c a h h1 h2 h3 i)
theorem La.all{l r:List Ac}{c:List ByteArray}{a:List (List Ac)}(h:La l c a r):Eb l c (a++[r]):=by
 have:=h.join (Eb.nil r);rw[List.append_nil] at this;exact this
theorem La.sub{l r:List Ac}{d:List ByteArray}{a:List (List Ac)}(h:La l d a r):r.length<=l.length/\(∀c∈r,c∈l)/\a.length=d.length:=by
 induction h with
 |nil=>exact⟨a2v _,fun c h=>h,rfl⟩
 |snoc d a r s h _ h1 h2 h3 ih=>exact⟨by rw[a2x];omega,fun c g=>ih.2.1 c (a5u g),by simp[ih.2.2]⟩
end
end Go.Proofs.YtkagolpnaicdoaaGreatDoor
