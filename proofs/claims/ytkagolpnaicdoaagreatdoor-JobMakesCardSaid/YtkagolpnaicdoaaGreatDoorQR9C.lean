/- Lemmas. -/
import Derived.Test.YtkagolpnaicdoaaGreatDoorQWalQ
set_option maxRecDepth 100000
set_option maxHeartbeats 8000000
open Go.Lib renaming hid->X
open List renaming length_append->Y,setIfInBounds_toArray->Z,set_cons_succ->a0w,set_cons_zero->a0v,getElem?_eq_getElem->a0u,take_append_drop->a1x,take_of_length_le->a1w,length_take->a1v,getElem_mem->a1u,getD_eq_getElem?_getD->a2z,take_succ_eq_append_getElem->a2x,mem_of_mem_drop->a2w,mem_of_mem_take->a2v,eq_nil_of_length_eq_zero->a2u
open Go.IntKind renaming wrap_i64->a0z
open Nat renaming le_trans->a0x,le_refl->a1z,add_zero->a3z
namespace Go.Proofs.YtkagolpnaicdoaaGreatDoor
section
open Go.RowKit Go.Lib
structure Vn(w:World)(all:List Ad)(d:Nat)(v:Value)(rs:List (List Ad))(W:World):Prop where
 own:Hf W w.heap.size v rs
 ok:Fa (all.take d) rs
 sum:(rs.map (·.length)).sum<=d
 len:rs.length<=d
 pos:0<d->0<rs.length
 fp:Fp [] w W
theorem Hf.sl{W:World}{base:Nat}{v:Value}{d:List (List Ad)}(h:Hf W base v d):∃a c,v=.slice a d.length c:=by
 obtain⟨vals,j,i⟩:=h;obtain⟨⟨a,c,e⟩,-⟩:=j.at;exact⟨a,c,by rw[e,i.length_eq]⟩
theorem Hf.slS{W:World}{base:Nat}{v:Value}{d:List (List Ad)}{r:List Ad}(h:Hf W base v (d++[r])):∃a c,v=.slice a (d.length+1) c:=by
 obtain⟨a,c,e⟩:=h.sl;exact⟨a,c,by rw[e,Y];rfl⟩
theorem nA(a:List (List Ad))(r:List Ad):((a++[r]).map (·.length)).sum=(a.map (·.length)).sum+r.length:=by simp
theorem Vn.step{w A B:World}{all r:List Ad}{d y:Nat}{v j:Value}{a:List (List Ad)}(h:Vn w all d v a A)(n:Hf B w.heap.size j (a++[r]))(p:Fp [] w B)(l:Bf ((all.drop d).take y) r)(i:Be all)(q:0<y):Vn w all (d+y) j (a++[r]) B:=by
 have s:r.length<=y:=a0x (l.len fun z m=>i z (a2w (a2v m))) (by rw[a1v];omega);refine⟨n,by rw[List.take_add];exact h.ok.snoc l,?_,?_,fun _=>by simp,p⟩
 .rw[nA];have:=h.sum;omega
 .have:=h.len;simp;omega
theorem nB(w:World)(a:Option Addr)(n cap m:Nat)(l:List Ac)(K:Ba w a n l)(hn:n≤100000)(ar:1≤m)(hm:m<2^63):
  Calls Tryz.prog 100 #[.slice a n cap,.int .i64 m] w fun e w'=>∃v t,e=.returned (.tuple #[v,.int .i64 0])/\Vn w (C4 l) n v t w':=by
 have U:=X (fun w (K:Ba w a n l)=>Acu w a n cap l K (by omega));have HL:=X K;have E:=X (Nx K.ok (by have:=K.len;omega));have F:Hid ((C4 l).length=n):=(S8 l).trans K.len.symm
 have z1:¬(m:Int)<1:=by omega
 obtain⟨it,L⟩:=Aa (C4 l);rw[L] at U E F;rw[L];clear K L;go_in;go_wp2_with fail;refine(U.o _ (HL.o.fp (Fp.alloc _ _))).mono ?_;rintro e w1 ⟨v1,rfl,J,M⟩;have ae:Hf w1 w.heap.size (.slice (some ⟨w.heap.size,0,none⟩) 0 0) []:=Hf.fp (S:=[]) ⟨[],An.made 89 w _ (a1z _),.nil⟩ M (by simp);have am:=X ae;have al:=X ((Fp.alloc _ _).trans M:Fp [] w w1);clear ae M;have HQ:=X (J.mono (base':=w.heap.size) (by simp));obtain⟨a1,c1,e,-,ad⟩:=J.len;rw[F.o] at ad e;subst e;have an:Hid (0<n->∃g,a1=some ⟨g,0,none⟩):=fun h=>by
  obtain⟨g,c,cur,e,-⟩:=HQ.o.open (by rw[F.o];exact h);cases e;exact⟨_,rfl⟩
 clear J U HL;go_wp2_with fail
 go_loopg [6,7] n (fun gg vo vr wr=>∃d a2 c2 t av cv,gg+d=n/\vo=.slice av (t:List (List Ad)).length cv/\vr=.slice a2 (n-d) c2/\n-d<=c2/\(d<n->∃g,a1=some ⟨g,0,none⟩/\a2=some ⟨g,d*7,none⟩)/\Ag Dm wr w.heap.size (.slice a1 n c1) it/\Vn w it d vo t wr)
 case atStart=>exact⟨0,a1,c1,[],_,_,by omega,rfl,rfl,ad,fun h=>by obtain⟨g,rfl⟩:=an.o h;exact⟨g,rfl,by simp⟩,HQ.o,⟨am.o,by rw[List.take_zero];exact Fa.empty,a1z _,a1z _,fun h=>absurd h (Nat.lt_irrefl _),al.o⟩⟩
 case round=>
  obtain⟨d,a2,c2,t,av,cv,hg,rfl,rfl,aj,ak,ab,ac⟩:=hrel;have i:=X ac;have P:=X ab;clear ac ab;by_cases hd:d<n
  .obtain⟨g,rfl,rfl⟩:=ak hd;obtain⟨x,hx⟩:=Aa (n-d);obtain⟨y,hy⟩:=Aa (min m x);obtain⟨o,ho⟩:=Aa (d*7);rw[hx] at aj;rw[hx,ho]
   have zx:(x:Int)>0:=(by omega)
   have zy:min (m:Int) (x:Int)=(y:Int):=(by omega)
   have ao:(y:Int)<=(x:Int):=(by omega)
   have ap:(y:Int)<=(c2:Int):=(by omega)
   have aq:(x:Int)<=(c2:Int):=(by omega)
   have ah:y<=x:=(by omega)
   have C:Hid (0<y/\d+x=n/\d*7=o/\d<=100000):=⟨by omega,by omega,ho,by omega⟩
   have aa:Bj Dm wr (some ⟨g,o,none⟩) y ((it.drop d).take y):=by
    obtain⟨a5,c5,e5,-,-,h5⟩:=P.o.at;rw[F.o] at e5 h5;cases e5;have:=(h5.drop d x (by omega)).take y ah
    rwa [show Dm.k=7 from rfl,Nat.zero_add,ho] at this
   have ag:=X (nS wr (some ⟨g,o,none⟩) y c2 ((it.drop d).take y) aa (fun z hz=>E.o z (a2w (a2v hz))) (by omega));have ai:(y=c2)∨¬y=c2:=Decidable.em _;have af:Hid (t.length<=100000):=a0x i.o.len C.o.2.2.2;have G:Hid (w.heap.size<=wr.heap.size):=i.o.fp.size;clear hx hy ho aa;rcases ai with N|N
   .subst N;go_wp2_with fail;refine ag.o.mono ?_;rintro e w3 ⟨v3,r,rfl,hr,p,q⟩;obtain⟨a3,c3,rfl,-,-⟩:=p.len;have O:=X hr;have R:=X (p.mono G.o);have s:=X q;have D:Hid (w.heap.size≤w3.heap.size):=a0x G.o q.size;clear hr p q;go_wp2_with (at_builtin;(refine Ys rfl _ _ rfl w.heap.size _ t rfl ((i.o.own.fp s.o).fp (Fp.alloc _ _)) _ (.slice a3 r.length c3) r rfl (R.o.fp (Fp.alloc _ _)) rfl (by rw[Ab (Ai (by simp) _)];rfl) (by have:=af.o;omega) (by have:=D.o;simp;omega) ?_);intro v4 w4 j B A;obtain⟨a9,c9,rfl⟩:=j.slS;have Q:=X j;have V:=X B;have T:=X A;clear j B A)
    go_roundg (gk-y)
    case measure=>have:=C.o;omega
    case rel=>
     have I:=C.o;exact⟨d+y,some ⟨g,o,none⟩,0,t++[r],_,_,by omega,(by rw[Y];rfl),by rw[show n-(d+y)=0 by omega],by omega,fun h=>absurd h (by omega),((P.o.fp s.o).fp (Fp.alloc _ _)).keptT T.o,i.o.step Q.o (((i.o.fp.trans s.o).alloc' _).belowTrans V.o) O.o E.o I.1⟩
   .have HN:=X N;go_wp2_with fail;refine ag.o.mono ?_;rintro e w3 ⟨v3,r,rfl,hr,p,q⟩;obtain⟨a3,c3,rfl,-,-⟩:=p.len;have O:=X hr;have R:=X (p.mono G.o);have s:=X q;have D:Hid (w.heap.size≤w3.heap.size):=a0x G.o q.size;clear hr p q;go_wp2_with (at_builtin;(refine Ys rfl _ _ rfl w.heap.size _ t rfl ((i.o.own.fp s.o).fp (Fp.alloc _ _)) _ (.slice a3 r.length c3) r rfl (R.o.fp (Fp.alloc _ _)) rfl (by rw[Ab (Ai (by simp) _)];rfl) (by have:=af.o;omega) (by have:=D.o;simp;omega) ?_);intro v4 w4 j B A;obtain⟨a9,c9,rfl⟩:=j.slS;have Q:=X j;have V:=X B;have T:=X A;clear j B A)
    go_roundg (gk-y)
    case measure=>have:=C.o;omega
    case rel=>
     have I:=C.o;exact⟨d+y,_,_,t++[r],_,_,by omega,(by rw[Y];rfl),by rw[show n-(d+y)=x-y by omega],by omega,fun h=>⟨g,rfl,by rw[show(d+y)*7=o+y*7 by omega]⟩,((P.o.fp s.o).fp (Fp.alloc _ _)).keptT T.o,i.o.step Q.o (((i.o.fp.trans s.o).alloc' _).belowTrans V.o) O.o E.o I.1⟩
  .obtain rfl:d=n:=by omega
   have hx:d-d=0:=(by omega)
   rw[hx];go_wp2_with fail;exact bodyPost_ret (v:=.tuple #[.slice av t.length cv,.int .i64 0]) (by simp[results,Tryz.results100,go_sem]) rfl ⟨_,t,rfl,i.o⟩
theorem Abb(w:World)(v:Value)(m:Int)(a:m<1):Calls Tryz.prog 100 #[v,.int .i64 m] w fun e w'=>e=.returned (.tuple #[.slice none 0 0,.int .i64 1])/\Fp [] w w':=by
 go_in;go_wp2_with fail;exact bodyPost_ret (v:=.tuple #[.slice none 0 0,.int .i64 1]) (by simp[results,Tryz.results100,go_sem]) rfl ⟨rfl,Fp.refl _ _⟩
theorem Abc(w:World)(a:Option Addr)(n cap:Nat)(d:List (List Ad))(h:Eu w a n d)(I:∀r∈d,Dv r∧Be r∧r.length≤1000000)(hn:n≤100000)(l:(d.map (·.length)).sum≤100000):
  Calls Tryz.prog 231 #[.slice a n cap] w fun e w'=>∃v s,e=.returned v/\Bf d.flatten s/\Ag Dm w' w.heap.size v s/\Fp [] w w':=by
 have O:=X (bT w a n cap d h I (by omega));have HR:=X h;have C:=X h.len;have R:Hid (Be d.flatten):=fun z hz=>by
  obtain⟨r,G,h2⟩:=List.mem_flatten.1 hz;exact(I r G).2.1 z h2
 have B:Hid (d.flatten.length<=100000):=by rw[bZ];exact l
 clear h I l;go_in;go_wp2_with fail;refine O.o.nexh fun w1 E=>?_;go_wp2_with fail
 go_loopg [3,4] n (fun gg va vi wr=>∃k:Nat,vi=.int .i64 k/\gg+k=n/\Ag Dm wr w.heap.size va (d.take k).flatten/\Fp [] w wr)
 case atStart=>exact⟨0,rfl,by omega,Ag.made _ _ E.o.size,E.o.alloc' _⟩
 case round=>
  obtain⟨k,rfl,hg,J,hf⟩:=hrel;obtain⟨N,L⟩:=Aa ((d.take k).flatten.length);obtain⟨ao,co,e,-,-⟩:=J.len;rw[L] at e;subst e;have HO:=X J;have F:=X hf;have HN:=X L;clear J hf L;by_cases hk:k<n
  .have zk:(k:Int)<(n:Int):=(by omega)
   have n1:IntKind.i64.wrap ((k:Int)+1)=((k+1:Nat):Int):=(by rw[a0z];omega)
   have t:k<d.length:=by have:=C.o;omega
   obtain⟨b,o,v,rfl,hc⟩:=HR.o.get t;obtain⟨q0,a2,n2,c2,rfl,K,j,hq⟩:=hc wr F.o;have HQ:=X hq.to8;have S:=X j;have x:(d.take (k+1)).flatten=(d.take k).flatten++d[k]:=by
    rw[a2x t,List.flatten_append];simp
   have D:=X x;have T:Hid ((d.take k).flatten.length+d[k].length≤100000):=by
    have G:(d.take (k+1)).flatten.length<=d.flatten.length:=by
     have:=congrArg List.length (congrArg List.flatten (a1x (k+1) d));rw[List.flatten_append,Y] at this;omega
    rw[D.o,Y] at G;exact a0x G B.o
   have V:Hid (w.heap.size<=wr.heap.size):=F.o.size;clear hc hq j K x;go_wp2_with (at_builtin;(refine oC rfl _ _ rfl w.heap.size _ (d.take k).flatten rfl HO.o _ _ _ d[k] rfl HQ.o S.o (by have:=T.o;omega) V.o ?_);intro v3 w3 i A _;have q:=X i;have aa:=X A;clear i A)
   go_roundg (gk-1)
   case measure=>omega
   case rel=>exact⟨k+1,by simp,by omega,by rw[D.o];exact q.o,F.o.belowTrans aa.o⟩
  .obtain rfl:k=n:=by omega
   have p:Hid (d.take k=d):=a1w (by rw[<-C.o];exact a1z _);obtain⟨a5,c5,e5,-,-,M⟩:=HO.o.at;rw[HN.o] at e5 M;cases e5;have P:=X (nS wr ao N co (d.take k).flatten M (by rw[p.o];exact R.o) (by have:=B.o;rw[<-p.o,HN.o] at this;exact this));clear M;go_wp2_with fail;refine P.o.mono ?_;rintro e w3 ⟨v3,r,rfl,m,i,y⟩;rw[p.o] at m;have Q:=X m;have q:=X (i.mono F.o.size);have U:=X (F.o.trans y);clear m i y;go_wp2_with fail;go_ret;exact⟨_,r,rfl,Q.o,q.o,U.o⟩
theorem Eu.none{W:World}{a:Option Addr}{rs:List (List Ad)}(h:rs=[]):Eu W a 0 rs:=⟨by rw[h];rfl,Or.inl h⟩
theorem cG{a A B:List (List Ad)}(h:a=A++B):(a.map (·.length)).sum=(A.map (·.length)).sum+(B.map (·.length)).sum:=by rw[h];simp
structure Vo(w:World)(all:List Ad)(rs:List (List Ad))(d:Nat)(v:Value)(out:List (List Ad))(W:World):Prop where
 own:Hf W w.heap.size v out
 ok:Fa all (out++rs.drop d)
 sum:(out.map (·.length)).sum+((rs.drop d).map (·.length)).sum<=(rs.map (·.length)).sum
 len:2*out.length<=d+1/\(d<rs.length->2*out.length<=d)
 pos:0<d->0<out.length
 fp:Fp [] w W
theorem Vo.step{w A B:World}{all r:List Ad}{a i:List (List Ad)}{d y m:Nat}{v p:Value}(h:Vo w all a d v i A)(D:Hf B w.heap.size p (i++[r]))(E:Fp [] w B)(s:Bf ((a.drop d).take y).flatten r)(l:Be all)(I:y=min m (a.length-d))(J:2≤m)(t:d<a.length):Vo w all a (d+y) p (i++[r]) B:=by
 have e:a.drop d=(a.drop d).take y++a.drop (d+y):=by rw[<-List.drop_drop,a1x]
 have n:=h.ok;rw[e] at n;have G:Be ((a.drop d).take y).flatten:=fun z j=>by
  obtain⟨q,C,j⟩:=List.mem_flatten.1 j;exact l z (n.sub q (by simp[C]) z j)
 have F:=s.len G;rw[bZ] at F;have M:=cG e;have L:=h.sum;have x:=h.len;refine⟨D,n.merge s,?_,⟨?_,fun K=>?_⟩,fun _=>by simp,E⟩
 .rw[nA];omega
 .rw[Y];have:=x.2 t;simp;omega
 .rw[Y];have:=x.2 t;simp;omega
theorem Abd(w:World)(a:Option Addr)(n cap m:Nat)(all:List Ad)(t:List (List Ad))(h:Eu w a n t)(K:Fa all t)(L:Be all)(hn:n≤100000)(G:(t.map (·.length)).sum≤100000)(am:n≤cap)(ac:2≤m)(hm:m<2^63):
  Calls Tryz.prog 164 #[.slice a n cap,.int .i64 m] w fun e w'=>∃v j,e=.returned (.tuple #[v,.int .i64 0])/\Vo w all t n v j w':=by
 have ah:=X (K.form L (by omega));have aq:=X (bT w a n cap t h ah.o (by omega));have HR:=X h;have Q:=X h.len;have ar:=X K;have af:=X L;have ap:=X G
 have z1:¬(m:Int)<2:=by omega
 clear h K L G;go_in;go_wp2_with fail;refine aq.o.nexh fun w1 ai=>?_;go_wp2_with fail
 go_loopg [0,6] n (fun gg vl vo wr=>∃d a2 c2 j av cv,gg+d=n/\vo=.slice av (j:List (List Ad)).length cv/\vl=.slice a2 (n-d) c2/\n-d<=c2/\Eu w a2 (n-d) (t.drop d)/\Vo w all t d vo j wr)
 case atStart=>exact⟨0,a,cap,[],_,_,by omega,rfl,rfl,am,HR.o,⟨Hf.fp (S:=[]) ⟨[],An.made 89 w1 _ ai.o.size,.nil⟩ (Fp.refl _ _) (by simp),ar.o,by simp,⟨by simp,fun _=>by simp⟩,fun h=>absurd h (Nat.lt_irrefl _),ai.o.alloc' _⟩⟩
 case round=>
  obtain⟨d,a2,c2,j,av,cv,hg,rfl,rfl,ao,U,ab⟩:=hrel;have l:=X ab;have B:=X U;clear ab U;by_cases hd:d<n
  .obtain⟨b,o,v,rfl,-⟩:=B.o.get (i:=0) (by have:=B.o.len;omega);obtain⟨x,T⟩:=Aa (n-d);obtain⟨y,hy⟩:=Aa (min m x);rw[T] at ao B;rw[T]
   have zx:(x:Int)>0:=(by omega)
   have zy:min (m:Int) (x:Int)=(y:Int):=(by omega)
   have au:(y:Int)<=(x:Int):=(by omega)
   have aw:(y:Int)<=(c2:Int):=(by omega)
   have ax:(x:Int)<=(c2:Int):=(by omega)
   have aj:y<=x:=(by omega)
   have ad:d<t.length:=by have:=Q.o;omega
   have E:Hid (0<y/\d+x=n/\y=min m (t.length-d)/\d<t.length):=⟨by omega,by omega,by have:=Q.o;omega,ad⟩
   have aa:(((t.drop d).take y).map (·.length)).sum<=100000:=by
    have h1:=cG (a1x d t).symm;have h2:=cG (a1x y (t.drop d)).symm;have:=ap.o;omega
   have ag:=X (Abc wr (some ⟨b,o,none⟩) y c2 ((t.drop d).take y) ((B.o.fp l.o.fp).take y aj) (fun z hz=>ah.o z (a2w (a2v hz))) (by omega) aa);have an:(y=c2)∨¬y=c2:=Decidable.em _
   have ae:Hid (j.length<=100000):=by have:=l.o.len.1;show j.length<=100000;omega
   have F:Hid (w.heap.size<=wr.heap.size):=l.o.fp.size;clear T hy aa ad;rcases an with M|M
   .subst M;go_wp2_with fail;refine ag.o.mono ?_;rintro e w3 ⟨v3,r,rfl,V,q,s⟩;obtain⟨a3,c3,rfl,-,-⟩:=q.len;have N:=X V;have P:=X (q.mono F.o);have C:=X s;have D:Hid (w.heap.size≤w3.heap.size):=a0x F.o s.size;clear V q s;go_wp2_with (at_builtin;(refine Ys rfl _ _ rfl w.heap.size _ j rfl ((l.o.own.fp C.o).fp (Fp.alloc _ _)) _ (.slice a3 r.length c3) r rfl (P.o.fp (Fp.alloc _ _)) rfl (by rw[Ab (Ai (by simp) _)];rfl) (by have:=ae.o;omega) (by have:=D.o;simp;omega) ?_);intro v4 w4 p A _;obtain⟨a9,c9,rfl⟩:=p.slS;have O:=X p;have R:=X A;clear p A)
    go_roundg (gk-y)
    case measure=>have:=E.o;omega
    case rel=>
     obtain⟨al,ak,J,I⟩:=E.o
     have e0:n-(d+y)=0:=(by omega)
     exact⟨d+y,some ⟨b,o,none⟩,0,j++[r],_,_,by omega,(by rw[Y];rfl),by rw[e0],by omega,by rw[e0];exact Eu.none (List.drop_eq_nil_of_le (by have:=Q.o;omega)),l.o.step O.o (((l.o.fp.trans C.o).alloc' _).belowTrans R.o) N.o af.o J ac I⟩
   .have HN:=X M;go_wp2_with fail;refine ag.o.mono ?_;rintro e w3 ⟨v3,r,rfl,V,q,s⟩;obtain⟨a3,c3,rfl,-,-⟩:=q.len;have N:=X V;have P:=X (q.mono F.o);have C:=X s;have D:Hid (w.heap.size≤w3.heap.size):=a0x F.o s.size;clear V q s;go_wp2_with (at_builtin;(refine Ys rfl _ _ rfl w.heap.size _ j rfl ((l.o.own.fp C.o).fp (Fp.alloc _ _)) _ (.slice a3 r.length c3) r rfl (P.o.fp (Fp.alloc _ _)) rfl (by rw[Ab (Ai (by simp) _)];rfl) (by have:=ae.o;omega) (by have:=D.o;simp;omega) ?_);intro v4 w4 p A _;obtain⟨a9,c9,rfl⟩:=p.slS;have O:=X p;have R:=X A;clear p A)
    go_roundg (gk-y)
    case measure=>have:=E.o;omega
    case rel=>
     obtain⟨al,ak,J,I⟩:=E.o
     have e0:n-(d+y)=x-y:=(by omega)
     exact⟨d+y,_,_,j++[r],_,_,by omega,(by rw[Y];rfl),by rw[e0],by omega,by rw[e0,<-List.drop_drop];exact B.o.drop y (x-y) (by omega),l.o.step O.o (((l.o.fp.trans C.o).alloc' _).belowTrans R.o) N.o af.o J ac I⟩
  .obtain rfl:d=n:=by omega
   have T:d-d=0:=(by omega)
   rw[T];go_wp2_with fail;exact bodyPost_ret (v:=.tuple #[.slice av j.length cv,.int .i64 0]) (by simp[results,Tryz.results164,go_sem]) rfl ⟨_,j,rfl,l.o⟩
theorem Abe(w:World)(a:Option Addr)(n cap m:Nat)(all:List Ad)(s:List (List Ad))(h:Eu w a n s)(x:Fa all s)(R:Be all)(hn:n≤100000)(j:(s.map (·.length)).sum≤100000)(A:n≤cap)(aa:2≤m)(hm:m<2^63)(h0:0<n):
  Calls Tryz.prog 101 #[.slice a n cap,.int .i64 m] w fun e w'=>∃S c2 r k,e=.returned (.tuple #[.slice S (r:List Ad).length c2,.int .i64 k,.int .i64 0])/\Bf all r/\Bj Dm w' S r.length r/\r.length<=100000/\Fp [] w w':=by
 have HP:=X (fun w a n cap s h x hn j A=>Abd w a n cap m all s h x R hn j A aa hm);have ad:=X (bT w a n cap s h (x.form R (by omega)) (by omega));have HR:=X h;have ae:=X x;have ah:=X R;have ac:=X j;have ai:=X A
 have z1:¬(m:Int)<2:=by omega
 clear h x R j A;go_in;go_wp2_with fail;refine ad.o.nexh fun w1 Q=>?_;go_wp2_with fail
 go_loopg [0,7] n (fun g v vk wr=>∃k:Nat,vk=.int .i64 k/\(∃a l cap s,v=.slice a l cap/\g=l/\l<=cap/\Eu wr a l s/\Fa all s/\0<l/\k+l<=n/\(s.map (·.length)).sum<=100000)/\Fp [] w wr)
 case atStart=>exact⟨0,rfl,⟨a,n,cap,s,rfl,rfl,ai.o,HR.o.fp Q.o,ae.o,h0,by omega,ac.o⟩,Q.o⟩
 case round=>
  obtain⟨k,rfl,⟨S,l,K,D,rfl,hg,ab,E,B,aj,hk,z⟩,I⟩:=hrel;have P:=X I;have N:=X E;have C:=X B;have HG:=X hg;have O:=X E.len;have L:=X z;clear I E B hg;by_cases h1:1<l
  .have z2:(l:Int)>1:=(by omega)
   have ag:=X (HP.o wr S l K D N.o C.o (by omega) z ab)
   have n1:IntKind.i64.wrap ((k:Int)+1)=((k+1:Nat):Int):=(by rw[a0z];omega)
   clear z;go_wp2_with fail;refine ag.o.mono ?_;rintro e w3 ⟨v3,p,rfl,d⟩;obtain⟨a3,c3,rfl,J,-,G⟩:=d.own.at;have y:=d.ok;rw[O.o,List.drop_length,List.append_nil] at y;have H1:=X y;have H2:=X G;have H3:=X d.fp;have H4:=X J
   have H5:Hid (0<p.length/\p.length<l):=⟨d.pos (by omega),by have:=d.len.1;omega⟩
   have H6:Hid ((p.map (·.length)).sum<=100000):=a0x (a0x (Nat.le_add_right _ _) d.sum) L.o;clear d y G J;go_wp2_with fail
   go_roundg p.length
   case measure=>have:=HG.o;have:=H5.o;omega
   case rel=>exact⟨k+1,by simp,⟨a3,_,c3,p,rfl,rfl,H4.o,H2.o,H1.o,H5.o.1,by have:=H5.o;omega,H6.o⟩,P.o.trans H3.o⟩
  .obtain rfl:l=1:=by omega
   have T:∃r,D=[r]:=by
    have:=O.o
    cases D with
    |nil=>simp at this
    |cons r t=>cases t with
     |nil=>exact⟨r,rfl⟩
     |cons r2 t=>simp at this
   obtain⟨r,rfl⟩:=T;obtain⟨b,o,v,rfl,hc⟩:=N.o.get (i:=0) (by simp);obtain⟨q,hv⟩:=hc wr (Fp.refl _ _);obtain⟨av,nv,cv,rfl,V,F,U⟩:=hv;rw[a3z] at q;have M:=X (C.o.one ah.o);obtain rfl:nv=r.length:=U.len;have HQ:=X U.to8
   have af:Hid (r.length<=100000):=by have:=L.o;simp at this;exact this
   clear hc U F z V h1;go_wp2_with fail;refine bodyPost_ret (v:=.tuple #[.slice av r.length cv,.int .i64 k,.int .i64 0]) (by simp[results,Tryz.results101,go_sem]) rfl ?_;exact⟨av,cv,r,k,rfl,M.o,HQ.o,af.o,P.o⟩
theorem Abf(w:World)(v:Value)(m:Int)(a:m<2):Calls Tryz.prog 101 #[v,.int .i64 m] w fun e w'=>e=.returned (.tuple #[.slice none 0 0,.int .i64 0,.int .i64 1])/\Fp [] w w':=by
 go_in;go_wp2_with fail;exact bodyPost_ret (v:=.tuple #[.slice none 0 0,.int .i64 0,.int .i64 1]) (by simp[results,Tryz.results101,go_sem]) rfl ⟨rfl,Fp.refl _ _⟩
theorem Abg(w:World)(a:Option Addr)(n cap:Nat)(l:List Ad)(h:Bj Dm w a n l)(r:Be l)(hn:n≤1000000):
  Calls Tryz.prog 102 #[.slice a n cap] w fun e w'=>∃v,e=.returned v/\Ap w' w.heap.size v (l.map (·.c))/\Fp [] w w':=by
 have HL:=X h;have y:=X h.len;have C:=X r;clear h r;go_in;go_wp2_with fail
 go_loopg [3,4] n (fun g F S wr=>∃(k:Nat) (v:Value),g+k=n/\v=F/\S=.int .i64 k/\Ap wr w.heap.size v ((l.take k).map (·.c))/\Fp [] w wr)
 case atStart=>exact⟨0,_,by omega,rfl,rfl,Ap.made _ _ (a1z _),Fp.alloc _ _⟩
 case round=>
  obtain⟨k,F,hg,rfl,rfl,I,J⟩:=hrel;have L:=X I;have z:=X J;clear I J;have aa:w.heap.size<=wr.heap.size:=z.o.size;by_cases hk:k<n
  .have M:(k:Int)<(n:Int):=(by omega)
   have n1:IntKind.i64.wrap ((k:Int)+1)=((k+1:Nat):Int):=(by rw[a0z];omega)
   have m:k<l.length:=by have:=y.o;omega
   obtain⟨b,o,rfl,_,K⟩:=HL.o.get m;have G:=Rk (K wr z.o);have j:=C.o _ (a1u m);have i:(l.take (k+1)).map (·.c)=(l.take k).map (·.c)++[l[k].c]:=by
    rw[List.take_add_one,a0u m,List.map_append];rfl
   obtain⟨x,q⟩:=Aa (l[k]);rw[q] at G j i;obtain⟨⟨P,R,O,xs,Q,N⟩,xp⟩:=x;obtain⟨q0,q1,q2,q3,V,U,T⟩:=G;simp only[show Dm.k=7 from rfl] at q0 q1 q2 q3 V U T;have A:=X i;have B:=X j.c
   have s:((l.take k).map (·.c)).length<=1000000:=(by simp;omega)
   have D:=X s;clear K q i j s;go_wp2_with (at_builtin;(refine Ua rfl _ _ rfl w.heap.size _ ((l.take k).map (·.c)) rfl (L.o.fp (Fp.alloc _ _)) _ _ _ [⟨P,R,O,xs,Q,N⟩] rfl (Ba.one (Ai (by simp) _) B.o) (fun h=>by cases h) (by have:=D.o;simp only[List.length_cons,List.length_nil];omega) (by simp;omega) ?_);intro v2 w2 d t;have p:=X d;have E:=X t;clear d t)
   go_roundg (gk-1)
   case measure=>omega
   case rel=>exact⟨k+1,_,by omega,rfl,by simp,by rw[A.o];exact p.o,(z.o.trans (Fp.alloc _ _)).belowTrans E.o⟩
  .have M:¬(k:Int)<(n:Int):=(by omega)
   have d:=L.o;rw[a1w (by have:=y.o;omega)] at d;have p:=X d;clear d;go_wp2_with fail;go_ret;exact⟨_,rfl,p.o,z.o⟩
theorem Abh(w:World)(a:Option Addr)(n cap m wid:Nat)(l:List Ac)(s:Ba w a n l)(F:n≤100000)(G:1≤m)(T:m<2^63)(D:2≤wid)(S:wid<2^63)(U:0<n):
  Calls Tryz.prog 54 #[.slice a n cap,.int .i64 m,.int .i64 wid] w fun e w'=>∃v r k,e=.returned (.tuple #[v,.int .i64 k,.int .i64 0])/\Bf (C4 l) r/\Ap w' w.heap.size v (r.map (·.c))/\Fp [] w w':=by
 have J:=X (nB w a n cap m l s F G T);have A:=X (Nx s.ok (by have:=s.len;omega));have K:Hid ((C4 l).length=n):=(S8 l).trans s.len.symm;clear s;go_in;go_wp2_with fail;refine J.o.mono ?_;rintro e Q ⟨v1,O,rfl,d⟩;obtain⟨a1,c1,rfl,i,-,p⟩:=d.own.at;have j:=d.ok;rw[a1w (by rw[K.o];exact a1z _)] at j;have C:=X (Abe Q a1 O.length c1 wid (C4 l) O p j A.o (a0x d.len F) (a0x d.sum F) i D S (d.pos U));have M:=X d.fp;clear d p j i;go_wp2_with fail;refine C.o.mono ?_;rintro e w2 ⟨a2,V,r,k,rfl,h,P,E,x⟩;have HC:=X (Abg w2 a2 r.length V r P (fun z R=>A.o z (h.sub z R)) (by omega));have y:=X h;have B:=X (M.o.trans x);clear h P E x;go_wp2_with fail;refine HC.o.mono ?_;rintro e w3 ⟨N,rfl,q,t⟩;have I:=X (q.mono B.o.size);have L:=X (B.o.trans t);clear q t;go_wp2_with fail;exact bodyPost_ret (v:=.tuple #[N,.int .i64 k,.int .i64 0]) (by simp[results,Tryz.results54,go_sem]) rfl ⟨N,r,k,rfl,y.o,I.o,L.o⟩
theorem Abi(w:World)(v:Value)(m wid:Int)(a:m<1):Calls Tryz.prog 54 #[v,.int .i64 m,.int .i64 wid] w fun e w'=>e=.returned (.tuple #[.slice none 0 0,.int .i64 0,.int .i64 1])/\Fp [] w w':=by
 have d:=X (Abb w v m a);go_in;go_wp2_with fail;refine d.o.nexh fun i h=>?_;go_wp2_with fail;exact bodyPost_ret (v:=.tuple #[.slice none 0 0,.int .i64 0,.int .i64 1]) (by simp[results,Tryz.results54,go_sem]) rfl ⟨rfl,h.o⟩
theorem Abj(w:World)(a:Option Addr)(n cap m:Nat)(wid:Int)(l:List Ac)(s:Ba w a n l)(y:n≤100000)(i:1≤m)(z:m<2^63)(r:wid<2):
  Calls Tryz.prog 54 #[.slice a n cap,.int .i64 m,.int .i64 wid] w fun e w'=>e=.returned (.tuple #[.slice none 0 0,.int .i64 0,.int .i64 1])/\Fp [] w w':=by
 have j:=X (nB w a n cap m l s y i z);have A:=X r;clear s r;go_in;go_wp2_with fail;refine j.o.mono ?_;rintro e t ⟨x,B,rfl,d⟩;have q:=X d.fp;have h:=X (Abf t x wid A.o);clear d;go_wp2_with fail;refine h.o.next q fun w2 p=>?_;go_wp2_with fail;exact bodyPost_ret (v:=.tuple #[.slice none 0 0,.int .i64 0,.int .i64 1]) (by simp[results,Tryz.results54,go_sem]) rfl ⟨rfl,p.o⟩
def M8(bs:List ByteArray)(r:ByteArray)(k:Nat):Nat:=((bs.take k).filter fun b=>Lo b r).length
theorem Abk{a:List ByteArray}{r:ByteArray}{k:Nat}(h:k<a.length):M8 a r (k+1)=M8 a r k+(if Lo (D4 a k) r=true then 1 else 0):=by
 unfold M8;rw[a2x h,List.filter_append,Y,Q5 h]
 cases e:Lo a[k] r<;>simp[e]
theorem Abl(a:List ByteArray)(r:ByteArray)(k:Nat):M8 a r k<=k:=by
 unfold M8;refine a0x (List.length_filter_le _ _) ?_;rw[a1v];omega
theorem Abm(a:List ByteArray)(r:ByteArray):M8 a r a.length=E1 a r:=by unfold M8 E1;rw[List.take_length]
def O6(l:List ByteArray):Bool:=l.all (fun s=>decide (s.size<=100))&&decide (l.length<=20)
theorem Abn{l:List ByteArray}{k:Nat}(a:k<l.length)(h:100<(D4 l k).size):O6 l=false:=by
 unfold O6;rw[Bool.and_eq_false_iff];left;rw[List.all_eq_false];refine⟨l[k],a1u a,?_⟩;rw[<-Q5 a];simp;omega
theorem Abo{l:List ByteArray}(h:∀j,j<l.length->(D4 l j).size<=100):O6 l=decide (l.length<=20):=by
 unfold O6;rw[show l.all (fun s=>decide (s.size<=100))=true from ?_,Bool.true_and];rw[List.all_eq_true];intro s d;obtain⟨i,a,rfl⟩:=List.getElem_of_mem d;rw[<-Q5 a];exact decide_eq_true (h i a)
theorem Abp(w:World)(a:Option Addr)(n cap:Nat)(l:List ByteArray)(h:D6 w a n l)(O:n≤9223372036854775807):
  Calls Tryz.prog 9 #[.slice a n cap] w fun e w'=>e=.returned (.bool (O6 l))/\Fp [] w w':=by
 have M:=X h;have m:=X h.len;obtain⟨R,y⟩:=Aa (O6 l);rw[y];have p:=X y;clear h y;go_in;go_wp2_with fail
 go_loopg [3] n (fun L I wr=>∃k:Nat,I=.int .i64 k/\L+k=n/\(∀j,j<k->(D4 l j).size<=100)/\Fp [] w wr)
 case atStart=>exact⟨0,rfl,by omega,(fun j h=>absurd h (Nat.not_lt_zero _)),Fp.refl _ _⟩
 case round=>
  obtain⟨k,rfl,Q,C,A⟩:=hrel;have x:=X A;have E:=X C;clear A C;by_cases P:k<n
  .have F:(k:Int)<(n:Int):=(by omega)
   have N:IntKind.i64.wrap ((k:Int)+1)=((k+1:Nat):Int):=(by rw[a0z];omega)
   have q:k<l.length:=by have:=m.o;omega
   obtain⟨b,o,e,B⟩:=Vg M.o q;subst e;have q0:=B k q wr x.o;have i:Hid ((D4 l k).size<=100->∀j,j<k+1->(D4 l j).size<=100):=X fun h j J=>by
    by_cases e:j=k
    .rw[e];exact h
    .exact E.o j (by omega)
   have d:Hid (100<(D4 l k).size->R=false):=X fun h=>p.o.symm.trans (Abn q h);obtain⟨s,z⟩:=Aa (D4 l k);rw[z] at q0 i d;clear B z;by_cases v:s.size<=100
   .have z1:¬(100:Int)<(s.size:Int):=(by omega)
    have t:=X (i.o v);go_wp2_with fail
    go_roundg (gk-1)
    case measure=>omega
    case rel=>exact⟨k+1,by simp,by omega,t.o,x.o⟩
   .have z1:(100:Int)<(s.size:Int):=(by omega)
    have t:=X (d.o (by omega));go_wp2_with fail;go_ret;exact⟨by rw[t.o];rfl,x.o⟩
  .have F:¬(k:Int)<(n:Int):=(by omega)
   have D:Hid (R=decide (l.length<=20)):=X (p.o.symm.trans (Abo fun j J=>E.o j (by have:=m.o;omega)));by_cases K:n<=20
   .have G:(n:Int)<=(20:Int):=(by omega)
    have r:Hid (R=true):=X (D.o.trans (decide_eq_true (by have:=m.o;omega)));go_wp2_with fail;go_ret;exact⟨by rw[r.o];rfl,x.o⟩
   .have G:¬(n:Int)<=(20:Int):=(by omega)
    have r:Hid (R=false):=X (D.o.trans (decide_eq_false (by have:=m.o;omega)));go_wp2_with fail;go_ret;exact⟨by rw[r.o];rfl,x.o⟩
theorem nC(w:World)(a:Option Addr)(n cap:Nat)(l:List ByteArray)(h:D6 w a n l)(hn:n≤1000000):
  Calls Tryz.prog 165 #[.slice a n cap] w fun e w'=>e=.returned (.bool (Ee l))/\Fp [] w w':=by
 have HL:=X h;have O:=X h.len;obtain⟨R,U⟩:=Aa (Ee l);rw[U];have C:=X U;clear h U;go_in;go_wp2_with fail
 go_loopg [3] n (fun gg vi wr=>∃k:Nat,vi=.int .i64 k/\gg+k=n/\(∀j,j<k->F4 l j=false)/\Fp [] w wr)
 case atStart=>exact⟨0,rfl,by omega,(fun j h=>absurd h (Nat.not_lt_zero _)),Fp.refl _ _⟩
 case round=>
  obtain⟨k,rfl,hg,hb,G⟩:=hrel;have D:=X G;have HB:=X hb;clear G hb;by_cases hk:k<n
  .have zk:(k:Int)<(n:Int):=(by omega)
   have n1:IntKind.i64.wrap ((k:Int)+1)=((k+1:Nat):Int):=(by rw[a0z];omega)
   have E:k<l.length:=by have:=O.o;omega
   obtain⟨b,o,rfl,S⟩:=Vg HL.o E;have F:=X (fun w' (G:Fp [] wr w')=>S k E w' (D.o.trans G));have t:Hid (F4 l k=(((D4 l k).toList.isEmpty||decide (40<((D4 l k).size:Int)))||(decide (0<k)&&!(Gm (D4 l (k-1)) (D4 l k))))):=rfl;have V:=X (fun(h:0<k) w' (G:Fp [] wr w')=>S (k-1) (by omega) w' (D.o.trans G));obtain⟨s,hs⟩:=Aa (D4 l k);rw[hs] at F t;have P:Hid (s.toList.isEmpty=decide (s.size<1)):=by
    rw[ByteArray.toList_eq,Bool.eq_iff_iff,List.isEmpty_iff,decide_eq_true_iff,<-List.length_eq_zero_iff,Array.length_toList,Nat.lt_one_iff];exact Iff.rfl
   clear S hs;have v:Hid (F4 l k=false->∀j,j<k+1->F4 l j=false):=fun h j hj=>by
    by_cases e:j=k
    .rw[e];exact h
    .exact HB.o j (by omega)
   have r:Hid (F4 l k=true->R=false):=fun h=>C.o.symm.trans (cA E h);by_cases N:s.size<1
   .have z1:(s.size:Int)<1:=(by omega)
    have y1:decide ((s.size:Int)<1)=true:=decide_eq_true z1;have m:Hid (F4 l k=true):=t.o.trans (by rw[P.o,decide_eq_true N];simp);clear N;go_wp2_with fail;refine Bo (by kernel_rfl) (by kernel_rfl) ?_
    iterate 30
     first
     |apply Yc _ _ rfl rfl rfl rfl (by kernel_rfl) rfl
     |apply Jq _ _ rfl rfl rfl rfl (by kernel_rfl) rfl rfl
     |apply A1 rfl rfl rfl
      .intro a w i d K y;have:=d.f 0;have:=d.f 3;(try have:=d.e 0 10);(try have:=d.e 1 11);(try have:=d.e 2 12);(try have:=d.e 3 13);(try have:=d.e 4 14);(try have:=d.e 5 15);(try have:=d.e 6 16);(try have:=d.e 12 22);(try have:=d.e 13 23);(try have:=d.e 14 24);(try have:=d.e 28 38);have q0:=F.o _ i;simp only[Oper.wp,execOp];go_simp;exact y _ i (Fp.refl _ _)
    refine Bn ?_
    iterate 30 refine Bm ?_
    refine Bl fun w' i=>?_
    .simp only[Aj,Act.put,Z,a0w,a0v];have q:=X (D.o.trans i);clear i;go_wp2_with fail;go_ret;exact⟨by rw[r.o m.o];rfl,q.o⟩
   have z1:¬(s.size:Int)<1:=(by omega)
   have y1:decide ((s.size:Int)<1)=false:=decide_eq_false z1;by_cases h2:40<s.size
   .have J:(s.size:Int)>40:=(by omega)
    have y2:decide ((s.size:Int)>40)=true:=decide_eq_true J;have Q:decide (40<(s.size:Int))=true:=decide_eq_true J;have m:Hid (F4 l k=true):=t.o.trans (by rw[decide_eq_true (by omega:40<(s.size:Int))];simp);clear N h2;go_wp2_with fail;refine Bo (by kernel_rfl) (by kernel_rfl) ?_
    iterate 30
     first
     |apply Yc _ _ rfl rfl rfl rfl (by kernel_rfl) rfl
     |apply Jq _ _ rfl rfl rfl rfl (by kernel_rfl) rfl rfl
     |first|apply A1 rfl rfl rfl|apply Gw _ _ rfl rfl rfl rfl (by kernel_rfl) rfl rfl
      .intro a w i d K y;have:=d.f 0;have:=d.f 3;(try have:=d.e 0 10);(try have:=d.e 1 11);(try have:=d.e 2 12);(try have:=d.e 3 13);(try have:=d.e 4 14);(try have:=d.e 5 15);(try have:=d.e 7 17);(try have:=d.e 8 18);(try have:=d.e 9 19);(try have:=d.e 10 20);(try have:=d.e 11 21);(try have:=d.e 6 16);(try have:=d.e 12 22);(try have:=d.e 13 23);(try have:=d.e 14 24);(try have:=d.e 28 38);have q0:=F.o _ i;simp only[Oper.wp,execOp];go_simp;exact y _ i (Fp.refl _ _)
    refine Bn ?_
    iterate 30 refine Bm ?_
    refine Bl fun w' i=>?_
    .simp only[Aj,Act.put,Z,a0w,a0v];have q:=X (D.o.trans i);clear i;go_wp2_with fail;go_ret;exact⟨by rw[r.o m.o];rfl,q.o⟩
   have J:¬(s.size:Int)>40:=(by omega)
   have y2:decide ((s.size:Int)>40)=false:=decide_eq_false J;have Q:decide (40<(s.size:Int))=false:=decide_eq_false J;have x:Hid (F4 l k=(decide (0<k)&&!(Gm (D4 l (k-1)) s))):=t.o.trans (by rw[P.o,decide_eq_false N,decide_eq_false (by omega:¬40<(s.size:Int))];rfl);clear N h2;by_cases M:k=0
   .subst M;rw[show((0:Nat):Int)=0 from rfl];rw[show((0:Nat):Int)=0 from rfl] at zk n1;rw[a3z] at F;have m:Hid (F4 l 0=false):=x.o.trans rfl;go_wp2_with fail;refine Bo (by kernel_rfl) (by kernel_rfl) ?_
    iterate 30
     first
     |apply Jq _ _ rfl rfl rfl rfl (by kernel_rfl) rfl rfl
     |first|apply A1 rfl rfl rfl|apply Gw _ _ rfl rfl rfl rfl (by kernel_rfl) rfl rfl
      .intro a w i d K y;have:=d.f 0;have:=d.f 3;(try have:=d.e 0 10);(try have:=d.e 1 11);(try have:=d.e 2 12);(try have:=d.e 3 13);(try have:=d.e 4 14);(try have:=d.e 5 15);(try have:=d.e 7 17);(try have:=d.e 8 18);(try have:=d.e 9 19);(try have:=d.e 10 20);(try have:=d.e 11 21);(try have:=d.e 6 16);(try have:=d.e 12 22);(try have:=d.e 13 23);(try have:=d.e 15 25);(try have:=d.e 16 26);(try have:=d.e 17 27);(try have:=d.e 27 37);(try have:=d.e 14 24);(try have:=d.e 28 38);have q0:=F.o _ i;simp only[Oper.wp,execOp];go_simp;exact y _ i (Fp.refl _ _)
    refine Bn ?_
    iterate 30 refine Bm ?_
    refine Bl fun w' i=>?_
    .simp only[Aj,Act.put,Z,a0w,a0v];have q:=X (D.o.trans i);clear i;go_wp2_with fail
     go_roundg (gk-1)
     case measure=>omega
     case rel=>exact⟨0+1,by simp,by omega,v.o m.o,q.o⟩
   have I:(k:Int)>0:=(by omega)
   have ac:decide ((k:Int)>0)=true:=decide_eq_true I;have aa:decide (0<(k:Int))=true:=decide_eq_true I
   have L:0<k:=(by omega)
   have z:=X (V.o L);obtain⟨p,hp⟩:=Aa (D4 l (k-1));rw[hp] at z x
   have n2:IntKind.i64.wrap ((k:Int)-1)=((k-1:Nat):Int):=(by rw[a0z];omega)
   obtain⟨k1,A⟩:∃k1,k-1=k1:=⟨_,rfl⟩
   rw[A] at z n2
   have ab:(k1:Int)<(n:Int):=(by omega)
   obtain⟨bl,T⟩:=Aa (Op.bytesLess p.toList s.toList);have B:Gm p s=bl:=T;rw[B,decide_eq_true L,Bool.true_and] at x;clear hp A B M;cases bl
   .have m:Hid (F4 l k=true):=x.o;go_wp2_with fail;refine Bo (by kernel_rfl) (by kernel_rfl) ?_
    iterate 30
     first|apply A1 rfl rfl rfl|apply Gw _ _ rfl rfl rfl rfl (by kernel_rfl) rfl rfl
     .intro a w i d K y;have:=d.f 0;have:=d.f 3;(try have:=d.e 0 10);(try have:=d.e 1 11);(try have:=d.e 2 12);(try have:=d.e 3 13);(try have:=d.e 4 14);(try have:=d.e 5 15);(try have:=d.e 7 17);(try have:=d.e 8 18);(try have:=d.e 9 19);(try have:=d.e 10 20);(try have:=d.e 11 21);(try have:=d.e 6 16);(try have:=d.e 12 22);(try have:=d.e 13 23);(try have:=d.e 15 25);(try have:=d.e 16 26);(try have:=d.e 19 29);(try have:=d.e 18 28);(try have:=d.e 20 30);(try have:=d.e 21 31);(try have:=d.e 23 33);(try have:=d.e 24 34);(try have:=d.e 25 35);(try have:=d.e 22 32);(try have:=d.e 26 36);(try have:=d.e 17 27);(try have:=d.e 27 37);(try have:=d.e 14 24);(try have:=d.e 28 38);have q0:=F.o _ i;have q1:=z.o _ i;simp only[Oper.wp,execOp];go_simp;exact y _ i (Fp.refl _ _)
    refine Bn ?_
    iterate 30 refine Bm ?_
    refine Bl fun w' i=>?_
    .simp only[Aj,Act.put,Z,a0w,a0v];have q:=X (D.o.trans i);clear i;go_wp2_with fail;go_ret;exact⟨by rw[r.o m.o];rfl,q.o⟩
   .have m:Hid (F4 l k=false):=x.o;go_wp2_with fail;refine Bo (by kernel_rfl) (by kernel_rfl) ?_
    iterate 30
     first|apply A1 rfl rfl rfl|apply Gw _ _ rfl rfl rfl rfl (by kernel_rfl) rfl rfl
     .intro a w i d K y;have:=d.f 0;have:=d.f 3;(try have:=d.e 0 10);(try have:=d.e 1 11);(try have:=d.e 2 12);(try have:=d.e 3 13);(try have:=d.e 4 14);(try have:=d.e 5 15);(try have:=d.e 7 17);(try have:=d.e 8 18);(try have:=d.e 9 19);(try have:=d.e 10 20);(try have:=d.e 11 21);(try have:=d.e 6 16);(try have:=d.e 12 22);(try have:=d.e 13 23);(try have:=d.e 15 25);(try have:=d.e 16 26);(try have:=d.e 19 29);(try have:=d.e 18 28);(try have:=d.e 20 30);(try have:=d.e 21 31);(try have:=d.e 23 33);(try have:=d.e 24 34);(try have:=d.e 25 35);(try have:=d.e 22 32);(try have:=d.e 26 36);(try have:=d.e 17 27);(try have:=d.e 27 37);(try have:=d.e 14 24);(try have:=d.e 28 38);have q0:=F.o _ i;have q1:=z.o _ i;simp only[Oper.wp,execOp];go_simp;exact y _ i (Fp.refl _ _)
    refine Bn ?_
    iterate 30 refine Bm ?_
    refine Bl fun w' i=>?_
    .simp only[Aj,Act.put,Z,a0w,a0v];have q:=X (D.o.trans i);clear i;go_wp2_with fail
     go_roundg (gk-1)
     case measure=>omega
     case rel=>exact⟨k+1,by simp,by omega,v.o m.o,q.o⟩
  .have zk:¬(k:Int)<(n:Int):=(by omega)
   have HY:Hid (R=true):=C.o.symm.trans (mD fun j hj=>HB.o j (by have:=O.o;omega));go_wp2_with fail;go_ret;exact⟨by rw[HY.o];rfl,D.o⟩
theorem Abq(w:World)(a:Option Addr)(n cap:Nat)(l:List ByteArray)(r:ByteArray)(h:D6 w a n l)(M:n≤1000000):
  Calls Tryz.prog 166 #[.slice a n cap,.string r] w fun e w'=>e=.returned (.int .i64 (E1 l r:Nat))/\Fp [] w w':=by
 have J:=X h;have q:=X h.len;clear h;go_in;go_wp2_with fail
 go_loopg [5,6] n (fun G E D wr=>∃k:Nat,D=.int .i64 k/\E=.int .i64 (M8 l r k:Nat)/\G+k=n/\Fp [] w wr)
 case atStart=>exact⟨0,rfl,rfl,by omega,Fp.refl _ _⟩
 case round=>
  obtain⟨k,rfl,rfl,O,A⟩:=hrel;have t:=X A;clear A;have v:=Abl l r k;by_cases N:k<n
  .have C:(k:Int)<(n:Int):=(by omega)
   have L:IntKind.i64.wrap ((k:Int)+1)=((k+1:Nat):Int):=(by rw[a0z];omega)
   have i:k<l.length:=by have:=q.o;omega
   obtain⟨b,o,rfl,B⟩:=Vg J.o i;have q0:=B k i wr t.o;have m:=X (Abk (r:=r) i);obtain⟨s,z⟩:=Aa (D4 l k);obtain⟨p,x⟩:=Aa (M8 l r k);rw[z] at q0 m;rw[x] at m v;rw[x]
   have K:IntKind.i64.wrap ((p:Int)+1)=((p+1:Nat):Int):=(by rw[a0z];omega)
   obtain⟨bl,y⟩:=Aa ((Op.bytesLess s.toList r.toList||s.toList==r.toList));have d:Lo s r=bl:=y;rw[d] at m;clear B z d x;cases bl
   .have j:Hid (M8 l r (k+1)=p):=m.o;go_wp2_with fail
    go_roundg (gk-1)
    case measure=>omega
    case rel=>exact⟨k+1,by simp,by rw[j.o],by omega,t.o⟩
   .have j:Hid (M8 l r (k+1)=p+1):=m.o;go_wp2_with fail
    go_roundg (gk-1)
    case measure=>omega
    case rel=>exact⟨k+1,by simp,by rw[j.o];simp,by omega,t.o⟩
  .have C:¬(k:Int)<(n:Int):=(by omega)
   have F:k=l.length:=by have:=q.o;omega
   have I:=X (Abm l r);go_wp2_with fail;go_ret;exact⟨by rw[I.o];rfl,t.o⟩
theorem Abr{w:World}{base N:Nat}{v:Value}(h:w.ownsRow base 78 1 v N (madeCells #[Value.slice none 0 0] (N*1)).toList):C9 Dz w base v (List.replicate N []):=by
 rw[Nat.mul_one,toList_madeCells_one] at h;refine⟨List.replicate N (.slice none 0 0),?_,Dn.of_nth _ _ (by simp) fun i l d=>?_,List.pairwise_iff_getElem.2 fun i j l d _ q a=>?_⟩
 .unfold An;rw[List.length_replicate];exact h
 .rw[List.getElem_replicate,List.getElem_replicate];exact Ap.nil _ _
 .rw[List.getElem_replicate] at a;cases a
theorem G6.fpn{w W0 W W2:World}{base g k:Nat}{cur:Array Value}{vals:List Value}{xs:List (List Ac)}{last d:List Ac}{u:Value}{m is:Nat}{b:Nat->Bool}{vs:Nat->Value}(h:G6 w W0 base g k cur vals xs last d u m is b vs W)(a:Fp [] W W2):G6 w W0 base g k cur vals xs last d u m is b vs W2:=
 ⟨h.fp.trans a,fun D l j=>(h.kept D l j).trans (Ao.of a (by simp)),(a.block _ (Ae h.outer) (by simp)).trans h.outer,fun i l j n=>(h.oth i l j n).fp a,fun e=>(h.last0 e).fp a,fun e=>⟨(h.res e).1.fp a,(h.res e).2⟩,h.o97,a0x h.sz a.size⟩
structure Q8(w W0:World)(base g k:Nat)(cur:Array Value)(vals:List Value)(xs:List (List Ac))(last:List Ac)(u:Value)(c:Ac)(b:Nat->Bool)(vs:Nat->Value)(W:World):Prop where
 l:G6 w W0 base g k cur vals xs last [c] u 11 13 b vs W
 bld:b 10=true->b 11=false->∃q,vs 10=.slice (some ⟨q,0,none⟩) 1 1/\Ba W (some ⟨q,0,none⟩) 1 [c]
section
variable {w W0 W W2 : World} {base g k : Nat} {cur : Array Value} {vals : List Value} {xs : List (List Ac)} {last : List Ac} {u : Value} {c : Ac} {b : Nat -> Bool} {vs : Nat -> Value}
theorem Q8.plain{j:Nat}{x:Value}(h:Q8 w W0 base g k cur vals xs last u c b vs W)(a:j≠10/\j≠11/\j≠13):Q8 w W0 base g k cur vals xs last u c (Ak b j) (B6 vs j x) W:=by
 refine⟨h.l.plain a.2,?_⟩;rw[Ah a.1.symm,Ah a.2.1.symm,Bd a.1.symm];exact h.bld
theorem Q8.build(h:Q8 w W0 base g k cur vals xs last u c b vs W)(a:Di c):Q8 w W0 base g k cur vals xs last u c (Ak b 10) (B6 vs 10 (.slice (some ⟨W.heap.size,0,none⟩) 1 1)) (W.alloc (.cells #[.string c.row,.string c.col,.int .u64 c.ts,.int .u64 c.seq,.bool c.del,.string c.val] 80)):=
 ⟨(h.l.fpn (Fp.alloc _ _)).plain (by decide),fun _ _=>⟨_,Gu _ _ _,Ba.one (Ai rfl _) a⟩⟩
end
theorem nD(w:World)(a:Option Addr)(n cap:Nat)(a2:Option Addr)(V L:Nat)(l:List Ac)(s:List ByteArray)(hl:Ba w a n l)(hb:D6 w a2 V s)(hn:n≤100000)(b4:V≤100000)(av:Ee s=true)(am:risC l=true):
  Calls Tryz.prog 103 #[.slice a n cap,.slice a2 V L] w fun e w'=>∃v,e=.returned (.tuple #[v,.int .i64 0])/\C9 Dz w' w.heap.size v (G4 s l)/\Fp [] w w':=by
 have a8:=X (nC w a2 V L s hb (by omega));have ay:=X (fun w' (hf:Fp [] w w')=>W9 w' a n cap l (hl.fp hf) (by omega));have bj:=X (fun r w' (hf:Fp [] w w')=>Abq w' a2 V L s r (hb.of_fp hf) (by omega));rw[av] at a8;rw[am] at ay;have HL:=X hl;have a1:=X hl.len;obtain⟨N,hN⟩:=Aa (V+1)
 have n1:IntKind.i64.wrap ((V:Int)+1)=(N:Int):=by rw[a0z];omega
 have HN:Hid (N=s.length+1/\N<=100001):=⟨by have:=hb.len;omega,by omega⟩
 clear hl hb av am;go_in;go_wp2_with fail;refine a8.o.nexh fun w1 a7=>?_;go_wp2_with fail;refine(ay.o _ a7.o).next a7 fun w3 a6=>?_;obtain⟨i0,hi,ai,ah,ag⟩:=info_parts Tryz.infoCelL;obtain⟨w4,ao,an,D⟩:=run_make_full (P:=Tryz.prog) w3 w.heap.size 149 78 i0 (.slice none 0 0) 1 Tryz.underlying149 hi ai ah .i64 .i64 N (by rw[ag];have:=HN.o;omega) (by unfold maxLen;have:=HN.o;omega) a6.o.size;have a0:=X (Abr an);have bt:Hid (Fp [] w w4):=a6.o.trans (⟨D.os,D.tape,D.output,D.size,fun k hk _=>D.block k hk (by simp)⟩:Fp [] w3 w4);obtain⟨g0,aq⟩:=Aa w3.heap.size;rw[aq] at ao a0;clear an D aq hi ai ah ag;go_wp2_with fail;clear ao
 go_loopg [7] n (fun gg vi wr=>∃k:Nat,vi=.int .i64 k/\gg+k=n/\C9 Dz wr w.heap.size (.slice (some ⟨g0,0,none⟩) N N) (G4 s (l.take k))/\Fp [] w wr)
 case atStart=>exact⟨0,rfl,by omega,by rw[List.take_zero,Aht,<-HN.o.1];exact a0.o,bt.o⟩
 case round=>
  obtain⟨k,rfl,hg,ho,hf⟩:=hrel;have HO:=X ho;have HF:=X hf;clear ho hf;by_cases hk:k<n
  .have zk:(k:Int)<(n:Int):=(by omega)
   have n3:IntKind.i64.wrap ((k:Int)+1)=((k+1:Nat):Int):=(by rw[a0z];omega)
   have ac:k<l.length:=by have:=a1.o;omega
   have aa:Di l[k]:=HL.o.ok _ (a1u ac);obtain⟨b1,o1,rfl,_,m⟩:=J2 HL.o ac
   have B:E1 s l[k].row<(G4 s (l.take k)).length:=by rw[Ry];have:=Ahr s l[k].row;omega
   have x:=fun(p:Nat) (h:p<(G4 s (l.take k)).length) (e:E1 s l[k].row=p)=>(by subst e;exact Ahs ac h:G4 s (l.take (k+1))=(G4 s (l.take k)).set p ((G4 s (l.take k))[p]++[l[k]]))
   obtain⟨c,hc⟩:=Aa (l[k]);obtain⟨xs,A⟩:=Aa (G4 s (l.take k));obtain⟨p,hp⟩:=Aa (E1 s c.row)
   have b3:xs.length=N:=(by rw[<-A,Ry,HN.o.1])
   rw[hc] at B x aa m;rw[A] at B x;rw[hp] at B;have R:=x p B hp
   have HX:Hid (C9 Dz wr w.heap.size (.slice (some ⟨g0,0,none⟩) N N) xs):=by have:=HO.o;rw[A] at this;exact this
   have af:=X (bj.o c.row);rw[hp] at af;have bh:=X R;have G:=X m;have bw:=X aa;have ap:xs[p].length≤100000:=by
    have F:xs[p]=(l.take k).filter fun c=>E1 s c.row==p:=by
     have Q:=V8 s (l.take k) (k:=p) (by rw[A];exact B);simp only[A] at Q;exact Q
    rw[F];refine a0x (List.length_filter_le _ _) ?_;rw[a1v];omega
   have zp:(p:Int)<(N:Int):=(by omega)
   clear x R hc A hp m aa;obtain⟨r,co,ts,sq,de,va⟩:=c;simp only at af G;obtain⟨M,-,-,-,-,-⟩:=G.o wr HF.o;simp only at M;go_wp2_with fail;refine(af.o _ HF.o).mono ?_;rintro e w5 ⟨rfl,ad⟩;clear M;have a5:=X (HF.o.trans ad);have be:=X (HX.o.fp ad);clear ad;obtain⟨g,bx,cur,vals,hv,hg,hh,ak,au,ar,ht,aj,z,I⟩:=be.o.opened (by omega)
   have C:p<vals.length:=by omega
   injection hv with hv1 hv2 hv3
   cases hv1;subst hv3;obtain⟨last,y⟩:=Aa (xs[p]);have t:=z p C B;rw[y] at t ap;obtain⟨a3,c3,hu⟩:=t.sliceL;have S:cur[p]?=some (.slice a3 last.length c3):=by
    have T:(cur.toList.take (vals.length*1))[p]?=vals[p]?:=(by rw[ht])
    rw[Nat.mul_one,List.getElem?_take,if_pos C,Array.getElem?_toList,a0u C,hu] at T;exact T
   have az:Hid (Ap w5 w.heap.size (.slice a3 last.length c3) last):=(by rw[hu] at t;exact t)
   have U:=X S;have HH:=X hh;have bp:=X hu;have bk:Hid (∀i (F:i<vals.length) (Q:i<xs.length),i≠p->Ap w5 w.heap.size vals[i] xs[i]):=fun i F Q _=>z i F Q;have ax:=X I;have bq:=X ht;have bv:=X ar;have bf:=X aj;have bo:=X y;have bg:=X hv2;have bi:Hid (∀i (F:i<vals.length),i≠p->∀q,vals[i].ownBlock=some q->(Value.slice a3 last.length c3).ownBlock≠some q):=by
    intro i F Q q h3 T;rw[<-hu] at T;have al:=List.pairwise_iff_getElem.1 I;rcases Nat.lt_or_gt_of_ne Q with h5|h5
    .exact al i p F C h5 q h3 T
    .exact al p i C F h5 q T h3
   have bn:Hid (∀i (F:i<vals.length),∀q,vals[i].ownBlock=some q->q<w5.heap.size):=fun i F q hq=>((z i F (by omega)).lt q hq).2;have a9:w.heap.size<=w5.heap.size:=a5.o.size
   have aw:Hid (vals.length<=N/\N<=maxLen):=⟨ak,au⟩
   clear S hh hu z I ht ar aj y t hv2 ak au;go_wp2_with fail;refine Qb (Q8 w w5 w.heap.size g0 p cur vals xs last (.slice a3 last.length c3) ⟨r,co,ts,sq,de,va⟩) (fun _ _=>True) (by kernel_rfl) (by kernel_rfl) (fun _=>⟨G6.start a5.o HH.o bk.o az.o a9,fun h=>by cases h⟩) ?_
   iterate 5
    apply Cm (fun _ _ _ h _=>h.plain (by decide)) rfl rfl rfl
    .intro b a w j d K E;have:=d.f 6;have:=d.f 8;(try have:=d.e 2 34);(try have:=d.e 3 35);obtain⟨M,k1,k2,k3,k4,k5⟩:=G.o _ j.l.fp;simp only at M k1 k2 k3 k4 k5;simp only[Oper.wp,execOp];go_simp;exact E _ j trivial
   apply Cm (fun _ _ _ h _=>h.plain (by decide)) rfl rfl rfl
   .intro b a w j d K E;have b9:=d.e 4 36;obtain⟨M,k1,k2,k3,k4,k5⟩:=G.o _ j.l.fp;simp only at M k1 k2 k3 k4 k5;have q0:=(Ab (j.l.first (d.post 11 (by kernel_rfl))) p).trans U.o;simp only[Oper.wp,execOp];go_simp;exact E _ j trivial
   iterate 4
    apply Cm (fun _ _ _ h _=>h.plain (by decide)) rfl rfl rfl
    .intro b a w j d K E;have:=d.f 0;have:=d.f 7;(try have:=d.e 6 38);(try have:=d.e 7 39);(try have:=d.e 8 40);obtain⟨M,k1,k2,k3,k4,k5⟩:=G.o _ j.l.fp;simp only at M k1 k2 k3 k4 k5;simp only[Oper.wp,execOp];go_simp;exact E _ j trivial
   apply Dw (fun _ _=>True) rfl rfl rfl
   .intro b a w j d K E;have b8:=d.e 9 41;simp only[Oper.wp,execOp];go_simp;exact E _ _ (j.build bw.o) trivial trivial
   apply Dw (fun _ _=>True) rfl rfl rfl
   .intro b a w j d K E;have bd:=d.e 5 37;have b7:=d.dep 10 42 _ (by kernel_rfl) rfl;obtain⟨q,bc,ba⟩:=j.bld (d.pre 10 (by kernel_rfl)) d.self;refine iR (.tmp 37) (.tmp 42) rfl _ (.slice a3 last.length c3) last (Ei bd) (j.l.last0 d.self) _ 1 _ _ (Ei ((d.val 10 42 (by kernel_rfl)).trans bc)) ba (by simp;omega) j.l.sz ?_;intro v' w' F Q h3 T;exact E _ _ ⟨j.l.append (by decide) d.self F Q h3 T (a1z _) bi.o,fun _ e=>by rw[Eg] at e;cases e⟩ trivial trivial
   apply Cm (fun _ _ _ h _=>h.plain (by decide)) rfl rfl rfl
   .intro b a w j d K E;have cd:=d.e 0 32;have cc:=d.e 1 33;obtain⟨M,k1,k2,k3,k4,k5⟩:=G.o _ j.l.fp;simp only at M k1 k2 k3 k4 k5;simp only[Oper.wp,execOp];go_simp;exact E _ j trivial
   apply J3 (fun _=>True) rfl rfl rfl
   .intro b a w j d K E;have b5:=d.e 12 44;have b6:=d.dep 11 43 _ (by kernel_rfl) rfl;have h7:=d.pre 11 (by kernel_rfl)
    obtain⟨a4,n4,c4,e4⟩:∃a n c,_ =Value.slice a n c:=by obtain⟨a4,c4,e4⟩:=(j.l.res h7).1.sliceL;exact⟨_,_,_,e4⟩
    have hv:=(d.val 11 43 (by kernel_rfl)).trans e4;have x:=j.l.store (by decide) h7 d.self hg (a1z _) rfl;rw[e4] at x;have O:=j.l.outer;rw[d.self] at O;simp only[Bool.false_eq_true,if_false] at O;have f0:=Av O p;have q0:=(Ab O p).trans U.o;simp only[Oper.wp,execOp];go_simp;exact E undef _ ⟨x,fun _ e=>by rw[Ah (by decide),h7] at e;cases e⟩ trivial trivial
   refine⟨?_,?_⟩
   .refine⟨fun _ _ _ _ _=>trivial,?_⟩;refine E4 _ ?_;refine⟨fun _ _ _ _ _=>trivial,?_⟩;refine⟨fun _ _ _ _ _=>trivial,?_⟩
    iterate 10 refine E4 _ ?_
    exact trivial
   .intro w' bb ae;simp only[List.reverse_cons,List.reverse_nil,List.nil_append,List.cons_append]
    iterate 10 (refine A2 ?_)
    refine As ?_;intro b2 u10;refine As ?_;intro b0 u11
    iterate 1 (refine A2 ?_)
    refine As ?_;intro bz u13;refine C7 ?_;intro j;simp only[Aj,Act.put,Z,a0w,a0v];have J:=j.l.done (cap:=N) (v:=.slice (some ⟨g0,0,none⟩) N N) (ae 11 (by simp)) (ae 13 (by simp)) (by rw[<-bg.o]) hg aw.o.1 aw.o.2 bv.o bq.o bf.o C bp.o ax.o bn.o;have HD:=X J;have br:=X j.l.fp;clear J j ae;go_wp2_with fail
    go_roundg (gk-1)
    case measure=>omega
    case rel=>exact⟨k+1,by simp,by omega,by rw[bh.o,bo.o];exact HD.o,br.o⟩
  .have zk:¬(k:Int)<(n:Int):=(by omega)
   have ab:=HO.o;rw[a1w (by have:=a1.o;omega)] at ab;have bm:=X ab;clear ab;go_wp2_with fail;exact bodyPost_ret (v:=.tuple #[.slice (some ⟨g0,0,none⟩) N N,.int .i64 0]) (by simp[results,Tryz.results103,go_sem]) rfl ⟨_,rfl,bm.o,HF.o⟩
theorem Abs(w:World)(v:Value)(l:Option Addr)(i a:Nat)(j:List ByteArray)(n:D6 w l i j)(p:i≤100000)(d:Ee j=false):
  Calls Tryz.prog 103 #[v,.slice l i a] w fun e w'=>e=.returned (.tuple #[.slice none 0 0,.int .i64 1])/\Fp [] w w':=by
 have h:=X (nC w l i a j n (by omega));rw[d] at h;clear n d;go_in;go_wp2_with fail;refine h.o.nexh fun q m=>?_;go_wp2_with fail;exact bodyPost_ret (v:=.tuple #[.slice none 0 0,.int .i64 1]) (by simp[results,Tryz.results103,go_sem]) rfl ⟨rfl,m.o⟩
theorem nF{w:World}{n:Array Oper}{rest:List Oper}{o:Oper}{a:Act}{Q:Exit→Act→World→Prop}(z:o.guard=none)(s x:Operand)
  (M:o.op=.call {callee:=.builtin .append,args:=#[s,x],argTypes:=#[78,78]})(base:Nat)(v:Value)(l:List Ac)(L:a.eval s=v)(d:Ap w base v l)
  (B:Addr)(m c:Nat)(p:List Ac)(K:a.eval x=.slice (some B) m c)(G:Ba w (some B) m p)(F:l.length+p.length<=1000000000)(i:base<=w.heap.size)
  (h:∀q w',Ap w' base q (l++p)->Below base w w'->(∀D,D≠80->Ao D base [] w w')->wpList Tryz.prog n Q rest (a.put o.dst q) w'):wpList Tryz.prog n Q (o::rest) a w:=by
 obtain⟨J,N,y,t,r⟩:=info_parts Tryz.infoCel;have E:=G.len;refine wpList_append_own w z s x 78 M base 80 J _ 6 72 Tryz.underlying78 N y t r rfl (by decide) v l.length (l.flatMap E9) L d B m c (p.flatMap E9) K (by rw[Yj,E]) ?_ (cT p) (by unfold maxLen;omega) (by omega) i ?_
 .intro j u C;rcases G.cells with A|⟨b,o,A,_,O⟩
  .subst A;simp at C
  .obtain rfl:=Option.some.inj A
   have S:(⟨b,o,none⟩:Addr).add j=⟨b,o+j,none⟩:=(by unfold Addr.add;split<;>simp_all)
   rw[S];exact cR O j u C
 .intro q w' R I _;refine h q w' ?_ (cS d I i) fun D P=>Sl d.typed I P;unfold Ap;rw[Y,List.flatMap_append,<-E];exact R
structure Rl(w:World)(l:List Ac)(most d:Nat)(vo vn:Value)(out:List (List Ac))(now:List Ac)(W:World):Prop where
 own:∃N,Jm Dz W w.heap.size N vo out/\Ap W N vn now/\N<=W.heap.size/\w.heap.size<=N
 st:∃pre,Dj l 0 0=pre++Dj l d d/\Qo (Ji most l pre) out now
 len:now.length<=d/\out.length<=d
 fp:Fp [] w W
theorem Jm.keptC{W W':World}{base base' N:Nat}{v:Value}{xs:List (List Ac)}(h:Jm Dz W base N v xs)(x:Below N W W')(n:∀D,D≠80→Ao D base' [] W W'):Jm Dz W' base N v xs:=by
 obtain⟨vals,m,r,t,d⟩:=h;refine⟨vals,?_,?_,t,d⟩
 .refine m.kept fun q a=>?_;rcases m.2 with⟨e,_⟩|⟨g,cap,cur,e,y,p,_⟩
  .rw[e] at a;cases a
  .rw[e] at a
   obtain rfl:g=q:=by simpa [Value.ownBlock] using a
   by_cases j:g<base'
   .exact(n _ (by decide:78≠80)).low g j (Ae p) (by simp)
   .exact(n _ (by decide:78≠80)).high g _ _ (by omega) p
 .refine Dn.of_nth _ _ r.length_eq fun i l s=>?_;exact(r.nth i l s).kept fun q a=>x.block q (d _ (a1u l) q a)
theorem Rl.on{w A B:World}{l:List Ac}{most d:Nat}{m n:Value}{a:List (List Ac)}{i:List Ac}(h:Rl w l most d m n a i A)(j:Fp [] A B):Rl w l most d m n a i B:=by
 obtain⟨N,s,r,q,p⟩:=h.own;exact⟨⟨N,s.fp j,r.fp j,a0x q j.size,p⟩,h.st,h.len,h.fp.trans j⟩
theorem Abt(w:World)(a:Option Addr)(n cap m:Nat)(l:List Ac)(h:Ba w a n l)(hr:risC l=true)(hn:n≤100000)(ba:n≤cap)(cj:1≤m)(hm:m<2^63):
  Calls Tryz.prog 104 #[.slice a n cap,.int .i64 m] w fun e w'=>∃v,e=.returned (.tuple #[v,.int .i64 0])/\C9 Dz w' w.heap.size v (Hh l m)/\Fp [] w w':=by
 have bj:=X (W9 w a n cap l h (by omega));rw[hr] at bj;have HL:=X h;have ak:=X h.len;have b6:=X ba
 have z1:¬(m:Int)<1:=by omega
 clear h hr ba;go_in;go_wp2_with fail;refine bj.o.nexh fun w1 bn=>?_;have h0:Rl w l m 0 (.slice (some ⟨w1.heap.size,0,none⟩) 0 0) (.slice (some ⟨w1.heap.size+1,0,none⟩) 0 0) [] [] ((w1.alloc (.cells #[] 78)).alloc (.cells #[] 80)):=by
  have hs:=bn.o.size;refine⟨⟨w1.heap.size+1,?_,?_,by simp,by omega⟩,⟨[],rfl,Or.inl ⟨rfl,rfl,rfl⟩⟩,⟨a1z _,a1z _⟩,(bn.o.alloc' _).alloc' _⟩
  .exact Jm.fp (S:=[]) ⟨[],An.made _ _ _ hs,.nil,List.Pairwise.nil,fun u hu=>by cases hu⟩ (Fp.alloc _ _) (by simp)
  .have:=Ap.made (w1.alloc (.cells #[] 78)) (w1.heap.size+1) (by simp);rw[show(w1.alloc (.cells #[] 78)).heap.size=w1.heap.size+1 by simp] at this;exact this
 have H0:=X h0;clear h0;go_wp2_with fail
 go_loopg [0,6,7] n (fun gg vl vo vn wr=>∃d al c2 y p ao co an cn,gg+d=n/\vo=.slice ao (y:List (List Ac)).length co/\vn=.slice an (p:List Ac).length cn/\vl=.slice al (n-d) c2/\n-d<=c2/\(d<n->∃b o,a=some ⟨b,o,none⟩/\al=some ⟨b,o+d*6,none⟩)/\Rl w l m d vo vn y p wr)
 case atStart=>exact⟨0,a,cap,[],[],_,_,_,_,by omega,rfl,rfl,rfl,b6.o,fun h=>by
  obtain⟨b,o,e,-⟩:=J2 HL.o (k:=0) (by have:=ak.o;omega)
  exact⟨b,o,e,by rw[e];simp⟩,H0.o⟩
 case round=>
  obtain⟨d,al,c2,y,p,ao,co,an,cn,hg,rfl,rfl,rfl,b2,b3,a3⟩:=hrel;have F:=X a3;clear a3;by_cases hd:d<n
  .obtain⟨b,o,rfl,rfl⟩:=b3 hd;obtain⟨x,hx⟩:=Aa (n-d);obtain⟨o2,ah⟩:=Aa (o+d*6);rw[hx] at b2;rw[hx,ah]
   have ai:Hid (d+x=n/\o+d*6=o2):=⟨by omega,ah⟩
   have zx:(x:Int)>0:=(by omega)
   have y0:decide (0<x)=true:=decide_eq_true (by omega)
   have cg:0<x:=(by omega)
   have cf:x<=100000:=(by omega)
   have y1:decide ((x:Int)>0)=true:=decide_eq_true zx;have az:Hid (∀w',Fp [] w w'->Ba w' (some ⟨b,o2,none⟩) x (l.drop d)):=fun w' hf=>by
    have:=(HL.o.fp hf).drop d x (by omega)
    rwa [ah] at this
   clear hx ah;obtain⟨wo,bp⟩:=Bz wr;subst bp
   go_upto_block 2 with(fail)
   go_cut [8] from 19 to 36 (fun v8 wx=>∃j:Nat,v8=.int .i64 j/\0<j/\j<=x/\(∀i,0<i->i<j->(l.getD (d+i) Aq).row=(l.getD d Aq).row)/\(d+j<l.length->(l.getD (d+j) Aq).row≠(l.getD d Aq).row)/\Fp [] wo wx)
   case first=>
    go_wp2_with fail
    go_loopg [8] x (fun g2 vj w2=>∃j:Nat,g2+j=x+1/\vj=.int .i64 j/\0<j/\j<=x/\(∀i,0<i->i<j->(l.getD (d+i) Aq).row=(l.getD d Aq).row)/\Fp [] wo w2)
    case atStart=>exact⟨1,rfl,rfl,Nat.one_pos,by omega,fun i h1 h2=>by omega,Fp.refl _ _⟩
    case round=>
     obtain⟨j,ck,rfl,aa,V,hs,bc⟩:=hrel;have HS:=X hs;have af:=X bc;clear hs bc;by_cases hj:j<x
     .have zj:(j:Int)<(x:Int):=(by omega)
      have n1:IntKind.i64.wrap ((j:Int)+1)=((j+1:Nat):Int):=(by rw[a0z];omega)
      have a0:Hid (∀w',Fp [] wo w'->w'.cell? ⟨b,o2+j*6,none⟩=some (.string (l.getD (d+j) Aq).row)/\w'.cell? ⟨b,o2,none⟩=some (.string (l.getD d Aq).row)):=fun w' hf=>by
       have hk:=az.o w' (F.o.fp.trans hf);have hl:(l.drop d).length=x:=hk.len.symm;obtain⟨b1,R,e1,-,h1⟩:=J2 hk (k:=j) (by omega);obtain⟨b0,o0,e0,-,h0⟩:=J2 hk (k:=0) (by omega);cases e1;cases e0;have q1:=(h1 w' (Fp.refl _ _)).1;have q0:=(h0 w' (Fp.refl _ _)).1;rw[Nat.zero_mul,a3z] at q0;rw[List.getElem_drop] at q1 q0;rw[List.length_drop] at hl
       have bw:d+j<l.length:=(by omega)
       have bx:d<l.length:=(by omega)
       rw[a2z,a0u bw,a2z,a0u bx];exact⟨q1,q0⟩
      obtain⟨s1,aq⟩:=Aa ((l.getD (d+j) Aq).row);obtain⟨s0,ar⟩:=Aa ((l.getD d Aq).row);rw[aq,ar] at a0;have bh:=X aq;have bi:=X ar;obtain⟨eb,bv⟩:=Aa ((s1.toList==s0.toList));have bo:=X bv;clear aq ar;cases eb
      .go_wp2_with fail;refine Bo (by kernel_rfl) (by kernel_rfl) ?_
       iterate 16
        first|apply A1 rfl rfl rfl|apply Gw _ _ rfl rfl rfl rfl (by kernel_rfl) rfl rfl
        .intro a w I r K hK;have:=r.f 8;have:=r.f 0;(try have:=r.e 1 20);(try have:=r.e 0 19);(try have:=r.e 2 21);(try have:=r.e 3 22);(try have:=r.e 5 24);(try have:=r.e 6 25);(try have:=r.e 7 26);(try have:=r.e 8 27);(try have:=r.e 10 29);(try have:=r.e 11 30);(try have:=r.e 12 31);(try have:=r.e 9 28);(try have:=r.e 13 32);(try have:=r.e 4 23);(try have:=r.e 14 33);obtain⟨x0,y0⟩:=a0.o _ (af.o.trans I);simp only[Oper.wp,execOp];go_simp;exact hK _ I (Fp.refl _ _)
       refine Bn ?_
       iterate 16 refine Bm ?_
       refine Bl fun w' I=>?_
       .simp only[Aj,Act.put,Z,a0w,a0v];have ae:=X (af.o.trans I);clear I;go_wp2_with fail
        go_meet
        case rel=>
         exact⟨j,rfl,aa,V,HS.o,fun _ e=>by
          rw[bh.o,bi.o] at e;have:=bo.o;rw[e] at this
          simp at this,ae.o⟩
      .go_wp2_with fail;refine Bo (by kernel_rfl) (by kernel_rfl) ?_
       iterate 16
        first|apply A1 rfl rfl rfl|apply Gw _ _ rfl rfl rfl rfl (by kernel_rfl) rfl rfl
        .intro a w I r K hK;have:=r.f 8;have:=r.f 0;(try have:=r.e 1 20);(try have:=r.e 0 19);(try have:=r.e 2 21);(try have:=r.e 3 22);(try have:=r.e 5 24);(try have:=r.e 6 25);(try have:=r.e 7 26);(try have:=r.e 8 27);(try have:=r.e 10 29);(try have:=r.e 11 30);(try have:=r.e 12 31);(try have:=r.e 9 28);(try have:=r.e 13 32);(try have:=r.e 4 23);(try have:=r.e 14 33);obtain⟨x0,y0⟩:=a0.o _ (af.o.trans I);simp only[Oper.wp,execOp];go_simp;exact hK _ I (Fp.refl _ _)
       refine Bn ?_
       iterate 16 refine Bm ?_
       refine Bl fun w' I=>?_
       .simp only[Aj,Act.put,Z,a0w,a0v];have ae:=X (af.o.trans I);clear I;go_wp2_with fail
        go_roundg (gk-1)
        case measure=>omega
        case rel=>
         refine⟨j+1,by omega,by go_num,by omega,by omega,fun i h1 h2=>?_,ae.o⟩;by_cases e:i=j
         .subst e;rw[bh.o,bi.o];exact Xi (eq_of_beq bo.o)
         .exact HS.o i h1 (by omega)
     .have zj:¬(j:Int)<(x:Int):=(by omega)
      go_wp2_with fail;refine Bo (by kernel_rfl) (by kernel_rfl) ?_
      iterate 16
       first
       |apply Jq _ _ rfl rfl rfl rfl (by kernel_rfl) rfl rfl
       |apply A1 rfl rfl rfl
        .intro a w I r K hK;have:=r.f 8;have:=r.f 0;(try have:=r.e 1 20);(try have:=r.e 0 19);(try have:=r.e 2 21);(try have:=r.e 3 22);(try have:=r.e 4 23);(try have:=r.e 14 33);simp only[Oper.wp,execOp];go_simp;exact hK _ I (Fp.refl _ _)
      refine Bn ?_
      iterate 16 refine Bm ?_
      refine Bl fun w' I=>?_
      .simp only[Aj,Act.put,Z,a0w,a0v];have ae:=X (af.o.trans I);clear I;go_wp2_with fail
       go_meet
       case rel=>exact⟨j,rfl,aa,V,HS.o,fun h=>absurd h (by have:=ak.o;have:=ai.o.1;omega),ae.o⟩
   case rest=>
    obtain⟨j,rfl,aa,V,hs,a5,M⟩:=hcut;have b9:=X (Ahu aa (by have:=ak.o;have:=ai.o.1;omega) hs a5);have O:=X (F.o.on M);clear hs a5 M F;obtain⟨w5,bs⟩:=Bz wc;subst bs;obtain⟨ag,E,J⟩:=O.o.st;have bk:=X E;have bg:=X J;have a8:=O.o.len;have cl:d+x=n:=ai.o.1
    have zw:IntKind.i64.wrap ((p.length:Int)+(j:Int))=(p.length:Int)+(j:Int):=(by rw[a0z];omega)
    clear E J
    go_upto_region 11 with(fail)
    go_cut [47] from 16 to 60 (fun v wx=>∃bb:Bool,v=.bool bb/\(bb=true->p≠[]/\m<p.length+j)/\(bb=false->p=[]∨p.length+j<=m)/\wx=w5)
    case first=>
     by_cases h0:0<p.length
     .have z3:(p.length:Int)>0:=(by omega)
      have a4:p≠[]:=fun e=>by rw[e] at h0;simp at h0
      have b4:=X a4;clear a4;by_cases h1:m<p.length+j
      .have z4:(p.length:Int)+(j:Int)>(m:Int):=(by omega)
       go_wp2_with fail
       go_meet
       case rel=>exact⟨true,rfl,fun _=>⟨b4.o,h1⟩,(fun e=>by cases e),rfl⟩
      .have z4:¬(p.length:Int)+(j:Int)>(m:Int):=(by omega)
       go_wp2_with fail
       go_meet
       case rel=>exact⟨false,rfl,(fun e=>by cases e),fun _=>Or.inr (by omega),rfl⟩
     .have z3:¬(p.length:Int)>0:=(by omega)
      go_wp2_with fail
      go_meet
      case rel=>exact⟨false,rfl,(fun e=>by cases e),fun _=>Or.inl (a2u (by omega)),rfl⟩
    case rest=>
     obtain⟨bb,rfl,be,bd,rfl⟩:=hcut;have a2:=X be;have a1:=X bd;clear be bd zw;obtain⟨w6,br⟩:=Bz wc;subst br
     go_upto_if 47 with(fail)
     go_cut [6,7] from 16 to 60 (fun v6 v7 wx=>∃C s,(∃N,Jm Dz wx w.heap.size N v6 C/\Ap wx N v7 s/\N<=wx.heap.size/\w.heap.size<=N)/\(∀Q:List Ac,Q.length=j->Qo (Ii m (Ji m l ag) Q) C (s++Q))/\s.length<=d/\C.length<=d+1/\Fp [] w wx)
     case first=>
      cases bb
      .have hb:=(by first|exact a1.o rfl|exact a1.o trivial:p=[]∨p.length+j<=m)
       have HB:=X hb;clear hb;go_wp2_with fail
       go_meet
       case rel=>exact⟨y,p,O.o.own,fun Q z=>bg.o.join (by rw[z];exact HB.o) (fun e=>by rw[e] at z;simp at z;omega),a8.1,by omega,O.o.fp⟩
      .have hb:=(by first|exact a2.o rfl|exact a2.o trivial:p≠[]∧m<p.length+j)
       have HB:=X hb;clear hb;obtain⟨N,R,B,o3,o4⟩:=O.o.own;have P:=X R;have G:=X B;have A:=X (And.intro o3 o4);clear R B o3 o4;go_wp2_with (at_builtin;(refine cB Dz rfl _ _ rfl w.heap.size _ y rfl (P.o.fp (Fp.alloc _ _)) _ (.slice an p.length cn) p ((G.o.mono A.o.2).fp (Fp.alloc _ _)) (fun q hq=>(G.o.lt q hq).1) rfl (by rw[Ab (Ai (by simp) _)];rfl) (by omega) (by have:=A.o;simp;omega) ?_);intro v3 w3 T ac _;have ay:=X T;have am:=X ac;clear T ac)
       go_meet
       case rel=>
        have bt:w.heap.size<=w3.heap.size:=by have h1:=O.o.fp.size;have h2:=am.o.size;simp at h2;omega
        refine⟨y++[p],[],⟨w3.heap.size,Jm.fp ay.o.toN (Fp.alloc _ _) (by simp),Ap.made _ _ (a1z _),by simp,bt⟩,fun Q z=>by rw[List.nil_append];exact bg.o.push HB.o.1 (by rw[z];exact HB.o.2) (fun e=>by rw[e] at z;simp at z;omega),Nat.zero_le _,by rw[Y];simp;omega,((O.o.fp.alloc' _).belowTrans am.o).alloc' _⟩
     case rest=>
      obtain⟨C,s,⟨N,R,B,o3,o4⟩,ap,ci,ch,M⟩:=hcut;obtain⟨a7,c7,rfl⟩:=B.sliceL;obtain⟨a6,c6,rfl⟩:=R.toL.slice;have P:=X R;have G:=X B;have A:=X (And.intro o3 o4);have bf:=X ap;have b8:=X M;have HQ:=X ((az.o _ M).take j V)
      have cd:(j:Int)<=(x:Int):=(by omega)
      have ce:(j:Int)<=(c2:Int):=(by omega)
      have cc:(x:Int)<=(c2:Int):=(by omega)
      have t:Hid (((l.drop d).take j).length=j):=by show((l.drop d).take j).length=j;rw[a1v];have:=(az.o _ M).len;omega
      have b7:=X (And.intro V aa);have bz:(j=c2)∨¬j=c2:=Decidable.em _;clear R B o3 o4 ap M a2 a1;obtain⟨w7,bq⟩:=Bz wc;subst bq
      have ad:Hid (∀v' w',Ap w' N v' (s++(l.drop d).take j)->Below N w7 w'->(∀D,D≠80->Ao D N [] w7 w')->Rl w l m (d+j) (.slice a6 C.length c6) v' C (s++(l.drop d).take j) w'):=fun v' w' g1 g2 g3=>
       ⟨⟨N,P.o.keptC g2 g3,g1,a0x A.o.1 g2.size,A.o.2⟩,⟨ag++[(d,j)],by rw[bk.o,b9.o];simp,by rw[iT];exact bf.o _ t.o⟩,⟨by rw[Y,t.o];omega,by have:=b7.o.2;omega⟩,b8.o.belowTrans (g2.mono A.o.2)⟩
      rcases bz with av|av
      .subst av;go_wp2_with (at_builtin;(refine nF rfl _ _ rfl N _ s rfl G.o _ _ _ ((l.drop d).take j) rfl HQ.o (by have:=t.o;omega) A.o.1 ?_);intro v8 w8 L ab U;obtain⟨a9,c9,e9⟩:=L.sliceL;rw[Y,t.o] at e9;subst e9;have ax:=X (ad.o _ w8 L ab U);clear L ab U)
       go_roundg (gk-j)
       case measure=>omega
       case rel=>exact⟨d+j,some ⟨b,o2,none⟩,0,_,_,_,_,_,_,by omega,rfl,(by rw[Y,t.o]),by rw[show n-(d+j)=0 by omega],by omega,fun h=>absurd h (by omega),ax.o⟩
      .have cm:=X av;go_wp2_with (at_builtin;(refine nF rfl _ _ rfl N _ s rfl G.o _ _ _ ((l.drop d).take j) rfl HQ.o (by have:=t.o;omega) A.o.1 ?_);intro v8 w8 L ab U;obtain⟨a9,c9,e9⟩:=L.sliceL;rw[Y,t.o] at e9;subst e9;have ax:=X (ad.o _ w8 L ab U);clear L ab U)
       go_roundg (gk-j)
       case measure=>omega
       case rel=>exact⟨d+j,_,_,_,_,_,_,_,_,by omega,rfl,(by rw[Y,t.o]),by rw[show n-(d+j)=x-j by omega],by omega,fun h=>⟨b,o,rfl,by rw[<-ai.o.2,show o+(d+j)*6=o+d*6+j*6 by omega]⟩,ax.o⟩
  .obtain rfl:d=n:=by omega
   have hx:d-d=0:=(by omega)
   rw[hx];obtain⟨N,R,B,o3,o4⟩:=F.o.own;obtain⟨ag,E,J⟩:=F.o.st;have au:d=l.length:=ak.o;have aj:Hid (Ji m l ag=Hh l m):=Ahv (by rw[E,au]);have b5:=X F.o.len;have P:=X R;have G:=X B;have A:=X (And.intro o3 o4);have bm:=X F.o.fp;by_cases h0:0<p.length
   .have z3:(p.length:Int)>0:=(by omega)
    have aw:Hid (y++[p]=Hh l m):=by
     show y++[p]=Hh l m;rcases J with⟨e,-,-⟩|⟨-,e⟩
     .rw[e] at h0;simp at h0
     .rw[<-aj.o,e]
    clear R B o3 o4 E J au F aj;go_wp2_with (at_builtin;(refine cB Dz rfl _ _ rfl w.heap.size _ y rfl (P.o.fp (Fp.alloc _ _)) _ (.slice an p.length cn) p ((G.o.mono A.o.2).fp (Fp.alloc _ _)) (fun q hq=>(G.o.lt q hq).1) rfl (by rw[Ab (Ai (by simp) _)];rfl) (by have:=b5.o;omega) (by have:=A.o;simp;omega) ?_);intro v3 w3 T ac _;have ay:=X T;have am:=X ac;clear T ac);exact bodyPost_ret (v:=.tuple #[v3,.int .i64 0]) (by simp[results,Tryz.results104,go_sem]) rfl ⟨_,rfl,by rw[<-aw.o];exact ay.o,(bm.o.alloc' _).belowTrans am.o⟩
   .have z3:¬(p.length:Int)>0:=(by omega)
    have aw:Hid (y=Hh l m):=by
     show y=Hh l m;rcases J with⟨-,e1,e2⟩|⟨e,-⟩
     .rw[<-aj.o,e1,e2]
     .exact absurd (a2u (by omega)) e
    clear R B o3 o4 E J au F aj;go_wp2_with fail;exact bodyPost_ret (v:=.tuple #[.slice ao y.length co,.int .i64 0]) (by simp[results,Tryz.results104,go_sem]) rfl ⟨_,rfl,by rw[<-aw.o];exact P.o.toL,bm.o⟩
theorem Abu(w:World)(v:Value)(m:Int)(a:m<1):Calls Tryz.prog 104 #[v,.int .i64 m] w fun e w'=>e=.returned (.tuple #[.slice none 0 0,.int .i64 1])/\Fp [] w w':=by
 go_in;go_wp2_with fail;exact bodyPost_ret (v:=.tuple #[.slice none 0 0,.int .i64 1]) (by simp[results,Tryz.results104,go_sem]) rfl ⟨rfl,Fp.refl _ _⟩
def cH:Hv (Nat × Option Addr × Nat × Nat):={aB with e:=111}
theorem Tryz.infoRpc:(Tryz.prog.info? 111).map (fun i=>(i.zero,i.size,i.bytes))=some (some (.agg #[.int .i64 0,.slice none 0 0]),2,32):=by kernel_rfl
def Ip(W:World)(base:Nat)(v:Value)(ps:List (Nat × List Ac)):Prop:=∃hs,Ag cH W base v hs/\Dn (fun h p=>h.1=p.1/\Ap W base (Xf h) p.2) hs ps
theorem Ip.fp{W W':World}{base:Nat}{S:List Nat}{v:Value}{ps:List (Nat × List Ac)}(h:Ip W base v ps)(a:Fp S W W')(d:∀k∈S,k<base:=by simp):Ip W' base v ps:=by
 obtain⟨i,l,j⟩:=h;exact⟨i,l.fp a d,J9 (fun _ _ h=>⟨h.1,h.2.fp a d⟩) j⟩
theorem Ip.slice{W:World}{base:Nat}{v:Value}{d:List (Nat × List Ac)}(h:Ip W base v d):∃a cap,v=.slice a d.length cap:=by
 obtain⟨l,j,i⟩:=h;obtain⟨a,c,e,-,-⟩:=j.len;exact⟨a,c,by rw[e,i.length_eq]⟩
theorem Ip.get{W:World}{base i:Nat}{v:Value}{d:List (Nat × List Ac)}(h:Ip W base v d)(s:i<d.length):∃g cap a n c,v=.slice (some ⟨g,0,Option.none⟩) d.length cap/\W.cell? ⟨g,i*2,Option.none⟩=some (.int .i64 (d[i].1:Nat))/\W.cell? ⟨g,i*2+1,Option.none⟩=some (.slice a n c)/\Ap W base (.slice a n c) d[i].2:=by
 obtain⟨j,p,m⟩:=h;have r:=m.length_eq;obtain⟨g,cap,cur,rfl,-,-,-,-,-,-⟩:=p.open (by omega);obtain⟨l,-⟩:=p.elem (i:=i) (by omega);obtain⟨x,t⟩:=m.nth i (by omega) s;have q:=l 0 (.int .i64 (j[i]'(by omega)).1) rfl;have y:=l 1 (Xf (j[i]'(by omega))) rfl;rw[x] at q;exact⟨g,cap,_,_,_,by rw[r],q,y,t⟩
theorem Abv{w:World}{j:Array Oper}{rest:List Oper}{o:Oper}{a:Act}{Q:Exit→Act→World→Prop}(y:o.guard=none)(s x:Operand)
  (J:o.op=.call {callee:=.builtin .append,args:=#[s,x],argTypes:=#[108,108]})(base:Nat)(v:Value)(t:List (Nat × List Ac))(G:a.eval s=v)(l:Ip w base v t)
  (g i n c:Nat)(q:Option Addr)(r:List Ac)(I:Ap w base (.slice q n c) r)(F:a.eval x=.slice (some ⟨g,0,none⟩) 1 1)(K:w.heap[g]?=some (.cells #[.int .i64 i,.slice q n c] 111 (0,0)))(A:t.length+1<=1000000000)(d:base<=w.heap.size)
  (h:∀p w',Ip w' base p (t++[(i,r)])->Below base w w'->(∀D,D≠111->Ao D base [] w w')->wpList Tryz.prog j Q rest (a.put o.dst p) w'):wpList Tryz.prog j Q (o::rest) a w:=by
 obtain⟨z,E,C⟩:=l;have P:=C.length_eq;refine Va (R:=cH) 108 Tryz.underlying108 Tryz.infoRpc rfl (by decide) y s x J base v z G E _ 1 1 [(i,q,n,c)] F (Bj.one (x:=(i,q,n,c)) K) (by intro h;cases h) (by simp;omega) d ?_;intro p w' O N M;have B:∀D,D≠111->Ao D base [] w w':=fun D L=>Sl E.typed M L;have m:=B 80 (by decide);exact h p w' ⟨_,O,Ro (J9 (fun _ _ h=>⟨h.1,h.2.keptT m⟩) C) ⟨rfl,I.keptT m⟩⟩ N B
theorem Abw(w:World)(a:Option Addr)(n cap:Nat)(a2:Option Addr)(n2 J:Nat)(l:List Ac)(bs:List ByteArray)(m:Nat)(hl:Ba w a n l)(hb:D6 w a2 n2 bs)(hn:n≤100000)(a5:n2≤100000)(U:Ee bs=true)(B:risC l=true)(a6:1≤m)(hm:m<2^63):
  Calls Tryz.prog 55 #[.slice a n cap,.slice a2 n2 J,.int .i64 m] w fun e w'=>∃v out,e=.returned (.tuple #[v,.int .i64 0])/\Ip w' w.heap.size v (G7 m out)/\Eb l bs out/\Fp [] w w':=by
 obtain⟨out,A⟩:=qT bs l;have ag:=eE A B (Zt U);have aq:=X (nD w a n cap a2 n2 J l bs hl hb hn a5 U B);rw[<-ag] at aq;have be:=X hl.ok;have y:=X A;have bc:=X B
 have br:l.length<=100000:=by have:=hl.len;omega
 have bq:out.length<=100001:=by have:=A.count;have:=hb.len;omega
 clear hl hb U B A ag;go_in;go_wp2_with fail;refine aq.o.mono ?_;rintro e w1 ⟨v1,rfl,P,F⟩;obtain⟨va,vc,rfl⟩:=P.slice;have bh:=X P;have bj:=X F
 have bn:Hid (Ip (w1.alloc (.cells #[] 111)) w.heap.size (.slice (some ⟨w1.heap.size,0,none⟩) 0 0) []/\w.heap.size<=w1.heap.size):=⟨⟨[],Ag.made (R:=cH) w1 _ F.size,.nil⟩,F.size⟩
 clear P F;go_wp2_with fail
 go_loopg [10,11] out.length (fun g vo vi wr=>∃i:Nat,g=out.length-i/\vi=.int .i64 i/\i<=out.length/\Ip wr w.heap.size vo (Gt m out i)/\C9 Dz wr w.heap.size (.slice va out.length vc) out/\Fp [] w wr)
 case atStart=>exact⟨0,rfl,rfl,Nat.zero_le _,bn.o.1,bh.o.fp (Fp.alloc _ _),bj.o.alloc' _⟩
 case round=>
  obtain⟨i,hg,rfl,hi,s,t,hf⟩:=hrel;have G:=X s;have ay:=X t;have ab:=X hf;have HG:=X hg;clear s t hf hg;by_cases D:i<out.length
  .have zi:(i:Int)<(out.length:Int):=(by omega)
   have n1:IntKind.i64.wrap ((i:Int)+1)=((i+1:Nat):Int):=(by rw[a0z];omega)
   obtain⟨i1,T⟩:=Aa (i+1);rw[T] at n1;obtain⟨gb,bo,a7,-,bt,-,ao⟩:=ay.o.get D
   injection a7 with g1 g2 g3
   subst g1;subst g3;obtain⟨u,q,p⟩:=ao i D;obtain⟨x,hx⟩:=Aa (out[i]);rw[hx] at p
   have z:x∈out:=(by rw[<-hx];exact a1u _)
   obtain⟨ax,cx,rfl,ae,-,ad⟩:=Ap.at5 p (fun c hc=>be.o c (y.o.mem z hc))
   have a3:x.length<=100000:=by have:=Sm z;rw[y.o.flat] at this;omega
   have bb:=X (Abt wr ax x.length cx m x ad (y.o.ris bc.o x z) a3 ae a6 hm)
   have a0:Hid (out.getD i []=x):=(by rw[a2z,a0u D,<-hx];rfl)
   have aa:=X T;have q0:wr.cell? ⟨gb,i,none⟩=some (.slice ax x.length cx):=q;clear ao q p hx z ae ad T;go_wp2_with fail;refine bb.o.mono ?_;rintro e w2 ⟨v2,rfl,C,E⟩;obtain⟨d,h⟩:=Aa (Hh x m);rw[h] at C;obtain⟨ra,rc,rfl⟩:=C.slice;have af:w.heap.size<=wr.heap.size:=ab.o.size;have bg:=X (C.mono af);have au:=X h;have av:=X (G.o.fp E);have aw:=X (ay.o.fp E);have a1:=X (ab.o.trans E)
   have bp:d.length<=100000:=by have:=aC x m;rw[h] at this;omega
   clear C E h q0;have bk:Hid ((Gt m out i).length+d.length≤100000):=by
    have h1:=Sr m out (i+1) D;rw[P8,a0.o,au.o,Y,List.length_map] at h1;have h2:((out.take (i+1)).flatten).length<=l.length:=by
     rw[<-y.o.flat]
     conv=>rhs;rw[<-a1x (i+1) out,List.flatten_append,Y]
     omega
    exact X (by omega)
   go_wp2_with fail
   go_loopg [10,14] d.length (fun g vo vj W=>∃j:Nat,g=d.length-j/\vj=.int .i64 j/\j<=d.length/\Ip W w.heap.size vo (Gt m out i++(d.take j).map fun r=>(i,r))/\C9 Dz W w.heap.size (.slice (some ⟨gb,0,none⟩) out.length vc) out/\C9 Dz W w.heap.size (.slice ra d.length rc) d/\Fp [] w W)
   case atStart=>exact⟨0,rfl,rfl,Nat.zero_le _,by rw[List.take_zero,List.map_nil,List.append_nil];exact av.o,aw.o,bg.o,a1.o⟩
   case round=>
    obtain⟨j,an,rfl,hj,s,t,ah,hf⟩:=hrel;have L:=X s;have M:=X t;have K:=X ah;have ac:=X hf;have bi:=X an;clear s t ah hf an;obtain⟨wj,a4⟩:=Bz wr;subst a4;by_cases Q:j<d.length
    .have zj:(j:Int)<(d.length:Int):=(by omega)
     have nj:IntKind.i64.wrap ((j:Int)+1)=((j+1:Nat):Int):=(by rw[a0z];omega)
     obtain⟨j1,S⟩:=Aa (j+1);rw[S] at nj;obtain⟨gr,bv,am,-,-,-,I⟩:=K.o.get Q;cases am;obtain⟨u,q,p⟩:=I j Q;obtain⟨r,hr⟩:=Aa (d[j]);rw[hr] at p;obtain⟨ar,cr,rfl⟩:=Ap.sliceL p;have a8:Hid (Ap wj w.heap.size (.slice ar r.length cr) r):=p;have q1:wj.cell? ⟨gr,j,none⟩=some (.slice ar r.length cr):=q
     have a9:Hid (d.take (j+1)=d.take j++[r]):=(by rw[List.take_add_one,a0u Q,hr];rfl)
     have V:=X S;have ba:Hid (w.heap.size<=wj.heap.size):=ac.o.size;clear I q p hr S;go_wp2_with (at_builtin;refine Abv rfl _ _ rfl w.heap.size _ _ rfl (L.o.fp (Fp.alloc _ _)) _ i r.length cr ar r (a8.o.fp (Fp.alloc _ _)) rfl (Ai rfl _) (by have:=bk.o;rw[Y,List.length_map,a1v];omega) (by have:=ba.o;simp;omega) ?_;intro v3 w3 ai ap aj;have bf:=X ai;have bm:=X ap;have az:=X aj;clear ai ap aj)
     go_roundg (d.length-j1)
     case measure=>have:=bi.o;have:=V.o;omega
     case rel=>
      have al:=az.o 80 (by decide);have ak:=az.o 78 (by decide);refine⟨j1,rfl,rfl,by have:=V.o;omega,?_,(M.o.fp (Fp.alloc _ _)).keptD (a1z _) al ak,(K.o.fp (Fp.alloc _ _)).keptD (a1z _) al ak,(ac.o.alloc' _).belowTrans bm.o⟩;rw[<-V.o,a9.o,List.map_append,<-List.append_assoc];exact bf.o
    .have z1:¬(j:Int)<(d.length:Int):=(by omega)
     obtain rfl:j=d.length:=by omega
     have O:=L.o;rw[List.take_length,<-au.o,<-a0.o,<-P8,aa.o] at O;have bd:=X O;clear O;go_wp2_with fail
     go_roundg (out.length-i1)
     case measure=>have:=HG.o;have:=aa.o;omega
     case rel=>exact⟨i1,rfl,rfl,by have:=aa.o;omega,bd.o,M.o,ac.o⟩
  .have z0:¬(i:Int)<(out.length:Int):=(by omega)
   obtain rfl:i=out.length:=by omega
   obtain⟨pa,pc,rfl⟩:=G.o.slice;obtain⟨pn,N⟩:=Aa ((Gt m out out.length).length);rw[N] at G;rw[N];clear N;go_wp2_with fail;exact bodyPost_ret (v:=.tuple #[.slice pa pn pc,.int .i64 0]) (by simp[results,Tryz.results55,go_sem]) rfl ⟨_,rfl,out,G.o,y.o,ab.o⟩
theorem Abx(w:World)(v:Value)(l:Option Addr)(h a:Nat)(j:List ByteArray)(m:Int)(q:D6 w l h j)(i:h≤100000)(d:Ee j=false):
  Calls Tryz.prog 55 #[v,.slice l h a,.int .i64 m] w fun e w'=>e=.returned (.tuple #[.slice none 0 0,.int .i64 1])/\Fp [] w w':=by
 have n:=X (Abs w v l h a j q i d);clear q d;go_in;go_wp2_with fail;refine n.o.nexh fun r p=>?_;go_wp2_with fail;exact bodyPost_ret (v:=.tuple #[.slice none 0 0,.int .i64 1]) (by simp[results,Tryz.results55,go_sem]) rfl ⟨rfl,p.o⟩
theorem Aby(w:World)(a:Option Addr)(n cap:Nat)(F:Option Addr)(A i:Nat)(l:List Ac)(z:List ByteArray)(m:Int)(O:Ba w a n l)(P:D6 w F A z)(U:n≤100000)(C:A≤100000)(y:Ee z=true)(r:risC l=true)(N:m<1):
  Calls Tryz.prog 55 #[.slice a n cap,.slice F A i,.int .i64 m] w fun e w'=>e=.returned (.tuple #[.slice none 0 0,.int .i64 1])/\Fp [] w w':=by
 have G:=X (nD w a n cap F A i l z O P U C y r);have I:=X (fun W v=>Abu W v m N);clear O P y r N;go_in;go_wp2_with fail;refine G.o.mono ?_;rintro e S ⟨v1,rfl,d,x⟩;have s:=Ry z l;obtain⟨j,h⟩:=Aa (G4 z l);rw[h] at d s;clear h;obtain⟨va,vc,rfl⟩:=d.slice
 have Q:0<j.length:=by omega
 have J:=X d;have M:=X x
 have z0:(0:Int)<(j.length:Int):=by omega
 clear d x s;go_wp2_with fail
 go_loopg [10,11] 1 (fun g vo T wr=>T=.int .i64 0/\Fp [] S wr)
 case atStart=>exact⟨rfl,Fp.alloc _ _⟩
 case round=>
  obtain⟨rfl,E⟩:=hrel;obtain⟨gb,R,D,-,-,-,t⟩:=(J.o.fp E).get Q;cases D;obtain⟨u,B,q⟩:=t 0 Q;obtain⟨ax,cx,rfl⟩:=Ap.sliceL q;obtain⟨V,p⟩:=Aa (j[0].length);rw[p] at B;have L:=X (M.o.trans E);clear t q p E;go_wp2_with fail;refine(I.o _ _).next L fun w2 K=>?_;go_wp2_with fail;exact bodyPost_ret (v:=.tuple #[.slice none 0 0,.int .i64 1]) (by simp[results,Tryz.results55,go_sem]) rfl ⟨rfl,K.o⟩
end
end Go.Proofs.YtkagolpnaicdoaaGreatDoor
