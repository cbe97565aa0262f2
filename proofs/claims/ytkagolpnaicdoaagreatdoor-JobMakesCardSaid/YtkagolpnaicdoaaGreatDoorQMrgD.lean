/- Lemmas. -/
import Derived.Test.YtkagolpnaicdoaaGreatDoorQTabD
import Derived.Laws.EntriesVeiled
set_option maxRecDepth 100000
set_option maxHeartbeats 8000000
open Go.Lib renaming hid->X
open List renaming getD_eq_getElem?_getD->Y,getElem?_eq_getElem->a0z,not_mem_nil->a0x,length_map->a0v,eq_nil_of_length_eq_zero->a0u,map_append->a1z,length_take->a1x,length_append->a1w,setIfInBounds_toArray->a1u,getElem?_map->a2z,getElem_mem->a2w,length_cons->a2v,drop_eq_nil_of_le->a3z,map_cons->a3w
open Nat renaming le_refl->Z,lt_of_lt_of_le->a1v,le_trans->a2x,zero_le->a2u
open Go.IntKind renaming wrap_i64->a0w
open ByteArray renaming size_extract->a3x
namespace Go.Proofs.YtkagolpnaicdoaaGreatDoor
section
open Go.RowKit Go.Lib
theorem yG(w:World)(B:Nat)(n:String)(s:Option Addr)(m c:Nat)(h:w.cell? ⟨B,0,none⟩=some (.slice s m c)):(receiverAt 323 (.val (.pointer (some ⟨B,0,none⟩))) false (some n)).run Tryz.prog w=.ok (.slice s m c) w:=by
 rw[show(receiverAt 323 (.val (.pointer (some ⟨B,0,none⟩))) false (some n)).run Tryz.prog w=(loadVar 325 ⟨B,0,none⟩).run Tryz.prog w by kernel_rfl];go_simp
theorem bO(K:FuncId)(nm:String)(d:∀(f:Nat) (w:World) (a:Addr),(method (f+1) 323 (.pointer (some a)) nm).run Tryz.prog w=(do (pure (K,<-receiverAt 323 (.val (.pointer (some a))) false (some nm))):Sem _).run Tryz.prog w)(F:Nat)(g:0<F)(w:World)(B:Nat)(s:Option Addr)(m c:Nat)(h:w.cell? ⟨B,0,none⟩=some (.slice s m c)):(method F 323 (.pointer (some ⟨B,0,none⟩)) nm).run Tryz.prog w=.ok (K,.slice s m c) w:=by
 obtain⟨f,rfl⟩:∃f,F=f+1:=⟨F-1,by omega⟩
 rw[d,Sem.run_bind,yG w B nm s m c h];rfl
theorem bP(w:World)(B:Nat)(s:Option Addr)(m c:Nat)(h:w.cell? ⟨B,0,none⟩=some (.slice s m c))(F:Nat)(a:0<F):(method F 323 (.pointer (some ⟨B,0,none⟩)) "Less").run Tryz.prog w=.ok (323,.slice s m c) w:=bO _ _ (fun _ _ _=>by kernel_rfl) F a w B s m c h
theorem lB(w:World)(B:Nat)(s:Option Addr)(m c:Nat)(h:w.cell? ⟨B,0,none⟩=some (.slice s m c))(F:Nat)(a:0<F):(method F 323 (.pointer (some ⟨B,0,none⟩)) "Len").run Tryz.prog w=.ok (271,.slice s m c) w:=bO _ _ (fun _ _ _=>by kernel_rfl) F a w B s m c h
theorem bQ(w:World)(B:Nat)(s:Option Addr)(m c:Nat)(h:w.cell? ⟨B,0,none⟩=some (.slice s m c))(F:Nat)(a:0<F):(method F 323 (.pointer (some ⟨B,0,none⟩)) "Swap").run Tryz.prog w=.ok (326,.slice s m c) w:=bO _ _ (fun _ _ _=>by kernel_rfl) F a w B s m c h
theorem yH(w:World)(a:Addr)(F:Nat)(c:0<F):(method F 323 (.pointer (some a)) "Push").run Tryz.prog w=.ok (325,.pointer (some a)) w:=by
 obtain⟨f,rfl⟩:∃f,F=f+1:=⟨F-1,by omega⟩
 kernel_rfl
theorem yI(w:World)(a:Addr)(F:Nat)(c:0<F):(method F 323 (.pointer (some a)) "Pop").run Tryz.prog w=.ok (324,.pointer (some a)) w:=by
 obtain⟨f,rfl⟩:∃f,F=f+1:=⟨F-1,by omega⟩
 kernel_rfl
def K7:Fb:=(Pg,[])
theorem lC{α β:Type}(f:α→β)(d:α)(l:List α)(i j:Nat):(Ho d l i j).map f=Ho (f d) (l.map f) i j:=by
 unfold Ho;rw[List.map_set,List.map_set];congr 1
 .congr 1;rw[Y,Y,a2z]
  cases l[j]?<;>rfl
 .rw[Y,Y,a2z]
  cases l[i]?<;>rfl
theorem Xy{α:Type}{d:α}{l:List α}{i j:Nat}(c:i<l.length)(a:j<l.length):(Ho d l i j).Perm l:=by
 have h:=Array.swap_perm (xs:=l.toArray) (i:=i) (j:=j) (by simpa using c) (by simpa using a);have g:=Array.perm_iff_toList_perm.1 h;have e:(l.toArray.swap i j (by simpa using c) (by simpa using a)).toList=Ho d l i j:=by
  unfold Ho;rw[Y,Y,a0z c,a0z a];simp[Array.swap]
 rw[e] at g;exact g
theorem yJ{α:Type}{d:α}{l:List α}{i j k:Nat}(c:k≠i)(a:k≠j):(Ho d l i j).getD k d=l.getD k d:=by
 unfold Ho;rw[Y,List.getElem?_set_ne (Ne.symm a),List.getElem?_set_ne (Ne.symm c),Y]
def C5(es:List Fb):List Ad:=es.map Gi
theorem bR(a:List Fb)(i j:Nat):C5 (Ho K7 a i j)=I4 (C5 a) i j:=lC Gi K7 a i j
theorem S4{a:List Fb}{i:Nat}(c:i<a.length):Af (C5 a) i=Gi a[i]:=by
 unfold Af C5;rw[Y,a2z,a0z c];rfl
theorem Vf(a:List Fb):(C5 a).length=a.length:=a0v ..
structure Ea(W:World)(base B:Nat)(es:List Fb):Prop where
 box:∃v,W.heap[B]?=some (.cells #[v] 325 (0,0))/\Ag Is W base v (es.map (·.1))
 qs:∀x∈es,Jt W base x.1.q x.2/\0<x.2.length
 ok:∀x∈es,Be x.2
 bb:base<=B
 nd:(es.map (·.1.q)).Nodup
theorem Ea.keys{W:World}{base B:Nat}{c:List Fb}(h:Ea W base B c):Be (C5 c):=by
 intro k g;obtain⟨x,a,rfl⟩:=List.mem_map.1 g;obtain⟨r,d⟩:=Ud (h.qs x a).2;have:=h.ok x a;rw[d] at this;exact this _ List.mem_cons_self
theorem Ea.fp{W W':World}{base B:Nat}{es:List Fb}(h:Ea W base B es)(a:Fp [] W W'):Ea W' base B es:=by
 obtain⟨v,d,g⟩:=h.box;exact⟨⟨v,(a.block _ (Ae d) (by simp)).trans d,g.fp a⟩,fun x c=>⟨(h.qs x c).1.fp a,(h.qs x c).2⟩,h.ok,h.bb,h.nd⟩
theorem Tf.ofOwn{α:Type}{R:Hv α}{W W':World}{base g n cap:Nat}{D:List TypeId}{S:List Nat}{l:List α}(h:Ag R W base (.slice (some ⟨g,0,none⟩) n cap) l)(a:Fp [g] W W')(m:R.e∈D):Tf base D S W W':=by
 refine⟨a.os,a.tape,a.output,a.size,fun k q _ p=>a.block k q fun d=>?_⟩;obtain rfl:=List.mem_singleton.1 d;rcases h.2 with⟨e,_⟩|⟨s,c,r,e,j,i,_⟩
 .cases e
 .cases e;exact p j _ _ _ i m
theorem Ea.less{W:World}{base B:Nat}{a:List Fb}(h:Ea W base B a)(l:a.length≤1000000):
  ∃s n c,W.cell? ⟨B,0,none⟩=some (.slice s n c)/\n=a.length/\∀i j,i<a.length->j<a.length->Calls Tryz.prog 323 #[.slice s n c,.int .i64 i,.int .i64 j] W fun e W'=>∃b,e=.returned (.bool b)/\(b=true->Aw (Af (C5 a) i) (Af (C5 a) j))/\(b=false->Aw (Af (C5 a) j) (Af (C5 a) i))/\Fp [] W W':=by
 obtain⟨v,m,k⟩:=h.box;obtain⟨s,c,rfl,-,-⟩:=k.len;refine⟨s,_,c,Ab m 0,by rw[a0v],fun i j g d=>?_⟩;rw[S4 g,S4 d];exact Adj W base _ a i j k h.qs h.ok g d l
theorem Ea.swap{W:World}{base B:Nat}{es:List Fb}(h:Ea W base B es)(y:0<es.length):
  ∃s n c,W.cell? ⟨B,0,none⟩=some (.slice s n c)/\n=es.length/\∀i j,i<es.length->j<es.length->Calls Tryz.prog 326 #[.slice s n c,.int .i64 i,.int .i64 j] W fun e W'=>e=.returned (.tuple #[])/\Ea W' base B (Ho K7 es i j)/\Tf base [331] [] W W':=by
 obtain⟨v,r,l⟩:=h.box;obtain⟨g,cap,z,rfl,C,A,-⟩:=l.open (by rw[a0v];exact y);refine⟨_,_,_,Ab r 0,by rw[a0v],fun i j p m=>?_⟩;refine(Adm W base g _ cap i j _ l (by rw[a0v];exact p) (by rw[a0v];exact m)).mono ?_;rintro e W' ⟨rfl,t,u⟩;have d:Tf base [331] [] W W':=Tf.ofOwn l u (by simp[Is]);have k:(Ho K7 es i j).Perm es:=Xy p m;refine⟨rfl,⟨⟨_,d.cells r (by simp) (by decide),by rw[lC (fun x:Fb=>x.1)];exact t⟩,fun x a=>?_,fun x a=>h.ok x (k.mem_iff.1 a),h.bb,(k.map _).nodup_iff.2 h.nd⟩,d⟩;have q:=h.qs x (k.mem_iff.1 a);exact⟨q.1.tf d (Z _) (by decide) (by simp),q.2⟩
theorem yK(W:World)(base B:Nat)(l:List Fb)(j:Nat)(h:Ea W base B l)(hj:j<l.length)(A:Pe (C5 l) l.length j)(hn:l.length≤1000000):
  Calls Tryz.prog 292 #[.iface 323 (.pointer (some ⟨B,0,none⟩)),.int .i64 j] W fun e W'=>e=.returned (.tuple #[])/\∃d,d.Perm l/\Hm (C5 d) d.length/\Ea W' base B d/\Tf base [331] [] W W':=by
 have HH:=X h;have HU:=X A;obtain⟨n,u⟩:=Aa l.length;rw[u] at HU hj hn;have HL:=X u;clear h A u;go_in;go_wp2_with fail
 go_loopg [1] j (fun gg vj wr=>∃(j:Nat) (d:List Fb),vj=.int .i64 j/\gg=j/\j<n/\d.Perm l/\Pe (C5 d) n j/\Ea wr base B d/\Tf base [331] [] W wr)
 case atStart=>exact⟨j,l,rfl,rfl,hj,List.Perm.refl _,HU.o,HH.o,Tf.refl _⟩
 case round=>
  obtain⟨k,y,rfl,K,T,E,hu,hh,ht⟩:=hrel;have HP:=X E;have z:=X hu;have r:=X hh;have P:=X ht;have ae:=X K;have a:Hid (y.length=n):=E.length_eq.trans HL.o;clear E hu hh ht K;by_cases V:k=0
  .subst V;rw[show((0:Nat):Int)=0 from rfl];go_wp2_with fail;go_end0;refine⟨rfl,y,HP.o,?_,r.o,P.o⟩;rw[a.o];exact z.o.done (Or.inl rfl)
  .have n1:IntKind.i64.wrap ((k:Int)-1)=((k-1:Nat):Int):=(by rw[a0w];omega)
   obtain⟨k1,I⟩:=Aa (k-1);obtain⟨p,E⟩:=Aa (k1/2)
   have e1:(k1:Int)/2=(p:Int):=(by omega)
   have ah:p<k:=(by omega)
   have zp:((p:Int)==(k:Int))=false:=(by simp;omega)
   have ag:¬(p:Int)=(k:Int):=(by omega)
   have F:(k-1)/2=p:=(by omega)
   rw[I] at n1;have i:=fun h=>z.o.done (Or.inr h);have g:=fun h=>z.o.step r.o.keys (by rw[Vf,a.o];exact Z _) (by omega) T h;rw[F] at i g;have HD:=X i;have ac:=X g;obtain⟨s,m,c,q,hm,L⟩:=r.o.less (by rw[a.o];exact hn);have af:=X (L k p (by rw[a.o];exact T) (by rw[a.o];omega));have t:=bP wr B s m c q;clear i g L I E F hm;go_wp2_with fail;refine af.o.mono ?_;rintro e w2 ⟨b,rfl,N,M,x⟩;have S:=X N;have R:=X M;have Q:=X (r.o.fp x);have O:Hid (Tf base [331] [] W w2):=P.o.trans (Tf.of x);clear N M x t q;cases b
   .go_wp2_with fail;go_end0;refine⟨rfl,y,HP.o,?_,Q.o,O.o⟩;rw[a.o];exact HD.o (by first|exact R.o rfl|exact R.o trivial)
   .obtain⟨s3,m3,c3,q3,U,D⟩:=Q.o.swap (by rw[a.o];omega);have ab:=X (D p k (by rw[a.o];omega) (by rw[a.o];exact T));have t:=bQ w2 B s3 m3 c3 q3;clear D U;go_wp2_with fail;refine ab.o.mono ?_;rintro e w3 ⟨rfl,J,C⟩;have ad:=X J;have aa:Hid (Tf base [331] [] W w3):=O.o.trans C;clear J C t q3;go_wp2_with fail
    go_roundg p
    case measure=>have:=ae.o;omega
    case rel=>
     refine⟨p,_,rfl,rfl,by omega,(Xy (by rw[a.o];omega) (by rw[a.o];exact T)).trans HP.o,?_,ad.o,aa.o⟩;rw[bR];exact ac.o (by first|exact S.o rfl|exact S.o trivial)
theorem yL(W:World)(base B:Nat)(F:List Fb)(n:Nat)(h:Ea W base B F)(ac:n≤F.length)(ak:N7 (C5 F) n 0)(hn:F.length≤1000000):
  Calls Tryz.prog 293 #[.iface 323 (.pointer (some ⟨B,0,none⟩)),.int .i64 0,.int .i64 n] W fun e W'=>(∃b,e=.returned (.bool b))/\∃r,r.Perm F/\(∀i,n<=i->r.getD i K7=F.getD i K7)/\Hm (C5 r) n/\Ea W' base B r/\Tf base [331] [] W W':=by
 have HH:=X h;have HU:=X ak;obtain⟨N,M⟩:=Aa F.length;rw[M] at ac hn;have HL:=X M;clear h ak M;go_in;go_wp2_with fail
 go_loopg [7] n (fun gg vi wr=>∃(i:Nat) (r:List Fb),vi=.int .i64 i/\gg=n-i/\i<=n/\r.Perm F/\(∀i,n<=i->r.getD i K7=F.getD i K7)/\N7 (C5 r) n i/\Ea wr base B r/\Tf base [331] [] W wr)
 case atStart=>exact⟨0,F,rfl,rfl,a2u _,List.Perm.refl _,fun _ _=>rfl,HU.o,HH.o,Tf.refl _⟩
 case round=>
  obtain⟨i,a,rfl,aj,a0,hp,ho,hu,hh,ht⟩:=hrel;have HP:=X hp;have C:=X ho;have P:=X hu;have I:=X hh;have R:=X ht;have az:=X aj;have g:Hid (a.length=N):=hp.length_eq.trans HL.o;clear hp ho hu hh ht aj
  have n1:IntKind.i64.wrap (2*(i:Int))=((2*i:Nat):Int):=by rw[a0w];omega
  have n2:IntKind.i64.wrap (((2*i:Nat):Int)+1)=((2*i+1:Nat):Int):=by rw[a0w];omega
  obtain⟨d,hd⟩:=Aa (2*i);rw[hd] at n1 n2;obtain⟨l,ag⟩:=Aa (d+1);rw[ag] at n2
  have D:Hid (l=2*i+1):=by show l=2*i+1;omega
  clear hd ag;by_cases ar:l<n
  .have z1:¬(n:Int)≤(l:Int):=(by omega)
   have z2:¬(l:Int)<0:=(by omega)
   have n3:IntKind.i64.wrap ((l:Int)+1)=((l+1:Nat):Int):=(by rw[a0w];omega)
   obtain⟨j2,O⟩:=Aa (l+1);rw[O] at n3;have T:=X O;clear O
   have af:j2<n->j2<N:=fun h=>by omega
   go_upto_region 6 with(fail)
   go_cut [33] from 12 to 44 (fun v wx=>∃bb:Bool,v=.bool bb/\(bb=true->j2<n/\Aw (Af (C5 a) j2) (Af (C5 a) l))/\(bb=false->n<=j2∨Aw (Af (C5 a) l) (Af (C5 a) j2))/\Ea wx base B a/\Tf base [331] [] W wx)
   case first=>
    by_cases hb:j2<n
    .have z3:(j2:Int)<(n:Int):=(by omega)
     obtain⟨s,m,c,q,hm,A⟩:=I.o.less (by rw[g.o];exact hn);have U:=X (A j2 l (by rw[g.o];omega) (by rw[g.o];omega));have z:=bP wr B s m c q;clear A hm;go_wp2_with fail;refine U.o.mono ?_;rintro e w2 ⟨b,rfl,u,t,x⟩;have K:=X u;have J:=X t;have y:=X (I.o.fp x);have Q:Hid (Tf base [331] [] W w2):=R.o.trans (Tf.of x);clear u t x z q;go_wp2_with fail
     go_meet
     case rel=>exact⟨b,rfl,fun h=>⟨hb,K.o h⟩,fun h=>Or.inr (J.o h),y.o,Q.o⟩
    .have z3:¬(j2:Int)<(n:Int):=(by omega)
     go_wp2_with fail
     go_meet
     case rel=>exact⟨false,rfl,(fun h=>by cases h),fun _=>Or.inl (by omega),I.o,R.o⟩
   case rest=>
    obtain⟨bb,rfl,u,t,ai,aa⟩:=hcut;have K:=X u;have J:=X t;have y:=X ai;have Q:=X aa;clear u t ai aa af;obtain⟨wA,ap⟩:=Bz wc;subst ap
    go_upto_if 33 with(fail)
    go_cut [9] from 12 to 44 (fun v wx=>∃j:Nat,v=.int .i64 j/\0<j/\j<n/\(j-1)/2=i/\(∀c,0<c->c<n->(c-1)/2=i->Aw (Af (C5 a) j) (Af (C5 a) c))/\wA=wx)
    case first=>
     cases bb
     .have p:Hid (∀c,0<c→c<n→(c-1)/2=i→Aw (Af (C5 a) l) (Af (C5 a) c)):=by
       intro c h1 h2 h3;have h4:=D.o;have h5:=T.o;by_cases e:c=l
       .rw[e];exact Int.le_of_eq (Oq (y.o.keys.at _))
       .have e2:c=j2:=(by omega)
        rw[e2];rcases(by first|exact J.o rfl|exact J.o trivial:n<=j2∨Aw (Af (C5 a) l) (Af (C5 a) j2)) with h|h
        .omega
        .exact h
      have HQ:Hid (0<l/\(l-1)/2=i):=by have h4:=D.o;show 0<l/\(l-1)/2=i;omega
      go_wp2_with fail
      go_meet
      case rel=>exact⟨l,rfl,HQ.o.1,ar,HQ.o.2,p.o,rfl⟩
     .have hb:=(by first|exact K.o rfl|exact K.o trivial:j2<n∧Aw (Af (C5 a) j2) (Af (C5 a) l))
      have HB:=X hb;clear hb;have p:Hid (∀c,0<c→c<n→(c-1)/2=i→Aw (Af (C5 a) j2) (Af (C5 a) c)):=by
       intro c h1 h2 h3;have h4:=D.o;have h5:=T.o;by_cases e:c=l
       .rw[e];exact HB.o.2
       .have e2:c=j2:=(by omega)
        rw[e2];exact Int.le_of_eq (Oq (y.o.keys.at _))
      have HQ:Hid (0<j2/\(j2-1)/2=i):=by have h4:=D.o;have h5:=T.o;show 0<j2/\(j2-1)/2=i;omega
      go_wp2_with fail
      go_meet
      case rel=>exact⟨j2,rfl,HQ.o.1,HB.o.1,HQ.o.2,p.o,rfl⟩
    case rest=>
     obtain⟨j,rfl,au,ae,ad,L,rfl⟩:=hcut;have p:=X L;have am:=X ad;clear L ad
     have a1:i<j:=by have:=am.o;omega
     obtain⟨s,m,c,q,hm,A⟩:=y.o.less (by rw[g.o];exact hn);have U:=X (A j i (by rw[g.o];omega) (by rw[g.o];omega));have z:=bP wA B s m c q;clear A hm;go_wp2_with fail;refine U.o.mono ?_;rintro e w2 ⟨b,rfl,u,t,x⟩;have ao:=X u;have an:=X t;have E:=X (y.o.fp x);have al:Hid (Tf base [331] [] W w2):=Q.o.trans (Tf.of x);clear u t x z q;cases b
     .go_wp2_with fail;go_ret;refine⟨⟨_,rfl⟩,a,HP.o,C.o,P.o.done fun c h1 h2 h3=>?_,E.o,al.o⟩
      have h5:Aw (Af (C5 a) i) (Af (C5 a) j):=by first|exact an.o rfl|exact an.o trivial
      exact Aw.trans (E.o.keys.at _) (E.o.keys.at _) (E.o.keys.at _) h5 (p.o c h1 h2 h3)
     .have ax:Hid (Aw (Af (C5 a) j) (Af (C5 a) i)):=by first|exact ao.o rfl|exact ao.o trivial
      have S:Hid (N7 (I4 (C5 a) i j) n j):=P.o.step (by rw[Vf,g.o];exact ac) au ae am.o p.o ax.o;obtain⟨s3,m3,c3,q3,aq,ab⟩:=E.o.swap (by rw[g.o];omega);have aw:=X (ab i j (by rw[g.o];omega) (by rw[g.o];omega));have z:=bQ w2 B s3 m3 c3 q3;clear ab aq;go_wp2_with fail;refine aw.o.mono ?_;rintro e w3 ⟨rfl,ah,V⟩;have ay:=X ah;have av:Hid (Tf base [331] [] W w3):=al.o.trans V;clear ah V z q3;go_wp2_with fail
      go_roundg (n-j)
      case measure=>have:=az.o;omega
      case rel=>
       refine⟨j,_,rfl,rfl,by omega,(Xy (by rw[g.o];omega) (by rw[g.o];omega)).trans HP.o,fun k hk=>?_,?_,ay.o,av.o⟩
       .rw[yJ (by omega) (by omega)];exact C.o k hk
       .rw[bR];exact S.o
  .have z1:(n:Int)<=(l:Int):=(by omega)
   go_wp2_with fail;go_ret;refine⟨⟨_,rfl⟩,a,HP.o,C.o,P.o.done fun c h1 h2 h3=>?_,I.o,R.o⟩;have:=D.o;omega
theorem Ea.noB{W:World}{base B:Nat}{g:List Fb}(h:Ea W base B g){q:Nat}{r:List Ad}(c:Jt W base q r):q≠B:=by
 intro e;subst e;obtain⟨v,d,_⟩:=h.box;obtain⟨b,o,n,cap,a,_⟩:=c.ex;rw[d] at a;cases a
theorem Ea.tf{W W':World}{base base' B:Nat}{D:List TypeId}{S:List Nat}{es:List Fb}(h:Ea W base B es)(m:Tf base' D S W W')(r:base≤base')(u:331∉D)(t:325∉D)(s:329∉D)
  (i:∀k∈S,base<=k/\k≠B/\(∀x∈es,k≠x.1.q)/\∀c y,W.heap[k]?≠some (.cells c 331 y)):Ea W' base B es:=by
 obtain⟨v,l,a⟩:=h.box;refine⟨⟨v,m.cells l (fun n=>(i _ n).2.1 rfl) t,a.tf m u fun k d n=>?_⟩,fun x j=>⟨(h.qs x j).1.tf m r s fun k d=>⟨(i k d).1,(i k d).2.2.1 x j⟩,(h.qs x j).2⟩,h.ok,h.bb,h.nd⟩;rcases a.2 with⟨rfl,_⟩|⟨g,cap,z,rfl,_,p,_⟩
 .cases d
 .obtain rfl:g=k:=by simpa [Value.ownBlock] using d
  exact(i _ n).2.2.2 _ _ p
def S5(x:Fb):Value:=.iface 331 (.agg #[.pointer (some ⟨x.1.q,0,none⟩),.int .i64 x.1.at_])
theorem lD(W:World)(base B:Nat)(c:List Fb)(x:Fb)(h:Ea W base B c)(ho:Hm (C5 c) c.length)(S:Jt W base x.1.q x.2)(h0:0<x.2.length)(I:Be x.2)(l:x.1.q∉c.map (·.1.q))(O:base≤W.heap.size)(hn:c.length≤999999):
  Calls Tryz.prog 270 #[.iface 323 (.pointer (some ⟨B,0,none⟩)),S5 x] W fun e W'=>e=.returned (.tuple #[])/\∃d,d.Perm (x::c)/\Hm (C5 d) d.length/\Ea W' base B d/\Tf base [331] [B] W W':=by
 obtain⟨v,C,A⟩:=h.box;have HP:=X (Adn W base B v (c.map (·.1)) x.1 C A O (by rw[a0v];omega));have HQ:=X S;have t:=X h;have HO:=X ho;have ac:=X (h.noB S);have ab:=X I;have M:=X l;have T:=yH W ⟨B,0,none⟩;clear C A h ho S I l;unfold S5;go_in;go_wp2_with fail;refine HP.o.mono ?_;rintro e z ⟨rfl,⟨v1,j,s⟩,i⟩;have L:Ea z base B (c++[x]):=by
  refine⟨⟨v1,j,by rw[a1z];exact s⟩,fun y g=>?_,fun y g=>?_,t.o.bb,?_⟩
  .rcases List.mem_append.1 g with g|g
   .have u:=t.o.qs y g;refine⟨u.1.tf i (Z _) (by decide) fun k U=>?_,u.2⟩;rw[List.mem_singleton.1 U];exact⟨t.o.bb,Ne.symm (t.o.noB u.1)⟩
   .rw[List.mem_singleton.1 g];refine⟨HQ.o.tf i (Z _) (by decide) fun k U=>?_,h0⟩;rw[List.mem_singleton.1 U];exact⟨t.o.bb,Ne.symm ac.o⟩
  .rcases List.mem_append.1 g with g|g
   .exact t.o.ok y g
   .rw[List.mem_singleton.1 g];exact ab.o
  .rw[a1z,List.nodup_append];refine⟨t.o.nd,by simp,fun a ha b O e=>?_⟩;rw[a3w,List.map_nil,List.mem_singleton] at O;rw[e,O] at ha;exact M.o ha
 have D:Pe (C5 (c++[x])) (c++[x]).length c.length:=by
  have u:=HO.o;rw[<-Vf] at u;have V:=u.push (Gi x);rw[Vf] at V;unfold C5 at V ⊢;rw[a1z,a1w];exact V
 have HU:=X (yK z base B (c++[x]) c.length L (by simp) D (by simp;omega));obtain⟨Q,P,R,-,-⟩:=s.len;subst R
 have r:(c.map (·.1)++[x.1]).length=c.length+1:=by simp
 rw[r] at j;have q1:z.cell? ⟨B,0,none⟩=some (.slice Q (c.length+1) P):=Ab j 0;have p:=lB z B Q (c.length+1) P q1;have aa:=X i;obtain⟨n,J⟩:=Aa c.length;rw[J] at p hn HU
 have n1:IntKind.i64.wrap (((n+1:Nat):Int)-1)=(n:Int):=by rw[a0w];omega
 obtain⟨m,hm⟩:=Aa (n+1);rw[hm] at n1 p;have N:=X (dB z Q m P);clear j s i L D T r q1 hm J;go_wp2_with fail;refine N.o.mono ?_;rintro e w2 ⟨rfl,rfl⟩;go_wp2_with fail;refine HU.o.mono ?_;rintro e w3 ⟨rfl,d,hp,F,K,E⟩;have H1:=X hp;have H2:=X F;have H3:=X K;have H4:=X (aa.o.trans E);clear hp F K E;go_wp2_with fail;go_end0;exact⟨rfl,d,H1.o.trans (List.perm_append_singleton x c),H2.o,H3.o,H4.o⟩
theorem yM(W:World)(base B:Nat)(es:List Fb)(h:Ea W base B es)(ho:Hm (C5 es) es.length)(h0:0<es.length)(hn:es.length≤1000000):
  Calls Tryz.prog 272 #[.iface 323 (.pointer (some ⟨B,0,none⟩))] W fun e W'=>∃x u,e=.returned (S5 x)/\(x::u).Perm es/\Hm (C5 u) u.length/\Ea W' base B u/\Jt W' base x.1.q x.2/\(∀y∈es,Aw (Gi x) (Gi y))/\Tf base [331] [B] W W':=by
 have HH:=X h;have HO:=X ho
 obtain⟨n,J⟩:∃n,es.length=n+1:=⟨es.length-1,by omega⟩
 have a:=X J;obtain⟨s,m,c,q,hm,P⟩:=h.swap h0;have T:=lB W B s m c q;have S:=bQ W B s m c q;have ai:=X (dB W s m c);have af:=X (P 0 n h0 (by omega));rw[J] at hm hn
 have n1:IntKind.i64.wrap ((m:Int)-1)=(n:Int):=by rw[a0w];omega
 rw[show((0:Nat):Int)=0 from rfl] at af;clear h ho J P hm h0;go_in;go_wp2_with fail;refine ai.o.mono ?_;rintro e w0 ⟨rfl,rfl⟩;go_wp2_with fail;refine af.o.mono ?_;rintro e w1 ⟨rfl,aa,O⟩
 have U:(Ho K7 es 0 n).length=n+1:=by rw[Adk];exact a.o
 have ac:N7 (C5 (Ho K7 es 0 n)) n 0:=by
  rw[bR];have g:=HO.o;rw[a.o] at g;exact g.pop (by rw[Vf];exact a.o)
 have aq:=X (yL w1 base B _ n aa (by omega) ac (by omega));have am:=X O;have ap:=X U;clear aa O U ac T S q;go_wp2_with fail;refine aq.o.mono ?_;rintro e w2 ⟨⟨bz,rfl⟩,es2,I,p,D,K,N⟩;have ak:es2.length=n+1:=I.length_eq.trans ap.o;have j:es2=es2.take n++[es2.getD n K7]:=by
  rw[Y,a0z (by omega)]
  show es2=es2.take n++[es2[n]]
  rw[List.take_append_getElem (by omega),show n+1=es2.length by omega,List.take_length]
 obtain⟨x,hx⟩:=Aa (es2.getD n K7);obtain⟨r,V⟩:=Aa (es2.take n);have C:Hm (C5 r) r.length:=by
  have e1:r.length=n:=by rw[<-V,a1x];omega
  rw[e1];refine D.frame fun i hi=>?_;rw[S4 (by omega),S4 (by omega)];congr 1;subst V;rw[List.getElem_take]
 rw[hx,V] at j;have L:x=es.getD 0 K7:=by
  rw[<-hx,p n (Z _)];by_cases e:n=0
  .subst e;rw[oJ]
  .unfold Ho;rw[Y,List.getElem?_set_self (by rw[List.length_set,a.o];omega)];rfl
 have E:∀y∈es,Aw (Gi x) (Gi y):=by
  intro y t;obtain⟨i,hi,ei⟩:=List.mem_iff_getElem.1 t;have g:=Hm.root HH.o.keys HO.o i hi;rw[S4 hi,S4 (by have:=a.o;omega),ei] at g;rw[L,Y,a0z (by have:=a.o;omega)];exact g
 have Q:(x::r).Perm es:=by
  have g:es2.Perm es:=I.trans (Xy (by rw[a.o];omega) (by rw[a.o];omega));rw[j] at g;exact(List.perm_append_singleton x r).symm.trans g
 obtain⟨v2,A,z⟩:=K.box;have l:=z;rw[j,a1z] at l;have ag:=X (Ado w2 base B v2 (r.map (·.1)) x.1 A l (by rw[a0v,<-V,a1x];omega));have aj:=yI w2 ⟨B,0,none⟩;have d:=X K;have ae:=X j;have ao:=X C;have ah:=X E;have an:=X Q;have al:=X (am.o.trans N);clear I p D K N hx V C j L E Q A z l ak;go_wp2_with fail;refine ag.o.mono ?_;rintro e w3 ⟨rfl,⟨v3,ad,R⟩,ab⟩;have H1:=X ad;have H2:=X R;have H3:=X ab;clear ad R ab aj;go_wp2_with fail;go_ret;have M:Tf base [331] [B] w2 w3:=Tf.of H3.o
 have F:∀y,y∈r∨y=x->y∈es2:=fun y t=>by rw[ae.o];rcases t with h|h<;>simp[h]
 have hq:∀y,y∈r∨y=x->Jt w3 base y.1.q y.2/\0<y.2.length:=fun y t=>by
  have g:=d.o.qs y (F y t);refine⟨g.1.tf M (Z _) (by decide) fun k hk=>?_,g.2⟩;rw[List.mem_singleton.1 hk];exact⟨d.o.bb,Ne.symm (d.o.noB g.1)⟩
 refine⟨x,r,rfl,an.o,ao.o,⟨⟨v3,H1.o,H2.o⟩,fun y t=>hq y (Or.inl t),fun y t=>d.o.ok y (F y (Or.inl t)),d.o.bb,?_⟩,(hq x (Or.inr rfl)).1,ah.o,(al.o.mono (by simp)).trans M⟩;have:=d.o.nd;rw[ae.o,a1z] at this;exact(List.nodup_append.1 this).1
end
section
open Go.RowKit Go.Lib
theorem lE{w:World}{o:Oper}{a:Act}{K:Act→World→Prop}{Q:Exit→Act→World→Prop}(s x:Operand)
  (M:o.op=.call {callee:=.builtin .append,args:=#[s,x],argTypes:=#[159,159]})(base:Nat)(v:Value)(rs:List (List Ad))(L:a.eval s=v)(l:Gp w base v rs)
  (g:Nat)(t:Value)(r:List Ad)(J:t.oneCell'=true)(A:Ag A8 w base t r)(F:a.eval x=.slice (some ⟨g,0,none⟩) 1 1)(R:w.cell? ⟨g,0,none⟩=some t)(C:rs.length+1<=1000000000)(c:base<=w.heap.size)
  (h:∀n w',Gp w' base n (rs++[r])->Below base w w'->Ao 221 base [] w w'->K (a.put o.dst n) w'):o.wp Tryz.prog a w K Q:=by
 obtain⟨d,z,B⟩:=l;have I:d.length=rs.length:=B.length_eq;obtain⟨E,O,y,q,p⟩:=info_parts Tryz.infoRun;refine wp_append_own (P:=Tryz.prog) w s x 159 M base 162 E _ 1 24 Tryz.underlying159 O y q p rfl (by decide) v d.length d L z ⟨g,0,none⟩ 1 1 [t] F rfl ?_ (by intro u i;simp at i;subst i;exact J) (by unfold maxLen;omega) (by omega) c ?_
 .intro j u i;have N:j=0:=by
   have:=(List.getElem?_eq_some_iff.1 i).1
   simpa using this
  subst N;simp at i;subst i
  have T:(⟨g,0,none⟩:Addr).add 0=⟨g,0,none⟩:=by unfold Addr.add;split<;>simp_all
  rw[T];exact R
 .intro n w' S D _;have m:=Vx (show 221≠162 by decide) z D c;refine h n w' ⟨d++[t],?_,Ro (B.keptT m) (Ag.keptT A m)⟩ ((Below.refl base w).grown D c (fun k m=>(World.ownsRow.lt z k m).1)) m;unfold An;rw[a1w];exact S
structure Ge(G:List Ad->Prop)(w W0:World)(base cl:Nat)(v:Value)(rs:List (List Ad))(b:Nat->Bool)(vs:Nat->Value)(W:World):Prop where
 own0:b 4=false->Gp W base v rs
 own1:b 4=true->∃r,G r/\Gp W base (vs 4) (rs++[r])
 res:b 2=true->b 4=false->∃r,G r/\Ag A8 W base (vs 2) r
 bld:b 3=true->b 4=false->∃g,vs 3=.slice (some ⟨g,0,none⟩) 1 1/\W.cell? ⟨g,0,none⟩=some (vs 2)
 cel:W.heap[cl]?=some (.cells #[if b 5=true then vs 4 else v] 159 (0,0))
 kept:Ao 221 base [cl] W0 W
 fp:Fp [] w W
 o54:b 5=true->b 4=true
 o43:b 4=true->b 3=true
 o32:b 3=true->b 2=true
 sz:base<=W.heap.size
variable {G : List Ad -> Prop} {w W0 W W2 : World} {base cl : Nat} {v : Value} {rs : List (List Ad)} {b : Nat -> Bool} {vs : Nat -> Value}
theorem E6{a c:Bool}(h:a=true->c=true)(d:c=false):a=false:=by cases a<;>cases c<;>simp_all
theorem Ge.start{vs:Nat->Value}(c:Gp W0 base v rs)(g:W0.heap[cl]?=some (.cells #[v] 159 (0,0)))(d:Fp [] w W0)(i:base<=W0.heap.size)(a:cl<base):Ge G w W0 base cl v rs (fun _=>false) vs {W0 with drawn:=W0.drawn+1}:=
 ⟨fun _=>c.fp (Fp.drew W0),(fun h=>by cases h),(fun h=>by cases h),(fun h=>by cases h),g,Ao.of ((Fp.drew W0).mono (by simp)) (by simpa using a),d.trans (Fp.drew W0),(fun h=>by cases h),(fun h=>by cases h),(fun h=>by cases h),i⟩
theorem Ge.plain{k:Nat}{x:Value}(h:Ge G w W0 base cl v rs b vs W)(i:k≠2/\k≠3/\k≠4/\k≠5):Ge G w W0 base cl v rs (Ak b k) (B6 vs k x) W:=by
 obtain⟨d,c,a,g⟩:=i;refine⟨?_,?_,?_,?_,?_,h.kept,h.fp,?_,?_,?_,h.sz⟩
 .rw[Ah a.symm];exact h.own0
 .rw[Ah a.symm,Bd a.symm];exact h.own1
 .rw[Ah a.symm,Ah d.symm,Bd d.symm];exact h.res
 .rw[Ah a.symm,Ah c.symm,Bd c.symm,Bd d.symm];exact h.bld
 .rw[Ah g.symm,Bd a.symm];exact h.cel
 .rw[Ah g.symm,Ah a.symm];exact h.o54
 .rw[Ah a.symm,Ah c.symm];exact h.o43
 .rw[Ah c.symm,Ah d.symm];exact h.o32
theorem Ge.first(h:Ge G w W0 base cl v rs b vs W)(a:b 4=false):W.heap[cl]?=some (.cells #[v] 159 (0,0)):=by
 have:=h.cel;rw[E6 h.o54 a] at this;exact this
theorem Ge.call{r:List Ad}{d:Value}(h:Ge G w W0 base cl v rs b vs W)(l:b 2=false)(a:Fp [] W W2)(k:G r)(j:Ag A8 W2 W.heap.size d r):Ge G w W0 base cl v rs (Ak b 2) (B6 vs 2 d) W2:=by
 have i:=E6 h.o32 l;have c:=E6 h.o43 i;have g:=E6 h.o54 c;refine⟨fun _=>(h.own0 c).fp a,fun e=>?_,fun _ _=>⟨r,k,by rw[Gu];exact j.mono h.sz⟩,fun e=>?_,?_,?_,h.fp.trans a,fun e=>?_,fun e=>?_,fun e=>?_,a2x h.sz a.size⟩
 .rw[Ah (by decide),c] at e;cases e
 .rw[Ah (by decide),i] at e;cases e
 .rw[Ah (by decide),g];exact(a.block _ (Ae h.cel) (by simp)).trans (h.first c)
 .exact h.kept.trans (Ao.of (a.mono (by simp):Fp [] W W2) (by simp))
 .rw[Ah (by decide),g] at e;cases e
 .rw[Ah (by decide),c] at e;cases e
 .exact Eg _ _
theorem Ge.build(h:Ge G w W0 base cl v rs b vs W)(g:b 2=true)(k:b 3=false):Ge G w W0 base cl v rs (Ak b 3) (B6 vs 3 (.slice (some ⟨W.heap.size,0,none⟩) 1 1)) (W.alloc (.cells #[vs 2] 162)):=by
 have a:=E6 h.o43 k;have d:=E6 h.o54 a;have c:=Fp.alloc W (.cells #[vs 2] 162);refine⟨fun _=>(h.own0 a).fp c,fun e=>?_,fun _ _=>?_,fun _ _=>⟨W.heap.size,Gu _ _ _,?_⟩,?_,?_,h.fp.trans c,fun e=>?_,fun e=>?_,fun e=>?_,a2x h.sz c.size⟩
 .rw[Ah (by decide),a] at e;cases e
 .obtain⟨r,j,i⟩:=h.res g a;exact⟨r,j,by rw[Bd (by decide)];exact i.fp c⟩
 .rw[Bd (by decide),Ab (Ai rfl _)];rfl
 .rw[Ah (by decide),d];exact Dy (h.first a)
 .exact h.kept.trans (Ao.of (c.mono (by simp):Fp [] W _) (by simp))
 .rw[Ah (by decide),d] at e;cases e
 .rw[Ah (by decide),a] at e;cases e
 .rw[Ah (by decide)];exact g
theorem Ge.append{r:List Ad}{g:Value}(h:Ge G w W0 base cl v rs b vs W)(k:b 3=true)(j:b 4=false)(n:G r)(l:Gp W2 base g (rs++[r]))(d:Below base W W2)(m:Ao 221 base [] W W2)(c:cl<base)(a:w.heap.size≤base):
  Ge G w W0 base cl v rs (Ak b 4) (B6 vs 4 g) W2:=by
 have i:=E6 h.o54 j;refine⟨fun e=>?_,fun _=>⟨r,n,by rw[Gu];exact l⟩,fun _ e=>?_,fun _ e=>?_,?_,h.kept.trans m,h.fp.belowTrans (d.mono a),fun e=>?_,fun _=>?_,fun e=>?_,a2x h.sz d.size⟩
 .rw[Eg] at e;cases e
 .rw[Eg] at e;cases e
 .rw[Eg] at e;cases e
 .rw[Ah (by decide),i];exact(d.block _ c).trans (h.first j)
 .rw[Ah (by decide),i] at e;cases e
 .rw[Ah (by decide)];exact k
 .rw[Ah (by decide)];exact h.o32 k
theorem Ge.store(h:Ge G w W0 base cl v rs b vs W)(a:b 4=true)(c:cl<base)(g:w.heap.size<=cl):Ge G w W0 base cl v rs (Ak b 5) (B6 vs 5 undef) (W.setCell ⟨cl,0,none⟩ (vs 4)):=by
 have d:Fp [cl] W (W.setCell ⟨cl,0,none⟩ (vs 4)):=Fp.setCell W ⟨cl,0,none⟩ (vs 4);refine⟨fun e=>?_,fun _=>?_,fun _ e=>?_,fun _ e=>?_,?_,h.kept.trans (Ao.of d (by simpa using c)),h.fp.trans d (by intro i k;right;simp at k;omega),fun _=>?_,fun e=>?_,fun e=>?_,a2x h.sz d.size⟩
 .rw[Ah (by decide),a] at e;cases e
 .obtain⟨r,l,j⟩:=h.own1 a;exact⟨r,l,by rw[Bd (by decide)];exact j.fp d (by simpa using c)⟩
 .rw[Ah (by decide),a] at e;cases e
 .rw[Ah (by decide),a] at e;cases e
 .rw[Eg,if_pos rfl,Bd (by decide)];exact(Cf h.cel _).trans rfl
 .rw[Ah (by decide)];exact a
 .rw[Ah (by decide)];exact h.o43 a
 .rw[Ah (by decide)];rw[Ah (by decide)] at e;exact h.o32 e
theorem Ge.slice(h:Ge G w W0 base cl v rs b vs W)(g:b 4=true):∃a n c,vs 4=.slice a n c:=by
 obtain⟨r,_,d⟩:=h.own1 g;exact d.slice
end
section
open Go.RowKit Go.Lib
theorem Gp.mono{W:World}{base base':Nat}{v:Value}{rs:List (List Ad)}(h:Gp W base v rs)(c:base'<=base):Gp W base' v rs:=by
 obtain⟨a,g,d⟩:=h;exact⟨a,g.mono c,J9 (fun _ _ h=>Ag.mono h c) d⟩
theorem bS(c len i:Nat):∀x∈D1 c len i,x.1+x.2≤len∧x.2≤c∧0<x.2:=by
 intro x a;rw[D1] at a;split at a
 .rename_i h;rcases List.mem_cons.1 a with rfl|a
  .simp only;omega
  .exact bS c len (i+c) x a
 .cases a
 termination_by len-i
def Lt(l:List Ad)(x:Nat × Nat):List Ad:=(l.drop x.1).take x.2
theorem Bj.keptT{α:Type}{R:Hv α}{T:TypeId}{base:Nat}{S:List Nat}{W W':World}{b o n:Nat}{l:List α}(h:Bj R W (some ⟨b,o,none⟩) n l)(c:Ao T base S W W')(m:b<base)(p:b∉S):Bj R W' (some ⟨b,o,none⟩) n l:=by
 refine⟨h.len,?_⟩;rcases h.cells with q|⟨s,r,e,a,k⟩
 .exact Or.inl q
 .cases e;exact Or.inr ⟨b,o,rfl,a1v a c.size,fun i g j u d=>(World.cell?_of_block (w:=W) (c.low b m a p)).trans (k i g j u d)⟩
theorem Bj.fpS{α:Type}{R:Hv α}{S:List Nat}{W W':World}{b o n:Nat}{l:List α}(h:Bj R W (some ⟨b,o,none⟩) n l)(c:Fp S W W')(j:b∉S):Bj R W' (some ⟨b,o,none⟩) n l:=by
 refine⟨h.len,?_⟩;rcases h.cells with k|⟨p,m,e,a,g⟩
 .exact Or.inl k
 .cases e;exact Or.inr ⟨b,o,rfl,a1v a c.size,fun i d=>(g i d).fp c a j⟩
theorem Xz(l:List Ac)(k i:Nat)(a:i<(J7 l k).length):(J7 l k)[i]=⟨l.getD i Aq,i⟩:=by
 unfold J7;simp
theorem Nx{l:List Ac}(h:∀c∈l,Di c)(g:l.length<=1000000):Be (C4 l):=by
 intro x a;obtain⟨i,d,e⟩:=List.mem_iff_getElem.1 a;have j:(C4 l).length=l.length:=O9 l _;rw[<-e,show(C4 l)[i]=⟨l.getD i Aq,i⟩ from Xz l l.length i d];refine⟨?_,by show i<_;omega⟩;show Di (l.getD i Aq);rw[Y,a0z (by omega)];exact h _ (a2w _)
theorem yN(l:List Ac):(C4 l).map (·.pos)=List.range l.length:=by
 unfold C4 J7;rw[List.map_map];exact List.map_id' _
theorem lF{l:List Ad}(h:Be l)(x:Nat × Nat):Be (Lt l x):=fun y a=>h y (List.mem_of_mem_drop (List.mem_of_mem_take a))
theorem yO{l:List Ad}(h:(l.map (·.pos)).Nodup)(x:Nat × Nat):((Lt l x).map (·.pos)).Nodup:=by
 unfold Lt;rw[List.map_take,List.map_drop];exact List.Sublist.nodup ((List.take_sublist _ _).trans (List.drop_sublist _ _)) h
structure X0(w:World)(base b o n lim:Nat)(l:List Ad)(pre:List (Nat × Nat))(W:World):Prop where
 ex:∃v rs,W.heap[w.heap.size]?=some (.cells #[v] 159 (0,0))/\Gp W base v rs/\Dn (fun x r=>Bf (Lt l x) r) pre rs
 fp:Fp [] w W
 q:Bj A8 W (some ⟨b,o,none⟩) n l
 bl:w.heap.size<b/\b<lim
theorem X0.on{w A B:World}{base b o n a:Nat}{l:List Ad}{c:List (Nat × Nat)}{S:List Nat}(h:X0 w base b o n a l c A)(d:Fp S A B)(g:∀k∈S,a<=k/\k<base):X0 w base b o n a l c B:=by
 obtain⟨v,rs,m,p,r⟩:=h.ex;have s:=h.bl;refine⟨⟨v,rs,(d.block _ (Ae m) fun i=>by have:=g _ i;omega).trans m,p.fp d fun k j=>(g k j).2,r⟩,h.fp.trans d fun k j=>Or.inr (by have:=g k j;omega),h.q.fpS d (fun i=>by have:=g _ i;omega),h.bl⟩
def lG(a:Option Addr)(b o n cap cap1 m c1 c2:Nat)(x:Nat × Nat):Act:={tmps:=#[.slice a n cap,.int .i64 m,undef,undef,.pointer (some ⟨c1,0,none⟩),.int .i64 0,Up b o x,.int .i64 m,.bool false,.slice a n cap,.slice (some ⟨b,o,none⟩) n cap1,.int .i64 m,.func (.func 215) #[] #[.pointer (some ⟨c2,0,none⟩),.pointer (some ⟨c2+1,0,none⟩)],Up b o x,undef,undef,undef,undef,undef,undef],defers:=[]}
attribute [local go_sem] Oper.semAt_some
theorem lH(w:World)(a:Option Addr)(n cap m:Nat)(l:List Ac)(hl:Ba w a n l)(hn:n≤1000000)(ac:0<m)(hm:m<2^63)(h0:0<n):
  Calls Tryz.prog 85 #[.slice a n cap,.int .i64 m] w fun e w'=>∃v rs,e=.returned (.tuple #[v,.int .i64 0])/\Gp w' w.heap.size v rs/\Dn (fun x r=>Bf (Lt (C4 l) x) r) (D1 m n 0) rs/\Fp [] w w':=by
 have a9:=X (fun w v a len cap (u:v=.slice a len cap)=>rE w m ac v a len cap u);have a6:=X (fun w (hl:Ba w a n l)=>Acn w a n cap l hl hn);have a8:=X (Nx hl.ok (by have:=hl.len;omega))
 have a7:Hid (((C4 l).map (·.pos)).Nodup):=by rw[yN];exact List.nodup_range
 have HL:=X hl;clear hl
 have z1:¬(m:Int)<1:=by omega
 rw[<-callsIn_wide (n:=5)];refine callsIn_of_wp_marks Tryz.func85 rfl trivial ?_ rfl;simp only[Tryz.ntmps85,List.size_toArray,a2v,List.length_nil,Nat.reduceAdd,Nat.reduceSub,Array.replicate_succ,Array.replicate_zero,List.push_toArray,List.append_toArray,List.nil_append,List.cons_append]
 gi_wp2_with fail
 refine⟨trivial,?_⟩;refine((callsIn_wide (n:=4)).2 (a6.o _ (HL.o.fp (Fp.alloc _ _)))).mono ?_;rintro e C ⟨v1,rfl,U,t⟩;obtain⟨a1,R,rfl,_,V,L⟩:=U.at;have z:(C4 l).length=n:=(O9 l _).trans HL.o.len.symm;obtain⟨b,o,rfl,ax,ay⟩:∃b o,a1=some ⟨b,o,none⟩/\b<C.heap.size/\w.heap.size<b:=by
  rcases L.cells with h|⟨b,o,h1,h2,_⟩
  .rw[h] at z;simp at z;omega
  .exact⟨b,o,h1,h2,by have:=U.lt b (by rw[h1];rfl);simp at this;omega⟩
 rw[z] at V L ⊢;have ah:=X ((t.block _ (by simp) (by simp)).trans (Ai rfl _):C.heap[w.heap.size]?=some (.cells #[.slice none 0 0] 159 (0,0)));have a4:=X L;have ba:Hid (Fp [] w C):=(Fp.alloc _ _).trans t;have bn:=X z;have a5:=X V;clear L t z V U
 gi_wp2_with fail
 refine⟨trivial,?_⟩;refine((callsIn_wide (n:=4)).2 (a9.o _ _ _ _ _ rfl)).mono ?_;rintro e w2 ⟨rfl,ae,af,ad⟩;have bc:=X ae;have ai:=X af;have aa:=X ad;clear ae af ad
 gi_wp2_with fail
 have aj:w.heap.size<C.heap.size:=Ae ah.o;have be:C.heap.size+1<w2.heap.size:=Ae ai.o
 refine Vw (α:=Nat × Nat) (encs:=We b o) rfl (enters_of Tryz.func215 (by kernel_rfl) rfl) (fun _=>rfl) 221 [w.heap.size] [] (by simp;omega) (by simp) (C.heap.size) (by omega) 0
  (fun I x=>∃N,D1 m n 0=I++x::N) (X0 w (w2.heap.size+2) b o n C.heap.size (C4 l)) (fun _ _=>False) (fun xs _=>xs=D1 m n 0)
  (fun _=>True) (fun s A B k h hf hk=>h.on hf (by simp;omega)) (fun s A B h hf _=>h.on hf (by simp;omega)) (fun _ _ _ h _=>h) (fun _ _ _ h _=>h) ?_ ?_ (fun x a' _=>a'=lG a b o n cap R m w.heap.size C.heap.size x) (fun _ _ _ _ h _=>h) ?_ ?_ ?_ (fun _ _ h=>h.elim)
 .intro J Jx W1 t bd hJ hY az;exact rD (w2.heap.size+2) (w2.heap.size+1) (5-1) C.heap.size (C.heap.size+1) m ac hm W1 b o n R (by decide) ((t.block _ (by omega) (by simp)).trans bc.o) ((t.block _ (by omega) (by simp)).trans ai.o) a5.o (by omega) (by omega) (by omega) (by omega) (by omega) [w.heap.size] (by intro k hk;simp only[List.mem_cons,a0x,or_false] at hk;omega) J Jx (fun s A B h hf=>hJ s A B h (hf.mono (by simp)) trivial) hY az
 .exact⟨⟨.slice none 0 0,[],(aa.o.block _ aj (by simp)).trans ah.o,Gp.nil _ _,.nil⟩,ba.o.trans aa.o,a4.o.fp aa.o,ay,ax⟩
 .intro l x W K hW j;simp only[We]
  gi_wp2_with fail
  exact j _ _ (Fp.refl _ _) rfl
 .rintro l' I ⟨S,xm⟩ a' W ⟨N,p⟩ Q hW rfl;have hx:=bS m n 0 (S,xm) (by rw[p];simp);obtain⟨am,al,ak⟩:=hx;simp only at am al ak;obtain⟨v,rs,u,ho,ha⟩:=Q.ex;have bf:rs.length=I.length:=ha.length_eq.symm;have bg:I.length+1≤1000000000:=by
   have h1:=Wc m n 0;rw[p,a1w,a2v] at h1;omega
  have T:Bj A8 W (some ⟨b,o+S*7,none⟩) xm (Lt (C4 l) (S,xm)):=(Q.q.drop S (n-S) (by omega)).take xm (by omega);have bh:(Lt (C4 l) (S,xm)).length=xm:=T.len.symm;have a3:=X (fun ab (h:Ao 221 (w2.heap.size+2) [w.heap.size] W ab)=>Ac0 ab _ _ xm _ (T.keptT h (by omega) (by simp;omega)) (by simp) (lF a8.o _) (yO a7.o _) (by omega) (by omega));have HI:=X Q;have HV:=X u;have HO:=X ho;have HA:=X ha;have hW:w2.heap.size+2<=W.heap.size:=hW;clear Q u ho ha T p;unfold lG Up;simp only
  gi_wp2_with fail
  refine U8 (Ge (fun r=>Bf (Lt (C4 l) (S,xm)) r) w W (w2.heap.size+2) w.heap.size v rs) (fun _ _=>True) (by kernel_rfl) (by kernel_rfl) (by kernel_rfl) (fun _=>Ge.start HO.o HV.o HI.o.fp hW (by omega)) ?_;apply Cm (fun _ _ _ h _=>h.plain (by decide)) rfl rfl rfl
  .intro b a w d c K j;have h4:=c.f 4;have q0:=Ab (d.first (c.post 4 (by kernel_rfl))) 0;simp only[List.getElem?_toArray,List.getElem?_cons_zero] at q0;simp only[Oper.wp,execOp];go_simp;exact j _ d trivial
  apply Cm (fun _ _ _ h _=>h.plain (by decide)) rfl rfl rfl
  .intro b a w d c K j;have h6:=c.f 6;simp only[Oper.wp,execOp];go_simp;exact j _ d trivial
  apply Dw (fun _ _=>True) rfl rfl rfl
  .intro b a w d c K j;have bm:=c.e 1 15;simp only[Oper.wp,execOp];go_simp;refine(a3.o _ d.kept).mono ?_;rintro e w3 ⟨vr,r,rfl,O,aq,aw⟩;exact j _ _ (d.call c.self aw O aq) trivial trivial
  apply Dw (fun _ _=>True) rfl rfl rfl
  .intro b a w d c K j;have bk:=c.dep 2 16 _ (by kernel_rfl) rfl;obtain⟨r,hg,O⟩:=d.res (c.pre 2 (by kernel_rfl)) (c.post 4 (by kernel_rfl));obtain⟨a2,c2,e2,-,-⟩:=O.len;have u:=c.val 2 16 (by kernel_rfl);rw[e2] at u;have y:=d.build (c.pre 2 (by kernel_rfl)) c.self;rw[e2] at y;simp only[Oper.wp,execOp];go_simp;exact j _ _ y trivial trivial
  apply Dw (fun _ _=>True) rfl rfl rfl
  .intro b a w d c K j;have a0:=c.e 0 14;have bj:=c.dep 3 17 _ (by kernel_rfl) rfl;obtain⟨g,av,au⟩:=d.bld (c.pre 3 (by kernel_rfl)) c.self;obtain⟨r,hg,O⟩:=d.res (d.o32 (c.pre 3 (by kernel_rfl))) c.self;obtain⟨a2,c2,e2,-,-⟩:=O.len;refine lE (.tmp 14) (.tmp 17) rfl _ v rs (Ei a0) (d.own0 c.self) g _ r (by rw[e2];rfl) O (Ei ((c.val 3 17 (by kernel_rfl)).trans av)) au (by omega) d.sz ?_;intro v' w' h1 h2 h3;exact j _ _ (d.append (c.pre 3 (by kernel_rfl)) c.self hg h1 h2 h3 (by omega) (by omega)) trivial trivial
  apply J3 (fun _=>True) rfl rfl rfl
  .intro b a w d c K j;have h4:=c.f 4;have bi:=c.dep 4 18 _ (by kernel_rfl) rfl;obtain⟨a2,n2,c2,e2⟩:=d.slice (c.pre 4 (by kernel_rfl));have u:=(c.val 4 18 (by kernel_rfl)).trans e2;have y:=d.store (c.pre 4 (by kernel_rfl)) (by omega) (Z _);rw[e2] at y;have f0:=Av d.cel 0;have q0:=Ab d.cel 0;simp only[Oper.wp,execOp];go_simp;exact j undef _ y trivial trivial
  refine⟨?_,?_⟩
  .refine⟨fun _ _ _ _ _=>trivial,?_⟩;refine⟨fun _ _ _ _ _=>trivial,?_⟩;refine⟨fun _ _ _ _ _=>trivial,?_⟩;refine⟨fun _ _ _ _ _=>trivial,?_⟩;refine E4 _ ?_;refine E4 _ ?_;exact trivial
  .intro w' bb ag;simp only[List.reverse_cons,List.reverse_nil,List.nil_append,List.cons_append]
   iterate 2 (refine A2 ?_)
   refine As ?_;intro v2 u2;refine As ?_;intro v3 u3;refine As ?_;intro v4 u4;refine As ?_;intro v5 u5;refine C7 ?_;intro d;simp only[Aj,Act.put,a1u,List.set_cons_succ,List.set_cons_zero]
   gi_wp2_with fail
   have P:=d.cel;rw[ag 5 (by simp)] at P;obtain⟨r,O,ap⟩:=d.own1 (ag 4 (by simp));exact⟨d.kept,⟨⟨_,_,P,ap,Ro HA.o O⟩,d.fp,HI.o.q.keptT d.kept (by omega) (by simp;omega),HI.o.bl⟩⟩
 .rintro xs W rfl Q j;obtain⟨v,rs,u,ho,ha⟩:=Q.ex;obtain⟨F,D,E,rfl⟩:=ho.slice;have HI:=X Q;have HK:=X j;have HA:=X ha;have q0:W.cell? ⟨w.heap.size,0,none⟩=some (.slice F D E):=Ab u 0;have f0:W.frozen? ⟨w.heap.size,0,none⟩=false:=Av u 0;have HV:=X u;have HO:=X ho;clear Q j u ho ha
  gi_wp2_with fail
  have M:Fp [w.heap.size] W (W.setCell ⟨w.heap.size,0,none⟩ (.slice F D E)):=Fp.setCell W ⟨w.heap.size,0,none⟩ (.slice F D E);have h4:(W.setCell ⟨w.heap.size,0,none⟩ (.slice F D E)).heap[w.heap.size]?=some (.cells #[.slice F D E] 159 (0,0)):=(Cf HV.o _).trans rfl;obtain⟨wa,an⟩:=Aa (W.setCell ⟨w.heap.size,0,none⟩ (.slice F D E));rw[an] at M h4 ⊢;have ar:wa.heap[w2.heap.size]?=some (.deferred (some [])):=(M.block _ (Ae HK.o) (by simp;omega)).trans HK.o;have hp:=Fp.putObj wa w2.heap.size (.deferred none);refine⟨by simp,.inl ⟨_,_,rfl,run_takeDeferred ar,?_⟩⟩;have c0:(wa.putObj w2.heap.size (.deferred none)).cell? ⟨w.heap.size,0,none⟩=some (.slice F D E):=Ab ((hp.block _ (Ae h4) (by simp;omega)).trans h4) 0;have ao:=(HO.o.fp M (by simp;omega)).fp hp;refine⟨.tuple #[.slice F D E,.int .i64 0],by simp[results,Tryz.results85,go_sem,c0],.slice F D E,rs,rfl,?_,HA.o,((HI.o.fp.trans M (by intro i hi;right;simp at hi;omega)).trans hp (by intro i hi;right;simp at hi;omega))⟩;exact ao.mono (by omega)
end
section
open Go.RowKit Go.Lib
def Q3(W:World)(v:Value)(r:List Ad):Prop:=∃a n cap,v=.slice a n cap/\n<=cap/\(a=none->cap=0)/\Bj A8 W a n r
theorem Q3.fp{W W':World}{v:Value}{r:List Ad}(h:Q3 W v r)(c:Fp [] W W'):Q3 W' v r:=by
 obtain⟨a,n,cap,j,i,g,d⟩:=h;exact⟨a,n,cap,j,i,g,d.fp c⟩
theorem Ag.runV{W:World}{base:Nat}{v:Value}{r:List Ad}(h:Ag A8 W base v r):Q3 W v r:=by
 obtain⟨a,cap,i,g,d,c⟩:=h.at;exact⟨a,_,cap,i,d,g,c⟩
structure Eu(W:World)(a:Option Addr)(n:Nat)(rs:List (List Ad)):Prop where
 len:n=rs.length
 cells:rs=[]∨∃b o,a=some ⟨b,o,none⟩/\b<W.heap.size/\∀i (h:i<rs.length),∃v,W.cell? ⟨b,o+i,none⟩=some v/\Q3 W v rs[i]
theorem Eu.fp{W W':World}{a:Option Addr}{n:Nat}{rs:List (List Ad)}(h:Eu W a n rs)(c:Fp [] W W'):Eu W' a n rs:=by
 refine⟨h.len,?_⟩;rcases h.cells with m|⟨b,o,e,d,j⟩
 .exact Or.inl m
 .refine Or.inr ⟨b,o,e,a1v d c.size,fun i g=>?_⟩;obtain⟨v,l,k⟩:=j i g;exact⟨v,(c.cell (p:=⟨b,o+i,none⟩) d (by simp)).trans l,k.fp c⟩
theorem Eu.get{W:World}{a:Option Addr}{n i:Nat}{rs:List (List Ad)}(h:Eu W a n rs)(c:i<rs.length):∃b o v,a=some ⟨b,o,none⟩/\(∀W',Fp [] W W'->W'.cell? ⟨b,o+i,none⟩=some v/\Q3 W' v rs[i]):=by
 rcases h.cells with m|⟨b,o,e,j,g⟩
 .rw[m] at c;exact absurd c (Nat.not_lt_zero _)
 .obtain⟨v,l,k⟩:=g i c;exact⟨b,o,v,e,fun W' d=>⟨(d.cell (p:=⟨b,o+i,none⟩) j (by simp)).trans l,k.fp d⟩⟩
theorem Eu.take{W:World}{a:Option Addr}{n:Nat}{rs:List (List Ad)}(h:Eu W a n rs)(m:Nat)(k:m<=n):Eu W a m (rs.take m):=by
 have l:=h.len;refine⟨by rw[a1x];omega,?_⟩;rcases h.cells with j|⟨b,o,e,g,d⟩
 .left;rw[j];simp
 .refine Or.inr ⟨b,o,e,g,fun i c=>?_⟩;rw[List.getElem_take];exact d i (by rw[a1x] at c;omega)
theorem Eu.drop{W:World}{b o n:Nat}{rs:List (List Ad)}(h:Eu W (some ⟨b,o,none⟩) n rs)(m r:Nat)(p:m+r=n):Eu W (some ⟨b,o+m,none⟩) r (rs.drop m):=by
 have q:=h.len;refine⟨by rw[List.length_drop];omega,?_⟩;rcases h.cells with k|⟨s,l,e,d,c⟩
 .left;rw[k];simp
 .cases e;refine Or.inr ⟨b,o+m,rfl,d,fun i a=>?_⟩;rw[List.length_drop] at a;obtain⟨v,j,g⟩:=c (m+i) (by omega);refine⟨v,by rw[Nat.add_assoc];exact j,?_⟩;rw[List.getElem_drop];exact g
theorem Dn.at{α β:Type}{P:α→β→Prop}{l:List α}{m:List β}(h:Dn P l m):∀i (a:i<l.length) (c:i<m.length),P l[i] m[i]:=by
 induction h with
 |nil=>intro i a;exact absurd a (Nat.not_lt_zero _)
 |cons hp _ ih=>
  intro i a c
  cases i with
  |zero=>exact hp
  |succ i=>exact ih i (by simpa using a) (by simpa using c)
theorem An.cell{e:TypeId}{W:World}{base:Nat}{v:Value}{a:List Value}(h:An e W base v a){i:Nat}(r:i<a.length):∃g cap,v=.slice (some ⟨g,0,none⟩) a.length cap∧a.length≤cap∧g<W.heap.size∧base≤g∧∀j (c:j<a.length),W.cell? ⟨g,j,none⟩=some a[j]:=by
 rcases h.2 with⟨_,s⟩|⟨g,cap,d,m,p,k,q,_,_,n⟩
 .omega
 .refine⟨g,cap,m,q,Ae k,p,fun j c=>?_⟩
  have l:(d.toList.take (a.length*1))[j]?=a[j]?:=by rw[n]
  rw[Nat.mul_one,List.getElem?_take,if_pos c,Array.getElem?_toList,a0z c] at l;rw[Ab k];exact l
theorem Gp.at{W:World}{base:Nat}{v:Value}{rs:List (List Ad)}(h:Gp W base v rs):∃a cap,v=.slice a rs.length cap∧rs.length≤cap∧(a=none→cap=0)∧Eu W a rs.length rs:=by
 obtain⟨c,k,p⟩:=h;have n:c.length=rs.length:=p.length_eq;by_cases t:0<c.length
 .obtain⟨g,cap,rfl,x,r,_,d⟩:=k.cell t;refine⟨some ⟨g,0,none⟩,cap,by rw[n],by omega,(fun e=>by cases e),rfl,Or.inr ⟨g,0,rfl,r,fun i q=>⟨c[i]'(by omega),?_,(p.at i (by omega) q).runV⟩⟩⟩;rw[Nat.zero_add];exact d i (by omega)
 .obtain⟨⟨a,cap,e⟩,_⟩:=k.at;have m:rs=[]:=a0u (by omega);rcases k.2 with⟨l,_⟩|⟨g,j,u,l,_,_,s,_⟩
  .subst m;exact⟨none,0,l,Z _,fun _=>rfl,rfl,Or.inl rfl⟩
  .subst m;exact⟨some ⟨g,0,none⟩,j,by rw[l,n],a2u _,(fun e=>by cases e),rfl,Or.inl rfl⟩
theorem yP(W:World)(v:Value)(r:List Ad)(h:Q3 W v r)(c:Dv r∧Be r∧r.length≤1000000):
  Calls Tryz.prog 267 #[v] W fun e W'=>e=.returned (.bool false)/\Fp [] W W':=by
 obtain⟨a,n,cap,rfl,i,g,d⟩:=h;have k:=X (Ac1 W a n cap r d c.1 c.2.1 (by rw[d.len];exact c.2.2));clear i g d c;go_in;go_wp2_with fail;refine k.o.nexh fun l j=>?_;go_wp2_with fail;go_ret;exact⟨rfl,j.o⟩
theorem yQ(W:World)(a:Option Addr)(n cap:Nat)(rs:List (List Ad))(h:Eu W a n rs)(m:∀r∈rs,Dv r∧Be r∧r.length≤1000000)(C:n≤1000000):
  Calls Tryz.prog 291 #[.slice a n cap,.func (.func 267) #[] #[]] W fun e W'=>e=.returned (.int .i64 (-1))/\Fp [] W W':=by
 have x:=X h;have y:=X m;have g:=X h.len;clear h m;go_in;go_wp2_with fail
 go_loopg [8] n (fun u t wr=>∃k:Nat,t=.int .i64 k/\u+k=n/\Fp [] W wr)
 case atStart=>exact⟨0,rfl,by omega,Fp.refl _ _⟩
 case round=>
  obtain⟨k,rfl,E,d⟩:=hrel;have j:=X d;clear d;by_cases D:k<n
  .have s:(k:Int)<(n:Int):=(by omega)
   have B:IntKind.i64.wrap ((k:Int)+1)=((k+1:Nat):Int):=(by rw[a0w];omega)
   have c:k<rs.length:=by have:=g.o;omega
   obtain⟨b,o,v,e,p⟩:=x.o.get c;subst e;obtain⟨q,l⟩:=p wr j.o;have z:=X (yP wr v _ l (y.o _ (a2w c)));clear p l;go_wp2_with fail;refine z.o.mono ?_;rintro e A ⟨rfl,d⟩;have i:=X (j.o.trans d);clear d;go_wp2_with fail
   go_roundg (gk-1)
   case measure=>omega
   case rel=>exact⟨k+1,by simp,by omega,i.o⟩
  .have s:¬(k:Int)<(n:Int):=(by omega)
   go_wp2_with fail;go_ret;exact⟨rfl,j.o⟩
theorem lI(W:World)(a:Option Addr)(n cap:Nat)(rs:List (List Ad))(h:Eu W a n rs)(g:∀r∈rs,Dv r∧Be r∧r.length≤1000000)(j:n≤1000000):
  Calls Tryz.prog 220 #[.slice a n cap] W fun e W'=>e=.returned (.bool true)/\Fp [] W W':=by
 have k:=X (yQ W a n cap rs h g j);have l:Hid (Calls Tryz.prog 266 #[.slice a n cap,.func (.func 267) #[] #[]] W fun e W'=>e=.returned (.bool false)/\Fp [] W W'):=by
  go_enter Tryz.func266,Tryz.ntmps266;go_wp2_with fail;refine k.o.mono ?_;rintro e i ⟨rfl,c⟩;have d:=X c;clear c;go_wp2_with fail;go_ret;exact⟨rfl,d.o⟩
 clear h g;go_in;go_wp2_with fail;refine l.o.mono ?_;rintro e i ⟨rfl,c⟩;have d:=X c;clear c;go_wp2_with fail;go_ret;exact⟨rfl,d.o⟩
theorem yR(w:World)(a:Option Addr)(n cap:Nat)(l:List Ad)(E:Bj Dm w a n l)(Q:Dv l)(z:Be l)(hn:n≤1000000):
  Calls Tryz.prog 230 #[.slice a n cap] w fun e w'=>e=.returned (.bool true)/\Fp [] w w':=by
 have S:=X E;have M:=X E.len;have HR:=X Q;have aa:=X z;clear E Q z;go_in;go_wp2_with fail
 go_loopg [3] n (fun gg V wr=>∃k:Nat,V=.int .i64 k/\gg+k=n+1/\1<=k/\Fp [] w wr)
 case atStart=>exact⟨1,rfl,rfl,Z _,Fp.refl _ _⟩
 case round=>
  obtain⟨k,rfl,hg,h1,q⟩:=hrel;have D:=X q;clear q;by_cases hk:k<n
  .have U:(k:Int)<(n:Int):=(by omega)
   have n1:IntKind.i64.wrap ((k:Int)+1)=((k+1:Nat):Int):=(by rw[a0w];omega)
   have n2:IntKind.i64.wrap ((k:Int)-1)=((k-1:Nat):Int):=(by rw[a0w];omega)
   have A:k<l.length:=(by rw[<-M.o];exact hk)
   have C:k-1<l.length:=(by omega)
   have t:=(List.pairwise_iff_getElem.1 HR.o) (k-1) k C A (by omega);obtain⟨b1,o1,rfl,_,i⟩:=S.o.get A;obtain⟨b2,o2,e2,_,g⟩:=S.o.get C;cases e2;obtain⟨x,P⟩:=Aa (l[k-1]);obtain⟨y,O⟩:=Aa (l[k]);rw[P] at g t;rw[O] at i t
   have F:B8 x y<0:=by rcases Nu x y with⟨_,h⟩|⟨h,_⟩<;>omega
   have u:Bc x y=false:=by
    cases e:Bc x y with
    |false=>rfl
    |true=>have:=(K5 x y).1 e;omega
   have i:=fun w' h=>Rk (i w' h);have g:=fun w' h=>Rk (g w' h);simp only[show Dm.k=7 from rfl] at i g;have m:=X (fun w=>cX x y w);have j:=X (fun w=>Z6 x.c y.c w);have p:I2 x.c y.c=false:=u;obtain⟨R,r⟩:=Aa (B8 x y);rw[r] at m F;rw[p] at j;have zc:decide (0<=R)=false:=decide_eq_false (by omega);have zd:decide (R≥0)=false:=decide_eq_false (by omega);obtain⟨k1,B⟩:=Aa (k-1);rw[B] at g n2
   have T:(k1:Int)<(n:Int):=(by omega)
   obtain⟨⟨xr,xc,xt,xs,xd,xv⟩,xp⟩:=x;obtain⟨⟨yr,yc,yt,ys,yd,yv⟩,yp⟩:=y;unfold Ic Jr at m;unfold A7 at j;simp only at m j g i;have L:=X (fun w' (h:Fp [] wr w')=>g w' (D.o.trans h));have J:=X (fun w' (h:Fp [] wr w')=>i w' (D.o.trans h));clear t P O u p r B g i;go_wp2_with fail;refine Bo (by kernel_rfl) (by kernel_rfl) ?_
   iterate 25
    first|apply A1 rfl rfl rfl|apply Gw _ _ rfl rfl rfl rfl (by kernel_rfl) rfl rfl
    .intro a w s d K I;have:=d.f 0;have:=d.f 3;(try have:=d.e 1 11);(try have:=d.e 0 10);(try have:=d.e 2 12);(try have:=d.e 3 13);(try have:=d.e 5 15);(try have:=d.e 6 16);(try have:=d.e 7 17);(try have:=d.e 4 14);(try have:=d.e 8 18);(try have:=d.e 9 19);(try have:=d.e 10 20);(try have:=d.e 13 23);(try have:=d.e 12 22);(try have:=d.e 14 24);(try have:=d.e 15 25);(try have:=d.e 16 26);(try have:=d.e 18 28);(try have:=d.e 19 29);(try have:=d.e 20 30);(try have:=d.e 21 31);(try have:=d.e 17 27);(try have:=d.e 22 32);(try have:=d.e 11 21);(try have:=d.e 23 33);obtain⟨x0,x1,x2,x3,x4,x5,x6⟩:=L.o _ s;obtain⟨y0,y1,y2,y3,y4,y5,y6⟩:=J.o _ s;simp only[Oper.wp,execOp];go_simp
     first
     |exact I _ s (Fp.refl _ _)
     |first
       |((with_reducible refine(m.o _).mono ?_);rintro e w2 ⟨rfl,q⟩;exact I _ (s.trans q) q)
       |((with_reducible refine(j.o _).mono ?_);rintro e w2 ⟨rfl,q⟩;exact I _ (s.trans q) q)
   refine Bn ?_
   iterate 25 refine Bm ?_
   refine Bl fun w' s=>?_
   .simp only[Aj,Act.put,a1u,List.set_cons_succ,List.set_cons_zero];have N:=X (D.o.trans s);clear s;go_wp2_with fail
    go_roundg (gk-1)
    case measure=>omega
    case rel=>exact⟨k+1,by simp,by omega,by omega,N.o⟩
  .have U:¬(k:Int)<(n:Int):=(by omega)
   go_wp2_with fail;go_ret;exact⟨rfl,D.o⟩
theorem Bj.to8{W:World}{a:Option Addr}{n:Nat}{l:List Ad}(h:Bj A8 W a n l):Bj Dm W a n l:=⟨h.len,h.cells⟩
theorem Bj.of8{W:World}{a:Option Addr}{n:Nat}{l:List Ad}(h:Bj Dm W a n l):Bj A8 W a n l:=⟨h.len,h.cells⟩
theorem Hf.at{W:World}{base:Nat}{v:Value}{rs:List (List Ad)}(h:Hf W base v rs):∃a cap,v=.slice a rs.length cap∧rs.length≤cap∧(a=none→cap=0)∧Eu W a rs.length rs:=by
 obtain⟨d,n,q⟩:=h;have r:d.length=rs.length:=q.length_eq;by_cases u:0<d.length
 .obtain⟨g,cap,rfl,t,p,_,j⟩:=n.cell u;refine⟨some ⟨g,0,none⟩,cap,by rw[r],by omega,(fun e=>by cases e),rfl,Or.inr ⟨g,0,rfl,p,fun i s=>⟨d[i]'(by omega),?_,?_⟩⟩⟩
  .rw[Nat.zero_add];exact j i (by omega)
  .obtain⟨a,c,z,k,y,x⟩:=(q.at i (by omega) s).at;exact⟨a,_,c,z,y,k,x.of8⟩
 .obtain⟨⟨a,cap,e⟩,C⟩:=n.at;have l:d=[]:=a0u (by omega);have m:rs=[]:=a0u (by omega);subst l m;rcases n.2 with⟨k,_⟩|⟨g,c,A,k,p,B,t,_⟩
  .exact⟨none,0,k,Z _,(fun _=>rfl),rfl,Or.inl rfl⟩
  .exact⟨some ⟨g,0,none⟩,c,k,a2u _,(fun e=>by cases e),rfl,Or.inl rfl⟩
theorem bT(w:World)(a:Option Addr)(n cap:Nat)(rs:List (List Ad))(h:Eu w a n rs)(m:∀r∈rs,Dv r∧Be r∧r.length≤1000000)(K:n≤1000000):
  Calls Tryz.prog 163 #[.slice a n cap] w fun e w'=>e=.returned (.bool true)/\Fp [] w w':=by
 have I:=X h;have i:=X h.len;have F:=X m;clear h m;go_in;go_wp2_with fail
 go_loopg [3] n (fun B x wr=>∃k:Nat,x=.int .i64 k/\B+k=n/\Fp [] w wr)
 case atStart=>exact⟨0,rfl,by omega,Fp.refl _ _⟩
 case round=>
  obtain⟨k,rfl,L,p⟩:=hrel;have l:=X p;clear p;by_cases z:k<n
  .have u:(k:Int)<(n:Int):=(by omega)
   have J:IntKind.i64.wrap ((k:Int)+1)=((k+1:Nat):Int):=(by rw[a0w];omega)
   have c:k<rs.length:=(by rw[<-i.o];exact z)
   obtain⟨b,o,v,rfl,q⟩:=I.o.get c;obtain⟨q0,D,y,C,rfl,_,_,g⟩:=q wr l.o;obtain⟨t,s,A⟩:=F.o _ (a2w c);have d:=g.len;have E:=X (yR wr D y C rs[k] g.to8 t s (by omega));clear q g t s A d;go_wp2_with fail;refine E.o.next l fun w2 j=>?_;go_wp2_with fail
   go_roundg (gk-1)
   case measure=>omega
   case rel=>exact⟨k+1,by simp,by omega,j.o⟩
  .have u:¬(k:Int)<(n:Int):=(by omega)
   go_wp2_with fail;go_ret;exact⟨rfl,l.o⟩
end
section
open Go.Lib
def Hw(r:Nat):Bool:=decide (r<=32∨126<r)
def I6(b:UInt8):Bool:=!Hw b.toNat
def Fo(s:ByteArray):Bool:=decide (s.size≠0)&&s.data.toList.all I6
theorem Lu{s:ByteArray}{i:Nat}(h:i<s.size):s.data.toList[i]?=some s[i]:=Lib.data_getElem? s i h
theorem lJ(s:ByteArray):∀(f a:Nat),s.size≤a+f→(idxFuncFrom Hw true s f a= -1↔∀j (h:j<s.size),a≤j→I6 s[j]=true)
 |0,a,hf=>by
  constructor
  .intro _ j h g;omega
  .intro _;rfl
 |f+1,a,hf=>by
  by_cases c:a<s.size
  .unfold idxFuncFrom;rw[if_pos c];by_cases l:(s[a]'c).toNat<128
   .rw[decode_ascii s a c l];by_cases d:Hw (s[a]'c).toNat=true
    .rw[if_pos d];constructor
     .intro h;omega
     .intro h;have:=h a c (Z _);unfold I6 at this;rw[d] at this;cases this
    .rw[if_neg d];have k:=lJ s f (a+1) (by omega);rw[k];constructor
     .intro h j g i;by_cases e:j=a
      .subst e;unfold I6;simpa using d
      .exact h j g (by omega)
     .intro h j g i;exact h j g (by omega)
   .have n:=decode_high s a c (by omega)
    have d:Hw (Utf8.decode s a).1=true:=(by unfold Hw;exact decide_eq_true (by omega))
    rw[if_pos d];constructor
    .intro h;omega
    .intro h;have:=h a c (Z _)
     have m:Hw (s[a]'c).toNat=true:=(by unfold Hw;exact decide_eq_true (by omega))
     unfold I6 at this;rw[m] at this;cases this
  .rw[idxFuncFrom_end _ _ _ _ _ c];constructor
   .intro _ j h g;omega
   .intro _;rfl
theorem yS(s:ByteArray):decide (idxFunc Hw true s<0)=s.data.toList.all I6:=by
 have h:=lJ s s.size 0 (by omega);have k:=idxFuncFrom_range Hw true s s.size 0;unfold idxFunc;rw[Bool.eq_iff_iff,decide_eq_true_eq,List.all_eq_true];constructor
 .intro l b d
  have i:idxFuncFrom Hw true s s.size 0= -1:=by omega
  obtain⟨j,c,rfl⟩:=List.getElem_of_mem d
  have a:j<s.size:=by rw[size_eq];exact c
  have:=h.1 i j a (a2u _);have e:=Lu a;rw[a0z c] at e;rw[Option.some.inj e];exact this
 .intro g;have:idxFuncFrom Hw true s s.size 0= -1:=h.2 (fun j c _=>g _ (List.mem_of_getElem? (Lu c)));omega
def E7(c:UInt8):List UInt8→List (List UInt8)
 |[]=>[[]]
 |b::l=>if b=c then[]::E7 c l else match E7 c l with
  |[]=>[[b]]
  |h::t=>(b::h)::t
theorem yT(c:UInt8)(l:List UInt8):∃h t,E7 c l=h::t:=by
 induction l with
 |nil=>exact⟨[],[],rfl⟩
 |cons b l ih=>
  obtain⟨h,t,e⟩:=ih;unfold E7;by_cases a:b=c
  .rw[if_pos a];exact⟨_,_,rfl⟩
  .rw[if_neg a,e];exact⟨_,_,rfl⟩
theorem bU(c:UInt8)(l:List UInt8)(h:∀b∈l,b≠c):E7 c l=[l]:=by
 induction l with
 |nil=>rfl
 |cons b l ih=>
  unfold E7;rw[if_neg (h b (by simp)),ih (fun x a=>h x (by simp[a]))]
theorem bV(c:UInt8)(a l:List UInt8)(h:∀b∈a,b≠c):E7 c (a++c::l)=a::E7 c l:=by
 induction a with
 |nil=>show E7 c (c::l)=_;conv=>lhs;unfold E7
       rw[if_pos rfl]
 |cons b a ih=>
  show E7 c (b::(a++c::l))=_
  conv=>lhs;unfold E7
  rw[if_neg (h b (by simp)),ih (fun x d=>h x (by simp[d]))]
theorem X1(c:UInt8):∀l:List UInt8,(index l [c]= -1∧(∀b∈l,b≠c))∨∃a r,l=a++c::r∧index l [c]=(a.length:Nat)∧∀b∈a,b≠c
 |[]=>Or.inl ⟨by simp[index],by simp⟩
 |b::l=>by
  by_cases h:b=c
  .subst h;exact Or.inr ⟨[],l,rfl,by simp[index,List.isPrefixOf],by simp⟩
  .have k:([c]:List UInt8).isPrefixOf (b::l)=false:=(by simp[List.isPrefixOf,Ne.symm h])
   have g:index (b::l) [c]=if index l [c]==-1 then -1 else index l [c]+1:=by rw[index,k];simp
   rcases X1 c l with⟨j,i⟩|⟨a,r,j,i,m⟩
   .left;refine⟨by rw[g,j];rfl,?_⟩;intro x d;rcases List.mem_cons.1 d with d|d
    .rw[d];exact h
    .exact i x d
   .right;refine⟨b::a,r,by rw[j];rfl,?_,?_⟩
    .rw[g,i]
     have:(((a.length:Nat):Int)==-1)=false:=(by rw[beq_eq_false_iff_ne];omega)
     rw[this];simp
    .intro x d;rcases List.mem_cons.1 d with d|d
     .rw[d];exact h
     .exact m x d
theorem lK(c:UInt8):∀(k:Nat) (s:ByteArray),countB s ⟨#[c]⟩=k→(splitB ⟨#[c]⟩ 0 k s).map (fun x=>x.data.toList)=E7 c s.data.toList
 |0,s,hk=>by
  rcases X1 c s.data.toList with⟨g,d⟩|⟨a,r,g,d,n⟩
  .rw[bU c _ d];rfl
  .have:=count_hit (s:=s.data.toList) (sub:=[c]) (by simp) d;have h:count s.data.toList [c]=0:=hk;omega
 |k+1,s,hk=>by
  have h:count s.data.toList [c]=k+1:=hk;rcases X1 c s.data.toList with⟨g,d⟩|⟨a,r,g,d,n⟩
  .rw[count_miss g] at h;omega
  .have q:=count_hit (s:=s.data.toList) (sub:=[c]) (by simp) d;have j:indexB s ⟨#[c]⟩=(a.length:Nat):=d;have m:s.data.toList.drop (a.length+[c].length)=r:=by
    rw[g,List.drop_append,a3z (by simp)];simp
   have i:(⟨#[c]⟩:ByteArray).size=1:=rfl;rw[m] at q;have l:(s.extract (a.length+1) s.size).data.toList=r:=by
    rw[extract_to_end];exact m
   have p:=lK c k (s.extract (a.length+1) s.size) (by show count _ _ =k;rw[l];show count r [c]=k;omega);unfold splitB;rw[j,if_neg (by simp)];simp only[a3w,Nat.add_zero,Int.toNat_natCast,i];rw[p,l,g,bV c a r n,extract_data,g];simp
theorem lL(c:UInt8):∀(k:Nat) (s:ByteArray),countB s ⟨#[c]⟩=k→(splitB ⟨#[c]⟩ 0 k s).length=k+1
 |0,s,hk=>rfl
 |k+1,s,hk=>by
  have g:count s.data.toList [c]=k+1:=hk;rcases X1 c s.data.toList with⟨j,i⟩|⟨a,r,j,i,q⟩
  .rw[count_miss j] at g;omega
  .have p:=count_hit (s:=s.data.toList) (sub:=[c]) (by simp) i;have h:indexB s ⟨#[c]⟩=(a.length:Nat):=i;have d:(⟨#[c]⟩:ByteArray).size=1:=rfl;have l:s.data.toList.drop (a.length+[c].length)=r:=by
    rw[j,List.drop_append,a3z (by simp)];simp
   rw[l] at p;have n:(s.extract (a.length+1) s.size).data.toList=r:=by
    rw[extract_to_end];exact l
   have m:=lL c k (s.extract (a.length+1) s.size) (by show count _ _ =k;rw[n];show count r [c]=k;omega);rw[splitB_hit _ _ _ _ a.length h,a2v,d,m]
theorem lM(c:ByteArray):∀(k:Nat) (s:ByteArray),∀x∈splitB c 0 k s,x.size≤s.size
 |0,s=>by intro x a;rw[splitB_zero] at a;simp at a;rw[a];exact Z _
 |k+1,s=>by
  by_cases h:indexB s c= -1
  .rw[splitB_miss _ _ _ _ h];intro x a;simp at a;rw[a];exact Z _
  .unfold splitB;rw[if_neg (by simpa using h)];intro x a;rcases List.mem_cons.1 a with a|a
   .rw[a,a3x];omega
   .have:=lM c k _ x a;rw[a3x] at this;omega
def Dh(c:UInt8)(s:ByteArray):List ByteArray:=splitB ⟨#[c]⟩ 0 (countB s ⟨#[c]⟩) s
theorem yU(c:UInt8)(s:ByteArray):(Dh c s).length=countB s ⟨#[c]⟩+1:=lL c _ s rfl
theorem O2{c:UInt8}{s:ByteArray}{x:ByteArray}(h:x∈Dh c s):x.size<=s.size:=lM _ _ _ x h
theorem yV(c:UInt8)(l:List UInt8):(E7 c l).length≤l.length+1:=by
 induction l with
 |nil=>exact Z _
 |cons b l ih=>
  unfold E7;obtain⟨h,t,e⟩:=yT c l;rw[e] at ih ⊢
  split<;>simp at ih ⊢ <;>omega
theorem bW(c:UInt8)(s:ByteArray):(Dh c s).map (fun x=>x.data.toList)=E7 c s.data.toList:=lK c _ s rfl
theorem X2(c:UInt8)(s:ByteArray):(Dh c s).length<=s.size+1:=by
 have h:=yV c s.data.toList;rw[<-bW,a0v,<-size_eq] at h;exact h
theorem lN(a b:ByteArray):(a++b).data.toList=a.data.toList++b.data.toList:=by simp
theorem X3{a b:ByteArray}(h:a.data.toList=b.data.toList):a=b:=by
 obtain⟨⟨a⟩⟩:=a;obtain⟨⟨b⟩⟩:=b
 simpa using h
theorem bX:∀(l m:List ByteArray),l.map (fun t=>t.data.toList)=m.map (fun t=>t.data.toList)→l=m
 |[],[],_=>rfl
 |[],_ ::_,h=>by cases h
 |_ ::_,[],h=>by cases h
 |a::l,b::m,h=>by
  simp only[a3w,List.cons.injEq] at h;rw[X3 h.1,bX l m h.2]
end
section
open Go.RowKit Go.Lib
theorem yW(w:World):PredAt Tryz.prog 202 #[] encR Hw w:=fun W r _=>by
 unfold FnGives
 by_cases c:r<=32<;>by_cases a:126<r
 all_goals
  have z1:(r:Int)<=32↔r<=32:=by omega
  have d:(r:Int)>126↔126<r:=by omega
  go_in;go_wp2
  all_goals first|(exfalso;omega)|(go_ret;exact⟨by unfold Hw;simp[c,a],0,rfl⟩)
theorem yX(s:ByteArray)(w:World):
  Calls Tryz.prog 201 #[.string s,.func (.func 202) #[] #[]] w fun e w'=>e=.returned (.int .i64 (idxFunc Hw true s))/\Fp [] w w':=
 (Tryz.strings_IndexFunc 202 #[] (enters_of Tryz.func202 (by kernel_rfl) rfl) Hw s w (yW w)).mono fun _ _ ⟨h,a⟩=>⟨h,Below.toFp a⟩
def M6(s:ByteArray):Bool:=Fo s&&decide (s.size<=40)
theorem yY(s:ByteArray):Fo s=(decide (s.size≠0)&&decide (idxFunc Hw true s<0)):=by
 unfold Fo;rw[yS]
theorem lO(s:ByteArray)(w:World):
  Calls Tryz.prog 129 #[.string s] w fun e w'=>e=.returned (.bool (Fo s))/\Fp [] w w':=by
 have d:=X (yX s);rw[yY];by_cases g:s.size=0
 .have a:=Ve g;go_in;go_wp2_with fail;go_ret;exact⟨by rw[decide_eq_false (by omega)];rfl,Fp.refl _ _⟩
 .have a:=Nw (s:=s) (by omega);rw[decide_eq_true g,Bool.true_and];obtain⟨I,h⟩:=Aa (idxFunc Hw true s);rw[h] at d ⊢;go_in;go_wp2_with fail;refine(d.o _).mono ?_;rintro e j ⟨rfl,c⟩;have i:=X c;clear c;go_wp2_with fail;go_ret;exact⟨rfl,i.o⟩
theorem lP(s:ByteArray)(w:World):
  Calls Tryz.prog 123 #[.string s] w fun e w'=>e=.returned (.bool (M6 s))/\Fp [] w w':=by
 have a:=X (lO s);unfold M6;obtain⟨b,g⟩:=Aa (Fo s);rw[g] at a ⊢;cases b
 .go_in;go_wp2_with fail;refine(a.o _).nexh fun d c=>?_;go_wp2_with fail;go_ret;exact⟨rfl,c.o⟩
 .go_in;go_wp2_with fail;refine(a.o _).nexh fun d c=>?_;go_wp2_with fail;go_ret;refine⟨?_,c.o⟩;refine G9 ?_;rw[Bool.true_and];exact decide_eq_decide.2 (by omega)
theorem yZ(s:ByteArray)(c:Ac)(b:Nat)(w:World)(a:C3 w b c):
  Calls Tryz.prog 122 #[.string s,.pointer (some ⟨b,0,none⟩)] w fun e w'=>e=.returned (.bool (M6 s))/\C3 w' b {c with row:=s}/\Fp [b] w w':=by
 have g:=X (lP s);have h:=X a;have q0:w.cell? ⟨b,0,none⟩=some (.string c.row):=a.cell 0;have j:=a.free 0;clear a;go_in;go_wp2_with fail;refine(g.o _).nexh fun i d=>?_;go_wp2_with fail;go_ret;exact⟨rfl,(h.o.set (c':={c with row:=s}) 0 (.string s) rfl).fp d.o a0x,(Fp.setCell _ _ _).trans d.o⟩
theorem zA(s:ByteArray)(c:Ac)(b:Nat)(w:World)(a:C3 w b c):
  Calls Tryz.prog 124 #[.string s,.pointer (some ⟨b,0,none⟩)] w fun e w'=>e=.returned (.bool (M6 s))/\C3 w' b {c with col:=s}/\Fp [b] w w':=by
 have g:=X (lP s);have h:=X a;have q0:w.cell? ⟨b,1,none⟩=some (.string c.col):=a.cell 1;have j:=a.free 1;clear a;go_in;go_wp2_with fail;refine(g.o _).nexh fun i d=>?_;go_wp2_with fail;go_ret;exact⟨rfl,(h.o.set (c':={c with col:=s}) 1 (.string s) rfl).fp d.o a0x,(Fp.setCell _ _ _).trans d.o⟩
def lQ(s:ByteArray)(u:Nat)(ev:Value):Prop:=(ev=.nilIface/\parseUintB 64 s.data.toList=.ok u)∨((∃t p,ev=.iface t p)/\∀n,parseUintB 64 s.data.toList≠.ok n)
structure Q4(w:World):Prop where
 sy:∃tp p,w.cell? ⟨3,0,none⟩=some (.iface tp p)
 rg:∃tp p,w.cell? ⟨4,0,none⟩=some (.iface tp p)
theorem lR{w w':World}{S:List Nat}{g:Nat}{v:Value}(h:w.cell? ⟨g,0,none⟩=some v)(c:Fp S w w')(a:g∉S):w'.cell? ⟨g,0,none⟩=some v:=
 (c.cell (p:=⟨g,0,none⟩) (World.block_lt_of_cell? _ _ h) a).trans h
theorem Q4.fp{w w':World}{S:List Nat}(h:Q4 w)(a:Fp S w w')(l:3∉S)(k:4∉S:=by simp):Q4 w':=by
 obtain⟨⟨d,j,q1⟩,⟨c,i,g⟩⟩:=h;exact⟨⟨d,j,lR q1 a l⟩,⟨c,i,lR g a k⟩⟩
theorem Fp.bytesWorld(w:World)(t:TypeId)(s:ByteArray):Fp [] w (Lib.bytesWorld w t s):=Below.toFp (Lib.bytesWorld_below _ _ _)
theorem zB(s:ByteArray)(w:World)(q:s.size≤100000000)(j:Q4 w):
  Calls Tryz.prog 126 #[.string s,.int .i64 10,.int .i64 64] w fun e w'=>∃u d,e=.returned (.tuple #[.int .u64 (u:Nat),d])/\lQ s u d/\u<18446744073709551616/\Fp [] w w':=by
 obtain⟨⟨l,p,q1⟩,⟨k,m,g⟩⟩:=j
 cases h:parseUintB 64 s.data.toList with
 |ok u=>
  refine(Tryz.strconv_ParseUint_10_at64_ok s (by omega) u h w).mono ?_;rintro e w' ⟨rfl,i⟩;refine⟨u,_,rfl,Or.inl ⟨rfl,h⟩,?_,?_⟩
  .have:=parseUintB_le h;omega
  .rcases i with rfl|rfl
   .exact Fp.refl _ _
   .exact Fp.bytesWorld _ _ _
 |range=>
  refine(Tryz.strconv_ParseUint_10_at64_range s (by omega) h _ w g (Or.inr ⟨_,_,rfl⟩)).mono ?_;rintro e w' ⟨N,rfl,_,_,c⟩;exact⟨18446744073709551615,_,rfl,Or.inr ⟨⟨_,_,rfl⟩,fun n a=>by rw[h] at a;cases a⟩,by decide,Below.toFp c⟩
 |_=>
  refine(Any.strconv_ParseUint_10_at64_syntax Tryz.laysPu14 s (by omega) h _ w q1 (Or.inr ⟨_,_,rfl⟩)).mono ?_;rintro e w' ⟨N,rfl,_,_,c⟩;exact⟨0,_,rfl,Or.inr ⟨⟨_,_,rfl⟩,fun n a=>by rw[h] at a;cases a⟩,by decide,Below.toFp c⟩
def Fq(s:ByteArray):Option Nat:=match parseUintB 64 s.data.toList with
 |.ok u=>if s.size<=18 then some u else none
 |_=>none
theorem zC{s:ByteArray}{u:Nat}{c:Value}(h:lQ s u c):(Fq s=some u∧c=.nilIface∧s.size≤18)∨(Fq s=none∧(c=.nilIface∧¬s.size≤18))∨(Fq s=none∧∃t p,c=.iface t p):=by
 rcases h with⟨rfl,h⟩|⟨⟨t,p,rfl⟩,h⟩
 .unfold Fq;rw[h];by_cases a:s.size<=18
  .exact Or.inl ⟨if_pos a,rfl,a⟩
  .exact Or.inr (Or.inl ⟨if_neg a,rfl,a⟩)
 .right;right;refine⟨?_,t,p,rfl⟩;unfold Fq;split
  .rename_i u d;exact absurd d (h u)
  .rfl
theorem zD(s:ByteArray)(c:Ac)(b:Nat)(w:World)(j:C3 w b c)(l:s.size≤100000000)(i:Q4 w):
  Calls Tryz.prog 125 #[.string s,.pointer (some ⟨b,0,none⟩)] w fun e w'=>e=.returned (.bool (Fq s).isSome)/\(∃u,(Fq s=none∨Fq s=some u)/\C3 w' b {c with ts:=u})/\Fp [b] w w':=by
 have m:=X (fun w=>zB s w l);have x:=X j;have r:=X i;clear j i;go_in;go_wp2_with fail;refine(m.o _ r.o).mono ?_;rintro e k ⟨u,B,rfl,h,z,g⟩;have a:=X (x.o.fp g);have q:=X g;have q0:k.cell? ⟨b,2,none⟩=some (.int .u64 c.ts):=a.o.cell 2;have A:=a.o.free 2;clear g;rcases zC h with⟨d,rfl,n⟩|⟨d,rfl,n⟩|⟨d,t,p,rfl⟩
 all_goals
  clear h;have y:=X d;clear d;go_wp2_with fail;go_ret;rw[y.o];refine⟨?_,⟨u,?_,a.o.set 2 _ rfl⟩,(q.o.mono (S':=[b]) (by simp)).trans (Fp.setCell _ _ _)⟩
  .first|exact G9 rfl|exact G9 (decide_eq_true (by omega))|exact G9 (decide_eq_false (by omega))
  .first|exact Or.inl rfl|exact Or.inr rfl
theorem zE(s:ByteArray)(w:World):
  Calls Tryz.prog 128 #[.string s,.string ⟨#[61]⟩] w fun e w'=>e=.returned (.tuple #[.string ⟨(Lib.trimPrefix s.data.toList [61]).toArray⟩,.bool (Lib.hasPrefix s.data.toList [61])])/\w=w':=
 (Tryz.strings_CutPrefix s ⟨#[61]⟩ w).mono fun _ _ ⟨c,a⟩=>⟨c,a.symm⟩
def Hk(s:ByteArray):ByteArray:=⟨(Lib.trimPrefix s.data.toList [61]).toArray⟩
def Ha(s:ByteArray):Bool:=s.toList==[45]
def K8(s:ByteArray):Bool:=Lib.hasPrefix s.data.toList [61]&&(Fo s&&decide ((Hk s).size<=100))
theorem zF(s:ByteArray)(c:Ac)(b:Nat)(w:World)(m:C3 w b c):
  Calls Tryz.prog 127 #[.string s,.pointer (some ⟨b,0,none⟩)] w fun e w'=>e=.returned (.bool (Ha s||K8 s))/\C3 w' b {c with del:=Ha s,val:=if Ha s=true then c.val else Hk s}/\Fp [b] w w':=by
 have z:=X (lO s);have d:=X (zE s);have E:=X m;have I:w.cell? ⟨b,4,none⟩=some (.bool c.del):=m.cell 4;have K:=m.free 4;clear m;obtain⟨g,p⟩:=Aa (Ha s);have n:(s.toList==[45])=g:=p;rw[p];have a:=X (E.o.set (c':={c with del:=g}) 4 (.bool g) rfl);have k:=X (Fp.setCell w ⟨b,4,none⟩ (.bool g));have D:(w.setCell ⟨b,4,none⟩ (.bool g)).cell? ⟨b,4,none⟩=some (.bool g):=a.o.cell 4;cases g
 .go_in;go_wp2_with fail;refine(d.o _).mono ?_;rintro e u ⟨rfl,rfl⟩;have F:(w.setCell ⟨b,4,none⟩ (.bool false)).cell? ⟨b,5,none⟩=some (.string c.val):=a.o.cell 5;have J:=a.o.free 5;have i:=X (a.o.set (c':={c with del:=false,val:=Hk s}) 5 (.string (Hk s)) rfl);have j:=X (k.o.trans (Fp.setCell _ ⟨b,5,none⟩ (.string (Hk s))));have C:((w.setCell ⟨b,4,none⟩ (.bool false)).setCell ⟨b,5,none⟩ (.string (Hk s))).cell? ⟨b,5,none⟩=some (.string (Hk s)):=i.o.cell 5;rw[show(⟨(Lib.trimPrefix s.data.toList [61]).toArray⟩:ByteArray)=Hk s from rfl];obtain⟨h,y⟩:=Aa (Lib.hasPrefix s.data.toList [61]);obtain⟨t,x⟩:=Aa (Fo s)
  have A:Hid (K8 s=(h&&(t&&decide ((Hk s).size<=100)))):=by unfold Hid K8;rw[y,x]
  rw[y];rw[x] at z;clear d p n;cases h
  .go_wp2_with fail;go_ret;rw[A.o];exact⟨rfl,i.o,j.o.mono (by simp)⟩
  .cases t
   all_goals
    go_wp2_with fail;refine(z.o _).mono ?_;rintro e u ⟨rfl,q⟩;have l:=X (i.o.fp q);have r:=X (j.o.trans q);have B:u.cell? ⟨b,5,none⟩=some (.string (Hk s)):=l.o.cell 5;clear q;go_wp2_with fail;go_ret;rw[A.o];refine⟨?_,l.o,r.o.mono (by simp)⟩
   .exact G9 rfl
   .exact G9 (decide_eq_decide.2 (by omega))
 .go_in;go_wp2_with fail;go_ret;exact⟨rfl,a.o,k.o⟩
def Io(a b c d:ByteArray):Option Ac:=
 if M6 a=true/\M6 b=true/\(Ha d||K8 d)=true then
  (Fq c).map fun u=>⟨a,b,u,0,Ha d,if Ha d=true then⟨#[]⟩ else Hk d⟩
 else none
def Dc(s:ByteArray):Option Ac:=match Dh 32 s with
 |[a,b,c,d]=>Io a b c d
 |_=>none
theorem lS{s:ByteArray}(h:(Dh 32 s).length≠4):Dc s=none:=by
 unfold Dc;split
 .rename_i e;rw[e] at h;exact absurd rfl h
 .rfl
theorem lT{l:List ByteArray}(h:l.length=4):∃a b c d,l=[a,b,c,d]:=by
 match l,h with
 |[a,b,c,d],_=>exact⟨a,b,c,d,rfl⟩
def S7(w:World)(B:Nat)(l:List ByteArray):Prop:=w.heap[B]?=some (.cells (l.map Value.string).toArray 9 (0,0))
theorem S7.fp{w w':World}{B:Nat}{l:List ByteArray}{S:List Nat}(h:S7 w B l)(a:Fp S w w')(c:B∉S:=by simp):S7 w' B l:=(a.block B (Ae h) c).trans h
theorem S7.at{w:World}{B:Nat}{l:List ByteArray}(h:S7 w B l)(i:Nat)(a:i<l.length):w.cell? ⟨B,i,none⟩=some (.string l[i]):=by
 rw[Ab h];simp[a]
theorem lU(c:UInt8)(s:ByteArray)(w:World)(d:s.size≤100000000)(a:M5 w):
  Calls Tryz.prog 84 #[.string s,.string ⟨#[c]⟩] w fun e w'=>
   ∃B,e=.returned (.slice (some ⟨B,0,none⟩) (Dh c s).length (Dh c s).length)/\B=w.heap.size/\S7 w' B (Dh c s)/\Fp [] w w':=by
 obtain⟨m,a⟩:=a;rw[yU];refine(Tryz.strings_Split s ⟨#[c]⟩ m w (by omega) a (Z 1)).mono ?_;rintro e w' ⟨rfl,rfl⟩;exact⟨_,rfl,rfl,Ai rfl _,Fp.alloc _ _⟩
theorem zG(a g d c:Value)(w:World):(Instr.index 196 (.agg #[a,g,d,c]) (.int .i64 0)).run Tryz.prog w=.ok a w:=by
 simp[Instr.index,run_underlying Tryz.underlying196,asIntOf,go_sem]
theorem zH(g a d c:Value)(w:World):(Instr.index 196 (.agg #[g,a,d,c]) (.int .i64 1)).run Tryz.prog w=.ok a w:=by
 simp[Instr.index,run_underlying Tryz.underlying196,asIntOf,go_sem]
theorem zI(g d a c:Value)(w:World):(Instr.index 196 (.agg #[g,d,a,c]) (.int .i64 2)).run Tryz.prog w=.ok a w:=by
 simp[Instr.index,run_underlying Tryz.underlying196,asIntOf,go_sem]
theorem zJ(g d c a:Value)(w:World):(Instr.index 196 (.agg #[g,d,c,a]) (.int .i64 3)).run Tryz.prog w=.ok a w:=by
 simp[Instr.index,run_underlying Tryz.underlying196,asIntOf,go_sem]
structure Kw(w:World):Prop where
 mx:M5 w
 er:Q4 w
theorem zK(s:ByteArray)(w:World)(hs:s.size≤100000000)(hp:Kw w):
  Calls Tryz.prog 70 #[.string s] w fun e w'=>e=.returned (.tuple #[A7 ((Dc s).getD Aq),.bool (Dc s).isSome])/\Fp [] w w':=by
 have HP:=X hp;have hS:=X (fun w=>lU 32 s w hs);have ar:∀(fn:Fn) (first cap:Array Value) (w:World),(Instr.makeFunc fn first cap).run Tryz.prog w=.ok (.func fn first cap) w:=fun _ _ _ _=>rfl;clear hp;by_cases h4:(Dh 32 s).length=4
 .obtain⟨a,b,c,d,t⟩:=lT h4;go_in;go_wp2_with fail;refine(hS.o _ (HP.o.mx.fp (Fp.alloc _ _) a0x)).mono ?_;rintro e E ⟨B,rfl,hB,h,g⟩;rw[t] at h ⊢;have D:Hid (C3 E w.heap.size Aq):=C3.fp (S:=[]) (Ai rfl _) g a0x;have A:=X ((Fp.alloc w _).trans g);have aj:=X h
  have y:B∉[w.heap.size]:=by rw[hB];simp
  have am:[a,b,c,d].length=4:=rfl
  have ah:Hid (c.size<=100000000):=by unfold Hid;have:=O2 (c:=32) (s:=s) (x:=c) (by rw[t];simp);omega
  clear g h hB h4;go_wp2_with fail;obtain⟨w2,m⟩:=Aa (E.alloc (.cells #[.func (.func 122) #[] #[.pointer (some ⟨w.heap.size,0,none⟩)],.func (.func 124) #[] #[.pointer (some ⟨w.heap.size,0,none⟩)],.func (.func 125) #[] #[.pointer (some ⟨w.heap.size,0,none⟩)],.func (.func 127) #[] #[.pointer (some ⟨w.heap.size,0,none⟩)]] 196));rw[m]
  have l:Fp [] E w2:=by rw[<-m];exact Fp.alloc _ _
  have al:=X (D.o.fp l a0x);have aa:=X (aj.o.fp l a0x);have ak:=X (A.o.trans l);have p0:w2.cell? ⟨B,0,none⟩=some (.string a):=aa.o.at 0 (by simp);clear l m;have aq:=zG;have ap:=zH;have ao:=zI;have an:=zJ;refine wp_loop_rounds 5 ?_;rw[rounds_succ];go_wp2_with fail;refine(yZ a _ _ _ al.o).mono ?_;rintro e w3 ⟨rfl,i,g⟩;have ag:=X i;have V:=X (aa.o.fp g y);have ad:=X (ak.o.trans g);have p1:w3.cell? ⟨B,1,none⟩=some (.string b):=V.o.at 1 (by simp);clear p0 i g;obtain⟨n1,r⟩:=Aa (M6 a);rw[r];cases n1
  .have j:Hid (Dc s=none):=(by unfold Hid Dc;rw[t];show Io a b c d=none;unfold Io;rw[r,if_neg (by simp)])
   obtain⟨q0,q1,K,J,I,F,T,R,Q,P,O,N⟩:=ag.o.facts0;go_wp2_with fail;rw[j.o];refine bodyPost_ret (v:=.tuple #[A7 Aq,.bool false]) (by simp[results,Tryz.results70,A7,Aq,go_sem, *]) rfl ⟨rfl,?_⟩
   repeat(first|(with_reducible refine Fp.drew' ?_)|(with_reducible refine Fp.setCell' ?_ (Or.inr (Z _)) _)|(with_reducible refine Fp.alloc' ?_ _)|(with_reducible exact ad.o))
  go_wp2_with fail;rw[rounds_succ];go_wp2_with fail;refine(zA b _ _ _ ag.o).mono ?_;rintro e w4 ⟨rfl,i,g⟩;have af:=X i;have U:=X (V.o.fp g y);have z:=X (ad.o.trans g);have p2:w4.cell? ⟨B,2,none⟩=some (.string c):=U.o.at 2 (by simp);clear p1 i g;obtain⟨n2,q⟩:=Aa (M6 b);rw[q];cases n2
  .have j:Hid (Dc s=none):=(by unfold Hid Dc;rw[t];show Io a b c d=none;unfold Io;rw[q,if_neg (by simp)])
   obtain⟨q0,q1,K,J,I,F,T,R,Q,P,O,N⟩:=af.o.facts0;go_wp2_with fail;rw[j.o];refine bodyPost_ret (v:=.tuple #[A7 Aq,.bool false]) (by simp[results,Tryz.results70,A7,Aq,go_sem, *]) rfl ⟨rfl,?_⟩
   repeat(first|(with_reducible refine Fp.drew' ?_)|(with_reducible refine Fp.setCell' ?_ (Or.inr (Z _)) _)|(with_reducible refine Fp.alloc' ?_ _)|(with_reducible exact z.o))
  go_wp2_with fail;rw[rounds_succ];go_wp2_with fail;refine(zD c _ _ _ af.o ah.o (HP.o.er.fp z.o a0x a0x)).mono ?_;rintro e w5 ⟨rfl,⟨u,k,i⟩,g⟩;have ae:=X i;have ai:=X (U.o.fp g y);have ac:=X (z.o.trans g);have p3:w5.cell? ⟨B,3,none⟩=some (.string d):=ai.o.at 3 (by simp);clear p2 i g
  cases hn3:Fq c with
  |none=>
   have j:Hid (Dc s=none):=(by unfold Hid Dc;rw[t];show Io a b c d=none;unfold Io;rw[hn3];split<;>rfl)
   clear k;obtain⟨q0,q1,K,J,I,F,T,R,Q,P,O,N⟩:=ae.o.facts0;go_wp2_with fail;rw[j.o];refine bodyPost_ret (v:=.tuple #[A7 Aq,.bool false]) (by simp[results,Tryz.results70,A7,Aq,go_sem, *]) rfl ⟨rfl,?_⟩
   repeat(first|(with_reducible refine Fp.drew' ?_)|(with_reducible refine Fp.setCell' ?_ (Or.inr (Z _)) _)|(with_reducible refine Fp.alloc' ?_ _)|(with_reducible exact ac.o))
  |some u'=>
   obtain rfl:u'=u:=by
    rcases k with k|k
    .rw[hn3] at k;cases k
    .rw[hn3] at k;exact Option.some.inj k
   clear k;go_wp2_with fail;rw[rounds_succ];go_wp2_with fail;refine(zF d _ _ _ ae.o).mono ?_;rintro e w6 ⟨rfl,i,g⟩;have C:=X i;have ab:=X (ac.o.trans g);clear p3 i g;obtain⟨n4,p⟩:=Aa ((Ha d||K8 d));rw[p];cases n4
   .have j:Hid (Dc s=none):=(by unfold Hid Dc;rw[t];show Io a b c d=none;unfold Io;rw[p,if_neg (by simp)])
    obtain⟨q0,q1,K,J,I,F,T,R,Q,P,O,N⟩:=C.o.facts0;go_wp2_with fail;rw[j.o];refine bodyPost_ret (v:=.tuple #[A7 Aq,.bool false]) (by simp[results,Tryz.results70,A7,Aq,go_sem, *]) rfl ⟨rfl,?_⟩
    repeat(first|(with_reducible refine Fp.drew' ?_)|(with_reducible refine Fp.setCell' ?_ (Or.inr (Z _)) _)|(with_reducible refine Fp.alloc' ?_ _)|(with_reducible exact ab.o))
   go_wp2_with fail;rw[rounds_succ]
   have j:Hid (Dc s=some ⟨a,b,u',0,Ha d,if Ha d=true then⟨#[]⟩ else Hk d⟩):=(by unfold Hid Dc;rw[t];show Io a b c d=_;unfold Io;rw[r,q,hn3,p,if_pos (by simp)];rfl)
   obtain⟨vv,M⟩:=Aa ((if Ha d=true then Aq.val else Hk d));have L:(if Ha d=true then(⟨#[]⟩:ByteArray) else Hk d)=vv:=M;rw[M] at C;rw[L] at j;obtain⟨q0,q1,K,J,I,F,T,R,Q,P,O,N⟩:=C.o.facts0;go_wp2_with fail;rw[j.o];refine bodyPost_ret (v:=.tuple #[A7 ⟨a,b,u',0,Ha d,vv⟩,.bool true]) (by simp[results,Tryz.results70,A7,Aq,go_sem, *]) rfl ⟨rfl,?_⟩
   repeat(first|(with_reducible refine Fp.drew' ?_)|(with_reducible refine Fp.setCell' ?_ (Or.inr (Z _)) _)|(with_reducible refine Fp.alloc' ?_ _)|(with_reducible exact ab.o))
 .have hl:=lS h4;rw[hl];obtain⟨n,hn⟩:=Aa ((Dh 32 s).length);rw[hn] at hS h4
  have au:¬((n:Nat):Int)=4:=by omega
  go_in;go_wp2_with fail;refine(hS.o _ (HP.o.mx.fp (Fp.alloc _ _) a0x)).mono ?_;rintro e E ⟨B,rfl,hB,h,g⟩;have D:Hid (C3 E w.heap.size Aq):=C3.fp (S:=[]) (Ai rfl _) g a0x;have A:=X ((Fp.alloc w _).trans g);clear g h hB hn;obtain⟨q0,q1,K,J,I,F,T,R,Q,P,O,N⟩:=D.o.facts;go_wp2_with fail;refine bodyPost_ret (v:=.tuple #[A7 Aq,.bool false]) (by simp[results,Tryz.results70,A7,Aq,go_sem, *]) rfl ⟨rfl,?_⟩
  repeat(first|(with_reducible refine Fp.drew' ?_)|(with_reducible refine Fp.setCell' ?_ (Or.inr (Z _)) _)|(with_reducible refine Fp.alloc' ?_ _)|(with_reducible exact A.o))
end
end Go.Proofs.YtkagolpnaicdoaaGreatDoor
