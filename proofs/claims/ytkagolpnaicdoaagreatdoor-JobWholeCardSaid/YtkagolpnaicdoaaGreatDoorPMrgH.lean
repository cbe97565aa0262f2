/-
 merge.Group.
-/
import Derived.Test.YtkagolpnaicdoaaGreatDoorPRunF
set_option maxRecDepth 100000
set_option maxHeartbeats 8000000
open Go.Lib renaming hid->a0z
open List renaming mem_cons_self->a0x,getElem?_cons_zero->a0w,setIfInBounds_toArray->a0v,length_cons->a0u,getElem?_toArray->a1z,set_cons_succ->a1w,set_cons_zero->a1v,reverse_cons->a1u,mem_cons_of_mem->a2z,reverse_nil->a2x,cons_append->a2w,map_cons->a2v,nil_append->a2u,nodup_cons->a3z,eq_nil_of_length_eq_zero->a3x,getElem?_eq_getElem->a3w
open Nat renaming le_refl->a1x
namespace Go.Proofs.YtkagolpnaicdoaaGreatDoor
open Go.RowKit Go.Lib
def Gv:List Ez->Nat
 |[]=>0
 |x::l=>x.2.length+Gv l
theorem O3{l m:List Ez}(h:l.Perm m):Gv l=Gv m:=by
 induction h with
 |nil=>rfl
 |cons x _ ih=>simp only[Gv,ih]
 |swap x y l=>simp only[Gv];omega
 |trans _ _ h1 h2=>exact h1.trans h2
structure Tv(all:List Ad)(es:List Ez)(done out:List Ad):Prop where
 ris:∀x∈es,D3 x.2
 mrg:Le done out
 ok:Ce done
 le:∀y∈done,∀x∈es,A9 y (F7 x)
 mem:∀z,z∈all↔z∈done∨∃x∈es,z∈x.2
theorem Tv.none{all done out:List Ad}(h:Tv all [] done out):Bv all out:=
 h.mrg.res.perm fun z=>by rw[h.mem z];simp
theorem Tv.step{all done t out' r:List Ad}{es g f:List Ez}{s:Jh}{y:Ad}(h:Tv all es done t)(v:((s,y::r)::g).Perm es)(k:∀x∈es,Ce x.2)(n:∀x∈es,A9 y (F7 x))
  (F:Le (done++[y]) out')(G:(r=[]/\f=g)∨(r≠[]/\f.Perm ((s,r)::g))):Tv all f (done++[y]) out':=by
 have i:(s,y::r)∈es:=v.mem_iff.1 a0x
 have p:∀x∈g,x∈es:=fun x i=>v.mem_iff.1 (a2z _ i)
 have q:Cd y:=k _ i y a0x;have m:=h.ris _ i;have E:D3 r:=(List.pairwise_cons.1 m).2
 have d:∀x,x∈f↔x∈g∨(r≠[]/\x=(s,r)):=fun x=>by
  rcases G with⟨B,A⟩|⟨B,A⟩
  ·rw[A];simp[B]
  ·rw[A.mem_iff];simp[B,or_comm]
 have w:∀z,(∃x∈es,z∈x.2)↔z=y∨∃x∈f,z∈x.2:=fun z=>by
  constructor
  ·rintro⟨x,i,a⟩
   rcases List.mem_cons.1 (v.mem_iff.2 i) with e|e
   ·subst e
    rcases List.mem_cons.1 a with e|e
    ·exact Or.inl e
    ·exact Or.inr ⟨(s,r),(d _).2 (Or.inr ⟨List.ne_nil_of_mem e,rfl⟩),e⟩
   ·exact Or.inr ⟨x,(d _).2 (Or.inl e),a⟩
  ·rintro(e|⟨x,b,a⟩)
   ·exact⟨_,i,by rw[e];exact a0x⟩
   ·rcases(d _).1 b with e|⟨_,e⟩
    ·exact⟨x,p x e,a⟩
    ·subst e;exact⟨_,i,a2z _ a⟩
 refine⟨fun x b=>?_,F,fun z a=>?_,fun z a x b=>?_,fun z=>?_⟩
 ·rcases(d _).1 b with e|⟨_,e⟩
  ·exact h.ris x (p x e)
  ·subst e;exact E
 ·rcases List.mem_append.1 a with a|a
  ·exact h.ok z a
  ·rw[List.mem_singleton.1 a];exact q
 ·have l:A9 y (F7 x):=by
   rcases(d _).1 b with e|⟨C,e⟩
   ·exact n x (p x e)
   ·subst e
    obtain⟨j,r0,rfl⟩:∃j r0,r=j::r0:=by
     cases r with
     |nil=>exact absurd rfl C
     |cons j r0=>exact⟨j,r0,rfl⟩
    exact m.first q j (by simp)
  rcases List.mem_append.1 a with a|a
  ·have u:A9 z y:=h.le z a _ i
   have D:Cd (F7 x):=by
    rcases(d _).1 b with e|⟨C,e⟩
    ·have o:=k x (p x e);unfold F7
     cases hx3:x.2 with
     |nil=>exact aU
     |cons j r0=>rw[hx3] at o;exact o j a0x
    ·subst e;have o:=k _ i;unfold F7
     cases r with
     |nil=>exact aU
     |cons j r0=>exact o j (by simp)
   exact A9.trans (h.ok z a) q D u l
  ·rw[List.mem_singleton.1 a];exact l
 ·rw[h.mem z,w z,List.mem_append,List.mem_singleton,or_assoc]
theorem Ab4(w:World)(x y:Value):(Instr.typeAssert (.iface 331 (.agg #[x,y])) 20 331 false).run Tryz.prog w=.ok (.agg #[x,y]) w:=by kernel_rfl
structure Iq(wB:World)(xq:Nat)(nv:Value)(b:Nat->Bool)(w:World):Prop where
 pre:b 10=false->Fp [] wB w
 post:b 10=true->Fp [xq] wB w/\w.heap[xq]?=some (.cells #[nv] 329 (0,0))
 o1:b 10=true->b 7=true
 o2:b 7=true->b 6=true
theorem Iq.any{d w:World}{a:Nat}{f:Value}{b:Nat->Bool}(h:Iq d a f b w):Fp [a] d w:=by
 cases e:b 10 with
 |false=>exact(h.pre e).mono (by simp)
 |true=>exact(h.post e).1
theorem Iq.plain{f w:World}{d k:Nat}{g:Value}{b:Nat→Bool}(h:Iq f d g b w)(a:k≠10∧(k=7→b 6=true)):Iq f d g (Ah b k) w:=by
 refine⟨fun e=>?_,fun e=>?_,fun e=>?_,fun e=>?_⟩
 ·rw[Ag a.1.symm] at e;exact h.pre e
 ·rw[Ag a.1.symm] at e;exact h.post e
 ·rw[Ag a.1.symm] at e;exact Ji (h.o1 e)
 ·by_cases i:k=7
  ·exact Ji (a.2 i)
  ·rw[Ag (Ne.symm i)] at e;exact Ji (h.o2 e)
theorem Iq.store{f w:World}{a:Nat}{d g:Value}{b:Nat->Bool}(h:Iq f a d b w)(l:b 10=false)(k:b 7=true)(j:f.heap[a]?=some (.cells #[g] 329 (0,0))):Iq f a d (Ah b 10) (w.setCell ⟨a,0,none⟩ d):=by
 have i:=h.pre l;have m:w.heap[a]?=some (.cells #[g] 329 (0,0)):=(i.block _ (Ac j) (by simp)).trans j;refine⟨fun e=>?_,fun _=>⟨(i.mono (by simp)).trans (Fp.setCell w ⟨a,0,none⟩ d) (by simp),(Bd m _).trans rfl⟩,fun _=>?_,fun e=>?_⟩
 ·rw[Fj] at e;cases e
 ·exact Ji k
 ·exact Ji (h.o2 k)
structure mS(W0:World)(B:Nat)(all:List Ad)(v:Value)(g:Nat)(W:World):Prop where
 ex:∃es done out,g=Gv es/\Dz W W0.heap.size B es/\G5 (C5 es) es.length/\Ae Bz W W0.heap.size v out/\Tv all es done out/\out.length<=done.length/\done.length+Gv es<=1000000/\es.length<=1000000
 fp:Fp [] W0 W
structure Ab5(W0:World)(B:Nat)(rs:List (List Ad))(k:Nat)(W:World):Prop where
 ex:∃es,Dz W W0.heap.size B es/\G5 (C5 es) es.length/\(∀x∈es,x.2∈rs)/\(∀i (h:i<rs.length),i<k->rs[i]≠[]->∃x∈es,x.2=rs[i])/\es.length<=k/\Gv es=((rs.take k).map (·.length)).sum
 fp:Fp [] W0 W
theorem Ab6(t:World)(a:Option Addr)(n cap:Nat)(rs:List (List Ad))(h:Ht t a n rs)(hr:∀r∈rs,D3 r∧Ce r∧r.length≤1000000)(hn:n≤900000)(bq:(rs.map (·.length)).sum≤1000000):
  Calls Tryz.prog 222 #[.slice a n cap] t fun e W'=>∃v j,e=.returned v/\Bv rs.flatten j/\Ae Bz W' t.heap.size v j/\Fp [] t W':=by
 have e9:=a0z (pF t a n cap rs h hr (by omega));have HR:=a0z h;have d8:=a0z hr;have ec:=a0z h.len;have e8:=a0z bq;clear h hr bq;go_enter Tryz.func222,Tryz.ntmps222;go_wp2_with (fail);(with_reducible refine e9.out.mono ?_);rintro e w1 ⟨rfl,dl⟩;have bn:=a0z dl;clear dl
 have du:Dz ((w1.alloc (.cells #[] 331)).alloc (.cells #[.slice (some ⟨w1.heap.size,0,none⟩) 0 0] 325)) t.heap.size (w1.heap.size+1) []:=by
  refine⟨⟨_,Ai (by simp) _,?_⟩,(fun x E=>by cases E),(fun x E=>by cases E),?_,List.nodup_nil⟩
  ·exact Ae.fp (S:=[]) (Ae.made (R:=Ib) w1 _ bn.out.size) (Fp.alloc _ _) (by simp)
  ·have:=bn.out.size;omega
 have bo:=a0z du;have dt:Fp [] t ((w1.alloc (.cells #[] 331)).alloc (.cells #[.slice (some ⟨w1.heap.size,0,none⟩) 0 0] 325)):=(bn.out.alloc' _).alloc' _;have ef:=a0z dt
 obtain⟨W2,ds⟩:∃W2,(w1.alloc (.cells #[] 331)).alloc (.cells #[.slice (some ⟨w1.heap.size,0,none⟩) 0 0] 325)=W2:=⟨_,rfl⟩
 rw[ds] at bo ef
 obtain⟨B,hB⟩:∃B,w1.heap.size+1=B:=⟨_,rfl⟩
 rw[hB] at bo
 have fw:t.heap.size<B:=by have:=bn.out.size;omega
 clear du dt;go_wp2_with (fail);clear ds hB
 go_loopg [16] n (fun gg vi wr=>∃k:Nat,vi=.int .i64 k/\gg+k=n/\Ab5 t B rs k wr)
 case atStart=>exact⟨0,rfl,by omega,⟨[],bo.out,(fun i l N=>by cases N),(fun x E=>by cases E),(fun i _ h=>by omega),a1x _,by simp[Gv]⟩,ef.out⟩
 case round=>
  obtain⟨k,rfl,hg,di⟩:=hrel;have ae:=a0z di;clear di
  by_cases F:k<n
  ·have zk:(k:Int)<(n:Int):=by omega
   have n1:IntKind.i64.wrap ((k:Int)+1)=((k+1:Nat):Int):=by rw[IntKind.wrap_i64];omega
   have az:k<rs.length:=by have:=ec.out;omega
   obtain⟨b,o,v,e,hc⟩:=HR.out.get az;subst e;obtain⟨q,hv⟩:=hc wr ae.out.fp;obtain⟨-,cy⟩:=hc t (Fp.refl _ _);obtain⟨av,nv,cv,rfl,db,ca,hq⟩:=hv;have da:nv=rs[k].length:=hq.len;have cn:=a0z da;have HQ:=a0z hq;have e7:=a0z cy;have dp:nv<=cv:=db;clear hc da hq cy db ca
   by_cases h0:0<nv
   ·have z0:(nv:Int)>0:=by omega
    obtain⟨es,V,ho,af,al,hl,ht⟩:=ae.out.ex;obtain⟨a2,n2,c2,e2,fl,-,ba⟩:=e7.out;cases e2
    have aj:∃I M,av=some ⟨I,M,none⟩/\I<t.heap.size:=by
     rcases ba.cells with l|⟨I,M,l,N,_⟩
     ·have:=ba.len;rw[l] at this;simp at this;omega
     ·exact⟨I,M,l,N⟩
    obtain⟨I,M,rfl,am⟩:=aj;have eo:t.heap.size<=wr.heap.size:=ae.out.fp.size
    have aa:wr.heap.size∉es.map (·.1.q):=by
     intro hm;obtain⟨x,E,e⟩:=List.mem_map.1 hm;obtain⟨_,_,_,_,l,_⟩:=(V.qs x E).1.ex;have:=Ac l;omega
    have c4:I5 (wr.alloc (.cells #[.slice (some ⟨I,M,none⟩) nv cv] 329)) t.heap.size wr.heap.size rs[k]:=
     ⟨eo,I,M,nv,cv,Ai rfl _,dp,am,HQ.out.fp (Fp.alloc _ _)⟩
    have ag:=a0z (fE (wr.alloc (.cells #[.slice (some ⟨I,M,none⟩) nv cv] 329)) t.heap.size B es (⟨wr.heap.size,k⟩,rs[k]) (V.fp (Fp.alloc _ _)) ho c4 (by have:=cn.out;show 0<rs[k].length;omega) (d8.out _ (List.getElem_mem az)).2.1 aa (by simp;omega) (by omega));unfold Si at ag;simp only at ag;have ff:=a0z af;have fe:=a0z al;have HL:=a0z hl;have HT:=a0z ht;clear V ho af al hl ht ba c4 aa;go_wp2_with (fail);(with_reducible refine ag.out.mono ?_);rintro e w3 ⟨rfl,e3,hp,c6,dd,cF⟩;have b8:=hp.length_eq;have bf:=a0z hp;have e6:=a0z c6;have e5:=a0z dd;have e4:=a0z (cF.onto (ae.out.fp.alloc' _) (a1x _) (by intro i hi;right;simp at hi;omega));clear hp c6 dd cF;go_wp2_with (fail)
    go_roundg (gk-1)
    case measure=>omega
    case rel=>
     refine⟨k+1,by simp,by omega,⟨e3,e5.out,e6.out,fun x E=>?_,fun i hi eu bc=>?_,?_,?_⟩,e4.out⟩
     ·rcases List.mem_cons.1 (bf.out.mem_iff.1 E) with e|e
      ·rw[e];exact List.getElem_mem az
      ·exact ff.out x e
     ·by_cases e:i=k
      ·subst e;exact⟨_,bf.out.mem_iff.2 a0x,rfl⟩
      ·obtain⟨x,E,e2⟩:=fe.out i hi (by omega) bc;exact⟨x,bf.out.mem_iff.2 (a2z _ E),e2⟩
     ·rw[b8,a0u];have:=HL.out;omega
     ·rw[O3 bf.out,Gv,HT.out,List.take_add_one,a3w az];simp only[Option.toList,List.map_append,a2v,List.map_nil,List.sum_append,List.sum_cons,List.sum_nil];omega
   ·have z0:¬(nv:Int)>0:=by omega
    go_wp2_with (fail)
    go_roundg (gk-1)
    case measure=>omega
    case rel=>
     obtain⟨es,V,ho,af,al,hl,ht⟩:=ae.out.ex;refine⟨k+1,by simp,by omega,⟨es,V,ho,af,fun i hi eu bc=>?_,by omega,?_⟩,ae.out.fp⟩
     ·by_cases e:i=k
      ·subst e;exfalso;have:=cn.out;exact bc (a3x (by omega))
      ·exact al i hi (by omega) bc
     ·rw[ht,List.take_add_one,a3w az];have:=cn.out;simp only[Option.toList,List.map_append,a2v,List.map_nil,List.sum_append,List.sum_cons,List.sum_nil];omega
  ·have zk:¬(k:Int)<(n:Int):=by omega
   have s:∃es,mS t B rs.flatten (.slice none 0 0) (Gv es) wr:=by
    obtain⟨es,V,ho,af,al,hl,ht⟩:=ae.out.ex
    have et:k=rs.length:=by have:=ec.out;omega
    rw[et,List.take_length] at ht;refine⟨es,⟨es,[],[],rfl,V,ho,Ae.nil _ _,⟨fun x E=>(d8.out _ (af x E)).1,Le.nil,(fun x E=>by cases E),(fun y hy=>by cases hy),fun z=>?_⟩,a1x _,by have:=e8.out;simp;omega,by omega⟩,ae.out.fp⟩;rw[List.mem_flatten];constructor
    ·rintro⟨r,hr,hz⟩;obtain⟨i,hi,e⟩:=List.mem_iff_getElem.1 hr;obtain⟨x,E,e2⟩:=al i hi (by omega) (by rw[e];exact List.ne_nil_of_mem hz);exact Or.inr ⟨x,E,by rw[e2,e];exact hz⟩
    ·rintro(h|⟨x,E,hz⟩)
     ·cases h
     ·exact⟨_,af x E,hz⟩
   obtain⟨e1,s⟩:=s;have d7:=a0z s;clear s;go_wp2_with (fail)
   go_loopg [2] (Gv e1) (fun gg v wr=>mS t B rs.flatten v gg wr)
   case atStart=>exact d7.out
   case round=>
    obtain⟨es,done,j,dh,V,ho,ay,dg,fo,fm,dm⟩:=hrel.ex;have cs:=a0z hrel.fp;have HH:=a0z V;have HO:=a0z ho;have bj:=a0z ay;have ad:=a0z dg;have ar:=a0z dh;obtain⟨ao,co,e,fq,fu⟩:=ay.len;subst e;obtain⟨vb,au,bp⟩:=V.box;obtain⟨sb,cb,rfl,-,-⟩:=bp.len;rw[List.length_map] at au;have q0:wr.cell? ⟨B,0,none⟩=some (.slice sb es.length cb):=Ab au 0;have a8:=a0z (cG wr sb es.length cb);clear au bp hrel V ho ay dg dh
    by_cases he:es.length=0
    ·have ze:¬(es.length:Int)>0:=by omega
     have HE:Hid (es=[]):=a3x he;clear he;go_wp2_with (fail);(with_reducible refine a8.out.mono ?_);rintro e w4 ⟨rfl,rfl⟩;go_wp2_with (fail);go_ret;have hg:=ad.out;rw[HE.out] at hg;exact⟨_,j,rfl,hg.none,bj.out,cs.out⟩
    ·have ze:(es.length:Int)>0:=by omega
     have bw:=a0z (sO wr t.heap.size B es HH.out HO.out (by omega) dm);clear he;go_wp2_with (fail);(with_reducible refine a8.out.mono ?_);rintro e w4 ⟨rfl,rfl⟩;go_wp2_with (fail);(with_reducible refine bw.out.mono ?_);rintro e wp ⟨⟨⟨L,xa⟩,xr⟩,es1,rfl,b9,c9,df,c0,bt,cS⟩;have E:(⟨⟨L,xa⟩,xr⟩:Ez)∈es:=b9.mem_iff.1 a0x;obtain⟨r,hr⟩:=To (HH.out.qs _ E).2
     obtain⟨y,hy⟩:∃y,xr.headD I3=y:=⟨_,rfl⟩
     simp only at hr;rw[hy] at hr;clear hy;subst hr;have u:=a0z b9;have cm:=a0z c9;have fh:=a0z df;have d9:=a0z c0;have a7:Hid (∀x∈es,A9 y (F7 x)):=bt;have ci:=a0z cS;clear b9 c9 df c0 bt cS E q0;have en:=Ab4 wp (.pointer (some ⟨L,0,none⟩)) (.int .i64 xa);obtain⟨⟨Q,U,P,ys,T,O⟩,Y⟩:=y
     have ee:Hid (∀W',Fp [] wp W'->Calls Tryz.prog 273 #[.pointer (some ⟨L,0,none⟩)] W' fun e W''=>e=.returned (.agg #[.string Q,.string U,.int .u64 P,.int .u64 ys,.bool T,.string O,.int .i64 Y])/\Fp [] W' W''):=fun W' hf=>cE W' t.heap.size L _ r (d9.out.fp hf)
     have q1:(wp.alloc (.cells #[.pointer (some ⟨L,0,none⟩),.int .i64 xa] 331)).cell? ⟨wp.heap.size,0,none⟩=some (.pointer (some ⟨L,0,none⟩)):=Ab (Ai rfl _) 0;unfold Si;simp only;go_wp2_with (fail);(with_reducible refine(ee.out _ (Fp.alloc _ _)).mono ?_);rintro e w5 ⟨rfl,cf⟩;have hS:w5.heap[wp.heap.size]?=some (.cells #[.pointer (some ⟨L,0,none⟩),.int .i64 xa] 331 (0,0)):=(cf.block _ (by simp) (by simp)).trans (Ai rfl _);have HS:=a0z hS;have cw:Hid (Fp [] wp w5):=(Fp.alloc _ _).trans cf (by simp)
     obtain⟨S,ch⟩:∃S,wp.heap.size=S:=⟨_,rfl⟩
     have f6:=a0z ch
     have ea:Hid (Ae Bz w5 t.heap.size (.slice ao j.length co) j):=(bj.out.tf ci.out (by decide) (fun k F hm=>by
      obtain rfl:=List.mem_singleton.1 hm;obtain⟨v1,l,_⟩:=HH.out.box
      rcases bj.out.2 with⟨e,_⟩|⟨g,ac,aS,e,_,V,_⟩
      ·rw[e] at F;cases F
      ·rw[e] at F
       obtain rfl:g=k:=by simpa [Value.ownBlock] using F
       rw[V] at l
       cases l)).fp cw.out (by simp)
     rw[ch] at HS ⊢;clear cf en q1 hS ch
     go_upto_region 14 with(fail)
     obtain⟨w6,a9⟩:∃w6,w5.alloc (.cells #[.string Q,.string U,.int .u64 P,.int .u64 ys,.bool T,.string O,.int .i64 Y] 221)=w6:=⟨_,rfl⟩
     have hX:w6.heap[w5.heap.size]?=some (.cells #[.string Q,.string U,.int .u64 P,.int .u64 ys,.bool T,.string O,.int .i64 Y] 221 (0,0)):=by rw[<-a9];exact Ai rfl _
     have ce:Fp [] w5 w6:=by rw[<-a9];exact Fp.alloc _ _
     rw[a9]
     obtain⟨X,dr⟩:∃X,w5.heap.size=X:=⟨_,rfl⟩
     rw[dr] at hX ⊢;have HX:=a0z hX;have cu:=a0z ce;have bk:=a0z (ea.out.fp ce (by simp))
     have d6:Hid (∀w',Fp [] w6 w'->w'.cell? ⟨X,0,none⟩=some (.string Q)/\w'.cell? ⟨X,1,none⟩=some (.string U)/\w'.cell? ⟨X,2,none⟩=some (.int .u64 P)/\w'.cell? ⟨X,3,none⟩=some (.int .u64 ys)/\w'.cell? ⟨X,4,none⟩=some (.bool T)/\w'.cell? ⟨X,5,none⟩=some (.string O)/\w'.cell? ⟨X,6,none⟩=some (.int .i64 Y)):=fun w' hf=>by
      have l:=(hf.block _ (Ac hX) (by simp)).trans hX;exact⟨Ab l 0,Ab l 1,Ab l 2,Ab l 3,Ab l 4,Ab l 5,Ab l 6⟩
     clear a9 hX ce dr
     go_cut [61] from 34 to 87 (fun v wx=>∃bb:Bool,v=.bool bb/\(bb=true->j.length=0∨Ba (Af j (j.length-1)) ⟨⟨Q,U,P,ys,T,O⟩,Y⟩=false)/\(bb=false->0<j.length/\Ba (Af j (j.length-1)) ⟨⟨Q,U,P,ys,T,O⟩,Y⟩=true)/\Fp [] w6 wx)
     case first=>
      by_cases hz:j.length=0
      ·have ej:((j.length:Int)==0)=true:=by rw[hz];rfl
       have HZ:=a0z hz;clear hz;go_wp2_with (fail);refine C9 (by kernel_rfl) (by kernel_rfl) ?_
       iterate 3
        apply Aw rfl rfl rfl
        ·intro a w f d K A
         try have h8:=d.fr 8 rfl
         try have e0:=d.eq 0 48 rfl
         try have ez:=d.eq 1 49 rfl
         simp only[Oper.wp,execOp];go_simp;exact A _ f (Fp.refl _ _)
       apply An 2 50 rfl rfl rfl rfl (by kernel_rfl) rfl rfl;apply An 2 50 rfl rfl rfl rfl (by kernel_rfl) rfl rfl;apply An 2 50 rfl rfl rfl rfl (by kernel_rfl) rfl rfl;apply An 2 50 rfl rfl rfl rfl (by kernel_rfl) rfl rfl;apply An 2 50 rfl rfl rfl rfl (by kernel_rfl) rfl rfl;apply An 2 50 rfl rfl rfl rfl (by kernel_rfl) rfl rfl;apply An 2 50 rfl rfl rfl rfl (by kernel_rfl) rfl rfl;apply An 2 50 rfl rfl rfl rfl (by kernel_rfl) rfl rfl;apply An 2 50 rfl rfl rfl rfl (by kernel_rfl) rfl rfl;apply An 2 50 rfl rfl rfl rfl (by kernel_rfl) rfl rfl;apply Aw rfl rfl rfl
       ·intro a w f d K A;have ey:=d.eq 2 50 rfl;have ew:=d.eq 12 60 rfl;simp only[Oper.wp,execOp];go_simp;exact A _ f (Fp.refl _ _)
       refine⟨?_,?_⟩
       ·repeat(first|exact trivial|refine B7 _ ?_ |refine⟨fun w1 w2 v _ hf ⟨g,l,N⟩=>⟨g,l,(hf.block g (Ac N) (by simp)).trans N⟩,?_⟩)
       ·intro w' f;simp only[a1u,a2x,a2u,a2w]
        iterate 14 (refine Am ?_)
        refine A0 ?_;simp only[Aj,Act.put,a0v,a1w,a1v];have HC:=a0z f;clear f;go_wp2_with (fail)
        go_meet
        case rel=>exact⟨true,rfl,fun _=>Or.inl HZ.out,(fun h=>by cases h),HC.out⟩
      ·have ej:((j.length:Int)==0)=false:=by simpa using hz
       have n2:IntKind.i64.wrap ((j.length:Int)-1)=((j.length-1:Nat):Int):=by rw[IntKind.wrap_i64];omega
       obtain⟨p,hp⟩:∃p,j.length-1=p:=⟨_,rfl⟩
       rw[hp] at n2
       have zp:(p:Int)<(j.length:Int):=by omega
       have b8:p<j.length:=by omega
       obtain⟨g,ac,aS,e,-⟩:=bk.out.open (by omega);cases e
       have eb:Hid (∀w',Fp [] w6 w'->Kw w' g (p*7) (Af j p)):=fun w' hf=>Me (bk.out.fp hf (by simp)) b8
       have be:=fun w=>nG (Af j p).c ⟨Q,U,P,ys,T,O⟩ w
       obtain⟨x,E⟩:∃x,Af j p=x:=⟨_,rfl⟩
       obtain⟨bs,cg⟩:∃bs,Ba x ⟨⟨Q,U,P,ys,T,O⟩,Y⟩=bs:=⟨_,rfl⟩
       have bv:I7 x.c ⟨Q,U,P,ys,T,O⟩=bs:=cg;rw[E] at eb be;rw[bv] at be
       have eg:Hid (Ba (Af j (j.length-1)) ⟨⟨Q,U,P,ys,T,O⟩,Y⟩=bs):=by rw[hp,E];exact cg
       obtain⟨⟨lr,lc,lt,ls,ld,lv⟩,lp⟩:=x;have fk:Hid (∀w,Calls Tryz.prog 265 #[.agg #[.string lr,.string lc,.int .u64 lt,.int .u64 ls,.bool ld,.string lv],.agg #[.string Q,.string U,.int .u64 P,.int .u64 ys,.bool T,.string O]] w fun e w'=>e=.returned (.bool bs)/\Fp [] w w'):=be;clear hz hp be E cg bv;go_wp2_with (fail);refine C9 (by kernel_rfl) (by kernel_rfl) ?_
       iterate 14
        first|apply Aw rfl rfl rfl|apply Hr 2 50 rfl rfl rfl rfl (by kernel_rfl) rfl rfl
        ·intro a w f d K A
         try have h8:=d.fr 8 rfl
         try have e0:=d.eq 0 48 rfl
         try have ez:=d.eq 1 49 rfl
         try have N:=d.fr 2 rfl
         try have f4:=d.eq 4 52 rfl
         try have f5:=d.eq 3 51 rfl
         try have f3:=d.eq 5 53 rfl
         try have f1:=d.eq 6 54 rfl
         try have f0:=d.eq 7 55 rfl
         try have h7:=d.fr 7 rfl
         try have fI:=d.eq 9 57 rfl
         try have fT:=d.eq 8 56 rfl
         try have fy:=d.eq 10 58 rfl
         try have fx:=d.eq 11 59 rfl
         try have ey:=d.eq 2 50 rfl
         try have ew:=d.eq 12 60 rfl
         obtain⟨a0,a1,a2,a3,a4,a5,a6⟩:=eb.out _ f;obtain⟨b0,b1,I,b3,b4,b5,b6⟩:=d6.out _ f;simp only at a0 a1 a2 a3 a4 a5 a6;simp only[Oper.wp,execOp];go_simp
         first
         |exact A _ f (Fp.refl _ _)
         |(with_reducible refine(fk.out _).mono ?_);rintro e w2 ⟨rfl,hf⟩;exact A _ (f.trans hf (by simp)) hf
       refine⟨?_,?_⟩
       ·repeat(first|exact trivial|refine B7 _ ?_ |refine⟨fun w1 w2 v _ hf ⟨g,l,N⟩=>⟨g,l,(hf.block g (Ac N) (by simp)).trans N⟩,?_⟩)
       ·intro w' f;simp only[a1u,a2x,a2u,a2w]
        iterate 14 (refine Am ?_)
        refine A0 ?_;simp only[Aj,Act.put,a0v,a1w,a1v];have HC:=a0z f;clear f;go_wp2_with (fail)
        go_meet
        case rel=>exact⟨!bs,rfl,fun h=>Or.inr (eg.out.trans (by cases bs<;>simp_all)),fun h=>⟨by omega,eg.out.trans (by cases bs<;>simp_all)⟩,HC.out⟩
     case rest=>
      obtain⟨bb,rfl,dq,am,cd⟩:=hcut;have ei:=a0z dq;have eh:=a0z am;have bm:=a0z cd;have ck:=a0z (bk.out.fp cd (by simp));clear dq am cd bk ea bj bo d7 d6 a8 bw ee;have oy:Cd ⟨⟨Q,U,P,ys,T,O⟩,Y⟩:=HH.out.ok _ (u.out.mem_iff.1 a0x) _ a0x
      have ed:Hid (∀z∈done,A9 z ⟨⟨Q,U,P,ys,T,O⟩,Y⟩):=fun z hz=>ad.out.le z hz _ (u.out.mem_iff.1 a0x)
      have fb:=a0z oy
      have fv:t.heap.size<=wc.heap.size:=by
       have l:=cs.out.size;have N:=ci.out.size;have h3:=cw.out.size;have h4:=cu.out.size;have h5:=bm.out.size;omega
      have q2:wc.cell? ⟨X,0,none⟩=some (.string Q)/\wc.cell? ⟨X,1,none⟩=some (.string U)/\wc.cell? ⟨X,2,none⟩=some (.int .u64 P)/\wc.cell? ⟨X,3,none⟩=some (.int .u64 ys)/\wc.cell? ⟨X,4,none⟩=some (.bool T)/\wc.cell? ⟨X,5,none⟩=some (.string O)/\wc.cell? ⟨X,6,none⟩=some (.int .i64 Y):=by
       have l:=(bm.out.block _ (Ac HX.out) (by simp)).trans HX.out;exact⟨Ab l 0,Ab l 1,Ab l 2,Ab l 3,Ab l 4,Ab l 5,Ab l 6⟩
      obtain⟨x0,x1,x2,x3,x4,x5,x6⟩:=q2
      obtain⟨wA,em⟩:∃x,x=wc:=⟨_,rfl⟩
      subst em;clear oy
      go_upto_if 61 with(fail)
      go_cut [2] from 34 to 87 (fun v wx=>∃C,Ae Bz wx t.heap.size v C/\Le (done++[⟨⟨Q,U,P,ys,T,O⟩,Y⟩]) C/\C.length<=done.length+1/\Tf t.heap.size [221] [] wA wx)
      case first=>
       cases bb
       ·have hb:=(by first|exact eh.out rfl|exact eh.out trivial:0<j.length/\Ba (Af j (j.length-1)) ⟨⟨Q,U,P,ys,T,O⟩,Y⟩=true)
        have HM:=a0z (ad.out.mrg.skip ed.out hb.1 hb.2);clear hb;go_wp2_with (fail)
        go_meet
        case rel=>exact⟨j,ck.out,HM.out,by omega,Tf.refl _⟩
       ·have hb:=(by first|exact ei.out rfl|exact ei.out trivial:j.length=0∨Ba (Af j (j.length-1)) ⟨⟨Q,U,P,ys,T,O⟩,Y⟩=false)
        have HM:=a0z (ad.out.mrg.take ad.out.ok fb.out ed.out hb);clear hb;go_wp2_with (at_builtin;(refine dV rfl _ _ rfl t.heap.size _ j rfl (ck.out.fp (Fp.alloc _ _) (by simp)) _ _ _ [⟨⟨Q,U,P,ys,T,O⟩,Y⟩] rfl (Cf.one (Ai rfl _)) (fun h=>by cases h) (by simp;omega) (by simp;omega) ?_);intro v2 w2 c8 am dj;have cl:=a0z c8;have fi:=a0z dj;clear c8 am dj)
        go_meet
        case rel=>exact⟨_,cl.out,HM.out,by simp;omega,(Tf.of (Fp.alloc _ _)).trans (Tf.grown (S:=[]) (ck.out.fp (Fp.alloc _ _) (by simp)) fi.out (by simp[Bz])) (by simp)⟩
      case rest=>
       obtain⟨C,c7,dc,ft,cz⟩:=hcut;have ap:=a0z c7;have cp:=a0z dc;have bg:=a0z cz;clear c7 dc cz x0 x1 x2 x3 x4 x5 x6
       obtain⟨wB,el⟩:∃x,x=wc:=⟨_,rfl⟩
       subst el;have bd:Fp [] wp wA:=(cw.out.trans cu.out (by simp)).trans bm.out (by simp);have aj:I5 wB t.heap.size L (⟨⟨Q,U,P,ys,T,O⟩,Y⟩::r):=(d9.out.fp bd).tf bg.out (a1x _) (by decide) (by simp);have cc:Dz wB t.heap.size B es1:=(fh.out.fp bd).tf bg.out (a1x _) (by decide) (by decide) (by decide) (by simp);have aw:wB.heap[S]?=some (.cells #[.pointer (some ⟨L,0,none⟩),.int .i64 xa] 331 (0,0)):=bg.out.cells (((cu.out.trans bm.out (by simp)).block _ (Ac HS.out) (by simp)).trans HS.out) (by simp) (by decide)
       have dk:Fp [] t wB:=(bg.out.onto ((ci.out.onto cs.out (a1x _) (by intro i hi;right;simp at hi;omega)).trans bd (by simp)) (a1x _) (by simp))
       obtain⟨I,M,n2,c2,ax,ba,ep,b7⟩:=aj.ex;have ak:n2=r.length+1:=b7.len
       have ek:L≠S:=by
        intro e;rw[e,aw] at ax;cases ax
       have bz:L≠B:=cc.noB aj;have f7:=a0z aw;have cq:=a0z cc;have G:=a0z ax;have fa:=a0z b7;have ct:=a0z dk;have J:=a0z aj
       have s0:∀w',Fp [L] wB w'->w'.cell? ⟨S,0,none⟩=some (.pointer (some ⟨L,0,none⟩))/\w'.cell? ⟨S,1,none⟩=some (.int .i64 xa):=fun w' hf=>by
        have l:=(hf.block _ (Ac aw) (by simpa using Ne.symm ek)).trans aw;exact⟨Ab l 0,Ab l 1⟩
       have Z:=a0z s0;have ah:=Ac ax
       have z2:(1:Int)<=(n2:Int):=by omega
       have z3:(n2:Int)<=(c2:Int):=by omega
       obtain⟨n3,fs⟩:∃n3,n2-1=n3:=⟨_,rfl⟩
       obtain⟨c3,ev⟩:∃c3,c2-1=c3:=⟨_,rfl⟩
       clear aw cc ax b7 dk aj s0 bd
       by_cases ai:r=[]
       ·have bh:=a0z ai
        have er:n3=0:=by rw[ai] at ak;simp at ak;omega
        have z4:¬(n3:Int)>0:=by omega
        clear ai ak er
        by_cases dn:c2=1
        ·subst dn
         obtain rfl:c3=0:=by omega
         have z5:(n2:Int)<=1:=by omega
         clear ev
         go_upto_region 16 with(fail)
         refine Ft (fun bb w'=>Iq wB L (.slice (some ⟨I,M,none⟩) n3 0) bb w') (fun _ _=>True) (by kernel_rfl) (by kernel_rfl) ⟨fun _=>Fp.drew _,(fun e=>by cases e),(fun e=>by cases e),(fun e=>by cases e)⟩ ?_
         iterate 6
          apply Be (fun _ _ h=>h.plain ⟨by decide,fun e=>absurd e (by decide)⟩) rfl rfl rfl
          ·intro b a w f d K A
           try have h6:=d.fr 6 rfl
           try have d4:=d.eq 0 66 rfl
           try have d2:=d.eq 2 68 rfl
           try have d1:=d.eq 3 69 rfl
           try have d0:=d.eq 4 70 rfl
           obtain⟨p0,p1⟩:=Z.out _ f.any;simp only[Oper.wp,execOp];go_simp;exact A _ f trivial
         apply Fb (B6 (.slice (some ⟨I,M,none⟩) n2 1)) rfl rfl rfl
         ·intro b a w f d K A;have dz:=d.eq 5 71 rfl;obtain⟨p0,p1⟩:=Z.out _ f.any;have aF:=F2 f.o1 (F2 f.o2 d.self);have p2:=Ab (((f.pre aF).block _ ah (by simp)).trans G.out) 0;simp only[a1z,a0w] at p2;have s:Iq wB L (.slice (some ⟨I,M,none⟩) n3 0) (Ah b 6) w:=f.plain ⟨by decide,fun e=>absurd e (by decide)⟩;simp only[Oper.wp,execOp];go_simp;exact A _ _ s trivial rfl
         apply Fb (B6 (.slice (some ⟨I,M,none⟩) n3 0)) rfl rfl rfl
         ·intro b a w f d K A;have dy:=d.eq 6 72 rfl;have s:Iq wB L (.slice (some ⟨I,M,none⟩) n3 0) (Ah b 7) w:=f.plain ⟨by decide,fun _=>d.pre 6 (by kernel_rfl)⟩;simp only[Oper.wp,execOp];go_simp;exact A _ _ s trivial rfl
         iterate 2
          apply Be (fun _ _ h=>h.plain ⟨by decide,fun e=>absurd e (by decide)⟩) rfl rfl rfl
          ·intro b a w f d K A
           try have d3:=d.eq 1 67 rfl
           try have dw:=d.eq 8 74 rfl
           simp only[Oper.wp,execOp];go_simp;exact A _ f trivial
         apply Gs (fun _=>True) rfl rfl
         ·intro b a w f d K A;have dv:=d.eq 9 75 rfl;have dx:=d.eq 7 73 rfl;have l:=((f.pre d.self).block _ ah (by simp)).trans G.out;have p2:=Ab l 0;have f2:=Ar l 0;have s:=f.store d.self (d.pre 7 (by kernel_rfl)) G.out;simp only[Oper.wp,execOp];go_simp;exact A undef _ s trivial trivial
         refine⟨?_,?_⟩
         ·refine⟨fun _ _ _ _ _=>trivial,?_⟩
          iterate 10 refine Cc _ ?_
          exact trivial
         ·intro w' bb f ab;simp only[a1u,a2x,a2u,a2w]
          iterate 6 (refine Am ?_)
          refine Ap ?_;intro v6 u6;obtain rfl:=u6;refine Ap ?_;intro v7 u7;obtain rfl:=u7
          iterate 2 (refine Am ?_)
          refine Ap ?_;intro cx u10;refine A0 ?_;simp only[Aj,Act.put,a0v,a1w,a1v];have m:=f.post (ab 10 (by simp));have cr:=a0z m.1;have cj:=a0z m.2;obtain⟨p0,p1⟩:=Z.out _ m.1;have p2:=Ab m.2 0;simp only[a1z,a0w] at p2
          have aq:Hid (Dz w' t.heap.size B es1):=cq.out.tf (Tf.of (base:=t.heap.size) (D:=[]) m.1) (a1x _) (by simp) (by simp) (by simp) (fun k F=>by
           obtain rfl:=List.mem_singleton.1 F;refine⟨J.out.ge,bz,fun x E e=>?_,fun c fz e=>?_⟩
           ·have l:=(u.out.map (·.1.q)).nodup_iff.2 HH.out.nd;rw[a2v,a3z] at l;exact l.1 (List.mem_map.2 ⟨x,E,e.symm⟩)
           ·rw[G.out] at e
            cases e)
          have an:Hid (Ae Bz w' t.heap.size u2 C):=ap.out.tf (Tf.of (base:=t.heap.size) (D:=[]) m.1) (by simp) (fun k F hm=>by
           obtain rfl:=List.mem_singleton.1 hm
           rcases ap.out.2 with⟨e,_⟩|⟨g,ac,aS,e,_,V,_⟩
           ·rw[e] at F;cases F
           ·rw[e] at F
            obtain rfl:g=k:=by simpa [Value.ownBlock] using F
            have:=G.out;rw[V] at this
            cases this)
          have W:Hid (Fp [] t w'):=ct.out.trans m.1 (by intro i hi;right;rw[List.mem_singleton.1 hi];exact J.out.ge);clear f ab m u10;go_wp2_with (fail)
          go_roundg (Gv es1)
          case measure=>have l:=ar.out;have N:=O3 u.out;simp only[Gv,a0u] at N;omega
          case rel=>
           have l:=ar.out;have N:=O3 u.out;simp only[Gv,a0u] at N;exact⟨⟨es1,done++[⟨⟨Q,U,P,ys,T,O⟩,Y⟩],C,rfl,aq.out,cm.out,an.out,ad.out.step u.out HH.out.ok a7.out cp.out (Or.inl ⟨bh.out,rfl⟩),by simp;omega,by simp;omega,by have:=u.out.length_eq;simp at this;omega⟩,W.out⟩
        ·go_upto_region 16 with(fail)
         refine Ft (fun bb w'=>Iq wB L (.slice (some ⟨I,M+7,none⟩) n3 c3) bb w') (fun _ _=>True) (by kernel_rfl) (by kernel_rfl) ⟨fun _=>Fp.drew _,(fun e=>by cases e),(fun e=>by cases e),(fun e=>by cases e)⟩ ?_
         iterate 6
          apply Be (fun _ _ h=>h.plain ⟨by decide,fun e=>absurd e (by decide)⟩) rfl rfl rfl
          ·intro b a w f d K A
           try have h6:=d.fr 6 rfl
           try have d4:=d.eq 0 66 rfl
           try have d2:=d.eq 2 68 rfl
           try have d1:=d.eq 3 69 rfl
           try have d0:=d.eq 4 70 rfl
           obtain⟨p0,p1⟩:=Z.out _ f.any;simp only[Oper.wp,execOp];go_simp;exact A _ f trivial
         apply Fb (B6 (.slice (some ⟨I,M,none⟩) n2 c2)) rfl rfl rfl
         ·intro b a w f d K A;have dz:=d.eq 5 71 rfl;obtain⟨p0,p1⟩:=Z.out _ f.any;have aF:=F2 f.o1 (F2 f.o2 d.self);have p2:=Ab (((f.pre aF).block _ ah (by simp)).trans G.out) 0;simp only[a1z,a0w] at p2;have s:Iq wB L (.slice (some ⟨I,M+7,none⟩) n3 c3) (Ah b 6) w:=f.plain ⟨by decide,fun e=>absurd e (by decide)⟩;simp only[Oper.wp,execOp];go_simp;exact A _ _ s trivial rfl
         apply Fb (B6 (.slice (some ⟨I,M+7,none⟩) n3 c3)) rfl rfl rfl
         ·intro b a w f d K A;have dy:=d.eq 6 72 rfl;have s:Iq wB L (.slice (some ⟨I,M+7,none⟩) n3 c3) (Ah b 7) w:=f.plain ⟨by decide,fun _=>d.pre 6 (by kernel_rfl)⟩;simp only[Oper.wp,execOp];go_simp;exact A _ _ s trivial rfl
         iterate 2
          apply Be (fun _ _ h=>h.plain ⟨by decide,fun e=>absurd e (by decide)⟩) rfl rfl rfl
          ·intro b a w f d K A
           try have d3:=d.eq 1 67 rfl
           try have dw:=d.eq 8 74 rfl
           simp only[Oper.wp,execOp];go_simp;exact A _ f trivial
         apply Gs (fun _=>True) rfl rfl
         ·intro b a w f d K A;have dv:=d.eq 9 75 rfl;have dx:=d.eq 7 73 rfl;have l:=((f.pre d.self).block _ ah (by simp)).trans G.out;have p2:=Ab l 0;have f2:=Ar l 0;have s:=f.store d.self (d.pre 7 (by kernel_rfl)) G.out;simp only[Oper.wp,execOp];go_simp;exact A undef _ s trivial trivial
         refine⟨?_,?_⟩
         ·refine⟨fun _ _ _ _ _=>trivial,?_⟩
          iterate 10 refine Cc _ ?_
          exact trivial
         ·intro w' bb f ab;simp only[a1u,a2x,a2u,a2w]
          iterate 6 (refine Am ?_)
          refine Ap ?_;intro v6 u6;obtain rfl:=u6;refine Ap ?_;intro v7 u7;obtain rfl:=u7
          iterate 2 (refine Am ?_)
          refine Ap ?_;intro cx u10;refine A0 ?_;simp only[Aj,Act.put,a0v,a1w,a1v];have m:=f.post (ab 10 (by simp));have cr:=a0z m.1;have cj:=a0z m.2;obtain⟨p0,p1⟩:=Z.out _ m.1;have p2:=Ab m.2 0;simp only[a1z,a0w] at p2
          have aq:Hid (Dz w' t.heap.size B es1):=cq.out.tf (Tf.of (base:=t.heap.size) (D:=[]) m.1) (a1x _) (by simp) (by simp) (by simp) (fun k F=>by
           obtain rfl:=List.mem_singleton.1 F;refine⟨J.out.ge,bz,fun x E e=>?_,fun c fz e=>?_⟩
           ·have l:=(u.out.map (·.1.q)).nodup_iff.2 HH.out.nd;rw[a2v,a3z] at l;exact l.1 (List.mem_map.2 ⟨x,E,e.symm⟩)
           ·rw[G.out] at e
            cases e)
          have an:Hid (Ae Bz w' t.heap.size u2 C):=ap.out.tf (Tf.of (base:=t.heap.size) (D:=[]) m.1) (by simp) (fun k F hm=>by
           obtain rfl:=List.mem_singleton.1 hm
           rcases ap.out.2 with⟨e,_⟩|⟨g,ac,aS,e,_,V,_⟩
           ·rw[e] at F;cases F
           ·rw[e] at F
            obtain rfl:g=k:=by simpa [Value.ownBlock] using F
            have:=G.out;rw[V] at this
            cases this)
          have W:Hid (Fp [] t w'):=ct.out.trans m.1 (by intro i hi;right;rw[List.mem_singleton.1 hi];exact J.out.ge);clear f ab m u10;go_wp2_with (fail)
          go_roundg (Gv es1)
          case measure=>have l:=ar.out;have N:=O3 u.out;simp only[Gv,a0u] at N;omega
          case rel=>
           have l:=ar.out;have N:=O3 u.out;simp only[Gv,a0u] at N;exact⟨⟨es1,done++[⟨⟨Q,U,P,ys,T,O⟩,Y⟩],C,rfl,aq.out,cm.out,an.out,ad.out.step u.out HH.out.ok a7.out cp.out (Or.inl ⟨bh.out,rfl⟩),by simp;omega,by simp;omega,by have:=u.out.length_eq;simp at this;omega⟩,W.out⟩
       ·have bh:=a0z ai;have fn:0<r.length:=List.length_pos_iff.2 ai
        have dn:¬c2=1:=by omega
        have z4:(n3:Int)>0:=by omega
        have fd:=a0z ak;clear ai ak
        go_upto_region 16 with(fail)
        refine Ft (fun bb w'=>Iq wB L (.slice (some ⟨I,M+7,none⟩) n3 c3) bb w') (fun _ _=>True) (by kernel_rfl) (by kernel_rfl) ⟨fun _=>Fp.drew _,(fun e=>by cases e),(fun e=>by cases e),(fun e=>by cases e)⟩ ?_
        iterate 6
         apply Be (fun _ _ h=>h.plain ⟨by decide,fun e=>absurd e (by decide)⟩) rfl rfl rfl
         ·intro b a w f d K A
          try have h6:=d.fr 6 rfl
          try have d4:=d.eq 0 66 rfl
          try have d2:=d.eq 2 68 rfl
          try have d1:=d.eq 3 69 rfl
          try have d0:=d.eq 4 70 rfl
          obtain⟨p0,p1⟩:=Z.out _ f.any;simp only[Oper.wp,execOp];go_simp;exact A _ f trivial
        apply Fb (B6 (.slice (some ⟨I,M,none⟩) n2 c2)) rfl rfl rfl
        ·intro b a w f d K A;have dz:=d.eq 5 71 rfl;obtain⟨p0,p1⟩:=Z.out _ f.any;have aF:=F2 f.o1 (F2 f.o2 d.self);have p2:=Ab (((f.pre aF).block _ ah (by simp)).trans G.out) 0;simp only[a1z,a0w] at p2;have s:Iq wB L (.slice (some ⟨I,M+7,none⟩) n3 c3) (Ah b 6) w:=f.plain ⟨by decide,fun e=>absurd e (by decide)⟩;simp only[Oper.wp,execOp];go_simp;exact A _ _ s trivial rfl
        apply Fb (B6 (.slice (some ⟨I,M+7,none⟩) n3 c3)) rfl rfl rfl
        ·intro b a w f d K A;have dy:=d.eq 6 72 rfl;have s:Iq wB L (.slice (some ⟨I,M+7,none⟩) n3 c3) (Ah b 7) w:=f.plain ⟨by decide,fun _=>d.pre 6 (by kernel_rfl)⟩;simp only[Oper.wp,execOp];go_simp;exact A _ _ s trivial rfl
        iterate 2
         apply Be (fun _ _ h=>h.plain ⟨by decide,fun e=>absurd e (by decide)⟩) rfl rfl rfl
         ·intro b a w f d K A
          try have d3:=d.eq 1 67 rfl
          try have dw:=d.eq 8 74 rfl
          simp only[Oper.wp,execOp];go_simp;exact A _ f trivial
        apply Gs (fun _=>True) rfl rfl
        ·intro b a w f d K A;have dv:=d.eq 9 75 rfl;have dx:=d.eq 7 73 rfl;have l:=((f.pre d.self).block _ ah (by simp)).trans G.out;have p2:=Ab l 0;have f2:=Ar l 0;have s:=f.store d.self (d.pre 7 (by kernel_rfl)) G.out;simp only[Oper.wp,execOp];go_simp;exact A undef _ s trivial trivial
        refine⟨?_,?_⟩
        ·refine⟨fun _ _ _ _ _=>trivial,?_⟩
         iterate 10 refine Cc _ ?_
         exact trivial
        ·intro w' bb f ab;simp only[a1u,a2x,a2u,a2w]
         iterate 6 (refine Am ?_)
         refine Ap ?_;intro v6 u6;obtain rfl:=u6;refine Ap ?_;intro v7 u7;obtain rfl:=u7
         iterate 2 (refine Am ?_)
         refine Ap ?_;intro cx u10;refine A0 ?_;simp only[Aj,Act.put,a0v,a1w,a1v];have m:=f.post (ab 10 (by simp));have cr:=a0z m.1;have cj:=a0z m.2;obtain⟨p0,p1⟩:=Z.out _ m.1;have p2:=Ab m.2 0;simp only[a1z,a0w] at p2
         have aq:Hid (Dz w' t.heap.size B es1):=cq.out.tf (Tf.of (base:=t.heap.size) (D:=[]) m.1) (a1x _) (by simp) (by simp) (by simp) (fun k F=>by
          obtain rfl:=List.mem_singleton.1 F;refine⟨J.out.ge,bz,fun x E e=>?_,fun c fz e=>?_⟩
          ·have l:=(u.out.map (·.1.q)).nodup_iff.2 HH.out.nd;rw[a2v,a3z] at l;exact l.1 (List.mem_map.2 ⟨x,E,e.symm⟩)
          ·rw[G.out] at e
           cases e)
         have an:Hid (Ae Bz w' t.heap.size u2 C):=ap.out.tf (Tf.of (base:=t.heap.size) (D:=[]) m.1) (by simp) (fun k F hm=>by
          obtain rfl:=List.mem_singleton.1 hm
          rcases ap.out.2 with⟨e,_⟩|⟨g,ac,aS,e,_,V,_⟩
          ·rw[e] at F;cases F
          ·rw[e] at F
           obtain rfl:g=k:=by simpa [Value.ownBlock] using F
           have:=G.out;rw[V] at this
           cases this)
         have W:Hid (Fp [] t w'):=ct.out.trans m.1 (by intro i hi;right;rw[List.mem_singleton.1 hi];exact J.out.ge);clear f ab m u10
         have c1:I5 w' t.heap.size L r:=by
          have ak:=fd.out;refine⟨J.out.ge,I,M+7,n3,c3,cj.out,by omega,ep,?_⟩
          have l:=(fa.out.drop 1 n3 (by omega))
          rw[List.drop_one,List.tail_cons] at l;exact l.fpS cr.out (by have:=J.out.ge;simp;omega)
         have aa:L∉es1.map (·.1.q):=by
          have l:=(u.out.map (·.1.q)).nodup_iff.2 HH.out.nd;rw[a2v,a3z] at l;exact l.1
         have ag:=a0z (fE w' t.heap.size B es1 (⟨L,xa⟩,r) aq.out cm.out c1 (by show 0<r.length;omega) (fun z hz=>HH.out.ok _ (u.out.mem_iff.1 a0x) z (a2z _ hz)) aa W.out.size (by have:=u.out.length_eq;simp at this;omega));unfold Si at ag;simp only at ag;clear c1 aa;go_wp2_with (fail);(with_reducible refine ag.out.mono ?_);rintro e wD ⟨rfl,d5,c5,br,de,bx⟩;have bi:=a0z c5;have cl:=a0z br;have fg:=a0z de;have fj:=a0z (bx.onto W.out (a1x _) (by intro i hi;right;simp at hi;omega))
         have fc:Hid (Ae Bz wD t.heap.size u2 C):=an.out.tf bx (by decide) (fun k F hm=>by
          obtain rfl:=List.mem_singleton.1 hm;obtain⟨v1,l,_⟩:=aq.out.box
          rcases an.out.2 with⟨e,_⟩|⟨g,ac,aS,e,_,V,_⟩
          ·rw[e] at F;cases F
          ·rw[e] at F
           obtain rfl:g=k:=by simpa [Value.ownBlock] using F
           rw[V] at l
           cases l)
         clear c5 br de bx;go_wp2_with (fail)
         go_roundg (Gv d5)
         case measure=>
          have l:=ar.out;have N:=O3 u.out;simp only[Gv,a0u] at N;have h3:=O3 bi.out;simp only[Gv] at h3;omega
         case rel=>
          have l:=ar.out;have N:=O3 u.out;simp only[Gv,a0u] at N;have h3:=O3 bi.out;simp only[Gv] at h3;have h4:=u.out.length_eq;have h5:=bi.out.length_eq;simp only[a0u] at h4 h5;exact⟨⟨d5,done++[⟨⟨Q,U,P,ys,T,O⟩,Y⟩],C,rfl,fg.out,cl.out,fc.out,ad.out.step u.out HH.out.ok a7.out cp.out (Or.inr ⟨bh.out,bi.out⟩),by simp;omega,by simp;omega,by omega⟩,fj.out⟩
end Go.Proofs.YtkagolpnaicdoaaGreatDoor
