/-
 JobWhole: the files of a job hold together the document's cells, each of one tablet.
-/
import Derived.Test.YtkagolpnaicdoaaGreatDoorPR8B
import Derived.Test.YtkagolpnaicdoaaGreatDoorPJobH
set_option maxRecDepth 100000
set_option maxHeartbeats 8000000
open Go.Lib renaming hid->a0z
open List renaming length_map->a0x,getElem_map->a0w
open Go.IntKind renaming wrap_i64->a0v
namespace Go.Proofs.YtkagolpnaicdoaaGreatDoor
open Go.RowKit Go.Lib
theorem Bg.strs{w:World}{base:Nat}{v:Value}{fs:List ByteArray}(h:Bg 9 w base v (fs.map Value.string))(f:∀s∈fs,s.size<=maxLen):∃a cap,v=.slice a fs.length cap/\Eq w a fs.length fs:=by
 obtain⟨⟨a,cap,e⟩,d⟩:=h.at;rw[a0x] at e
 rcases d with d|⟨g,c,j,-,-,l⟩
 ·have b:fs=[]:=List.map_eq_nil_iff.1 d;subst b;exact⟨a,cap,e,rfl,Or.inl rfl,f⟩
 ·rw[a0x] at j;refine⟨_,c,j,rfl,Or.inr ⟨g,0,rfl,fun i k=>?_⟩,f⟩;have b:=l i (by rw[a0x];exact k);rw[a0w] at b;rw[Nat.zero_add];exact b
theorem Aag{l:List ByteArray}(h:O7 l=true):l.length<=20:=by
 unfold O7 at h;rw[Bool.and_eq_true] at h;exact of_decide_eq_true h.2
theorem Aah(w:World)(a0:Option Addr)(J aa:Nat)(l:List Aa)(a1:Option Addr)(n1 E:Nat)(bs:List ByteArray)(u2 u3 u4:Nat)
  (hl:Bh w a0 J l)(a2:Eq w a1 n1 bs)(b5:n1<=maxLen)(eb:u2<256)(ea:u3<256)(d9:u4<256)(hp:Jm w)(bv:Mc w)(ht:Dl w)(hz:I4 w):
  Calls Tryz.prog 8 #[.slice a0 J aa,.slice a1 n1 E,.int .u8 u2,.int .u8 u3,.int .u8 u4] w fun e w'=>e=.returned (.bool true)/\Fp [] w w':=by
 have hP:=fun W (d:Fp [] w W)=>(⟨hp.mx.fp d (by simp),hp.er.fp d (by simp) (by simp)⟩:Jm W)
 have R:=a0z (fun W (d:Fp [] w W)=>And.intro (hP W d) (And.intro (bv.fp d) (ht.fp d (by simp))));have y:=a0z (fun W (d:Fp [] w W)=>zL W (hP W d) (ht.fp d (by simp)) (hz.fp d (by simp)));have HL:=a0z hl;have ag:=a0z hl.len;have ab:=a0z a2;unfold maxLen at b5;have ak:=Adv w a1 n1 E bs a2 b5;clear hP hp bv ht hz hl a2
 by_cases c1:25<J
 ·have z1:(25:Int)<(J:Int):=by omega
  clear ak;go_enter Tryz.func8,Tryz.ntmps8;go_wp2_with (fail);(with_reducible refine(y.out _ (Fp.refl _ _)).mono ?_);rintro e w1 ⟨rfl,u⟩;have A:=a0z u;clear u;go_wp2_with (fail);go_ret;exact⟨rfl,A.out⟩
 have z1:¬(25:Int)<(J:Int):=by omega
 obtain⟨bd,P⟩:∃z,O7 bs=z:=⟨_,rfl⟩
 rw[P] at ak;have ao:=a0z ak;clear ak;cases bd
 ·clear P;go_enter Tryz.func8,Tryz.ntmps8;go_wp2_with (fail);(with_reducible refine ao.out.mono ?_);rintro e w1 ⟨rfl,u⟩;have A:=a0z u;clear u;go_wp2_with (fail);(with_reducible refine(y.out _ A.out).mono ?_);rintro e w2 ⟨rfl,G⟩;have I:=a0z (A.out.trans G (by simp));clear G;go_wp2_with (fail);go_ret;exact⟨rfl,I.out⟩
 have dv:n1<=20:=by have:=Aag P;have:=ab.out.len;omega
 clear P
 have ba:=fun W (d:Fp [] w W)=>cM W a1 n1 E bs (ab.out.of_fp d) (by omega)
 obtain⟨bb,al⟩:∃z,G8 bs=z:=⟨_,rfl⟩
 rw[al] at ba;have bm:=a0z ba;clear ba;cases bb
 ·clear al;go_enter Tryz.func8,Tryz.ntmps8;go_wp2_with (fail);(with_reducible refine ao.out.mono ?_);rintro e w1 ⟨rfl,u⟩;have A:=a0z u;clear u;go_wp2_with (fail);(with_reducible refine(bm.out _ A.out).mono ?_);rintro e w2 ⟨rfl,G⟩;have I:=a0z (A.out.trans G (by simp));clear G;go_wp2_with (fail);(with_reducible refine(y.out _ I.out).mono ?_);rintro e w3 ⟨rfl,X⟩;have an:=a0z (I.out.trans X (by simp));clear X;go_wp2_with (fail);go_ret;exact⟨rfl,an.out⟩
 have ct:=a0z al;clear al;go_enter Tryz.func8,Tryz.ntmps8;go_wp2_with (fail);(with_reducible refine ao.out.mono ?_);rintro e w1 ⟨rfl,u⟩;have A:=a0z u;clear u;go_wp2_with (fail);(with_reducible refine(bm.out _ A.out).mono ?_);rintro e w2 ⟨rfl,G⟩;have I:=a0z (A.out.trans G (by simp));clear G;go_wp2_with (fail);(with_reducible refine(y.out _ I.out).mono ?_);rintro e w3 ⟨rfl,X⟩;have an:=a0z (I.out.trans X (by simp));clear X ao bm A I;go_wp2_with (fail)
 go_loopg [11] J (fun gg vi wr=>∃k:Nat,vi=.int .i64 k/\gg+k=J/\(∀j (hj:j<l.length),j<k->l[j].row.size<=100/\l[j].col.size<=100/\l[j].val.size<=200)/\Fp [] w wr)
 case atStart=>exact⟨0,rfl,by omega,(fun j _ h=>absurd h (Nat.not_lt_zero _)),an.out⟩
 case round=>
  obtain⟨k,rfl,hg,bp,d⟩:=hrel;have B:=a0z d;have bg:=a0z bp;clear d bp an
  by_cases hk:k<J
  ·have zk:(k:Int)<(J:Int):=by omega
   have V:k<l.length:=by rw[<-ag.out];exact hk
   have cz:IntKind.i64.wrap ((k:Int)+1)=((k+1:Nat):Int):=by rw[a0v];omega
   obtain⟨b1,o1,rfl,_,F⟩:=Lj HL.out V
   have bi:Hid (l[k].row.size<=100/\l[k].col.size<=100/\l[k].val.size<=200->∀j (hj:j<l.length),j<k+1->l[j].row.size<=100/\l[j].col.size<=100/\l[j].val.size<=200):=a0z (fun h j hj ed=>by
    by_cases e:j=k
    ·subst e;exact h
    ·exact bg.out j hj (by omega))
   obtain⟨c,hc⟩:∃c,l[k]=c:=⟨_,rfl⟩
   rw[hc] at F bi;obtain⟨r,co,ts,sq,de,va⟩:=c;obtain⟨q0,q1,-,-,-,q5⟩:=F wr B.out;simp only at q0 q1 q5 bi;clear F hc
   by_cases h1:100<r.size
   ·have y1:(100:Int)<(r.size:Int):=by omega
    go_wp2_with (fail);(with_reducible refine(y.out _ B.out).mono ?_);rintro e w4 ⟨rfl,f⟩;have p:=a0z (B.out.trans f (by simp));clear f;go_wp2_with (fail);go_ret;exact⟨rfl,p.out⟩
   ·have y1:¬(100:Int)<(r.size:Int):=by omega
    by_cases h2:100<co.size
    ·have y2:(100:Int)<(co.size:Int):=by omega
     go_wp2_with (fail);(with_reducible refine(y.out _ B.out).mono ?_);rintro e w4 ⟨rfl,f⟩;have p:=a0z (B.out.trans f (by simp));clear f;go_wp2_with (fail);go_ret;exact⟨rfl,p.out⟩
    ·have y2:¬(100:Int)<(co.size:Int):=by omega
     by_cases h3:200<va.size
     ·have y3:(200:Int)<(va.size:Int):=by omega
      go_wp2_with (fail);(with_reducible refine(y.out _ B.out).mono ?_);rintro e w4 ⟨rfl,f⟩;have p:=a0z (B.out.trans f (by simp));clear f;go_wp2_with (fail);go_ret;exact⟨rfl,p.out⟩
     ·have y3:¬(200:Int)<(va.size:Int):=by omega
      have dm:=a0z (bi.out ⟨by omega,by omega,by omega⟩);go_wp2_with (fail)
      go_roundg (gk-1)
      case measure=>omega
      case rel=>exact⟨k+1,by simp,by omega,dm.out,B.out⟩
  ·have zk:¬(k:Int)<(J:Int):=by omega
   have b6:k=l.length:=by have:=ag.out;omega
   have ay:Hid (∀c∈l,c.row.size+c.col.size+c.val.size<=10000000):=a0z (fun c hc=>by
    obtain⟨i,hi,rfl⟩:=List.getElem_of_mem hc;have:=bg.out i hi (by omega)
    omega)
   have bw:=Acf l;have C:=a0z (fun W (d:Fp [] w W)=>Acn W a0 J aa l (HL.out.fp d) ay.out (by omega) (R.out W d).1 (R.out W d).2.1)
   rcases bw with⟨U,bx⟩|U
   ·rw[U] at C;have cg:=a0z bx
    obtain⟨tx,az⟩:∃tx,Jn (l.map E1)=tx:=⟨_,rfl⟩
    rw[az] at C;have bf:=a0z az;simp only at C;clear U bx az
    by_cases h0:J=0
    ·subst h0;go_wp2_with (fail);(with_reducible refine(C.out _ B.out).mono ?_);rintro e w4 ⟨rfl,f⟩;have p:=a0z (B.out.trans f (by simp));clear f;go_wp2_with (fail);(with_reducible refine(y.out _ p.out).mono ?_);rintro e w5 ⟨rfl,t⟩;have O:=a0z (p.out.trans t (by simp));clear t;go_wp2_with (fail);go_ret;exact⟨rfl,O.out⟩
    have z0:¬(J:Int)=0:=by omega
    have zb:((J:Int)==0)=false:=beq_eq_false_iff_ne.2 z0
    by_cases h4:4000<tx.size
    ·have z4:(4000:Int)<(tx.size:Int):=by omega
     go_wp2_with (fail);(with_reducible refine(C.out _ B.out).mono ?_);rintro e w4 ⟨rfl,f⟩;have p:=a0z (B.out.trans f (by simp));clear f;go_wp2_with (fail);(with_reducible refine(y.out _ p.out).mono ?_);rintro e w5 ⟨rfl,t⟩;have O:=a0z (p.out.trans t (by simp));clear t;go_wp2_with (fail);go_ret;exact⟨rfl,O.out⟩
    have z4:¬(4000:Int)<(tx.size:Int):=by omega
    go_wp2_with (fail);(with_reducible refine(C.out _ B.out).mono ?_);rintro e w4 ⟨rfl,f⟩;have p:=a0z (B.out.trans f (by simp));clear f B bg y C
    have c0:l≠[]:=fun e=>by subst e;have:=ag.out;simp at this;omega
    have be:=a0z (fun(m wid mo:Int) (x:Nat) (files:List ByteArray) (h1:1<=m) (h2:2<=wid) (h3:1<=mo) (h:G2 tx bs m wid mo x files)=>Agw (m:=m) (wid:=wid) (mo:=mo) (x:=x) (files:=files) (bs:=bs) cg.out HL.out.ok c0 (by have:=ag.out;omega) (by rw[bf.out];omega) ct.out h1 h2 h3 (by rw[bf.out];exact h));have ck:=a0z (fun W (d:Fp [] w W) (m wid mo:Int) (h1:m<=20) (h2:wid<2^63) (h3:mo<2^63)=>lH W tx m wid mo 1 a1 n1 E bs (by omega) (ab.out.of_fp d) (by omega) h1 h2 h3 (R.out W d).1 (R.out W d).2.2);go_wp2_with (fail);refine(ck.out _ p.out _ _ _ (by omega) (by omega) (by omega)).mono ?_;rintro e w5 ⟨t,hr⟩
    rcases hr with⟨files,vF,vS,rfl,ai,b0,bz⟩|⟨x,T,rfl,ai⟩
    ·obtain⟨-,r,ps,rfl,hw⟩:=be.out _ _ _ _ _ (by omega) (by omega) (by omega) ai;have HW:=a0z hw
     obtain⟨aF,cF,rfl,a3⟩:=b0.strs (fun s hs=>by
      obtain⟨x,T,rfl⟩:=List.mem_map.1 hs;have:=eD 0 (HW.out.good x T)
      unfold maxLen;omega)
     obtain⟨⟨aS,cS,rfl⟩,-⟩:=bz.at;rw[a0x] at a3;rw[a0x,a0x,a0x];have dw:=hw.few;have ec:=hw.len;have O:=a0z (p.out.trans t (by simp));have db:=a0z a3
     obtain⟨W6,Q⟩:∃W,W=w5.alloc (.cells #[.int .u32 (Eb 0 tx),.int .u64 1,.slice aF ps.length cF,.slice aS ps.length cS] 29):=⟨_,rfl⟩
     have cd:W6.heap[w5.heap.size]?=some (.cells #[.int .u32 (Eb 0 tx),.int .u64 1,.slice aF ps.length cF,.slice aS ps.length cS] 29 (0,0)):=by rw[Q];exact Ai rfl _
     have cu:=a0z cd
     have ca:W6.heap.size=w5.heap.size+1:=by rw[Q];exact Array.size_push _
     have ax:Hid (Fp [] w5 W6):=a0z (by rw[Q];exact Fp.alloc _ _);have cq:=a0z (O.out.trans ax.out (by simp))
     have cx:l.length<=25:=by have:=ag.out;omega
     clear be ck ai b0 bz hw a3 cd bf ct cg ay p t;go_wp2_with (fail)
     go_loopg [16,17] ps.length (fun gg va vi wr=>∃k:Nat,gg+k=ps.length/\vi=.int .i64 k/\Ao wr W6.heap.size va (ps.take k).flatten/\Fp [] W6 wr)
     case atStart=>exact⟨0,by omega,rfl,by rw[<-ca,<-Q];exact Ao.made _ _ (Nat.le_refl _),by rw[<-Q];exact Fp.alloc _ _⟩
     case round=>
      obtain⟨k,hg,rfl,ho,d⟩:=hrel;have HO:=a0z ho;have B:=a0z d;have c5:W6.heap.size<=wr.heap.size:=d.size;have p2:=Ab ((d.block _ (Ac cu.out) (by simp)).trans cu.out) 2;clear ho d Q ca
      by_cases hk:k<ps.length
      ·have zk:(k:Int)<(ps.length:Int):=by omega
       have cz:IntKind.i64.wrap ((k:Int)+1)=((k+1:Nat):Int):=by rw[a0v];omega
       have V:k<(ps.map fun x=>E3 x 0).length:=by rw[a0x];exact hk
       obtain⟨b,o,rfl,hc⟩:=V6 db.out V;have q0:=hc k V wr (ax.out.trans B.out (by simp));rw[Qj V,a0w] at q0;have D:=List.getElem_mem hk;have bj:=a0z (Agv hk);have ce:=a0z (HW.out.part (k+1))
       obtain⟨x,T⟩:∃x,ps[k]=x:=⟨_,rfl⟩
       rw[T] at q0 D bj;have aj:=HW.out.good x D;have ee:=aj.len;have dl:=a0z (fun W (d:Fp [] w W)=>Agg (l:=x) (seq:=0) W (HW.out.ok x D) aj (by decide) (R.out W d).1.mx (R.out W d).2.2);have df:Hid (∀W bt,Na W bt (Wx x 0)->Calls Tryz.prog 38 #[.pointer (some ⟨bt,0,none⟩)] W fun e w'=>e=.returned (.tuple #[.string (Qu x),.string (Qv x)])/\Fp [] W w'):=a0z (fun W bt h=>Ad1 W bt _ h aj.pos (by show x.length<=_;omega));have dt:Hid (∀W bt,Na W bt (Wx x 0)->Calls Tryz.prog 40 #[.pointer (some ⟨bt,0,none⟩)] W fun e w'=>∃v',e=.returned v'/\Ao w' W.heap.size v' x/\Fp [] W w'):=a0z (fun W bt h=>Af3 W bt _ h (by show x.length<=_;omega) (by show(0:Nat)<_;omega));have dj:=a0z (fun W (d:Fp [] w W)=>oM W a1 n1 E bs (Qu x) (ab.out.of_fp d) (by omega));have cf:=a0z (fun W (d:Fp [] w W)=>oM W a1 n1 E bs (Qv x) (ab.out.of_fp d) (by omega));rw[<-HW.out.place x D] at cf;have dk:=a0z (HW.out.ok x D);have ah:=a0z (cq.out.trans B.out (by simp));clear hc T aj D;go_wp2_with (fail);(with_reducible refine(dl.out _ ah.out).mono ?_);rintro e w7 ⟨⟨bt,rfl,b9⟩,a7⟩;have ds:=a0z (ah.out.trans a7 (by simp));have dg:=a0z a7;have cn:=a0z b9;clear a7 b9;go_wp2_with (fail);(with_reducible refine(df.out _ _ cn.out).mono ?_);rintro e w8 ⟨rfl,N⟩;have cp:=a0z (ds.out.trans N (by simp));have bh:=a0z (dg.out.trans N (by simp));have cm:=a0z (cn.out.fp N);clear N;go_wp2_with (fail);(with_reducible refine(dj.out _ cp.out).mono ?_);rintro e w9 ⟨rfl,M⟩;have dr:=a0z (cp.out.trans M (by simp));have ad:=a0z (bh.out.trans M (by simp));have cl:=a0z (cm.out.fp M);clear M;go_wp2_with (fail);(with_reducible refine(cf.out _ dr.out).mono ?_);rintro e bo ⟨rfl,q⟩;have af:=a0z (ad.out.trans q (by simp));have bk:=a0z (cl.out.fp q);clear q;go_wp2_with (fail);(with_reducible refine(dt.out _ _ bk.out).mono ?_);rintro e cy ⟨d7,rfl,ar,av⟩;have ae:=a0z (af.out.trans av (by simp));have c2:W6.heap.size<=cy.heap.size:=Nat.le_trans c5 ae.out.size;obtain⟨ej,ei,rfl,au,Z⟩:=ar.at2 dk.out;have cj:=a0z au;have du:=a0z Z;have ci:=a0z (HO.out.fp ae.out (by simp));have cr:=a0z (B.out.trans ae.out (by simp));have dn:Hid ((ps.take k).flatten.length+x.length<=1000000000):=a0z (by have:=ce.out;rw[bj.out,List.length_append] at this;omega);clear ar av au Z;go_wp2_with (at_builtin;(refine Rr rfl _ _ rfl W6.heap.size _ (ps.take k).flatten rfl ci.out _ _ _ x rfl du.out cj.out dn.out c2 ?_);intro v2 d6 aq aw;have ch:=a0z aq;have cv:=a0z aw;clear aq aw)
       go_roundg (gk-1)
       case measure=>omega
       case rel=>exact⟨k+1,by omega,by simp,by rw[bj.out];exact ch.out,cr.out.belowTrans cv.out⟩
      ·have zk:¬(k:Int)<(ps.length:Int):=by omega
       have b6:k=ps.length:=by omega
       have a6:=HO.out;rw[b6,List.take_length,HW.out.flat] at a6
       have ap:∀c∈r.map (·.c),B3 c:=fun c hc=>by
        rw[<-HW.out.flat] at hc;obtain⟨x,T,c4⟩:=List.mem_flatten.1 hc;exact HW.out.ok x T c c4
       obtain⟨ac,cc,rfl,bc⟩:=a6.at ap;rw[a0x] at bc;have cw:=a0z bc;have ah:=a0z (cq.out.trans B.out (by simp));have dp:=a0z (fun W (d:Fp [] w W)=>Ad0 W a0 J aa l (HL.out.fp d) (by omega));have b7:=Ul HL.out.ok (by omega);have dc:=a0z (fun W a n c (hq:Cf Fg W a n (Dj l)) (hn:n<=100000)=>Ad7 W a n c (Dj l) hq b7 hn)
       have a4:=fun W (d:Fp [] wr W)=>vI W ac r.length cc (r.map (·.c)) (cw.out.fp d) (by omega)
       rw[HW.out.res.ris.risC] at a4;have dd:=a0z a4;have da:=a0z (fun r' (h:Bv (Dj l) r')=>Bv.unique b7 (lL l) h HW.out.res);have b8:=Yj l;rw[a0x];clear a6 ap bc a4 HO;go_wp2_with (fail);(with_reducible refine(dp.out _ ah.out).mono ?_);rintro e w8 ⟨v8,rfl,b4,N⟩;obtain⟨a8,c8,rfl,-,-,a5⟩:=b4.at;rw[b8];rw[b8] at a5;have bh:=a0z N;have di:=a0z a5;clear b4 N a5;go_wp2_with (fail);(with_reducible refine(dc.out _ _ _ _ di.out (by omega)).mono ?_);rintro e w9 ⟨v9,r9,rfl,bq,b3,M⟩;obtain rfl:=da.out _ bq;obtain⟨a9,c9,rfl,-,-,br⟩:=b3.at;have ad:=a0z (bh.out.trans M (by simp));have dh:=a0z br;clear b3 M br bq;go_wp2_with (fail);(with_reducible refine(dd.out _ ad.out).mono ?_);rintro e bo ⟨rfl,q⟩;have af:=a0z q;have bn:=a0z (cw.out.fp (ad.out.trans q (by simp)));have cs:=a0z ((ah.out.trans ad.out (by simp)).trans q (by simp));clear q;go_wp2_with (fail)
       go_loopg [23] r9.length (fun gg vi wr=>∃k:Nat,gg+k=r9.length/\vi=.int .i64 k/\Fp [] bo wr)
       case atStart=>exact⟨0,by omega,rfl,Fp.refl _ _⟩
       case round=>
        obtain⟨j,hg,rfl,d⟩:=hrel;have am:=a0z d;clear d
        by_cases hj:j<r9.length
        ·have zj:(j:Int)<(r9.length:Int):=by omega
         have d8:IntKind.i64.wrap ((j:Int)+1)=((j+1:Nat):Int):=by rw[a0v];omega
         have c3:j<(r9.map (·.c)).length:=by rw[a0x];exact hj
         obtain⟨b,o,rfl,_,Y⟩:=Lj bn.out c3;obtain⟨b2,o2,rfl,_,L⟩:=dh.out.get hj;rw[a0w] at Y
         have L:=fun w' h=>Wc (L w' h)
         obtain⟨x,T⟩:∃x,r9[j]=x:=⟨_,rfl⟩
         rw[T] at Y L;simp only[show Fg.k=7 from rfl] at L;obtain⟨⟨xr,xc,xt,xs,xd,xv⟩,xp⟩:=x;simp only at Y L;have c7:=a0z (fun w' (h:Fp [] wr w')=>Y w' (am.out.trans h (by simp)));have c6:=a0z (fun w' (h:Fp [] wr w')=>L w' ((af.out.trans am.out (by simp)).trans h (by simp)));clear Y L T;go_wp2_with (fail);refine C9 (by kernel_rfl) (by kernel_rfl) ?_
         iterate 10
          apply Aw rfl rfl rfl
          ·intro a w hC S K hK
           try have eh:=S.fr 16 rfl
           try have ef:=S.fr 23 rfl
           try have d5:=S.eq 0 179 rfl
           try have d4:=S.eq 1 180 rfl
           try have d3:=S.eq 2 181 rfl
           try have eg:=S.fr 22 rfl
           try have d1:=S.eq 4 183 rfl
           try have d0:=S.eq 5 184 rfl
           try have dz:=S.eq 6 185 rfl
           try have dy:=S.eq 7 186 rfl
           try have d2:=S.eq 3 182 rfl
           try have dx:=S.eq 8 187 rfl
           obtain⟨x0,x1,x2,x3,x4,x5⟩:=c7.out _ hC;simp only at x0 x1 x2 x3 x4 x5;obtain⟨y0,y1,y2,y3,y4,y5,-⟩:=c6.out _ hC;simp only[Oper.wp,execOp];go_simp;exact hK _ hC (Fp.refl _ _)
         refine⟨?_,?_⟩
         ·repeat(first|exact trivial|refine B7 _ ?_ |refine⟨fun w1 w2 v _ d ⟨g,h1,h2⟩=>⟨g,h1,(d.block g (Ac h2) (by simp)).trans h2⟩,?_⟩)
         ·intro w' hC;simp only[List.reverse_cons,List.reverse_nil,List.nil_append,List.cons_append]
          iterate 10 (refine Am ?_)
          refine A0 ?_;simp only[Aj,Act.put,List.setIfInBounds_toArray,List.set_cons_succ,List.set_cons_zero];have dq:=a0z (am.out.trans hC (by simp));clear hC;go_wp2_with (fail)
          go_roundg (gk-1)
          case measure=>omega
          case rel=>exact⟨j+1,by omega,by simp,dq.out⟩
        ·have zj:¬(j:Int)<(r9.length:Int):=by omega
         go_wp2_with (fail);go_ret;exact⟨rfl,cs.out.trans am.out (by simp)⟩
    ·exact absurd (be.out _ _ _ _ _ (by omega) (by omega) (by omega) ai).1 T
   ·rw[U] at C;simp only at C;clear U;go_wp2_with (fail);(with_reducible refine(C.out _ B.out).mono ?_);rintro e w4 ⟨rfl,f⟩;have p:=a0z (B.out.trans f (by simp));clear f;go_wp2_with (fail);(with_reducible refine(y.out _ p.out).mono ?_);rintro e w5 ⟨rfl,t⟩;have O:=a0z (p.out.trans t (by simp));clear t;go_wp2_with (fail);go_ret;exact⟨rfl,O.out⟩
theorem Aai(w:World)(p:Option Addr)(i b:Nat)(l:List Aa)(o:Option Addr)(h a:Nat)(bs:List ByteArray)(g f d:Int)
  (t:Bh w p i l)(_ :i<=maxLen)(j:Eq w o h bs)(m:h<=maxLen)(A:0<=g)(x:g<=255)(z:0<=f)(v:f<=255)(y:0<=d)(u:d<=255)(s:Jm w)(r:Dl w)(q:I4 w)(k:Mc w):
  Calls Tryz.prog 8 #[.slice p i b,.slice o h a,.int .u8 g,.int .u8 f,.int .u8 d] w fun e w'=>e=.returned (.bool true)/\Fp [] w w':=by
 obtain⟨u2,rfl⟩:∃n:Nat,g=n:=⟨g.toNat,by omega⟩
 obtain⟨u3,rfl⟩:∃n:Nat,f=n:=⟨f.toNat,by omega⟩
 obtain⟨u4,rfl⟩:∃n:Nat,d=n:=⟨d.toNat,by omega⟩
 exact Aah w p i b l o h a bs u2 u3 u4 t j m (by omega) (by omega) (by omega) s k r q
theorem Aaj{W:World}{r:List (String × DataW Unit)}(h:laidMet Tryz.prog (("internal/strconv.uint64pow10",tabData .u64 pow10Tab)::r) W.memory):Mc W:=
 show TabIs Tryz.prog W.memory "internal/strconv.uint64pow10" .u64 pow10Tab from tabIs_of_head (show Tryz.prog.globalNamed "internal/strconv.uint64pow10" =some 1 by kernel_rfl) (show(Tryz.prog.globals[1]?).map (·.type)=some 305 by kernel_rfl) Tryz.underlying305 Tryz.underlying23 (by kernel_rfl) (by kernel_rfl) h
end Go.Proofs.YtkagolpnaicdoaaGreatDoor
