/-
 job.Make's tried function, walked. job.Make, walked. job.hex: strings.Repeat of "0". strconv.FormatUint at base sixteen.
-/
import Derived.Test.YtkagolpnaicdoaaGreatDoorPTabN
import Derived.Lib.SmallJoins
set_option maxRecDepth 100000
set_option maxHeartbeats 8000000
open Go.Lib renaming hid->a0z
open List renaming getElem?_toArray->a0x,getElem?_cons_zero->a0w,getElem?_cons_succ->a0v,getElem_map->a1w,setIfInBounds_toArray->a1v,getElem?_eq_getElem->a1u,map_append->a2z,length_replicate->a2w
open Nat renaming lt_of_lt_of_le->a0u
open Go.IntKind renaming u64->a1z,wrap_i64->a1x
open Array renaming replicate->a2x
namespace Go.Proofs.YtkagolpnaicdoaaGreatDoor
section
open Go.RowKit Go.Lib
theorem lG{ps:List (Nat × List Aa)}{i:Nat}{x:Nat × List Aa}{f:ByteArray}{e:Nat}(h:i<ps.length)(a:ps[i]=x)(b:G1 x.2 0=(f,e)):Jt (ps.take (i+1))=Jt (ps.take i)++[f]:=by
 unfold Jt;rw[List.take_add_one,a1u h,a,a2z];simp[b]
theorem yN(w:World)(x:Int)(h:x=0):Calls Tryz.prog 48 #[.int .i64 x] w fun e w'=>(∃v,e=.returned v)/\w'=w:=by
 subst h;exact mW w
def Qd(f:ByteArray):Value:=.int .u32 (Eb 0 f)
theorem yO(w:World)(bi bm bw bb bo p:Nat)(s:ByteArray)(m wid mo:Int)(a2:Option Addr)(n2 M:Nat)(borders:List ByteArray)(ao ep:Value)
  (cp:w.heap[bi]?=some (.cells #[.string s] 9 (0,0)))(co:w.heap[bm]?=some (.cells #[.int .i64 m] 3 (0,0)))(cl:w.heap[bw]?=some (.cells #[.int .i64 wid] 3 (0,0)))(O:w.heap[bb]?=some (.cells #[.slice a2 n2 M] 22 (0,0)))(cn:w.heap[bo]?=some (.cells #[.int .i64 mo] 3 (0,0)))
  (cm:w.heap[p]?=some (.cells #[ao,ep,.slice none 0 0,.slice none 0 0] 29 (0,0)))(hs:s.size<=100000000)(t:Eq w a2 n2 borders)(b0:n2<=900000)(hm:m<=20)(du:wid<2^63)(d3:mo<2^63)(a9:Jm w)(a5:Dl w)(V:0≠p)(af:2≠p):
  Calls Tryz.prog 46 #[.pointer (some ⟨bi,0,none⟩),.pointer (some ⟨bm,0,none⟩),.pointer (some ⟨bw,0,none⟩),.pointer (some ⟨bb,0,none⟩),.pointer (some ⟨bo,0,none⟩),.pointer (some ⟨p,0,none⟩)] w fun e w'=>Fp [p] w w'∧
   (((∃v,e=.returned v)/\∃files vF vS,G2 s borders m wid mo 0 files/\w'.heap[p]?=some (.cells #[ao,ep,vF,vS] 29 (0,0))/\Bg 9 w' w.heap.size vF (files.map Value.string)/\Bg 26 w' w.heap.size vS (files.map Qd))∨
    ∃x:Nat,x≠0/\e=.panicked (Tz (x:Int))/\G2 s borders m wid mo x []):=by
 obtain⟨L,aS,ec,aw⟩:∃L aS ec,Et s=(L,aS,ec):=⟨_,_,_,rfl⟩
 have cd:=yC s hs;have be:=Agi s;rw[aw] at cd be;obtain⟨ad,-,cf,df⟩:=cd;simp only at ad cf df be;have cv:=a0z (fun w h=>Adm s w hs h);rw[aw] at cv;have ay:=a0z yN;have X:=a0z mX;have n:=a0z aw;have b5:=a0z ad;have c0:=a0z co;have cF:=a0z cl;have c4:=a0z O;have cS:=a0z cn;have aF:=a0z cm;have dk:=a0z t;have bq:=a0z a9;have bk:=a0z a5;have q0:w.cell? ⟨bi,0,none⟩=some (.string s):=Ab cp 0;clear aw ad cp co cl O cn cm t a9 a5;go_enter Tryz.func46,Tryz.ntmps46;go_wp2_with (fail);(with_reducible refine(cv.out _ bq.out).mono ?_);rintro e w1 ⟨⟨v1,rfl,ce⟩,ck⟩;obtain⟨a1,c1,rfl,dv,cc,bj⟩:=Ao.at4 ce b5.out;have Y:=a0z ck;have cz:=a0z bj;simp only;clear ce ck bj q0;go_wp2_with (fail)
 by_cases q:ec=0
 ·(with_reducible refine(ay.out _ (ec:Int) (by omega)).mono ?_);rintro e w2 ⟨⟨vv,rfl⟩,rfl⟩
  by_cases av:L=[]
  ·subst av;go_wp2_with (fail);(with_reducible refine(X.out _ 1 (by decide)).mono ?_);rintro e w3 ⟨rfl,rfl⟩;go_wp2_with (fail);refine⟨rfl,(Y.out.mono (by simp)),Or.inr ⟨1,by decide,rfl,?_⟩⟩;exact G2.none (by rw[n.out];exact q) (by rw[n.out])
  ·have a8:0<L.length:=List.length_pos_iff.2 av;have hz:(((L.length:Nat):Int)==0)=false:=beq_eq_false_iff_ne.2 (by omega);have q1:w2.cell? ⟨bm,0,none⟩=some (.int .i64 m):=Ab ((Y.out.block _ (Ac c0.out) (by simp)).trans c0.out) 0;have q2:w2.cell? ⟨bw,0,none⟩=some (.int .i64 wid):=Ab ((Y.out.block _ (Ac cF.out) (by simp)).trans cF.out) 0;have ai:=a0z av;clear av;have c5:Hid (Bh w2 a1 L.length L):=cz
   by_cases u:1<=m/\2<=wid
   ·obtain⟨U,ar⟩:=u
    obtain⟨mn,rfl⟩:∃k:Nat,m=k:=⟨m.toNat,by omega⟩
    obtain⟨wn,rfl⟩:∃k:Nat,wid=k:=⟨wid.toNat,by omega⟩
    have dp:=a0z (fun w (h:Bh w a1 L.length L)=>Abq w a1 L.length c1 mn wn L h (by omega) a8 (by omega) (by omega) (by omega) (by omega));go_wp2_with (fail);(with_reducible refine(dp.out _ c5.out).mono ?_);rintro e w3 ⟨v3,r,kp,rfl,E,bz,ag⟩
    have ab:∀c∈r.map (·.c),B3 c:=by
     intro c hc;obtain⟨x,hx,rfl⟩:=List.mem_map.1 hc;exact b5.out _ (Agj (E.sub x hx))
    obtain⟨sl,aa⟩:∃sl,r.map (·.c)=sl:=⟨_,rfl⟩
    have bv:sl.length<=4001:=by
     have C:=E.len (Ul b5.out (by omega));have Z:(Dj L).length=L.length:=Qq L _;rw[<-aa,List.length_map];omega
    have a6:risC sl=true:=by rw[<-aa];exact E.ris.risC
    rw[aa] at bz ab;obtain⟨a3,c3,rfl,bc,a7,bh⟩:=Ao.at4 bz ab;have bp:=a0z E;have cu:=a0z aa;have an:=a0z bh;have B:=a0z (Y.out.trans ag (by simp));have bn:=a0z a7;clear E bz ab aa bh ag q1 q2 a7 cc;go_wp2_with (fail);(with_reducible refine(ay.out _ 0 rfl).mono ?_);rintro e w4 ⟨⟨dy,rfl⟩,rfl⟩;have q3:w4.cell? ⟨bb,0,none⟩=some (.slice a2 n2 M):=Ab ((B.out.block _ (Ac c4.out) (by simp)).trans c4.out) 0;have q4:w4.cell? ⟨bo,0,none⟩=some (.int .i64 mo):=Ab ((B.out.block _ (Ac cS.out) (by simp)).trans cS.out) 0;have ah:=a0z (dk.out.of_fp B.out);go_wp2_with (fail)
    by_cases J:G8 borders=true
    ·by_cases da:1≤mo
     ·obtain⟨z,rfl⟩:∃k:Nat,mo=k:=⟨mo.toNat,by omega⟩
      (with_reducible refine(xY w4 a3 sl.length c3 a2 n2 M sl borders z an.out bn.out bc ah.out (by omega) b0 J a6 (by omega) (by omega)).mono ?_);rintro e w5 ⟨v5,A,rfl,bx,bt,G⟩;obtain⟨pa,pc,rfl⟩:=bx.slice;have N:=a0z (B.out.trans G (by simp));have ax:=a0z bt;have br:=a0z J;have cw:=a0z bx
      have c9:(Hg z A).length<=4001:=by
       have C:=bC z A A.length (Nat.le_refl _);rw[List.take_length,bt.flat] at C;exact Nat.le_trans C bv
      obtain⟨ps,ac⟩:∃ps,Hg z A=ps:=⟨_,rfl⟩
      rw[ac] at c9;have az:=a0z ac
      have dn:Hid (Gi w5 w4.heap.size (.slice pa ps.length pc) ps):=by rw[<-ac];exact cw
      rw[ac];clear G bt J bx cw ac q3 q4;go_wp2_with (fail);(with_reducible refine(ay.out _ 0 rfl).mono ?_);rintro e w6 ⟨⟨dx,rfl⟩,rfl⟩;go_wp2_with (fail)
      go_loopg [47] ps.length (fun g vi W=>∃(i:Nat) (vF vS:Value),g=ps.length-i/\vi=.int .i64 i/\i<=ps.length/\(∀j (_ :j<i) (h:j<ps.length),(G1 ps[j].2 0).2=0)/\W.heap[p]?=some (.cells #[ao,ep,vF,vS] 29 (0,0))/\Bg 9 W w6.heap.size vF ((Jt (ps.take i)).map Value.string)/\Bg 26 W w6.heap.size vS ((Jt (ps.take i)).map Qd)/\Fp [p] w W/\w6.heap.size<=W.heap.size/\(∀D,D≠9->D≠26->Aq D w6.heap.size [p] w6 W))
      case atStart=>exact⟨0,_,_,rfl,rfl,Nat.zero_le _,fun j h=>absurd h (Nat.not_lt_zero _),(N.out.block _ (Ac aF.out) (by simp)).trans aF.out,Bg.nil _ _ _,Bg.nil _ _ _,N.out.mono (by simp),Nat.le_refl _,fun _ _ _=>Aq.of ((Fp.refl [] _).mono (by simp)) (by simp;exact a0u (Ac aF.out) N.out.size)⟩
      case round=>
       obtain⟨i,vF,vS,hg,rfl,hi,bf,bg,hF,hS,ch,c8,cg⟩:=hrel;have al:=a0z bf;have am:=a0z bg;have b6:=a0z hF;have b4:=a0z hS;have ak:=a0z ch;have cx:=a0z cg;have HG:=a0z hg;clear bf bg hF hS ch cg hg;have d2:p<w.heap.size:=Ac aF.out;have dt:w.heap.size<=w4.heap.size:=B.out.size;have a4:w.heap.size<=w6.heap.size:=N.out.size
       by_cases au:i<ps.length
       ·have zi:(i:Int)<(ps.length:Int):=by omega
        have n1:IntKind.i64.wrap ((i:Int)+1)=((i+1:Nat):Int):=by rw[a1x];omega
        obtain⟨i1,b1⟩:∃i1,i+1=i1:=⟨_,rfl⟩
        rw[b1] at n1
        have ba:Gi wr w4.heap.size (.slice pa ps.length pc) ps:=dn.out.low fun k C Z=>(cx.out 0 (by decide) (by decide)).low k Z Z (by simp;omega)
        obtain⟨g,gc,xa,xn,xc,dd,aq,b9,ap⟩:=ba.get au;cases dd
        have ae:∀y∈ps,y∈Hy z A A.length:=by
         rw[<-az.out]
         exact fun y h=>h
        have T:=ae ps[i] (List.getElem_mem _);clear ae
        obtain⟨⟨xi,x⟩,hx⟩:∃x,ps[i]=x:=⟨_,rfl⟩
        rw[hx] at aq ap T;simp only at aq ap;have b8:=Agl T;rw[ax.out.flat] at b8;simp only at b8
        have a0:∀c∈x,B3 c:=fun c hc=>an.out.ok c (by
         have:=Agk T hc;rw[ax.out.flat] at this
         exact this)
        obtain⟨ya,yc,c6,c7,-,b7⟩:=Ao.at4 ap a0;cases c6
        obtain⟨f,fe,b2⟩:∃f fe,G1 x 0=(f,fe):=⟨_,_,rfl⟩
        have b3:∀W,Fp [] wr W->Calls Tryz.prog 51 #[.slice xa x.length xc,.int .u64 0] W fun e w'=>e=.returned (.tuple #[.string (G1 x 0).1,.int .i64 ((G1 x 0).2:Nat)])/\Fp [] W w':=fun W hf=>qC W xa x.length xc x 0 (b7.fp hf) c7 (by omega) (by decide) (bq.out.mx.fp (ak.out.trans hf (by simp)) (by simpa using af)) (bk.out.fp (ak.out.trans hf (by simp)) (by simpa using V))
        rw[b2] at b3;have ds:=a0z b3;have HX:=a0z hx;have Q:=a0z b2;have aj:=a0z b1;have q5:wr.cell? ⟨g,i*2,none⟩=some (.int .i64 xi):=aq;have q6:wr.cell? ⟨g,i*2+1,none⟩=some (.slice xa x.length xc):=b9;clear ba aq b9 ap T hx a0 b7 b2 b3 b1;go_wp2_with (fail);(with_reducible refine(ds.out _ (Fp.alloc _ _)).mono ?_);rintro e w7 ⟨rfl,cj⟩;have R:=a0z ((Fp.alloc wr (.cells #[.int .i64 xi,.slice xa x.length xc] 106)).trans cj (by simp));simp only;clear cj q5 q6;go_wp2_with (fail)
        by_cases F:fe=0
        ·(with_reducible refine(ay.out _ (fe:Int) (by omega)).mono ?_);rintro e w8 ⟨⟨dw,rfl⟩,rfl⟩;have u:Oe x:=Af6 (seq:=0) (by rw[Q.out];exact F)
         have ci:f=E3 x 0:=by
          have C:=Zj 0 u;rw[Q.out] at C;exact(Prod.mk.inj C).1
         have de:f.size<=100000000:=by rw[ci];exact eD 0 u
         have dl:=a0z (fun W (h:Fp [p] w W)=>Vn f W de (bk.out.fp h (by simpa using V)));obtain⟨fa,fn,fc,rfl⟩:=b6.out.sl;obtain⟨sa,sn,sc,rfl⟩:=b4.out.sl;have dq:=a0z (b6.out.fp R.out (by simp));have dm:=a0z (b4.out.fp R.out (by simp));have dr:=a0z ((R.out.block _ (Ac am.out) (by simp)).trans am.out);have cy:=a0z (ak.out.trans R.out (by simp));have ca:w6.heap.size<=w8.heap.size:=Nat.le_trans c8 R.out.size;have dj:Hid (((Jt (ps.take i)).map Value.string).length+1<=1000000000):=a0z (by simp[Jt];omega);have cr:Hid (((Jt (ps.take i)).map Qd).length+1<=1000000000):=a0z (by simp[Jt];omega);clear u ci;go_wp2_with (fail);refine Uj (Ey w w8 w6.heap.size p ao ep (.slice fa fn fc) (.slice sa sn sc) ((Jt (ps.take i)).map Value.string) ((Jt (ps.take i)).map Qd) (.string f) (Qd f)) (fun _ _=>True) (by kernel_rfl) (by kernel_rfl) (fun _=>Ey.start dq.out dm.out dr.out cy.out ca (by omega)) ?_;apply Dn (fun _ _ _ h _=>h.plain (by decide)) rfl rfl rfl
         ·intro b a w l d K o;have h5:=d.fr 5 rfl;simp only[Oper.wp,execOp];go_simp;exact o _ l trivial
         apply Dn (fun _ _ _ h _=>h.plain (by decide)) rfl rfl rfl
         ·intro b a w l d K o;have ef:=d.eq 0 59 rfl;have I:=l.cel;rw[d.post 12 (by kernel_rfl),cond_false] at I;have q0:=Ab I 2;simp only[a0x,a0w,a0v] at q0;simp only[Oper.wp,execOp];go_simp;exact o _ l trivial
         apply Dn (fun _ _ _ h _=>h.plain (by decide)) rfl rfl rfl
         ·intro b a w l d K o;have di:=d.fr 12 rfl;simp only[Oper.wp,execOp];go_simp;exact o _ l trivial
         apply Ee (fun _ _=>True) rfl rfl rfl
         ·intro b a w l d K o;have ee:=d.eq 2 61 rfl;have t:=l.bldF d.self;simp only[Oper.wp,execOp];go_simp;exact o _ _ t trivial trivial
         apply Ee (fun _ _=>True) rfl rfl rfl
         ·intro b a w l d K o;have dh:=d.eq 1 60 rfl;have ed:=d.dep 3 62 _ (by kernel_rfl) rfl;obtain⟨g,V,-,af⟩:=l.fb (d.pre 3 (by kernel_rfl)) d.self;refine kV 22 9 Tryz.underlying22 Tryz.info9 rfl (by decide) (.tmp 60) (.tmp 62) rfl _ _ _ (E0 dh) (l.f0 d.self) g _ rfl (E0 ((d.val 3 62 (by kernel_rfl)).trans V)) (Ab af 0) dj.out l.sz ?_;intro v' w' C Z h3;exact o _ _ (l.appF (d.pre 3 (by kernel_rfl)) d.self C Z h3 (by omega) (by omega)) trivial trivial
         apply Dn (fun _ _ _ h _=>h.plain (by decide)) rfl rfl rfl
         ·intro b a w l d K o;have h5:=d.fr 5 rfl;simp only[Oper.wp,execOp];go_simp;exact o _ l trivial
         apply Dn (fun _ _ _ h _=>h.plain (by decide)) rfl rfl rfl
         ·intro b a w l d K o;have ea:=d.eq 5 64 rfl;have I:=l.cel;rw[d.post 14 (by kernel_rfl),cond_false] at I;have q0:=Ab I 3;simp only[a0x,a0w,a0v] at q0;simp only[Oper.wp,execOp];go_simp;exact o _ l trivial
         apply Dn (fun _ _ _ h _=>h.plain (by decide)) rfl rfl rfl
         ·intro b a w l d K o;have di:=d.fr 12 rfl;simp only[Oper.wp,execOp];go_simp;exact o _ l trivial
         apply Ee (B6 (Qd f)) rfl rfl rfl
         ·intro b a w l d K o;have d9:=d.eq 7 66 rfl;simp only[Oper.wp,execOp];go_simp;(with_reducible refine(dl.out _ l.fp).mono ?_);rintro e w4 ⟨rfl,hf⟩;exact o _ _ ((l.on hf).plain (by decide)) trivial rfl
         apply Ee (fun _ _=>True) rfl rfl rfl
         ·intro b a w l d K o;have d8:=d.eq 8 67 rfl;have t:=l.bldS d.self;simp only[Oper.wp,execOp];go_simp;exact o _ _ t trivial trivial
         apply Ee (fun _ _=>True) rfl rfl rfl
         ·intro b a w l d K o;have dg:=d.eq 6 65 rfl;have d7:=d.dep 9 68 _ (by kernel_rfl) rfl;obtain⟨g,V,-,af⟩:=l.sb (d.pre 9 (by kernel_rfl)) d.self;refine kV 27 26 Tryz.underlying27 Tryz.infoU32 rfl (by decide) (.tmp 65) (.tmp 68) rfl _ _ _ (E0 dg) (l.s0 d.self) g _ rfl (E0 ((d.val 9 68 (by kernel_rfl)).trans V)) (Ab af 0) cr.out l.sz ?_;intro v' w' C Z h3;exact o _ _ (l.appS (d.pre 9 (by kernel_rfl)) d.self C Z h3 (by omega) (by omega)) trivial trivial
         apply Dn (fun _ _ _ h _=>h.plain (by decide)) rfl rfl rfl
         ·intro b a w l d K o;have h5:=d.fr 5 rfl;simp only[Oper.wp,execOp];go_simp;exact o _ l trivial
         apply Kv (fun _=>True) rfl rfl rfl
         ·intro b a w l d K o;have d5:=d.eq 11 70 rfl;have eb:=d.dep 4 63 _ (by kernel_rfl) rfl;obtain⟨a2,n2,c2,e2⟩:=(l.f1 (d.pre 4 (by kernel_rfl))).sl;have hv:=(d.val 4 63 (by kernel_rfl)).trans e2;have t:=l.stoF (d.pre 4 (by kernel_rfl)) (by omega) rfl;rw[e2] at t;have f0:=Ar l.cel 2;have q0:=Ab l.cel 2;simp only[a0x,a0w,a0v] at q0;simp only[Oper.wp,execOp];go_simp;exact o undef _ t trivial trivial
         apply Dn (fun _ _ _ h _=>h.plain (by decide)) rfl rfl rfl
         ·intro b a w l d K o;have h5:=d.fr 5 rfl;simp only[Oper.wp,execOp];go_simp;exact o _ l trivial
         apply Kv (fun _=>True) rfl rfl rfl
         ·intro b a w l d K o;have d4:=d.eq 13 71 rfl;have d6:=d.dep 10 69 _ (by kernel_rfl) rfl;obtain⟨a2,n2,c2,e2⟩:=(l.s1 (d.pre 10 (by kernel_rfl))).sl;have hv:=(d.val 10 69 (by kernel_rfl)).trans e2;have t:=l.stoS (d.pre 10 (by kernel_rfl)) (by omega) rfl;rw[e2] at t;have f0:=Ar l.cel 3;have q0:=Ab l.cel 3;simp only[a0x,a0w,a0v] at q0;simp only[Oper.wp,execOp];go_simp;exact o undef _ t trivial trivial
         refine⟨?_,?_⟩
         ·refine⟨fun _ _ _ _ _=>trivial,?_⟩;refine Gl _ ?_;refine⟨fun _ _ _ _ _=>trivial,?_⟩;refine Gl _ ?_;refine⟨fun _ _ _ _ _=>trivial,?_⟩;refine⟨fun _ _ _ _ _=>trivial,?_⟩;refine⟨fun _ _ _ _ h=>h,?_⟩
          iterate 3 refine Gl _ ?_
          refine⟨fun _ _ _ _ _=>trivial,?_⟩;refine⟨fun _ _ _ _ _=>trivial,?_⟩
          iterate 3 refine Gl _ ?_
          exact trivial
         ·intro w' bb O;simp only[List.reverse_cons,List.reverse_nil,List.nil_append,List.cons_append]
          iterate 3 (refine Am ?_)
          refine Ap ?_;intro v3 u3;refine Ap ?_;intro v4 u4
          iterate 3 (refine Am ?_)
          refine Ap ?_;intro v8 u8;obtain rfl:=u8;refine Ap ?_;intro v9 u9;refine Ap ?_;intro d1 u10
          iterate 1 (refine Am ?_)
          refine Ap ?_;intro d0 u12
          iterate 1 (refine Am ?_)
          refine Ap ?_;intro dz u14;refine A0 ?_;intro l;simp only[Aj,Act.put,a1v,List.set_cons_succ,List.set_cons_zero];go_wp2_with (fail)
          go_roundg (ps.length-i1)
          case measure=>have:=HG.out;have:=aj.out;omega
          case rel=>
           have I:=l.cel;rw[O 12 (by simp),O 14 (by simp),cond_true,cond_true] at I;refine⟨i1,_,_,rfl,rfl,by have:=aj.out;omega,?_,I,?_,?_,l.fp,l.sz,?_⟩
           ·intro j hj db
            by_cases dc:j<i
            ·exact al.out j dc db
            ·obtain rfl:j=i:=by have:=aj.out;omega
             rw[HX.out,Q.out];exact F
           ·rw[<-aj.out,lG au HX.out Q.out,a2z];exact l.f1 (O 4 (by simp))
           ·rw[<-aj.out,lG au HX.out Q.out,a2z];exact l.s1 (O 10 (by simp))
           ·intro D C Z;exact((cx.out D C Z).trans (Aq.of (R.out.mono (by simp):Fp [p] wr w8) (by simp;omega)) (by simp)).trans (l.kept D C Z) (by simp)
        ·(with_reducible refine(X.out _ (fe:Int) (by omega)).mono ?_);rintro e w8 ⟨rfl,rfl⟩;go_wp2_with (fail);refine⟨rfl,ak.out.trans R.out (by simp),Or.inr ⟨fe,F,rfl,?_⟩⟩
         have bd:Pq (K2 (Hg z A))=fe:=by
          rw[az.out];have C:=qS (K2 ps) i (by simp[K2];exact au) (fun j hj=>by simp only[K2,a1w];exact al.out j hj (by omega)) (by simp only[K2,a1w];rw[HX.out,Q.out];exact F);rw[C];simp only[K2,a1w];rw[HX.out,Q.out]
         have:=G2.build (s:=s) (borders:=borders) (m:=mn) (wid:=wn) (mo:=(z:Int)) r A z (by rw[n.out];exact q) (by rw[n.out];exact ai.out) U ar br.out (by omega) rfl (by rw[n.out];exact bp.out) (by rw[cu.out];exact ax.out) (by rw[bd];exact F);rw[bd] at this;exact this
       ·have z0:¬(i:Int)<(ps.length:Int):=by omega
        obtain rfl:i=ps.length:=by omega
        go_wp2_with (fail);go_end0;have hF:=b6.out;have hS:=b4.out;rw[List.take_length] at hF hS;refine⟨ak.out,Or.inl ⟨⟨_,rfl⟩,Jt ps,?_,vF,vS,am.out,hF.mono a4,hS.mono a4⟩⟩
        have:=G2.ok (s:=s) (borders:=borders) (m:=mn) (wid:=wn) (mo:=(z:Int)) r A z (by rw[n.out];exact q) (by rw[n.out];exact ai.out) U ar br.out (by omega) rfl (by rw[n.out];exact bp.out) (by rw[cu.out];exact ax.out) (by
         rw[az.out];intro e he;obtain⟨j,hj,rfl⟩:=List.mem_iff_getElem.1 he;simp only[K2,a1w];simp only[K2,List.length_map] at hj
         exact al.out j hj hj)
        rw[az.out] at this;exact this
     ·(with_reducible refine(xZ w4 a3 sl.length c3 a2 n2 M sl borders mo an.out bn.out bc ah.out (by omega) b0 J a6 (by omega)).mono ?_);rintro e w5 ⟨rfl,G⟩;have N:=a0z (B.out.trans G (by simp));clear G q3 q4;go_wp2_with (fail);(with_reducible refine(X.out _ 1 (by decide)).mono ?_);rintro e wz ⟨rfl,rfl⟩;go_wp2_with (fail);refine⟨rfl,(N.out.mono (by simp)),Or.inr ⟨1,by decide,rfl,?_⟩⟩;exact G2.cut (by rw[n.out];exact q) (by rw[n.out];exact ai.out) U ar (Or.inr (by omega))
    ·have cq:G8 borders=false:=by simpa using J
     (with_reducible refine(yB w4 a3 sl.length c3 a2 n2 M borders mo ah.out b0 cq).mono ?_);rintro e w5 ⟨rfl,G⟩;have N:=a0z (B.out.trans G (by simp));clear G q3 q4;go_wp2_with (fail);(with_reducible refine(X.out _ 1 (by decide)).mono ?_);rintro e wz ⟨rfl,rfl⟩;go_wp2_with (fail);refine⟨rfl,(N.out.mono (by simp)),Or.inr ⟨1,by decide,rfl,?_⟩⟩;exact G2.cut (by rw[n.out];exact q) (by rw[n.out];exact ai.out) U ar (Or.inl cq)
   ·have S:∃P:World→Value→Prop,Calls Tryz.prog 49 #[.slice a1 L.length c1,.int .i64 m,.int .i64 wid] w2 fun e w'=>(∃v,P w' v∧e=.returned (.tuple #[v,.int .i64 0,.int .i64 1]))∧Fp [] w2 w':=by
     refine⟨fun _ _=>True,?_⟩
     by_cases U:m<1
     ·exact(Abu w2 _ m wid U).mono fun e w' h=>⟨⟨_,trivial,h.1⟩,h.2⟩
     ·obtain⟨mn,rfl⟩:∃k:Nat,m=k:=⟨m.toNat,by omega⟩
      refine(Abv w2 a1 L.length c1 mn wid L c5.out (by omega) a8 (by omega) (by omega) (by omega)).mono fun e w' h=>?_
      obtain⟨v,C,Z⟩:=h;exact⟨⟨v,trivial,C⟩,Z⟩
    obtain⟨P,S⟩:=S;have ct:=a0z S;clear S;go_wp2_with (fail);(with_reducible refine ct.out.mono ?_);rintro e w3 ⟨⟨v3,-,rfl⟩,ag⟩;have B:=a0z (Y.out.trans ag (by simp));clear ag q1 q2;go_wp2_with (fail);(with_reducible refine(X.out _ 1 (by decide)).mono ?_);rintro e w4 ⟨rfl,rfl⟩;go_wp2_with (fail);refine⟨rfl,B.out.mono (by simp),Or.inr ⟨1,by decide,rfl,?_⟩⟩;exact G2.sort (by rw[n.out];exact q) (by rw[n.out];exact ai.out) (by omega)
 ·(with_reducible refine(X.out _ (ec:Int) (by omega)).mono ?_);rintro e w2 ⟨rfl,rfl⟩;go_wp2_with (fail);refine⟨rfl,(Y.out.mono (by simp)),Or.inr ⟨ec,q,rfl,?_⟩⟩;have:=G2.parse (s:=s) (borders:=borders) (m:=m) (wid:=wid) (mo:=mo) (by rw[n.out];exact q);rw[n.out] at this;exact this
end
section
open Go.RowKit Go.Lib
theorem lH(w:World)(s:ByteArray)(m wid mo:Int)(K:Int)(a2:Option Addr)(U g:Nat)(borders:List ByteArray)
  (hs:s.size<=100000000)(Y:Eq w a2 U borders)(aq:U<=900000)(hm:m<=20)(V:wid<2^63)(au:mo<2^63)(I:Jm w)(G:Dl w):
  Calls Tryz.prog 11 #[.string s,.slice a2 U g,.int .u64 K,.int .i64 m,.int .i64 wid,.int .i64 mo] w fun e w'=>Fp [] w w'∧
   ((∃files C z,e=.returned (.tuple #[.agg #[.int .u32 (Eb 0 s),.int .u64 K,C,z],.int .i64 0])/\G2 s borders m wid mo 0 files/\Bg 9 w' w.heap.size C (files.map Value.string)/\Bg 26 w' w.heap.size z (files.map Qd))∨
    ∃x:Nat,x≠0/\e=.returned (.tuple #[.agg #[.int .u32 0,.int .u64 0,.slice none 0 0,.slice none 0 0],.int .i64 x])/\G2 s borders m wid mo x []):=by
 have aF:∀(fn:Fn) (first cap:Array Value) (w:World),(Instr.makeFunc fn first cap).run Tryz.prog w=.ok (.func fn first cap) w:=fun _ _ _ _=>rfl
 have ax:=a0z (fun w h=>yD s w hs h);have aw:=a0z Y;have y:=a0z I;have u:=a0z G;clear Y I G;go_enter Tryz.func11,Tryz.ntmps11;go_wp2_with (fail)
 obtain⟨w0,d⟩:∃x,((((((w.alloc (.cells #[.string s] 9)).alloc (.cells #[.slice a2 U g] 22)).alloc (.cells #[.int .i64 m] 3)).alloc (.cells #[.int .i64 wid] 3)).alloc (.cells #[.int .i64 mo] 3)).alloc (.cells #[.int .u32 0,.int .u64 0,.slice none 0 0,.slice none 0 0] 29))=x:=⟨_,rfl⟩
 have ac:Fp [] w w0:=by rw[<-d];exact(((((Fp.alloc _ _).alloc' _).alloc' _).alloc' _).alloc' _).alloc' _
 have ah:w0.heap[w.heap.size]?=some (.cells #[.string s] 9 (0,0)):=by rw[<-d];exact Bw (Bw (Bw (Bw (Bw (Ai rfl _)))))
 have ag:w0.heap[w.heap.size+1]?=some (.cells #[.slice a2 U g] 22 (0,0)):=by rw[<-d];exact Bw (Bw (Bw (Bw (Ai (by simp) _))))
 have af:w0.heap[w.heap.size+1+1]?=some (.cells #[.int .i64 m] 3 (0,0)):=by rw[<-d];exact Bw (Bw (Bw (Ai (by simp) _)))
 have ae:w0.heap[w.heap.size+1+1+1]?=some (.cells #[.int .i64 wid] 3 (0,0)):=by rw[<-d];exact Bw (Bw (Ai (by simp) _))
 have ad:w0.heap[w.heap.size+1+1+1+1]?=some (.cells #[.int .i64 mo] 3 (0,0)):=by rw[<-d];exact Bw (Ai (by simp) _)
 have a:w0.heap[w.heap.size+1+1+1+1+1]?=some (.cells #[.int .u32 0,.int .u64 0,.slice none 0 0,.slice none 0 0] 29 (0,0)):=by rw[<-d];exact Ai (by simp) _
 rw[d];have ak:=a0z ac;have ap:=a0z ah;have ao:=a0z ag;have an:=a0z af;have am:=a0z ae;have al:=a0z ad;have T:=a0z a;clear d ac ah ag af ae ad a;(with_reducible refine(ax.out _ (u.out.fp ak.out (by simp))).mono ?_);rintro e f ⟨rfl,ab⟩;have aj:=a0z ab;clear ab;go_wp2_with (fail)
 obtain⟨w2,E⟩:∃x,f.alloc (.cells #[.int .u32 (Eb 0 s),.int .u64 K,.slice none 0 0,.slice none 0 0] 29)=x:=⟨_,rfl⟩
 have Z:Fp [] f w2:=by rw[<-E];exact Fp.alloc _ _
 have L:w2.heap[f.heap.size]?=some (.cells #[.int .u32 (Eb 0 s),.int .u64 K,.slice none 0 0,.slice none 0 0] 29 (0,0)):=by rw[<-E];exact Ai rfl _
 rw[E];have Q:=a0z (aj.out.trans Z (by simp));have S:=a0z (ak.out.trans Q.out (by simp));have ai:=a0z L;have az:w.heap.size+1+1+1+1+1<f.heap.size:=a0u (Ac T.out) aj.out.size;have ay:f.heap.size<w2.heap.size:=Ac L;clear E Z L;have a:w2.heap[w.heap.size+1+1+1+1+1]?=some (.cells #[.int .u32 0,.int .u64 0,.slice none 0 0,.slice none 0 0] 29 (0,0)):=(Q.out.block _ (Ac T.out) (by simp)).trans T.out;have j:=a0z a;clear a
 refine(mY w2 46 _ (enters_of Tryz.func46 (by kernel_rfl) rfl)
  (fun A=>Fp [f.heap.size] w2 A/\∃files C z,G2 s borders m wid mo 0 files/\A.heap[f.heap.size]?=some (.cells #[.int .u32 (Eb 0 s),.int .u64 K,C,z] 29 (0,0))/\Bg 9 A (w2.heap.size+1) C (files.map Value.string)/\Bg 26 A (w2.heap.size+1) z (files.map Qd))
  (fun x A=>Fp [f.heap.size] w2 A/\∃k:Nat,x=k/\G2 s borders m wid mo k []) ?_ ?_ ?_).mono ?_
 ·intro W r X t;have F:=S.out.trans r (by simp);have q:=Q.out.trans r (by simp);have a1:0<w.heap.size:=World.block_lt_of_cell? _ _ (u.out 0 (by decide))
  have a0:2<w.heap.size:=by
   obtain⟨mx,ar⟩:=y.out.mx;exact World.block_lt_of_cell? _ _ ar
  refine(yO W (w.heap.size) (w.heap.size+1+1) (w.heap.size+1+1+1) (w.heap.size+1) (w.heap.size+1+1+1+1) (f.heap.size) s m wid mo a2 U g borders (.int .u32 (Eb 0 s)) (.int .u64 K)
   ((q.block _ (Ac ap.out) (by simp)).trans ap.out) ((q.block _ (Ac an.out) (by simp)).trans an.out) ((q.block _ (Ac am.out) (by simp)).trans am.out) ((q.block _ (Ac ao.out) (by simp)).trans ao.out) ((q.block _ (Ac al.out) (by simp)).trans al.out) ((r.block _ (Ac ai.out) (by simp)).trans ai.out)
   hs (aw.out.of_fp F) aq hm V au ⟨y.out.mx.fp F (by simp),y.out.er.fp F (by simp) (by simp)⟩ (u.out.fp F (by simp)) (by omega) (by omega)).mono ?_
  rintro e W' ⟨b,hr⟩;refine⟨(b.block _ (Ac t) (by simp;omega)).trans t,?_⟩;have aa:Fp [f.heap.size] w2 W':=(r.mono (by simp):Fp [f.heap.size] w2 W).trans b (by simp)
  rcases hr with⟨⟨v,rfl⟩,files,C,z,n,p,P,O⟩|⟨x,hx,rfl,n⟩
  ·exact Or.inl ⟨⟨v,rfl⟩,aa,files,C,z,n,p,P.mono X,O.mono X⟩
  ·exact Or.inr ⟨(x:Int),by omega,rfl,aa,x,rfl,n⟩
 ·rintro A B ⟨h0,files,C,z,n,p,P,O⟩ r;exact⟨h0.trans r (by simp),files,C,z,n,(r.block _ (Ac p) (by simp;omega)).trans p,P.fp r (by simp),O.fp r (by simp)⟩
 ·rintro x A B ⟨h0,k,n,p⟩ r;exact⟨h0.trans r (by simp),k,n,p⟩
 rintro e w3 (⟨rfl,b,files,C,z,n,p,P,O⟩|⟨x,hx,rfl,b,k,rfl,n⟩)
 ·obtain⟨fa,fn,fc,rfl⟩:=P.sl;obtain⟨sa,sn,sc,rfl⟩:=O.sl;have a:w3.heap[w.heap.size+1+1+1+1+1]?=some (.cells #[.int .u32 0,.int .u64 0,.slice none 0 0,.slice none 0 0] 29 (0,0)):=(b.block _ (Ac j.out) (by simp;omega)).trans j.out;have q0:w3.cell? ⟨f.heap.size,0,none⟩=some (.int .u32 (Eb 0 s)):=Ab p 0;have q1:w3.cell? ⟨f.heap.size,1,none⟩=some (.int .u64 K):=Ab p 1;have q2:w3.cell? ⟨f.heap.size,2,none⟩=some (.slice fa fn fc):=Ab p 2;have q3:w3.cell? ⟨f.heap.size,3,none⟩=some (.slice sa sn sc):=Ab p 3;have r0:w3.cell? ⟨w.heap.size+1+1+1+1+1,0,none⟩=some (.int .u32 0):=Ab a 0;have r1:w3.cell? ⟨w.heap.size+1+1+1+1+1,1,none⟩=some (.int .u64 0):=Ab a 1;have r2:w3.cell? ⟨w.heap.size+1+1+1+1+1,2,none⟩=some (.slice none 0 0):=Ab a 2;have r3:w3.cell? ⟨w.heap.size+1+1+1+1+1,3,none⟩=some (.slice none 0 0):=Ab a 3;have f0:w3.frozen? ⟨w.heap.size+1+1+1+1+1,0,none⟩=false:=Ar a 0;have f1:w3.frozen? ⟨w.heap.size+1+1+1+1+1,1,none⟩=false:=Ar a 1;have f2:w3.frozen? ⟨w.heap.size+1+1+1+1+1,2,none⟩=false:=Ar a 2;have f3:w3.frozen? ⟨w.heap.size+1+1+1+1+1,3,none⟩=false:=Ar a 3;have a3:=a0z a;have HM:=a0z n;have H3:=a0z P;have H4:=a0z O;have R:=a0z b;clear a n p P O b;go_wp2_with (fail);have N:Fp [] w w3:=S.out.trans R.out (by intro i M;right;simp at M;omega)
  have D:∀(A:World) (o:Nat) (v:Value),Fp [] w A->Fp [] w (A.setCell ⟨w.heap.size+1+1+1+1+1,o,none⟩ v):=fun A o v h=>h.trans (Fp.setCell A ⟨w.heap.size+1+1+1+1+1,o,none⟩ v) (by intro i M;right;simp at M;omega)
  have J:∀(e:TypeId) (x:Value) (l:List Value) (A:World) (o:Nat) (v:Value),Bg e A (w2.heap.size+1) x l->Bg e (A.setCell ⟨w.heap.size+1+1+1+1+1,o,none⟩ v) (w2.heap.size+1) x l:=fun e x l A o v h=>h.fp (Fp.setCell A ⟨w.heap.size+1+1+1+1+1,o,none⟩ v) (by simp;omega)
  refine bodyPost_ret (v:=.tuple #[.agg #[.int .u32 (Eb 0 s),.int .u64 K,.slice fa fn fc,.slice sa sn sc],.int .i64 0]) (by simp[results,Tryz.results11,go_sem, *]) rfl ?_;exact⟨D _ _ _ (D _ _ _ (D _ _ _ (D _ _ _ N))),Or.inl ⟨files,_,_,rfl,HM.out,(J _ _ _ _ _ _ (J _ _ _ _ _ _ (J _ _ _ _ _ _ (J _ _ _ _ _ _ H3.out)))).mono (by omega),(J _ _ _ _ _ _ (J _ _ _ _ _ _ (J _ _ _ _ _ _ (J _ _ _ _ _ _ H4.out)))).mono (by omega)⟩⟩
 ·have a:w3.heap[w.heap.size+1+1+1+1+1]?=some (.cells #[.int .u32 0,.int .u64 0,.slice none 0 0,.slice none 0 0] 29 (0,0)):=(b.block _ (Ac j.out) (by simp;omega)).trans j.out;have r0:w3.cell? ⟨w.heap.size+1+1+1+1+1,0,none⟩=some (.int .u32 0):=Ab a 0;have r1:w3.cell? ⟨w.heap.size+1+1+1+1+1,1,none⟩=some (.int .u64 0):=Ab a 1;have r2:w3.cell? ⟨w.heap.size+1+1+1+1+1,2,none⟩=some (.slice none 0 0):=Ab a 2;have r3:w3.cell? ⟨w.heap.size+1+1+1+1+1,3,none⟩=some (.slice none 0 0):=Ab a 3;have f0:w3.frozen? ⟨w.heap.size+1+1+1+1+1,0,none⟩=false:=Ar a 0;have f1:w3.frozen? ⟨w.heap.size+1+1+1+1+1,1,none⟩=false:=Ar a 1;have f2:w3.frozen? ⟨w.heap.size+1+1+1+1+1,2,none⟩=false:=Ar a 2;have f3:w3.frozen? ⟨w.heap.size+1+1+1+1+1,3,none⟩=false:=Ar a 3
  have av:k≠0:=by omega
  have aS:(((k:Nat):Int)!=0)=true:=bne_iff_ne.2 (by omega);have HM:=a0z n;have R:=a0z b;clear a n b hx;go_wp2_with (fail);have N:Fp [] w w3:=S.out.trans R.out (by intro i M;right;simp at M;omega)
  have D:∀(A:World) (o:Nat) (v:Value),Fp [] w A->Fp [] w (A.setCell ⟨w.heap.size+1+1+1+1+1,o,none⟩ v):=fun A o v h=>h.trans (Fp.setCell A ⟨w.heap.size+1+1+1+1+1,o,none⟩ v) (by intro i M;right;simp at M;omega)
  refine bodyPost_ret (v:=.tuple #[.agg #[.int .u32 0,.int .u64 0,.slice none 0 0,.slice none 0 0],.int .i64 k]) (by simp[results,Tryz.results11,go_sem, *]) rfl ?_;exact⟨D _ _ _ (D _ _ _ (D _ _ _ (D _ _ _ N))),Or.inr ⟨k,av,rfl,HM.out⟩⟩
end
section
open Go.RowKit Go.Lib
theorem yP(w:World)(k:Nat)(f:k≤16):Calls Tryz.prog 173 #[.int .u64 1,.int .u64 k] w fun e w'=>e=.returned (.tuple #[.int .u64 0,.int .u64 k])∧w'=w:=by
 have z1:bits BinOp.and a1z 1 4294967295=1:=by decide
 have z0:bits BinOp.and a1z 0 4294967295=0:=by decide
 have z2:bits BinOp.and a1z (k:Int) 4294967295=(k:Int):=by
  have h:∀k:Nat,k<17->bits BinOp.and a1z (k:Int) 4294967295=(k:Int):=by decide
  exact h k (by omega)
 have d:IntKind.u64.wrap (k:Int)=(k:Int):=by rw[IntKind.wrap_u64];omega
 have b:(k:Int)/4294967296=0:=by omega
 have a:IntKind.u64.wrap 0=0:=rfl;go_enter Tryz.func173,Tryz.ntmps173;go_wp2;refine bodyPost_ret (v:=.tuple #[.int .u64 0,.int .u64 k]) (by simp[results,Tryz.results173,go_sem]) rfl ?_;exact⟨rfl,rfl⟩
theorem yQ(w:World)(s:ByteArray)(b:Bool)(a:(decide (1<=s.size))=true)(d:((s.extract 0 1).toList==[48])=b):Calls Tryz.prog 174 #[.string s,.string ⟨#[48]⟩] w fun e w'=>e=.returned (.bool b)/\w'=w:=by
 have f:1<=s.size:=of_decide_eq_true a
 have z0:(1:Int)<=(s.size:Int):=by omega
 go_enter Tryz.func174,Tryz.ntmps174;go_wp2;refine bodyPost_ret (v:=.bool b) (by simp[results,Tryz.results174,go_sem]) rfl ?_;exact⟨rfl,rfl⟩
def L4(k:Nat):ByteArray:=⟨a2x k 48⟩
theorem yR(k:Nat)(a:k<17):(⟨a2x 64 48⟩:ByteArray).extract 0 k=L4 k:=by
 have h:∀k:Nat,k<17->((⟨a2x 64 48⟩:ByteArray).extract 0 k).data.toList=(L4 k).data.toList:=by decide+kernel
 have:=h k a;exact ByteArray.ext (Array.toList_inj.1 this)
theorem yS(w:World)(k:Nat)(b:k≤16):Calls Tryz.prog 112 #[.string ⟨#[48]⟩,.int .i64 k] w fun e w'=>e=.returned (.string (L4 k))∧w'=w:=by
 have g:=a0z (fun w=>yP w k b);have a:=a0z yQ
 by_cases f:k=0
 ·subst f;go_enter Tryz.func112,Tryz.ntmps112;go_wp2_with (fail);refine bodyPost_ret (v:=.string ⟨#[]⟩) (by simp[results,Tryz.results112,go_sem]) rfl ?_;exact⟨rfl,rfl⟩
 ·by_cases d:k=1
  ·subst d;go_enter Tryz.func112,Tryz.ntmps112;go_wp2_with (fail);refine bodyPost_ret (v:=.string ⟨#[48]⟩) (by simp[results,Tryz.results112,go_sem]) rfl ?_;exact⟨rfl,rfl⟩
  ·have z0:((k:Int)==0)=false:=beq_eq_false_iff_ne.2 (by omega);have z1:((k:Int)==1)=false:=beq_eq_false_iff_ne.2 (by omega)
   have z2:¬(k:Int)<0:=by omega
   have m:¬(9223372036854775807:Int)<k:=by omega
   have l:(k:Int)<=64:=by omega
   have j:(k:Int)<=128:=by omega
   have i:IntKind.u64.wrap (k:Int)=(k:Int):=by rw[IntKind.wrap_u64];omega
   have h:IntKind.i64.wrap (k:Int)=(k:Int):=by rw[a1x];omega
   go_enter Tryz.func112,Tryz.ntmps112;go_wp2_with (fail);(with_reducible refine(g.out _).mono ?_);rintro e p ⟨rfl,rfl⟩;go_wp2_with (fail);(with_reducible refine(a.out _ _ false (by kernel_rfl) (by kernel_rfl)).mono ?_);rintro e w2 ⟨rfl,rfl⟩;go_wp2_with (fail);(with_reducible refine(a.out _ _ false (by kernel_rfl) (by kernel_rfl)).mono ?_);rintro e o ⟨rfl,rfl⟩;go_wp2_with (fail);(with_reducible refine(a.out _ _ true (by kernel_rfl) (by kernel_rfl)).mono ?_);rintro e n ⟨rfl,rfl⟩;go_wp2_with (fail);refine bodyPost_ret (by simp[results,Tryz.results112,go_sem];rfl) rfl ?_;refine⟨?_,rfl⟩;congr 2;exact yR k (by omega)
end
section
open Go.RowKit Go.Lib
def Kr(d:Nat):UInt8:=if d<10 then UInt8.ofNat (48+d) else UInt8.ofNat (87+d)
def Ek(n:Nat):List UInt8:=if n<16 then[Kr n] else Ek (n/16)++[Kr (n%16)]
 termination_by n
 decreasing_by omega
theorem Vx{n:Nat}(h:n<16):Ek n=[Kr n]:=by rw[Ek,if_pos h]
theorem bS{n:Nat}(h:¬n<16):Ek n=Ek (n/16)++[Kr (n%16)]:=by rw[Ek,if_neg h]
def I4(w:World):Prop:=w.cell? ⟨6,15,none⟩=some (.int .u8 4)
theorem I4.fp{w w':World}{S:List Nat}(h:I4 w)(b:Fp S w w')(a:6∉S):I4 w':=
 (b.cell (p:=⟨6,15,none⟩) (World.block_lt_of_cell? _ _ h) a).trans h
theorem yT(w:World)(h:I4 w):Calls Tryz.prog 248 #[.int .u64 16] w fun e w'=>e=.returned (.int .i64 4)/\w'=w:=by
 have z1:bits BinOp.and a1z 16 (IntKind.u64.wrap (-16))=16:=by decide
 have z2:IntKind.u64.wrap (16*285870213051353865)/288230376151711744=15:=by decide
 have q0:w.cell? ⟨6,15,none⟩=some (.int .u8 4):=h;go_enter Tryz.func248,Tryz.ntmps248;go_wp2;refine bodyPost_ret (v:=.int .i64 4) (by simp[results,Tryz.results248,go_sem]) rfl ?_;exact⟨rfl,rfl⟩
theorem yU(w:World):Calls Tryz.prog 247 #[.int .i64 16] w fun e w'=>e=.returned (.bool true)/\w'=w:=by
 have z1:bits BinOp.and IntKind.i64 16 15=0:=by decide
 go_enter Tryz.func247,Tryz.ntmps247;go_wp2;refine bodyPost_ret (v:=.bool true) (by simp[results,Tryz.results247,go_sem]) rfl ?_;exact⟨rfl,rfl⟩
def lI(b:UInt8):Value:=.int .u8 (b.toNat:Int)
def yV:ByteArray:=⟨#[48,49,50,51,52,53,54,55,56,57,97,98,99,100,101,102,103,104,105,106,107,108,109,110,111,112,113,114,115,116,117,118,119,120,121,122]⟩
def Qe(i:Nat)(ds:List UInt8):Array Value:=(List.replicate i (Value.int .u8 0)++ds.map lI).toArray
theorem lJ{i:Nat}{a:List UInt8}(d:UInt8):(Qe (i+1) a).setIfInBounds i (lI d)=Qe i (d::a):=by
 unfold Qe;rw[a1v,List.replicate_succ',List.append_assoc,List.set_append,if_neg (by simp),a2w,Nat.sub_self];rfl
theorem lK{i k:Nat}{a:List UInt8}(h:k<i):(Qe i a)[k]?=some (.int .u8 0):=by
 unfold Qe;rw[a0x,List.getElem?_append_left (by simpa using h),List.getElem?_replicate,if_pos h]
theorem yW(u:Nat)(B:u<18446744073709551616)(w:World)(q:I4 w):
  Calls Tryz.prog 197 #[.slice none 0 0,.int .u64 u,.int .i64 16,.bool false,.bool false] w fun e w'=>e=.returned (.tuple #[.slice none 0 0,.string ⟨(Ek u).toArray⟩])/\Fp [] w w':=by
 have X:=a0z yT;have z:=a0z yU;have y:=a0z q;clear q;go_enter Tryz.func197,Tryz.ntmps197;go_wp2_with (fail);(with_reducible refine(z.out _).mono ?_);rintro e Z ⟨rfl,rfl⟩;go_wp2_with (fail);(with_reducible refine(X.out _ (y.out.fp (Fp.alloc _ _) (by simp))).mono ?_);rintro e w2 ⟨rfl,rfl⟩;go_wp2_with (fail)
 go_loopg [1,13] u (fun g O P W=>∃(n i:Nat) (ds:List UInt8),g=n/\O=.int .u64 n/\P=.int .i64 i/\n<18446744073709551616/\Ek u=Ek n++ds/\ds.length+i=65/\49<=i/\n<16^(i-49)/\W.heap[w.heap.size]?=some (.cells (Qe i ds) 306 (0,0))/\Fp [] w W)
 case atStart=>exact⟨u,65,[],rfl,rfl,rfl,B,by rw[List.append_nil],rfl,by decide,by simpa using B,by rw[Ai rfl _];rfl,Fp.alloc _ _⟩
 case round=>
  obtain⟨n,i,ds,D,rfl,rfl,hn,A,C,t,I,F,E⟩:=hrel;have K:=a0z A;have p:=a0z F;have L:=a0z E;have Y:=a0z D;have x:=a0z C;have M:=a0z I;clear A F E D C I
  by_cases G:16<=n
  ·have z0:(16:Int)≤(n:Int):=by omega
   obtain⟨k,rfl⟩:∃k,i=k+1:=⟨i-1,by omega⟩
   have r:k<=64:=by have:=x.out;omega
   have z1:IntKind.i64.wrap (k:Int)=(k:Int):=by rw[a1x];omega
   have N:wrap64 (k:Int)=(k:Int):=by unfold wrap64;omega
   have z2:bits BinOp.and a1z (n:Int) 15=((n%16:Nat):Int):=by
    have h:=bits_and_u64_nat n 15 (by omega) (by omega);rw[show n &&& 15=n%16 from Nat.and_two_pow_sub_one_eq_mod n 4] at h;exact h
   have q0:wr.cell? ⟨w.heap.size,k,none⟩=some (.int .u8 0):=(Ab p.out k).trans (lK (Nat.lt_succ_self k));have U:wr.frozen? ⟨w.heap.size,k,none⟩=false:=Ar p.out k
   have f:∀d (h:d<16),yV[d]'(a0u h (by decide))=Kr d:=by decide
   go_wp2_with (fail)
   go_roundg (n/16)
   case measure=>have:=Y.out;omega
   case rel=>
    refine⟨n/16,k,Kr (n%16)::ds,rfl,rfl,rfl,by omega,?_,by have:=x.out;simp;omega,?_,?_,?_,L.out.trans (Fp.setCell _ ⟨w.heap.size,k,none⟩ _) (by intro i t;right;simp at t;omega)⟩
    ·rw[K.out,bS (by omega),List.append_assoc];rfl
    ·by_cases l:k+1-49=0
     ·have:=M.out;rw[l] at this;omega
     ·omega
    ·have J:=M.out
     have l:k+1-49≠0:=by
      intro l;rw[l] at J;omega
     rw[show k+1-49=(k-49)+1 by omega,Nat.pow_succ] at J;omega
    ·rw[<-lJ,<-f (n%16) (by omega)];exact(Bd p.out _).trans rfl
  ·have z0:¬(16:Int)≤(n:Int):=by omega
   obtain⟨k,rfl⟩:∃k,i=k+1:=⟨i-1,by omega⟩
   have r:k<=64:=by have:=x.out;omega
   have z1:IntKind.i64.wrap (k:Int)=(k:Int):=by rw[a1x];omega
   have N:wrap64 (k:Int)=(k:Int):=by unfold wrap64;omega
   have q0:wr.cell? ⟨w.heap.size,k,none⟩=some (.int .u8 0):=(Ab p.out k).trans (lK (Nat.lt_succ_self k));have U:wr.frozen? ⟨w.heap.size,k,none⟩=false:=Ar p.out k
   have s:Tryz.prog.arrayLen 306=65:=by simp[Program.arrayLen,Tryz.underlying306]
   have Q:∀W,(Instr.sliceAt 306 (.pointer (some ⟨w.heap.size,0,none⟩)) (some (.int .i64 (k:Int))) none none).run Tryz.prog W=.ok (.slice (some ⟨w.heap.size,k,none⟩) (65-k) (65-k)) W:=fun W=>by
    rw[run_sliceAt_array_l W 306 ⟨w.heap.size,0,none⟩ (by simp[Program.arrayLen,Program.elem,Tryz.underlying306]) .i64 (k:Int) (by omega) (by rw[s];omega)];go_simp;omega
   have a:n<16:=by omega
   have f:∀d (h:d<16),(⟨#[48,49,50,51,52,53,54,55,56,57,97,98,99,100,101,102,103,104,105,106,107,108,109,110,111,112,113,114,115,116,117,118,119,120,121,122]⟩:ByteArray)[d]'(a0u h (by decide))=Kr d:=by decide
   have S:(⟨#[48,49,50,51,52,53,54,55,56,57,97,98,99,100,101,102,103,104,105,106,107,108,109,110,111,112,113,114,115,116,117,118,119,120,121,122]⟩:ByteArray)[n]'(a0u a (by decide))=Kr n:=f n a
   have o:(wr.setCell ⟨w.heap.size,k,none⟩ (.int .u8 ((Kr n).toNat:Int))).heap[w.heap.size]?=some (.cells (Qe k (Kr n::ds)) 306 (0,0)):=by
    rw[<-lJ];exact(Bd p.out _).trans rfl
   have b:Ek u=Kr n::ds:=by rw[K.out,Vx a];rfl
   have m:65-k=(Ek u).length:=by rw[b];have:=x.out;simp;omega
   have T:(convert 113 9 (.slice (some ⟨w.heap.size,k,none⟩) (65-k) (65-k))).run Tryz.prog (wr.setCell ⟨w.heap.size,k,none⟩ (.int .u8 ((Kr n).toNat:Int)))=.ok (.string ⟨(Ek u).toArray⟩) (wr.setCell ⟨w.heap.size,k,none⟩ (.int .u8 ((Kr n).toNat:Int))):=by
    rw[m]
    refine run_convert_bytes_back _ 113 9 5 ⟨w.heap.size,k,none⟩ _ (Ek u) Tryz.underlying113 Tryz.underlying5 Tryz.underlying9 fun j R=>?_
    rw[Lib.add_plain,Ab o];unfold Qe;rw[a0x,List.getElem?_append_right (by simp)];simp only[a2w,Nat.add_sub_cancel_left];rw[<-b,List.getElem?_map,a1u R];rfl
   have V:=a0z b;clear s f o b m;go_wp2_with (fail);refine bodyPost_ret (v:=.tuple #[.slice none 0 0,.string ⟨(Ek u).toArray⟩]) (by simp[results,Tryz.results197,go_sem]) rfl ?_;exact⟨rfl,L.out.trans (Fp.setCell _ ⟨w.heap.size,k,none⟩ _) (by intro i t;right;simp at t;omega)⟩
end
end Go.Proofs.YtkagolpnaicdoaaGreatDoor
