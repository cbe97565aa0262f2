/- Lemmas. -/
import Derived.Test.YtkagolpnaicdoaaGreatDoorQMrgJ
set_option maxRecDepth 100000
set_option maxHeartbeats 8000000
open Go.Lib renaming hid->Y
open List renaming getD_eq_getElem?_getD->Z,getElem?_eq_getElem->a0z,setIfInBounds_toArray->a0x,getElem?_cons_zero->a0w,getElem?_toArray->a0v,set_cons_succ->a0u,set_cons_zero->a1z,length_append->a1x,length_set->a1w,cons_append->a1u,nil_append->a2z,reverse_cons->a2x,reverse_nil->a2w,length_cons->a2v,flatten_cons->a2u,eq_nil_of_length_eq_zero->a3w,getElem_of_mem->a3v,getElem?_take->a3u,not_mem_nil->a4z,take_of_length_le->a4x,take_append_drop->a4w,mem_of_getElem?->a4v,map_cons->a4u,mem_cons->a5z
open Nat renaming le_refl->a1v,le_trans->a3x
open Go.IntKind renaming wrap_i64->a3z
namespace Go.Proofs.YtkagolpnaicdoaaGreatDoor
section
open Go.RowKit Go.Lib
def iP(rv nv:Value):Bool->Value->Value:=fun d _=>cond d nv rv
structure K4(w W0:World)(base cl:Nat)(rv nv:Value)(hd:List Ac)(v:Value)(xs:List (List Ac))(b:Nat->Bool)(vs:Nat->Value)(W:World):Prop where
 l:Ew Dz (fun r=>r=hd) w W0 base cl 78 (iP rv nv) 4 5 6 11 v xs b vs W
 m:b 10=true->b 6=true/\vs 10=vs 6
variable {w W0 W W2 : World} {base cl : Nat} {rv nv : Value} {hd : List Ac} {v : Value} {xs : List (List Ac)} {b : Nat -> Bool} {vs : Nat -> Value}
theorem P6:Ta 4 5 6 11:=⟨by decide,by decide,by decide,by decide,by decide,by decide⟩
theorem K4.other{k:Nat}{x:Value}(h:K4 w W0 base cl rv nv hd v xs b vs W)(d:k≠10)(j:k=6->b 6=false)(i:Ew Dz (fun r=>r=hd) w W0 base cl 78 (iP rv nv) 4 5 6 11 v xs (Ak b k) (B6 vs k x) W2):K4 w W0 base cl rv nv hd v xs (Ak b k) (B6 vs k x) W2:=by
 refine⟨i,fun e=>?_⟩;rw[Ah d.symm] at e;obtain⟨c,n⟩:=h.m e
 have a:k≠6:=fun e=>by rw[j e] at c;cases c
 exact⟨J5 c,by rw[Bd d.symm,Bd a.symm];exact n⟩
theorem K4.plain{k:Nat}{x:Value}(h:K4 w W0 base cl rv nv hd v xs b vs W)(a:k≠10/\k≠4/\k≠5/\k≠6/\k≠11):K4 w W0 base cl rv nv hd v xs (Ak b k) (B6 vs k x) W:=h.other a.1 (fun e=>absurd e a.2.2.2.1) (h.l.plain ⟨a.2.1,a.2.2.1,a.2.2.2.1,a.2.2.2.2⟩)
theorem K4.assign(h:K4 w W0 base cl rv nv hd v xs b vs W)(c:b 6=true){x:Value}(a:x=vs 6):K4 w W0 base cl rv nv hd v xs (Ak b 10) (B6 vs 10 x) W:=
 ⟨h.l.plain (by decide),fun _=>⟨J5 c,by rw[Gu,Bd (by decide)];exact a⟩⟩
theorem K4.cel0(h:K4 w W0 base cl rv nv hd v xs b vs W)(a:b 11=false):W.heap[cl]?=some (.cells #[rv] 78 (0,0)):=by
 have:=h.l.cel;rw[a] at this;exact this
structure uL(w:World)(l:List Ac)(borders:List ByteArray)(k:Nat)(v:Value)(W:World):Prop where
 ex:∃out r a n cap,C9 Dz W (w.heap.size+1) v out/\La l (borders.take k) out r/\W.heap[w.heap.size]?=some (.cells #[.slice a n cap] 78 (0,0))/\Ba w a n r/\n<=cap/\(a=none/\cap=0∨∃b o,a=some ⟨b,o,none⟩)
 fp:Fp [] w W
 sz:w.heap.size<W.heap.size
theorem iQ(w:World)(a:Option Addr)(n cap:Nat)(a2:Option Addr)(J ad:Nat)(l:List Ac)(borders:List ByteArray)(hl:Ba w a n l)(aw:a=none∧cap=0∨∃b o,a=some ⟨b,o,none⟩)(U:n≤cap)(hb:D6 w a2 J borders)(hn:n≤1000000)(bm:J≤1000000)(a6:Ee borders=true)(ax:risC l=true):
  Calls Tryz.prog 88 #[.slice a n cap,.slice a2 J ad] w fun e w'=>∃v t,e=.returned (.tuple #[v,.int .i64 0])/\C9 Dz w' w.heap.size v t/\Eb l borders t/\Fp [] w w':=by
 have bi:=Y (fun W (h:D6 W a2 J borders)=>mE W a2 J ad borders h bm);have ba:=Y (fun W (h:Ba W a n l)=>W8 W a n cap l h (by omega));rw[a6] at bi;rw[ax] at ba;have HL:=Y hl;have HB:=Y hb;have HC:=Y U;have aq:=Y hb.len;have b1:=Y hl.len;have bx:=Y aw;clear hl hb a6 ax U aw;go_in;go_wp2_with fail;refine(bi.o _ (HB.o.of_fp (Fp.alloc _ _))).mono ?_;rintro e w1 ⟨rfl,ak⟩;have ao:=Y ((ak.block _ (by simp) (by simp)).trans (Ai rfl _):w1.heap[w.heap.size]?=some (.cells #[.slice a n cap] 78 (0,0)));have q1:w1.cell? ⟨w.heap.size,0,none⟩=some (.slice a n cap):=Ab ao.o 0;have bg:Hid (Fp [] w w1):=(Fp.alloc _ _).trans ak;clear ak;go_wp2_with fail;refine(ba.o _ (HL.o.fp bg.o)).mono ?_;rintro e w2 ⟨rfl,aj⟩;have a9:=Y ((aj.block _ (Ae ao.o) (by simp)).trans ao.o);have b2:Hid (Fp [] w w2):=bg.o.trans aj;have bo:w.heap.size<w2.heap.size:=Ae a9.o;clear aj q1;go_wp2_with fail
 go_loopg [4,19] J (fun gg v vi wr=>∃k:Nat,vi=.int .i64 k/\gg+k=J/\uL w l borders k v wr)
 case atStart=>exact⟨0,rfl,by omega,⟨[],l,a,n,cap,C9.nil _ _,La.nil l,a9.o,HL.o,HC.o,bx.o⟩,b2.o,bo⟩
 case round=>
  obtain⟨k,rfl,hg,hm⟩:=hrel;obtain⟨t,r,ar,B,D,ho,hu,hx,al,b5,av⟩:=hm.ex;have HF:=Y hm.fp;have HO:=Y ho;have HU:=Y hu;have HX:=Y hx;have R:=Y al;have aa:=Y av;have bk:=hm.sz;have az:B=r.length:=al.len;have I:=Y az;have ac:=hu.sub
  have a0:B<=1000000:=by have:=b1.o;omega
  have b8:t.length<=1000000:=by have:=ac.2.2;rw[List.length_take] at this;have:=aq.o;omega
  clear hm ho hu hx al av ac az;by_cases hk:k<J
  .have zk:(k:Int)<(J:Int):=(by omega)
   have n1:IntKind.i64.wrap ((k:Int)+1)=((k+1:Nat):Int):=(by rw[a3z];omega)
   have T:k<borders.length:=by have:=aq.o;omega
   obtain⟨b,o,e,U⟩:=Vg HB.o T;subst e;have q0:=U k T wr HF.o;have au:borders.take (k+1)=borders.take k++[D4 borders k]:=by
    rw[List.take_add_one,a0z T,Q5 T];rfl
   have ap:=Y au;obtain⟨s,hs⟩:=Aa (D4 borders k);rw[hs] at q0 ap;have V:∀X:Obj,(wr.alloc X).heap[w.heap.size]?=some (.cells #[.slice ar B D] 78 (0,0)):=fun X=>Dy HX.o;have q2:∀X:Obj,(wr.alloc X).cell? ⟨w.heap.size,0,none⟩=some (.slice ar B D):=fun X=>Ab (V X) 0;have bz:=Y (Aam (wr.alloc (.cells #[.string s] 9)) B w.heap.size wr.heap.size (fun i=>!(Gm (r.getD i Aq).row s)) a0 fun i W hi Q=>Aal W w.heap.size wr.heap.size ar B D i r s ((Q.block _ (Ae (V _)) (by simp)).trans (V _)) ((Q.block _ (by simp) (by simp)).trans (Ai rfl _)) (R.o.fp ((HF.o.alloc' _).trans Q)) hi);clear U hs au V;go_wp2_with fail;refine bz.o.mono ?_;rintro e w3 ⟨h,rfl,b9,a4,a1,O⟩
   have be:Hid (h<B->Gm (r.getD h Aq).row s=false):=fun e=>by simpa using a4 e
   have bd:Hid (0<h->Gm (r.getD (h-1) Aq).row s=true):=fun e=>by simpa using a1 e
   have E:Hid (Fp [] wr w3):=(Fp.alloc _ _).trans O;have bf:Hid (Fp [] w w3):=HF.o.trans E.o;have a8:=Y ((E.o.block _ (Ae HX.o) (by simp)).trans HX.o);have G:=Y (HO.o.fp E.o)
   have F:w.heap.size+1<=w3.heap.size:=by have:=E.o.size;omega
   have b7:(h:Int)<=(D:Int):=(by omega)
   have b6:(h:Int)<=(B:Int):=(by omega)
   obtain⟨va,vc,rfl⟩:=G.o.slice;clear a4 a1 O q2 q0;by_cases am:D=h
   .have ag:B=h:=(by omega)
    have ab:Hid (r.drop h=[]/\r.take h=r):=⟨List.drop_of_length_le (by have:=I.o;omega),a4x (by have:=I.o;omega)⟩
    have S:=Y (fun w' (Q:Fp [] w w')=>Vi w' ar h h (r.take h) (by rw[ab.o.2,<-ag];exact R.o.fp Q) (fun e=>by rcases aa.o with y|⟨b,o,y⟩;exact am▸y.2;rw[y] at e;cases e) (by omega));subst am;have bc:=Y ag;clear ag;obtain⟨d1,a5⟩:=Aa (B-D);go_wp2_with fail;refine Qb (K4 w w3 (w.heap.size+1) w.heap.size (.slice ar B D) (.slice ar d1 0) (r.take D) (.slice va t.length vc) t) (fun _ _=>True) (by kernel_rfl) (by kernel_rfl) (fun _=>⟨Ew.start G.o a8.o (fun _=>rfl) bf.o F (by omega),(fun e=>by cases e)⟩) ?_;apply Cm (fun _ _ _ h _=>h.plain (by decide)) rfl rfl rfl
    .intro b a w j d K p;have h4:=d.f 4;simp only[Oper.wp,execOp];go_simp;exact p _ j trivial
    apply Cm (fun _ _ _ h _=>h.plain (by decide)) rfl rfl rfl
    .intro b a w j d K p;have y:=d.f 2;have q0:=Ab (j.cel0 (d.post 11 (by kernel_rfl))) 0;simp only[a0v,a0w] at q0;simp only[Oper.wp,execOp];go_simp;exact p _ j trivial
    iterate 2
     apply Cm (fun _ _ _ h _=>h.plain (by decide)) rfl rfl rfl
     .intro b a w j d K p;have:=d.f 8;(try have:=d.e 1 28);(try have:=d.e 2 29);simp only[Oper.wp,execOp];go_simp;exact p _ j trivial
    apply Dw (fun _ _=>True) rfl rfl rfl
    .intro b a w j d K p;have bv:=d.e 3 30;simp only[Oper.wp,execOp];go_simp;refine(S.o _ j.l.fp).mono ?_;rintro e w4 ⟨vr,rfl,M,Q⟩;exact p _ _ (j.other (by decide) (fun e=>absurd e (by decide)) (j.l.call P6 d.self Q rfl M)) trivial trivial
    apply Dw (fun _ _=>True) rfl rfl rfl
    .intro b a w j d K p;have bt:=d.dep 4 31 _ (by kernel_rfl) rfl;obtain⟨rr,hg,M,-⟩:=j.l.res (d.pre 4 (by kernel_rfl)) (d.post 6 (by kernel_rfl));obtain⟨a2,J,c2,e2⟩:=Dz.sl M;have hv:=d.val 4 31 (by kernel_rfl);rw[e2] at hv;have z:=j.other (by decide) (fun e=>absurd e (by decide)) (j.l.build P6 (d.pre 4 (by kernel_rfl)) d.self);rw[e2] at z;simp only[Oper.wp,execOp];go_simp;exact p _ _ z trivial trivial
    apply Dw (fun _ _=>True) rfl rfl rfl
    .intro b a w j d K p;have an:=d.e 0 27;have bs:=d.dep 5 32 _ (by kernel_rfl) rfl;obtain⟨g,ai,ah⟩:=j.l.bld (d.pre 5 (by kernel_rfl)) d.self;obtain⟨rr,hg,M,hq⟩:=j.l.res (j.l.o32 (d.pre 5 (by kernel_rfl))) d.self;refine X5 Dz (.tmp 27) (.tmp 32) rfl _ (.slice va t.length vc) t (Ei an) (j.l.own0 d.self) g _ rr M hq (Ei ((d.val 5 32 (by kernel_rfl)).trans ai)) ah (by omega) j.l.sz ?_;intro v' w' h1 y h3;exact p _ _ (j.other (by decide) (fun _=>d.self) (j.l.append P6 (d.pre 5 (by kernel_rfl)) d.self hg h1 y h3 (by omega) (by omega) (fun _ _=>rfl))) trivial trivial
    apply Cm (fun _ _ _ h _=>h.plain (by decide)) rfl rfl rfl
    .intro b a w j d K p;have y:=d.f 2;have q0:=Ab (j.cel0 (d.post 11 (by kernel_rfl))) 0;simp only[a0v,a0w] at q0;simp only[Oper.wp,execOp];go_simp;exact p _ j trivial
    iterate 2
     apply Cm (fun _ _ _ h _=>h.plain (by decide)) rfl rfl rfl
     .intro b a w j d K p;have:=d.f 8;(try have:=d.e 7 34);(try have:=d.e 8 35);simp only[Oper.wp,execOp];go_simp;exact p _ j trivial
    apply Dw (fun _ _=>True) rfl rfl rfl
    .intro b a w j d K p;have br:=d.dep 6 33 _ (by kernel_rfl) rfl;simp only[Oper.wp,execOp];go_simp;exact p _ _ (j.assign (d.pre 6 (by kernel_rfl)) (d.val 6 33 (by kernel_rfl))) trivial trivial
    apply J3 (fun _=>True) rfl rfl rfl
    .intro b a w j d K p;have y:=d.f 2;have bq:=d.e 9 36;have h6:b 6=true:=(j.m (d.pre 10 (by kernel_rfl))).1;have z:=j.other (by decide) (fun e=>absurd e (by decide)) (j.l.store P6 h6 (by omega) (a1v _) rfl);have f0:=Av j.l.cel 0;have q0:=Ab j.l.cel 0;simp only[Oper.wp,execOp];go_simp;exact p undef _ z trivial trivial
    refine⟨?_,?_⟩
    .refine⟨fun _ _ _ _ _=>trivial,?_⟩;refine⟨fun _ _ _ _ _=>trivial,?_⟩
     iterate 3 refine E4 _ ?_
     refine⟨fun _ _ _ _ _=>trivial,?_⟩;refine⟨fun _ _ _ _ _=>trivial,?_⟩;refine⟨fun _ _ _ _ _=>trivial,?_⟩
     iterate 4 refine E4 _ ?_
     exact trivial
    .intro w' bb A;simp only[a2x,a2w,a2z,a1u]
     iterate 4 (refine A2 ?_)
     refine As ?_;intro v4 u4;refine As ?_;intro v5 u5;refine As ?_;intro v6 u6
     iterate 3 (refine A2 ?_)
     refine As ?_;intro L u10;refine As ?_;intro bj u11;refine C7 ?_;intro j;simp only[Aj,Act.put,a0x,a0u,a1z];have x:=j.l.cel;rw[A 11 (by simp)] at x;obtain⟨rr,ae,N⟩:=j.l.own1 (A 6 (by simp));have C:=(j.m (A 10 (by simp))).2;have H1:=Y x;have H2:Hid (C9 Dz w' (w.heap.size+1) L (t++[r.take D])):=by
      rw[<-ae];have e:L=v6:=C;rw[e];exact N
     have H3:=Y j.l.fp;clear j A x N C;go_wp2_with fail
     go_roundg (gk-1)
     case measure=>omega
     case rel=>
      refine⟨k+1,by simp,by omega,⟨t++[r.take D],r.drop D,_,_,_,H2.o,by rw[ap.o];exact La.snoc _ _ _ _ s D HU.o (by have:=I.o;omega) (fun e=>be.o (by have:=I.o;omega)) bd.o,H1.o,⟨by rw[ab.o.1];have:=bc.o;simp;omega,Or.inl ab.o.1,by rw[ab.o.1];intro c U;cases U⟩,by have:=bc.o;omega,by rcases aa.o with y|y;exact Or.inl ⟨y.1,rfl⟩;exact Or.inr y⟩,H3.o,Ae H1.o⟩
   .obtain⟨b3,o3,bp⟩:∃b o,ar=some ⟨b,o,none⟩:=by
     rcases aa.o with y|y
     .exfalso;apply am;omega
     .exact y
    subst bp;have bh:Hid (Ba w (some ⟨b3,o3+h*6,none⟩) (B-h) (r.drop h)):=R.o.drop h (B-h) (by omega);have S:=Y (fun w' (Q:Fp [] w w')=>Vi w' (some ⟨b3,o3,none⟩) h D (r.take h) ((R.o.fp Q).take h (by omega)) (fun e=>by cases e) (by omega));obtain⟨d1,a5⟩:=Aa (B-h);obtain⟨d2,cc⟩:=Aa (D-h);rw[a5] at bh;go_wp2_with fail;refine Qb (K4 w w3 (w.heap.size+1) w.heap.size (.slice (some ⟨b3,o3,none⟩) B D) (.slice (some ⟨b3,o3+h*6,none⟩) d1 d2) (r.take h) (.slice va t.length vc) t) (fun _ _=>True) (by kernel_rfl) (by kernel_rfl) (fun _=>⟨Ew.start G.o a8.o (fun _=>rfl) bf.o F (by omega),(fun e=>by cases e)⟩) ?_;apply Cm (fun _ _ _ h _=>h.plain (by decide)) rfl rfl rfl
    .intro b a w j d K p;have h4:=d.f 4;simp only[Oper.wp,execOp];go_simp;exact p _ j trivial
    apply Cm (fun _ _ _ h _=>h.plain (by decide)) rfl rfl rfl
    .intro b a w j d K p;have y:=d.f 2;have q0:=Ab (j.cel0 (d.post 11 (by kernel_rfl))) 0;simp only[a0v,a0w] at q0;simp only[Oper.wp,execOp];go_simp;exact p _ j trivial
    iterate 2
     apply Cm (fun _ _ _ h _=>h.plain (by decide)) rfl rfl rfl
     .intro b a w j d K p;have:=d.f 8;(try have:=d.e 1 28);(try have:=d.e 2 29);simp only[Oper.wp,execOp];go_simp;exact p _ j trivial
    apply Dw (fun _ _=>True) rfl rfl rfl
    .intro b a w j d K p;have bv:=d.e 3 30;simp only[Oper.wp,execOp];go_simp;refine(S.o _ j.l.fp).mono ?_;rintro e w4 ⟨vr,rfl,M,Q⟩;exact p _ _ (j.other (by decide) (fun e=>absurd e (by decide)) (j.l.call P6 d.self Q rfl M)) trivial trivial
    apply Dw (fun _ _=>True) rfl rfl rfl
    .intro b a w j d K p;have bt:=d.dep 4 31 _ (by kernel_rfl) rfl;obtain⟨rr,hg,M,-⟩:=j.l.res (d.pre 4 (by kernel_rfl)) (d.post 6 (by kernel_rfl));obtain⟨a2,J,c2,e2⟩:=Dz.sl M;have hv:=d.val 4 31 (by kernel_rfl);rw[e2] at hv;have z:=j.other (by decide) (fun e=>absurd e (by decide)) (j.l.build P6 (d.pre 4 (by kernel_rfl)) d.self);rw[e2] at z;simp only[Oper.wp,execOp];go_simp;exact p _ _ z trivial trivial
    apply Dw (fun _ _=>True) rfl rfl rfl
    .intro b a w j d K p;have an:=d.e 0 27;have bs:=d.dep 5 32 _ (by kernel_rfl) rfl;obtain⟨g,ai,ah⟩:=j.l.bld (d.pre 5 (by kernel_rfl)) d.self;obtain⟨rr,hg,M,hq⟩:=j.l.res (j.l.o32 (d.pre 5 (by kernel_rfl))) d.self;refine X5 Dz (.tmp 27) (.tmp 32) rfl _ (.slice va t.length vc) t (Ei an) (j.l.own0 d.self) g _ rr M hq (Ei ((d.val 5 32 (by kernel_rfl)).trans ai)) ah (by omega) j.l.sz ?_;intro v' w' h1 y h3;exact p _ _ (j.other (by decide) (fun _=>d.self) (j.l.append P6 (d.pre 5 (by kernel_rfl)) d.self hg h1 y h3 (by omega) (by omega) (fun _ _=>rfl))) trivial trivial
    apply Cm (fun _ _ _ h _=>h.plain (by decide)) rfl rfl rfl
    .intro b a w j d K p;have y:=d.f 2;have q0:=Ab (j.cel0 (d.post 11 (by kernel_rfl))) 0;simp only[a0v,a0w] at q0;simp only[Oper.wp,execOp];go_simp;exact p _ j trivial
    iterate 2
     apply Cm (fun _ _ _ h _=>h.plain (by decide)) rfl rfl rfl
     .intro b a w j d K p;have:=d.f 8;(try have:=d.e 7 34);(try have:=d.e 8 35);simp only[Oper.wp,execOp];go_simp;exact p _ j trivial
    apply Dw (fun _ _=>True) rfl rfl rfl
    .intro b a w j d K p;have br:=d.dep 6 33 _ (by kernel_rfl) rfl;simp only[Oper.wp,execOp];go_simp;exact p _ _ (j.assign (d.pre 6 (by kernel_rfl)) (d.val 6 33 (by kernel_rfl))) trivial trivial
    apply J3 (fun _=>True) rfl rfl rfl
    .intro b a w j d K p;have y:=d.f 2;have bq:=d.e 9 36;have h6:b 6=true:=(j.m (d.pre 10 (by kernel_rfl))).1;have z:=j.other (by decide) (fun e=>absurd e (by decide)) (j.l.store P6 h6 (by omega) (a1v _) rfl);have f0:=Av j.l.cel 0;have q0:=Ab j.l.cel 0;simp only[Oper.wp,execOp];go_simp;exact p undef _ z trivial trivial
    refine⟨?_,?_⟩
    .refine⟨fun _ _ _ _ _=>trivial,?_⟩;refine⟨fun _ _ _ _ _=>trivial,?_⟩
     iterate 3 refine E4 _ ?_
     refine⟨fun _ _ _ _ _=>trivial,?_⟩;refine⟨fun _ _ _ _ _=>trivial,?_⟩;refine⟨fun _ _ _ _ _=>trivial,?_⟩
     iterate 4 refine E4 _ ?_
     exact trivial
    .intro w' bb A;simp only[a2x,a2w,a2z,a1u]
     iterate 4 (refine A2 ?_)
     refine As ?_;intro v4 u4;refine As ?_;intro v5 u5;refine As ?_;intro v6 u6
     iterate 3 (refine A2 ?_)
     refine As ?_;intro L u10;refine As ?_;intro bj u11;refine C7 ?_;intro j;simp only[Aj,Act.put,a0x,a0u,a1z];have x:=j.l.cel;rw[A 11 (by simp)] at x;obtain⟨rr,ae,N⟩:=j.l.own1 (A 6 (by simp));have C:=(j.m (A 10 (by simp))).2;have H1:=Y x;have H2:Hid (C9 Dz w' (w.heap.size+1) L (t++[r.take h])):=by
      rw[<-ae];have e:L=v6:=C;rw[e];exact N
     have H3:=Y j.l.fp;clear j A x N C;go_wp2_with fail
     go_roundg (gk-1)
     case measure=>omega
     case rel=>
      refine⟨k+1,by simp,by omega,⟨t++[r.take h],r.drop h,_,_,_,H2.o,by rw[ap.o];exact La.snoc _ _ _ _ s h HU.o (by have:=I.o;omega) (fun e=>be.o (by have:=I.o;omega)) bd.o,H1.o,bh.o,by omega,Or.inr ⟨_,_,rfl⟩⟩,H3.o,Ae H1.o⟩
  .have zk:¬(k:Int)<(J:Int):=(by omega)
   have q2:wr.cell? ⟨w.heap.size,0,none⟩=some (.slice ar B D):=Ab HX.o 0;have S:=Y (Vi wr ar B D r (R.o.fp HF.o) (fun e=>by rcases aa.o with h|⟨b,o,h⟩;exact h.2;rw[h] at e;cases e) a0);have bw:Hid (Eb l borders (t++[r])):=by
    have:=HU.o.all;rw[a4x (by have:=aq.o;omega)] at this;exact this
   have F:w.heap.size+1<=wr.heap.size:=bk;go_wp2_with fail;refine S.o.mono ?_;rintro e w3 ⟨v3,rfl,af,O⟩;have G:=Y af;have E:=Y O;obtain⟨a3,c3,rfl,-⟩:=af.at2 (fun c U=>HL.o.ok c (HU.o.sub.2.1 c U));clear af O;go_wp2_with (at_builtin;(refine cB Dz rfl _ _ rfl (w.heap.size+1) _ t rfl ((HO.o.toN.fp E.o).fp (Fp.alloc _ _)) _ _ r (((G.o.mono F:Ap w3 (w.heap.size+1) _ r)).fp (Fp.alloc _ _)) (fun q hq=>(G.o.lt q hq).1) rfl (by rw[Ab (Ai rfl _)];rfl) (by omega) (by have:=E.o.size;simp;omega) ?_);intro v4 w4 ay a7 bn;have b0:=Y ay;have b4:=Y a7;clear ay a7 bn);refine bodyPost_ret (v:=.tuple #[v4,.int .i64 0]) (by simp[results,Tryz.results88,go_sem]) rfl ?_;exact⟨v4,_,rfl,b0.o.mono (by omega),bw.o,((HF.o.trans E.o).alloc' _).belowTrans (b4.o.mono (by omega))⟩
end
section
open Go.RowKit Go.Lib
def Jh(l:List Ac)(i:Nat):Bool:=!(decide (i+1<l.length)&&((l.getD (i+1) Aq).row.toList==(l.getD i Aq).row.toList))
def Dj(l:List Ac)(fr i:Nat):List (Nat × Nat):=if i<l.length then(if Jh l i=true then(fr,i+1-fr)::Dj l (i+1) (i+1) else Dj l fr (i+1)) else[]
 termination_by l.length-i
theorem Qv{l:List Ac}{fr i:Nat}(h:i<l.length)(a:Jh l i=true):Dj l fr i=(fr,i+1-fr)::Dj l (i+1) (i+1):=by
 rw[Dj,if_pos h,if_pos a]
theorem Si{l:List Ac}{fr i:Nat}(h:i<l.length)(a:Jh l i=false):Dj l fr i=Dj l fr (i+1):=by
 rw[Dj,if_pos h,if_neg (by rw[a];decide)]
theorem Qw{l:List Ac}{fr i:Nat}(h:¬i<l.length):Dj l fr i=[]:=by
 rw[Dj,if_neg h]
def U0(b o cap:Nat)(x:Nat × Nat):Value:=.slice (some ⟨b,o+x.1*6,none⟩) x.2 (cap-x.1)
def Xa(b o cap:Nat)(x:Nat × Nat):Array Value:=#[U0 b o cap x]
theorem uM(T:TypeId)(base L n N:Nat)(w:World)(b o len cap:Nat)(l:List Ac)(af:Ba w (some ⟨b,o,none⟩) len l)(hn:1≤n)(ai:w.heap[N]?=some (.cells #[.slice (some ⟨b,o,none⟩) len cap] 78 (0,0)))
  (bp:len<=cap)(bt:len<=1000000)(ap:N<base)(a3:N≠L)(a5:b<base)(a6:b≠L)
  (S0:List Nat)(ar:∀k∈S0,k<base/\k≠N/\k≠b)(J Jx:List (Nat × Nat)->World->Prop)
  (hJ:∀s A B,J s A->Fp [] A B->J s B)
  (hy:∀c x W,(∃ak,Dj l 0 0=c++x::ak)->J c W->YieldAt Fence.wide (n-1) Tryz.prog L (Xa b o cap x) W fun e W'=>(e=.returned (.bool true)/\J (c++[x]) W'/\Ao T base (L::S0) W W')∨(e=.returned (.bool false)/\Jx (c++[x]) W'))
  (h0:J [] w):
  CallsIn Fence.wide n Tryz.prog 223 #[.func (.yield L) #[] #[],.pointer (some ⟨N,0,none⟩)] w fun e w'=>(∃v,e=.returned v)/\((∃xs,xs=Dj l 0 0/\J xs w')∨∃c,Jx c w'):=by
 rw[callsIn_wide];have HY:=Y hy;have HJ:=Y hJ;have au:=Y ar;have az:=Y ai;have ba:=Y af;have Q:=Y af.len;have a2:w.cell? ⟨N,0,none⟩=some (.slice (some ⟨b,o,none⟩) len cap):=Ab ai 0;clear hy hJ ar ai af;go_in;go_wp2_with fail
 go_loopg [3,7] len (fun g vf vi wr=>∃(fr i:Nat) (c:List (Nat × Nat)),g=len-i/\vf=.int .i64 fr/\vi=.int .i64 i/\fr<=i/\i<=len/\Dj l 0 0=c++Dj l fr i/\J c wr/\Ao T base (L::S0) w wr)
 case atStart=>exact⟨0,0,[],rfl,rfl,rfl,a1v _,Nat.zero_le _,rfl,h0,Ao.of (Fp.refl [] _) (by simp) |>.mono (by simp)⟩
 case round=>
  obtain⟨fr,i,c,hg,rfl,rfl,br,bq,y,hj,hf⟩:=hrel;have R:=Y hf;have av:=Y hj;clear hf hj a2;have ab:wr.heap[N]?=some (.cells #[.slice (some ⟨b,o,none⟩) len cap] 78 (0,0)):=(R.o.low _ ap (Ae az.o) (by intro h;rcases List.mem_cons.1 h with h|h;exact a3 h;exact(au.o _ h).2.1 rfl)).trans az.o;have q:=Y ab;clear ab;by_cases am:i<len
  .have zi:(i:Int)<(len:Int):=(by omega)
   have n1:IntKind.i64.wrap ((i:Int)+1)=((i+1:Nat):Int):=(by rw[a3z];omega)
   have C:i<l.length:=(by rw[<-Q.o];exact am)
   obtain⟨r,an⟩:=Aa (i+1);rw[an] at n1;have ao:∀k (hk:k<l.length) w',Fp [] wr w'->J1 w' b (o+k*6) l[k]:=fun k hk w' hf=>by
    obtain⟨b1,o1,e,aq,hc⟩:=J2 ba.o hk;cases e;have M:=hc w (Fp.refl _ _);have h2:∀j,w'.cell? ⟨b,j,none⟩=w.cell? ⟨b,j,none⟩:=fun j=>(hf.cell (p:=⟨b,j,none⟩) (Nat.lt_of_lt_of_le aq R.o.size) (by simp)).trans (World.cell?_of_block (w:=w) (a:=⟨b,j,none⟩) (R.o.low b a5 aq (by intro h;rcases List.mem_cons.1 h with h|h;exact a6 h;exact(au.o _ h).2.2 rfl)));exact⟨(h2 _).trans M.c0,(h2 _).trans M.c1,(h2 _).trans M.c2,(h2 _).trans M.c3,(h2 _).trans M.c4,(h2 _).trans M.c5⟩
   have ay:=Y ao
   have z1:(fr:Int)<=(r:Int):=(by omega)
   have z2:(r:Int)<=(cap:Int):=(by omega)
   have z3:¬cap=fr:=(by omega)
   have q0:wr.cell? ⟨N,0,none⟩=some (.slice (some ⟨b,o,none⟩) len cap):=Ab q.o 0
   have G:l.getD i Aq=l[i]:=(by rw[Z,a0z C];rfl)
   obtain⟨er,I⟩:=Aa (Jh l i);have ac:=Y y;have S:=Y I;have HG:=Y hg;have t:=Y an;clear ao y hg
   go_upto_region 4 with(fail)
   go_cut [7,28] from 7 to 39 (fun v7 a1 wx=>v7=.int .i64 i/\a1=.bool (!er)/\Fp [] wr wx)
   case first=>
    by_cases M:r<len
    .have a0:(r:Int)<(len:Int):=(by omega)
     have E:r<l.length:=(by rw[<-Q.o];exact M)
     have ah:=ay.o i C;have ag:=ay.o r E
     have U:l.getD r Aq=l[r]:=(by rw[Z,a0z E];rfl)
     have z:er=!((l[r].row.toList==l[i].row.toList)):=by
      rw[<-S.o];unfold Jh;rw[t.o,U,G,decide_eq_true E,Bool.true_and]
     obtain⟨c0,aa⟩:=Aa (l[i]);obtain⟨c1,V⟩:=Aa (l[r]);rw[aa] at ah z;rw[V] at ag z;obtain⟨r0,bo,bn,bm,bk,bj⟩:=c0;obtain⟨r1,bi,bh,bg,bf,be⟩:=c1;simp only at z;have bc:=Y ah;have bb:=Y ag;have aj:=Y z;clear ah ag aa V z G U I;go_wp2_with fail;refine Bo (by kernel_rfl) (by kernel_rfl) ?_
     iterate 19
      first|apply A1 rfl rfl rfl|apply Gw _ _ rfl rfl rfl rfl (by kernel_rfl) rfl rfl
      .intro a w D m K hK;have:=m.f 4;have:=m.f 1;(try have:=m.e 0 10);(try have:=m.e 2 12);(try have:=m.e 1 11);(try have:=m.e 3 13);(try have:=m.e 4 14);(try have:=m.e 7 17);(try have:=m.e 6 16);(try have:=m.e 8 18);(try have:=m.e 9 19);(try have:=m.e 10 20);(try have:=m.e 12 22);(try have:=m.e 13 23);(try have:=m.e 14 24);(try have:=m.e 15 25);(try have:=m.e 11 21);(try have:=m.e 16 26);(try have:=m.e 5 15);(try have:=m.e 17 27);obtain⟨p0,p1,p2,p3,p4,p5⟩:=bc.o _ D;obtain⟨s0,s1,s2,s3,s4,s5⟩:=bb.o _ D;simp only at p0 s0;have q1:=Ab ((D.block _ (Ae q.o) (by simp)).trans q.o) 0;simp only[a0v,a0w] at q1;simp only[Oper.wp,execOp];go_simp;exact hK _ D (Fp.refl _ _)
     refine Bn ?_
     iterate 19 refine Bm ?_
     refine Bl fun w' D=>?_
     .simp only[Aj,Act.put,a0x,a0u,a1z];have HC:=Y D;clear D;go_wp2_with fail
      go_meet
      case rel=>exact⟨rfl,by rw[aj.o,Bool.not_not],HC.o⟩
    .have a0:¬(r:Int)<(len:Int):=(by omega)
     have z:er=true:=by
      rw[<-S.o];unfold Jh;rw[t.o,decide_eq_false (by rw[<-Q.o];exact M)];rfl
     have aj:=Y z;clear z G I;go_wp2_with fail;refine Bo (by kernel_rfl) (by kernel_rfl) ?_
     iterate 19
      first
      |apply Jq _ _ rfl rfl rfl rfl (by kernel_rfl) rfl rfl
      |apply A1 rfl rfl rfl
       .intro a w D m K hK;have:=m.f 4;have:=m.f 1;(try have:=m.e 0 10);(try have:=m.e 2 12);(try have:=m.e 1 11);(try have:=m.e 3 13);(try have:=m.e 4 14);(try have:=m.e 5 15);(try have:=m.e 17 27);have q1:=Ab ((D.block _ (Ae q.o) (by simp)).trans q.o) 0;simp only[a0v,a0w] at q1;simp only[Oper.wp,execOp];go_simp;exact hK _ D (Fp.refl _ _)
     refine Bn ?_
     iterate 19 refine Bm ?_
     refine Bl fun w' D=>?_
     .simp only[Aj,Act.put,a0x,a0u,a1z];have HC:=Y D;clear D;go_wp2_with fail
      go_meet
      case rel=>exact⟨rfl,by rw[aj.o];rfl,HC.o⟩
   case rest=>
    obtain⟨rfl,rfl,F⟩:=hcut;have bw:=Y F;have ad:=Y (R.o.trans (Ao.of (F.mono (by simp):Fp [] wr wc) (by simp)));have aw:=Y (HJ.o _ _ _ av.o F);have q1:wc.cell? ⟨N,0,none⟩=some (.slice (some ⟨b,o,none⟩) len cap):=Ab ((F.block _ (Ae q.o) (by simp)).trans q.o) 0;clear F q0;cases er
    .have O:=Y (show Dj l 0 0=c++Dj l fr r by rw[ac.o,Si C S.o,t.o]);go_wp2_with fail
     go_roundg (len-r)
     case measure=>have:=HG.o;have:=t.o;omega
     case rel=>exact⟨fr,r,c,rfl,rfl,rfl,by have:=t.o;omega,by have:=t.o;omega,O.o,aw.o,ad.o⟩
    .obtain⟨d,hd⟩:=Aa (r-fr);obtain⟨d2,a4⟩:=Aa (cap-fr);have O:=Y (show Dj l 0 0=c++(fr,d)::Dj l r r by rw[ac.o,Qv C S.o,t.o,hd]);obtain⟨fn,tm,bv,bd,ae,al⟩:=HY.o c (fr,d) wc ⟨_,O.o⟩ aw.o;have a7:=Y al;clear al;unfold Xa U0 at ae;simp only at ae;rw[a4] at ae;clear G I
     go_upto_region 5 with(fail)
     refine(wpIn_wide (n:=n)).1 ?_
     gi_wp2_with fail
     refine a7.o.mono ?_;rintro e W1 (⟨rfl,hj1,hf1⟩|⟨rfl,hjx⟩)
     .have a9:=Y hj1;have ax:=Y (ad.o.trans hf1 (by intro i hi;exact hi));clear hj1 hf1
      gi_wp2_with fail
      go_wp2_with fail
      go_roundg (len-r)
      case measure=>have:=HG.o;have:=t.o;omega
      case rel=>exact⟨r,r,c++[(fr,d)],rfl,rfl,rfl,a1v _,by have:=t.o;omega,by rw[O.o,List.append_assoc];rfl,a9.o,ax.o⟩
     .have a8:=Y hjx;clear hjx
      gi_wp2_with fail
      go_wp2_with fail;refine bodyPost_ret (results_none rfl _ _ _) rfl ?_;exact⟨⟨_,rfl⟩,Or.inr ⟨_,a8.o⟩⟩
  .have z0:¬(i:Int)<(len:Int):=(by omega)
   rw[Qw (fr:=fr) (i:=i) (by rw[<-Q.o];exact am),List.append_nil] at y;have HP:=Y y;have HG:=Y hg;clear y hg;go_wp2_with fail;go_end0;refine⟨⟨_,rfl⟩,Or.inl ?_⟩;rw[HP.o];exact av.o
theorem uN(w:World)(v:Value)(a:Option Addr)(len cap:Nat)(c:v=.slice a len cap):Calls Tryz.prog 147 #[v] w fun e w'=>e=.returned (.func (.func 223) #[] #[.pointer (some ⟨w.heap.size,0,none⟩)])∧
  w'.heap[w.heap.size]?=some (.cells #[v] 78 (0,0))/\Fp [] w w':=by
 subst c;go_in;go_wp2_with fail;go_ret;exact⟨rfl,Ai rfl _,Fp.alloc _ _⟩
end
section
open Go.RowKit Go.Lib
theorem iR{w:World}{o:Oper}{a:Act}{K:Act→World→Prop}{Q:Exit→Act→World→Prop}(s x:Operand)
  (M:o.op=.call {callee:=.builtin .append,args:=#[s,x],argTypes:=#[78,78]})(base:Nat)(v:Value)(l:List Ac)(J:a.eval s=v)(i:Ap w base v l)
  (r:Addr)(m c:Nat)(q:List Ac)(I:a.eval x=.slice (some r) m c)(E:Ba w (some r) m q)(D:l.length+q.length<=1000000000)(d:base<=w.heap.size)
  (h:∀p w',Ap w' base p (l++q)->w.grownBy w' v.ownBlock->Below base w w'->(p.ownBlock=v.ownBlock∨p.ownBlock=some w.heap.size)->K (a.put o.dst p) w'):o.wp Tryz.prog a w K Q:=by
 obtain⟨G,N,z,y,t⟩:=info_parts Tryz.infoCel;have C:=E.len;have n:∀j u,(q.flatMap E9)[j]?=some u→w.cell? (r.add j)=some u:=by
  intro j u B;rcases E.cells with A|⟨b,o,A,_,O⟩
  .subst A;simp at B
  .obtain rfl:=Option.some.inj A
   have T:(⟨b,o,none⟩:Addr).add j=⟨b,o+j,none⟩:=(by unfold Addr.add;split<;>simp_all)
   rw[T];exact cR O j u B
 obtain⟨p,w',L,S,F,_,R⟩:=run_append_own_at (P:=Tryz.prog) w base 78 o.type 80 G _ 6 72 Tryz.underlying78 N z y t rfl (by decide) v l.length (l.flatMap E9) i r m c (q.flatMap E9) (by rw[Yj,C]) n (cT q) (by unfold maxLen;omega) (by omega) d;unfold Oper.wp execOp;simp only[M,resolve,invoke,builtin,Sem.run_bind,Sem.run_pure,Result.andThen_ok,List.map_toArray,a4u,List.map_nil,J,I,L];refine h p w' ?_ F (cS i F d) R;unfold Ap;rw[a1x,List.flatMap_append,<-C];exact S
theorem Sl{D T:TypeId}{w w':World}{base:Nat}{k:Option Nat}(h:∀q,k=some q->base<=q/\∃c i,w.heap[q]?=some (.cells c T i))(d:w.grownBy w' k)(j:D≠T):Ao D base [] w w':=by
 refine⟨d.size,fun q r a _=>d.block q a fun e=>by have:=(h q e.symm).1;omega,fun q c i _ a=>d.block q (Ae a) fun p=>?_⟩;obtain⟨_,s,n,m⟩:=h q p.symm;rw[m] at a;cases a;exact j rfl
theorem Ap.typed{w:World}{base:Nat}{v:Value}{l:List Ac}(h:Ap w base v l):∀q,v.ownBlock=some q→base≤q∧∃c j,w.heap[q]?=some (.cells c 80 j):=by
 intro q a;rcases h.2 with⟨rfl,_⟩|⟨g,cap,cur,rfl,i,d,_⟩
 .cases a
 .obtain rfl:g=q:=by simpa [Value.ownBlock] using a
  exact⟨i,_,_,d⟩
theorem iS{D T:TypeId}{w:World}{base g k:Nat}{c:Array Value}{n:Nat × Nat}{x:Value}(h:w.heap[g]?=some (.cells c T n))(i:D≠T)(p:base<=g):Ao D base [] w (w.setCell ⟨g,k,none⟩ x):=by
 have d:Fp [g] w (w.setCell ⟨g,k,none⟩ x):=Fp.setCell w ⟨g,k,none⟩ x;refine⟨d.size,fun q j a _=>d.block q a (by simp;omega),fun q r m j a=>d.block q (Ae a) ?_⟩;simp only[a5z,a4z,or_false];rintro rfl;rw[h] at a;cases a;exact i rfl
structure G6(w W0:World)(base g k:Nat)(cur:Array Value)(vals:List Value)(xs:List (List Ac))(last row:List Ac)(u:Value)(ia is:Nat)(b:Nat->Bool)(vs:Nat->Value)(W:World):Prop where
 fp:Fp [] w W
 kept:∀D,D≠80->D≠78->Ao D base [] W0 W
 outer:W.heap[g]?=some (.cells (if b is=true then cur.setIfInBounds k (vs ia) else cur) 78 (0,0))
 oth:∀i (h1:i<vals.length) (h2:i<xs.length),i≠k->Ap W base vals[i] xs[i]
 last0:b ia=false->Ap W base u last
 res:b ia=true->Ap W base (vs ia) (last++row)/\((vs ia).ownBlock=u.ownBlock∨∀q,(vs ia).ownBlock=some q->W0.heap.size<=q)
 o97:b is=true->b ia=true
 sz:base<=W.heap.size
variable {w W0 W W2 : World} {base g k : Nat} {cur : Array Value} {vals : List Value} {xs : List (List Ac)} {last row : List Ac} {u : Value} {ia is : Nat} {b : Nat -> Bool} {vs : Nat -> Value}
theorem G6.start{vs:Nat->Value}(n:Fp [] w W0)(m:W0.heap[g]?=some (.cells cur 78 (0,0)))(d:∀i (c:i<vals.length) (a:i<xs.length),i≠k->Ap W0 base vals[i] xs[i])(j:Ap W0 base u last)(p:base<=W0.heap.size):G6 w W0 base g k cur vals xs last row u ia is (fun _=>false) vs {W0 with drawn:=W0.drawn+1}:=
 ⟨n.trans (Fp.drew W0),fun _ _ _=>Ao.of (Fp.drew W0) (by simp),m,fun i c a q=>(d i c a q).fp (Fp.drew W0),fun _=>j.fp (Fp.drew W0),(fun h=>by cases h),(fun h=>by cases h),p⟩
theorem G6.plain{j:Nat}{x:Value}(h:G6 w W0 base g k cur vals xs last row u ia is b vs W)(d:j≠ia/\j≠is):G6 w W0 base g k cur vals xs last row u ia is (Ak b j) (B6 vs j x) W:=by
 obtain⟨a,c⟩:=d;refine⟨h.fp,h.kept,?_,h.oth,?_,?_,?_,h.sz⟩
 .rw[Ah c.symm,Bd a.symm];exact h.outer
 .rw[Ah a.symm];exact h.last0
 .rw[Ah a.symm,Bd a.symm];exact h.res
 .rw[Ah a.symm,Ah c.symm];exact h.o97
theorem G6.first(h:G6 w W0 base g k cur vals xs last row u ia is b vs W)(a:b ia=false):W.heap[g]?=some (.cells cur 78 (0,0)):=by
 have:=h.outer;rw[E6 h.o97 a] at this;exact this
theorem G6.append{s:Value}(h:G6 w W0 base g k cur vals xs last row u ia is b vs W)(r:ia≠is)(z:b ia=false)(G:Ap W2 base s (last++row))(a:W.grownBy W2 u.ownBlock)(C:Below base W W2)(y:s.ownBlock=u.ownBlock∨s.ownBlock=some W.heap.size)(x:w.heap.size≤base)
  (n:∀i (d:i<vals.length),i≠k->∀q,vals[i].ownBlock=some q->u.ownBlock≠some q):G6 w W0 base g k cur vals xs last row u ia is (Ak b ia) (B6 vs ia s) W2:=by
 have E:=E6 h.o97 z;have j:=(h.last0 z).typed;have m:W0.heap.size<=W.heap.size:=(h.kept 0 (by decide) (by decide)).size;refine⟨h.fp.belowTrans (C.mono x),fun D d t=>(h.kept D d t).trans (Sl j a d),?_,fun i d t B=>(h.oth i d t B).kept fun q p=>a.block q ((h.oth i d t B).lt q p).2 (fun e=>n i d B q p e.symm),(fun e=>by rw[Eg] at e;cases e),fun _=>?_,fun e=>?_,a3x h.sz C.size⟩
 .rw[Ah r.symm,E];have A:=h.first z;refine(a.block g (Ae A) fun e=>?_).trans A;obtain⟨_,c,I,F⟩:=j g e.symm;rw[A] at F;cases F
 .rw[Gu];refine⟨G,?_⟩;rcases y with e|e
  .exact Or.inl e
  .refine Or.inr fun q p=>?_;rw[e] at p;cases p;exact m
 .rw[Ah r.symm,E] at e;cases e
theorem G6.store{y:Value}(h:G6 w W0 base g k cur vals xs last row u ia is b vs W)(c:ia≠is)(n:b ia=true)(x:b is=false)(p:base<=g)(s:w.heap.size<=base)(r:vs ia=y):G6 w W0 base g k cur vals xs last row u ia is (Ak b is) (B6 vs is undef) (W.setCell ⟨g,k,none⟩ y):=by
 have a:=h.outer;rw[x] at a;have q:Fp [g] W (W.setCell ⟨g,k,none⟩ y):=Fp.setCell W ⟨g,k,none⟩ y;have j:Ao 80 base [] W (W.setCell ⟨g,k,none⟩ y):=iS a (by decide) p;refine⟨h.fp.trans q (by intro i t;right;simp at t;omega),fun D m d=>(h.kept D m d).trans (iS a d p),?_,fun i m d z=>(h.oth i m d z).keptT j,fun e=>?_,fun _=>?_,fun _=>?_,a3x h.sz q.size⟩
 .rw[Eg,Bd c,r];exact(Cf a _).trans rfl
 .rw[Ah c,n] at e;cases e
 .rw[Bd c];obtain⟨m,d⟩:=h.res n;exact⟨m.keptT j,d⟩
 .rw[Ah c];exact n
theorem Dn.of_nth{α β:Type}{P:α->β->Prop}:∀(l:List α) (m:List β),l.length=m.length->(∀i (c:i<l.length) (a:i<m.length),P l[i] m[i])->Dn P l m
 |[],[],_,_=>.nil
 |[],_ ::_,h,_=>by cases h
 |_ ::_,[],h,_=>by cases h
 |x::l,y::m,hl,h=>.cons (h 0 (Nat.zero_lt_succ _) (Nat.zero_lt_succ _)) (Dn.of_nth l m (by simpa using hl) fun i c a=>h (i+1) (Nat.succ_lt_succ c) (Nat.succ_lt_succ a))
theorem G6.done{cap:Nat}{v:Value}(h:G6 w W0 base g k cur vals xs last row u ia is b vs W)(L:b ia=true)(K:b is=true)(E:v=.slice (some ⟨g,0,none⟩) vals.length cap)(J:base≤g)(A:vals.length≤cap)(C:cap≤maxLen)(B:cur.size=cap*1)(F:cur.toList.take (vals.length*1)=vals)(I:vals.length=xs.length)(M:k<vals.length)(y:vals[k]=u)(s:Vh vals)
  (x:∀i (d:i<vals.length),∀q,vals[i].ownBlock=some q->q<W0.heap.size):C9 Dz W base v (xs.set k (last++row)):=by
 have t:=h.outer;rw[K,if_pos rfl] at t;obtain⟨G,z⟩:=h.res L;refine⟨vals.set k (vs ia),?_,?_,?_⟩
 .unfold An;refine⟨by simp,Or.inr ⟨g,cap,cur.setIfInBounds k (vs ia),by rw[a1w];exact E,J,t,by rw[a1w];exact A,C,by rw[Array.size_setIfInBounds];exact B,?_⟩⟩;rw[Array.toList_setIfInBounds,a1w,List.take_set,F]
 .refine Dn.of_nth _ _ (by rw[a1w,a1w,I]) fun i d n=>?_;rw[a1w] at d n;rw[List.getElem_set,List.getElem_set];by_cases e:k=i
  .rw[if_pos e,if_pos e];exact G
  .rw[if_neg e,if_neg e];exact h.oth i d n (fun m=>e m.symm)
 .have p:=List.pairwise_iff_getElem.1 s;refine List.pairwise_iff_getElem.2 fun i j d n r q c a=>?_;rw[a1w] at d n;rw[List.getElem_set] at c a;by_cases e:k=i
  .rw[if_pos e] at c;rw[if_neg (by omega)] at a;rcases z with m|m
   .rw[m,<-y] at c;subst e;exact p k j d n r q c a
   .have:=m q c;have:=x j n q a;omega
  .rw[if_neg e] at c;by_cases D:k=j
   .rw[if_pos D] at a;rcases z with m|m
    .rw[m,<-y] at a;subst D;exact p i k d n r q c a
    .have:=m q a;have:=x i d q c;omega
   .rw[if_neg D] at a;exact p i j d n r q c a
end
section
open Go.RowKit Go.Lib
def I3(l:List Ac)(x:Nat × Nat):List Ac:=(l.drop x.1).take x.2
def Ii(most:Nat)(xs:List (List Ac))(row:List Ac):List (List Ac):=if 0<xs.length/\(xs.getD (xs.length-1) []).length+row.length<=most then xs.set (xs.length-1) (xs.getD (xs.length-1) []++row) else xs++[row]
def Ji(most:Nat)(l:List Ac)(pre:List (Nat × Nat)):List (List Ac):=pre.foldl (fun xs x=>Ii most xs (I3 l x)) []
def Hh(l:List Ac)(most:Nat):List (List Ac):=Ji most l (Dj l 0 0)
theorem iT(most:Nat)(l:List Ac)(a:List (Nat × Nat))(x:Nat × Nat):Ji most l (a++[x])=Ii most (Ji most l a) (I3 l x):=by
 unfold Ji;rw[List.foldl_append];rfl
theorem iU{most:Nat}{xs:List (List Ac)}{row:List Ac}(h:0<xs.length)(a:(xs.getD (xs.length-1) []).length+row.length<=most):Ii most xs row=xs.set (xs.length-1) (xs.getD (xs.length-1) []++row):=if_pos ⟨h,a⟩
theorem Xb{most:Nat}{xs:List (List Ac)}{row:List Ac}(h:¬(0<xs.length/\(xs.getD (xs.length-1) []).length+row.length<=most)):Ii most xs row=xs++[row]:=if_neg h
theorem uO(most:Nat)(xs:List (List Ac))(row:List Ac):(Ii most xs row).length<=xs.length+1:=by
 unfold Ii;split
 .simp
 .simp
theorem uP(most:Nat)(xs:List (List Ac))(row:List Ac):(Ii most xs row).flatten=xs.flatten++row:=by
 unfold Ii;split
 .rename_i h;obtain⟨h,_⟩:=h;rcases List.eq_nil_or_concat xs with rfl|⟨ys,y,rfl⟩
  .simp at h
  .rw[List.concat_eq_append]
   have e:(ys++[y]).length-1=ys.length:=(by simp)
   rw[e,Z,List.getElem?_append_right (a1v _),Nat.sub_self];simp
 .simp
theorem iV(most:Nat)(l:List Ac):∀(a:List (Nat × Nat)) (xs:List (List Ac)),(a.foldl (fun xs x=>Ii most xs (I3 l x)) xs).flatten=xs.flatten++(a.map (I3 l)).flatten
 |[],xs=>by simp
 |x::a,xs=>by
  rw[List.foldl_cons,iV most l a,uP];simp
theorem iW(most:Nat)(l:List Ac)(a:List (Nat × Nat)):(Ji most l a).flatten=(a.map (I3 l)).flatten:=by
 unfold Ji;rw[iV];simp
theorem iY(most:Nat)(l:List Ac):∀(a:List (Nat × Nat)) (xs:List (List Ac)),(a.foldl (fun xs x=>Ii most xs (I3 l x)) xs).length≤xs.length+a.length
 |[],xs=>by simp
 |x::a,xs=>by
  rw[List.foldl_cons,a2v];have:=iY most l a (Ii most xs (I3 l x));have:=uO most xs (I3 l x);omega
theorem iZ(most:Nat)(l:List Ac)(a:List (Nat × Nat)):(Ji most l a).length<=a.length:=by
 have:=iY most l a [];rw[List.length_nil,Nat.zero_add] at this;exact this
theorem Z9(l:List Ac)(fr i:Nat)(c:fr≤i):∀x∈Dj l fr i,x.1+x.2≤l.length∧0<x.2:=by
 intro x a;by_cases h:i<l.length
 .cases he:Jh l i
  .rw[Si h he] at a;exact Z9 l fr (i+1) (by omega) x a
  .rw[Qv h he] at a;rcases List.mem_cons.1 a with rfl|a
   .simp only;omega
   .exact Z9 l (i+1) (i+1) (a1v _) x a
 .rw[Qw h] at a;cases a
 termination_by l.length-i
theorem Xc(l:List Ac)(fr i:Nat):(Dj l fr i).length≤l.length-i:=by
 by_cases h:i<l.length
 .cases he:Jh l i
  .rw[Si h he];have:=Xc l fr (i+1);omega
  .rw[Qv h he,a2v];have:=Xc l (i+1) (i+1);omega
 .rw[Qw h];exact Nat.zero_le _
 termination_by l.length-i
theorem jA{l:List Ac}{i:Nat}(h:¬i+1<l.length):Jh l i=true:=by
 unfold Jh;rw[decide_eq_false h];rfl
theorem Xd(l:List Ac)(fr i:Nat)(d:fr≤i)(c:i<l.length∨fr=i):((Dj l fr i).map (I3 l)).flatten=l.drop fr:=by
 by_cases h:i<l.length
 .cases he:Jh l i
  .rw[Si h he];have a:i+1<l.length:=by
    by_cases a:i+1<l.length
    .exact a
    .rw[jA a] at he;cases he
   exact Xd l fr (i+1) (by omega) (Or.inl a)
  .rw[Qv h he,a4u,a2u,Xd l (i+1) (i+1) (a1v _) (Or.inr rfl)];unfold I3;simp only;rw[show l.drop (i+1)=(l.drop fr).drop (i+1-fr) by rw[List.drop_drop];congr 1;omega];exact a4w _ _
 .rw[Qw h]
  obtain rfl:fr=i:=by omega
  rw[List.drop_eq_nil_of_le (by omega)];rfl
 termination_by l.length-i
theorem uQ{l:List Ac}{a c:List (Nat × Nat)}{x:Nat × Nat}(most:Nat)(h:Dj l 0 0=a++x::c):(Ji most l a).flatten.length+(I3 l x).length<=l.length:=by
 have d:=Xd l 0 0 (a1v _) (Or.inr rfl);rw[h,List.map_append,a4u,List.flatten_append,a2u] at d;have i:=congrArg List.length d;rw[a1x,a1x,List.drop_zero] at i;rw[iW];omega
theorem Sm{xs:List (List Ac)}{x:List Ac}(h:x∈xs):x.length<=xs.flatten.length:=by
 obtain⟨s,t,rfl⟩:=List.append_of_mem h;simp;omega
theorem C9.opened{W:World}{base:Nat}{v:Value}{xs:List (List Ac)}(h:C9 Dz W base v xs)(z:0<xs.length):∃g cap cur vals,v=.slice (some ⟨g,0,none⟩) vals.length cap/\base<=g/\W.heap[g]?=some (.cells cur 78 (0,0))/\vals.length<=cap/\cap<=maxLen/\cur.size=cap*1/\cur.toList.take (vals.length*1)=vals/\vals.length=xs.length/\(∀i (a:i<vals.length) (d:i<xs.length),Ap W base vals[i] xs[i])/\Vh vals:=by
 obtain⟨vals,a,d,x⟩:=h;have q:=d.length_eq;rcases a.2 with⟨_,y⟩|⟨g,cap,cur,j,s,r,t,p,n,m⟩
 .omega
 .exact⟨g,cap,cur,vals,j,s,r,t,p,n,m,q,fun i a c=>d.nth i a c,x⟩
end
section
open Go.RowKit
section
variable {P : Program} {l : List Oper}
theorem uR{Ss:List (World→Value→Prop)}{C:World→Prop}{R:World→World→Prop}{U:Act}{Qn:Act→World→Prop}(hl:Ss.length=l.length)(x:Fv l U.tmps.size=true)
  (stab:∀S∈Ss,∀w w' v,C w->R w w'->S w v->S w' v)(rel:∀i,i<l.length->Vp P l Ss C R U i)
  (af:∀a w listed,Yb l Ss C U listed a w->(∀j,j<l.length->listed.getD j false=true)->Qn a w):
  ∀(m:Nat) (listed:Array Bool) (a:Act) (w:World),Gf listed=m->Yb l Ss C U listed a w->Ij P l Qn m listed a w:=by
 intro m
 induction m with
 |zero=>
  intro listed a w hu c;have p:=Vr hu;rw[c.size] at p;refine⟨?_,af a w listed c p⟩;apply List.eq_nil_iff_forall_not_mem.2;intro j s;obtain⟨T,o,ho,_⟩:=mem_ready.1 s
  have r:j<l.length:=by simpa using(Array.getElem?_eq_some_iff.1 ho).1
  have Q:=p j r
  have E:j<listed.size:=by rw[c.size];exact r
  simp[E] at T Q;rw[T] at Q;cases Q
 |succ m ih=>
  intro listed a w hu c;refine⟨fun J=>?_,fun i hi=>?_⟩
  ·--something is ready as long as not all is listed
   exfalso;have A:∃j,j<l.length∧listed.getD j false=false:=by
    by_cases A:∃j,j<l.length/\listed.getD j false=false
    .exact A
    .exfalso;have p:∀j,j<l.length→listed.getD j false=true:=fun j s=>by
      cases h:listed.getD j false
      .exact absurd ⟨j,s,h⟩ A
      .rfl
     have:Gf listed=0:=by
      unfold Gf;rw[List.length_eq_zero_iff,List.filter_eq_nil_iff];intro b O;obtain⟨j,s,rfl⟩:=a3v O
      have N:j<listed.size:=(by simpa using s)
      have:=p j (by rw[<-c.size];exact N);simp[N] at this ⊢;exact this
     omega
   obtain⟨j,s,z⟩:∃j,(j<l.length∧listed.getD j false=false)∧∀k,k<j→¬(k<l.length∧listed.getD k false=false):=by
    obtain⟨j0,h0⟩:=A
    induction j0 using Nat.strongRecOn with
    |_ n ih2=>
     by_cases hk:∃k,k<n/\(k<l.length/\listed.getD k false=false)
     .obtain⟨k,G,F⟩:=hk;exact ih2 k G F
     .exact⟨n,h0,fun k G F=>hk ⟨k,G,F⟩⟩
   have ac:j<listed.size:=(by rw[c.size];exact s.1)
   have:j∈Region.ready .any l.toArray listed:=by
    refine mem_ready.2 ⟨by have:=s.2;simp[ac] at this ⊢;exact this,l[j],by simp[s.1],fun e he O=>?_⟩;have r:=O7 x (a0z s.1) e he O;cases h:listed.getD e.on false
    .exact absurd ⟨by omega,h⟩ (z e.on r)
    .rfl
   rw[J] at this;cases this
  .obtain⟨T,o,ho,L⟩:=mem_ready.1 hi
   have q:l[i]?=some o:=(by simpa using ho)
   have r:i<l.length:=(List.getElem?_eq_some_iff.1 q).1
   have E:i<listed.size:=(by rw[c.size];exact r)
   obtain⟨S,hS⟩:∃S,Ss[i]?=some S:=⟨Ss[i]'(by omega),a0z (by omega)⟩
   have J:=rel i r o S q hS a w c.cls c.tmps c.same (fun e he O oe Se ab ad=>c.done e.on oe Se ab ad (L e he O))
   have y:∀v w2,C w2→(∀S'∈Ss,∀v,S' w v→S' w2 v)→S w2 (match o.dst with|some _=>v|none=>undef)→Ij P l Qn m (listed.setIfInBounds i true) (a.put o.dst v) w2:=by
    intro v w2 hC aa D;refine ih _ _ _ (by have:=Vq E T;omega) ⟨by simp[c.size],by rw[To];exact c.defers,by rw[Re];exact c.tmps,?_,?_,hC⟩
    .intro j K Sj s B M;by_cases I:i=j
     .subst I;rw[q] at s;cases s;rw[hS] at B;cases B;unfold Az
      cases hd:o.dst with
      |none=>rw[hd] at D;exact D
      |some d=>
       rw[hd] at D;simp only;rw[Q9 (by rw[c.tmps];exact(He x q hd).1)];exact D
     .rw[getD_set_ne false I] at M;have Q:=aa Sj (a4v B) _ (c.done j K Sj s B M);have:Az K (a.put o.dst v)=Az K a:=by
       unfold Az
       cases hdj:K.dst with
       |none=>rfl
       |some d=>
        simp only;refine L0 fun hd=>?_;exact(He x q hd).2 j K s (Ne.symm I) hdj
      rw[this];exact Q
    .intro t ht;rw[L0 (ht o (a4v q))];exact c.same t ht
   refine⟨o,q,?_⟩;split
   .rename_i V;rw[if_pos V] at J;refine(Tn (fun a2 w2 h=>?_) (fun _ _ _ h=>h.elim) J);obtain⟨v,rfl,hC,hR,D⟩:=h;exact y v w2 hC (fun S' ae v D=>stab S' ae w w2 v c.cls hR D) D
   .rename_i V;rw[if_neg V] at J;refine y undef w c.cls (fun _ _ _ h=>h) ?_
    cases o.dst<;>exact J
theorem uS{Qn:Act→World→Prop}{m:Act}{F:World}(Ss:List (World→Value→Prop))(C:World→Prop)(R:World→World→Prop)
  (T:Ss.length=l.length)(c:Fv l m.tmps.size=true)(hC:C {F with drawn:=F.drawn+1})
  (stab:∀S∈Ss,∀w w' v,C w->R w w'->S w v->S w' v)(rel:∀i,i<l.length->Vp P l Ss C R m i)
  (Q:∀vs w,C w->E8 w Ss vs->Qn (Aj l vs m) w):Ij P l Qn l.toArray.size (Array.replicate l.toArray.size false) m {F with drawn:=F.drawn+1}:=by
 refine(uR T c stab rel ?_ _ _ _ _ (by simp[Gf]) ⟨by simp,rfl,rfl,?_,fun _ _=>rfl,hC⟩)
 .intro a w G n D;have z:=Q (l.map (fun o=>Az o a)) w n.cls (Tv (by simp[T]) (fun i S v E q=>by
   rw[List.getElem?_map] at q
   cases r:l[i]? with
   |none=>rw[r] at q;cases q
   |some o=>
    rw[r] at q;simp only[Option.map_some,Option.some.injEq] at q;rw[<-q]
    exact n.done i o S r E (D i (List.getElem?_eq_some_iff.1 r).1)))
  have:Aj l (l.map (fun o=>Az o a)) m=a:=by
   have p:(Aj l (l.map (fun o=>Az o a)) m).defers=a.defers:=(by rw[Tt,n.defers])
   have y:(Aj l (l.map (fun o=>Az o a)) m).tmps=a.tmps:=by
    have I:(Aj l (l.map (fun o=>Az o a)) m).tmps.size=a.tmps.size:=(by rw[Tq,n.tmps])
    refine Array.ext I fun t E q=>?_;have hg:(Aj l (l.map (fun o=>Az o a)) m).tmps.getD t undef=a.tmps.getD t undef:=by
     by_cases B:∃o∈l,o.dst=some t
     .obtain⟨o,r,hd⟩:=B;obtain⟨i,M,L⟩:=a3v r
      have s:l[i]?=some o:=(by rw[a0z M,L])
      rw[Tu l _ m (by simp) (fun i j oi U d M hj E q=>by
       by_cases A:i=j
       .exact A
       .exact absurd q ((He c M E).2 j U hj (Ne.symm A))) (fun o' J d N=>by
       obtain⟨k,V,K⟩:=a3v J
       exact(He c (by rw[a0z V,K]) N).1) i o (Az o a) t s (by rw[List.getElem?_map,s];rfl) hd]
      unfold Az;rw[hd]
     .have x:∀o∈l,o.dst≠some t:=fun o r hd=>B ⟨o,r,hd⟩;rw[Rf l _ m t x,n.same t x]
    simpa [E,q] using hg
   cases a;cases h:Aj l (l.map (fun o=>Az o _)) m;rw[h] at p y;simp only at p y;rw[p,y]
  rw[this] at z;exact z
 .intro j o S _ _ h;exfalso;rcases Nat.lt_or_ge j l.length with O|O
  .simp[O] at h
  .simp[O] at h
theorem uT{id j n:Nat}{Q:Exit→Act→World→Prop}{d:Act}{w0:World}(C:World→Prop)(R:World→World→Prop)
  (m:P.follows .mixedOrders=true)(hd:U5 l=true)(c:Fv l d.tmps.size=true)(q:C {w0 with drawn:=w0.drawn+1})
  (h:I9 P l C R d (fun a w=>Q .normal a w) 0 [] l.length):(Code.region id l.toArray true).wpIn (Fence.wide.inRound j) n P Q d w0:=by
 obtain⟨Ss,_,x,t,s,r⟩:=cJ c l.length 0 [] h rfl (by omega);exact jK m hd (uS Ss C R x c q t (fun i p=>r i (Nat.zero_le _) p) s)
theorem aA{id i n:Nat}{Q:Exit→Act→World→Prop}{d:Act}{w0:World}(j:P.follows .mixedOrders=true)(hd:U5 l=true)(c:Fv l d.tmps.size=true)
  (h:I9 P l (fun w'=>Fp [] w0 w') (Fp []) d (fun a w=>Q .normal a w) 0 [] l.length):(Code.region id l.toArray true).wpIn (Fence.wide.inRound i) n P Q d w0:=
 uT _ _ j hd c (Fp.drew w0) h
end
end
section
open Go.RowKit Go.Lib
structure Xe(w:World)(base most:Nat)(l:List Ac)(pre:List (Nat × Nat))(W:World):Prop where
 ex:∃v,W.heap[w.heap.size+1]?=some (.cells #[v] 149 (0,0))/\C9 Dz W base v (Ji most l pre)
 box:W.heap[w.heap.size]?=some (.cells #[.int .i64 most] 3 (0,0))
 fp:Fp [] w W
theorem Xe.on{w A B:World}{base most:Nat}{l:List Ac}{a:List (Nat × Nat)}{S:List Nat}(h:Xe w base most l a A)(c:Fp S A B)(d:∀k∈S,w.heap.size+1<k/\k<base):Xe w base most l a B:=by
 obtain⟨v,m,n⟩:=h.ex;refine⟨⟨v,(c.block _ (Ae m) fun i=>by have:=d _ i;omega).trans m,n.fp c fun k j=>(d k j).2⟩,(c.block _ (Ae h.box) fun i=>by have:=d _ i;omega).trans h.box,h.fp.trans c fun k j=>Or.inr (by have:=d k j;omega)⟩
theorem Ap.sliceL{W:World}{base:Nat}{v:Value}{l:List Ac}(h:Ap W base v l):∃a cap,v=.slice a l.length cap:=by
 rcases h.2 with⟨rfl,c⟩|⟨g,cap,cur,rfl,_⟩
 .exact⟨_,_,by rw[c]⟩
 .exact⟨_,_,rfl⟩
theorem P7:Ta 2 3 4 5:=⟨by decide,by decide,by decide,by decide,by decide,by decide⟩
def jB(a:Option Addr)(b o n cap m c1 c2:Nat)(x:Nat × Nat):Act:={tmps:=#[.slice a n cap,.int .i64 m,undef,.pointer (some ⟨c1,0,none⟩),.pointer (some ⟨c1+1,0,none⟩),.int .i64 0,U0 b o cap x,undef,.bool false,.int .i64 m,.bool false,.bool false,.slice a n cap,.bool true,.bool false,.slice a n cap,.func (.func 223) #[] #[.pointer (some ⟨c2,0,none⟩)],U0 b o cap x,undef,undef,undef,undef,undef,undef,undef,undef,undef,undef,undef,undef,undef,undef,undef,undef,undef,undef,undef,undef,undef,undef,undef,undef,undef,undef,undef,undef,undef,undef,undef,undef],defers:=[]}
theorem uU(L n h cap:Nat)(a:Option Addr)(w:World)(c:w.heap[h]?=some (.cells #[.slice a 0 cap] 78 (0,0)))(J Jx:List (Nat × Nat)→World→Prop)(i:J [] w):
  CallsIn Fence.wide n Tryz.prog 223 #[.func (.yield L) #[] #[],.pointer (some ⟨h,0,none⟩)] w fun e w'=>(∃v,e=.returned v)/\((∃xs,xs=Dj [] 0 0/\J xs w')∨∃d,Jx d w'):=by
 rw[callsIn_wide];have p:=Y i;have m:w.cell? ⟨h,0,none⟩=some (.slice a 0 cap):=Ab c 0;clear i c;go_in;go_wp2_with fail
 go_loopg [7] 0 (fun g j wr=>g=0/\j=.int .i64 0/\w=wr)
 case atStart=>exact⟨rfl,rfl,rfl⟩
 case round=>
  obtain⟨rfl,rfl,rfl⟩:=hrel;go_wp2_with fail;go_end0;exact⟨⟨_,rfl⟩,Or.inl ⟨[],by rw[Qw (by simp)],p.o⟩⟩
attribute [local go_sem] Oper.semAt_some
theorem uV(w:World)(a:Option Addr)(n cap m:Nat)(l:List Ac)(h:Ba w a n l)(V:risC l=true)(hn:n≤900000)(bm:n≤cap)(c4:1≤m)(hm:m<2^63):
  Calls Tryz.prog 89 #[.slice a n cap,.int .i64 m] w fun e w'=>∃v,e=.returned (.tuple #[v,.int .i64 0])/\C9 Dz w' w.heap.size v (Hh l m)/\Fp [] w w':=by
 have bt:=Y (fun W (h:Ba W a n l)=>W8 W a n cap l h (by omega));rw[V] at bt;have ck:=Y (fun w v a len cap (F:v=.slice a len cap)=>uN w v a len cap F);have HL:=Y h;have cr:=Y bm;clear h V bm
 have z1:¬(m:Int)<1:=by omega
 rw[<-callsIn_wide (n:=5)];refine callsIn_of_wp_marks Tryz.func89 rfl trivial ?_ rfl;simp only[Tryz.ntmps89,List.size_toArray,a2v,List.length_nil,Nat.reduceAdd,Nat.reduceSub,Array.replicate_succ,Array.replicate_zero,List.push_toArray,List.append_toArray,a2z,a1u]
 gi_wp2_with fail
 refine⟨trivial,?_⟩;refine((callsIn_wide (n:=4)).2 (bt.o _ (HL.o.fp ((Fp.alloc _ _).alloc' _)))).mono ?_;rintro e w1 ⟨rfl,N⟩;have ci:=Y ((N.block _ (by simp;omega) (by simp)).trans (Dy (Ai rfl _)):w1.heap[w.heap.size]?=some (.cells #[.int .i64 m] 3 (0,0)));have bs:=Y ((N.block _ (by simp) (by simp)).trans (Ai (by simp) _):w1.heap[w.heap.size+1]?=some (.cells #[.slice none 0 0] 149 (0,0)));have bw:Hid (Fp [] w w1):=((Fp.alloc _ _).alloc' _).trans N;clear N
 gi_wp2_with fail
 refine⟨trivial,?_⟩;refine((callsIn_wide (n:=4)).2 (ck.o _ _ _ _ _ rfl)).mono ?_;rintro e w2 ⟨rfl,bq,bo⟩;have bf:=Y bq;have ap:=Y bo;clear bq bo
 gi_wp2_with fail
 have bz:w.heap.size+1<w1.heap.size:=Ae bs.o;have cz:w1.heap.size<w2.heap.size:=Ae bf.o;obtain⟨b,o,a7⟩:∃b o,n=0∨a=some ⟨b,o,none⟩/\b<w.heap.size:=by
  rcases HL.o.cells with z|⟨b,o,z,h2,_⟩
  .exact⟨0,0,Or.inl (by have:=HL.o.len;rw[z] at this;simpa using this)⟩
  .exact⟨b,o,Or.inr ⟨z,h2⟩⟩
 refine Vw (α:=Nat × Nat) (encs:=Xa b o cap) rfl (enters_of Tryz.func223 (by kernel_rfl) rfl) (fun _=>rfl) 221 [w.heap.size+1] [] (by simp;omega) (by simp) (w1.heap.size) (by omega) 0
  (fun ad x=>∃aq,Dj l 0 0=ad++x::aq) (Xe w (w2.heap.size+2) m l) (fun _ _=>False) (fun xs _=>xs=Dj l 0 0)
  (fun _=>True) (fun s A B k h hf hk=>h.on hf (by simp;omega)) (fun s A B h hf _=>h.on hf (by simp;omega)) (fun _ _ _ h _=>h) (fun _ _ _ h _=>h) ?_ ?_ (fun x a' _=>a'=jB a b o n cap m w.heap.size w1.heap.size x) (fun _ _ _ _ h _=>h) ?_ ?_ ?_ (fun _ _ h=>h.elim)
 .intro J Jx W1 N cw hJ hY br;rcases a7 with rfl|⟨rfl,b9⟩
  .obtain rfl:l=[]:=a3w HL.o.len.symm;exact uU (w2.heap.size+1) (5-1) w1.heap.size cap a W1 ((N.block _ (by omega) (by simp)).trans bf.o) J Jx br
  .exact uM 221 (w2.heap.size+2) (w2.heap.size+1) (5-1) w1.heap.size W1 b o n cap l (HL.o.fp ((bw.o.trans ap.o).trans N)) (by decide) ((N.block _ (by omega) (by simp)).trans bf.o) cr.o (by omega) (by omega) (by omega) (by omega) (by omega) [w.heap.size+1] (by intro k hk;simp only[a5z,a4z,or_false] at hk;omega) J Jx (fun s A B h hf=>hJ s A B h (hf.mono (by simp)) trivial) hY br
 .exact⟨⟨.slice none 0 0,(ap.o.block _ bz (by simp)).trans bs.o,C9.nil _ _⟩,(ap.o.block _ (by omega) (by simp)).trans ci.o,bw.o.trans ap.o⟩
 .intro l x W K hW t;simp only[Xa]
  gi_wp2_with fail
  exact t _ _ (Fp.refl _ _) rfl
 .rintro l' ad ⟨xi,S⟩ a' W ⟨aq,I⟩ hI hW rfl;have hx:=Z9 l 0 0 (a1v _) (xi,S) (by rw[I];simp);obtain⟨b1,b0⟩:=hx;simp only at b1 b0;obtain⟨rfl,b9⟩:a=some ⟨b,o,none⟩∧b<w.heap.size:=by
   rcases a7 with z|z
   .have:=HL.o.len;omega
   .exact z
  obtain⟨v,F,ho⟩:=hI.ex;have am:=uQ m I;obtain⟨xs,ai⟩:=Aa (Ji m l ad);rw[ai] at ho am;obtain⟨row,U⟩:=Aa (I3 l (xi,S));rw[U] at am;have bi:Ba w (some ⟨b,o+xi*6,none⟩) S row:=by
   rw[<-U];exact(HL.o.drop xi (n-xi) (by have:=HL.o.len;omega)).take S (by have:=HL.o.len;omega)
  have y:Ji m l (ad++[(xi,S)])=Ii m xs row:=by rw[iT,ai,U]
  have c1:xs.length<=1000000:=by
   have z:=Xc l 0 0;rw[I,a1x] at z;have h2:=iZ m l ad;rw[ai] at h2;have:=HL.o.len;omega
  have c5:l.length<=900000:=by have:=HL.o.len;omega
  have ba:=Y y;have HI:=Y hI;have HV:=Y F;have HO:=Y ho;have HQ:=Y bi;have cv:=Y am;have hW:w2.heap.size+2<=W.heap.size:=hW;obtain⟨T,L,b3⟩:=ho.slice;subst b3;have q0:W.cell? ⟨w.heap.size+1,0,none⟩=some (.slice T xs.length L):=Ab F 0;clear hI F ho bi I y ai U am a7;unfold jB U0;simp only;have HB:=Y HI.o.box;have q1:W.cell? ⟨w.heap.size,0,none⟩=some (.int .i64 m):=Ab HB.o 0;by_cases h0:0<xs.length
  .obtain⟨k,hk⟩:∃k:Nat,k+1=xs.length:=⟨xs.length-1,by omega⟩
   have b6:((xs.length:Int)-1)=(k:Int):=(by omega)
   have zk:(k:Int)<(xs.length:Int):=(by omega)
   obtain⟨g,cy,cur,vals,F,hg,hh,b4,b8,bp,ht,ay,af,ar⟩:=HO.o.opened h0;rw[ay] at F;cases F
   have ab:k<vals.length:=(by omega)
   have bn:k<xs.length:=(by omega)
   obtain⟨last,D⟩:=Aa (xs[k]);have bk:xs.getD (xs.length-1) []=last:=by
    rw[show xs.length-1=k by omega,Z,a0z bn,<-D];rfl
   have ak:=af k ab bn;rw[D] at ak;obtain⟨a3,c3,hu⟩:=ak.sliceL;have av:cur[k]?=some (.slice a3 last.length c3):=by
    have R:(cur.toList.take (vals.length*1))[k]?=vals[k]?:=(by rw[ht])
    rw[Nat.mul_one,a3u,if_pos ab,Array.getElem?_toList,a0z ab,hu] at R;exact R
   have aa:=Y av;have HH:=Y hh;have bd:=Y hu;have bc:=Y bk;have co:=Y ak;have ax:=Y af;have aw:=Y ar;have cs:=Y ht;have cu:=Y bp;have a9:=Y ay;have HK:=Y hk;have bj:last.length<=xs.flatten.length:=Sm (by rw[<-D];exact List.getElem_mem _)
   have cx:last.length+row.length<=900000:=by have:=cv.o;omega
   have db:=Y D;have an:=Y HQ.o.len;clear av hh hu bk ak af ar ht bp ay D hk bj
   gi_wp2_with fail
   by_cases au:last.length+row.length<=m
   .have zf:(last.length:Int)+(S:Int)≤(m:Int):=by have:=an.o;omega
    have zw:IntKind.i64.wrap ((last.length:Int)+(S:Int))=(last.length:Int)+(S:Int):=by rw[a3z];have:=an.o;omega
    refine aA (by kernel_rfl) (by kernel_rfl) (by kernel_rfl) ?_
    iterate 14
     first|apply A1 rfl rfl rfl|apply Gw _ _ rfl rfl rfl rfl (by kernel_rfl) rfl rfl
     .intro a w p j K t;have:=j.f 7;have:=j.f 4;have:=j.f 6;have:=j.f 3;(try have:=j.e 0 21);(try have:=j.e 1 22);(try have:=j.e 3 24);(try have:=j.e 4 25);(try have:=j.e 5 26);(try have:=j.e 6 27);(try have:=j.e 8 29);(try have:=j.e 7 28);(try have:=j.e 9 30);(try have:=j.e 10 31);(try have:=j.e 11 32);(try have:=j.e 2 23);(try have:=j.e 12 33);have q0:=Ab ((p.block _ (Ae HV.o) (by simp)).trans HV.o) 0;have q1:=Ab ((p.block _ (Ae HB.o) (by simp)).trans HB.o) 0;have q2:=(Ab ((p.block _ (Ae HH.o) (by simp)).trans HH.o) k).trans aa.o;simp only[a0v,a0w] at q0 q1;simp only[Oper.wp,execOp];go_simp;exact t _ p (Fp.refl _ _)
    refine Bn ?_
    iterate 14 refine Bm ?_
    refine Bl fun w' p=>?_
    .simp only[Aj,Act.put,a0x,a0u,a1z];have C:=Y p;clear p
     gi_wp2_with fail
     have ao:=Y (HO.o.fp C.o);have Q:=Y ((C.o.block _ (Ae HV.o) (by simp)).trans HV.o);have ah:=Y (HI.o.fp.trans C.o);have bx:=Y ((C.o.block _ (Ae HB.o) (by simp)).trans HB.o);have ag:w2.heap.size+2<=w'.heap.size:=a3x hW C.o.size;obtain⟨w3,ae⟩:=Bz w';subst ae;have cq:Hid (∀W',Ao 0 (w2.heap.size+2) [] w3 W'->W'.heap[w.heap.size+1]?=some (.cells #[.slice (some ⟨g,0,none⟩) xs.length L] 149 (0,0))):=fun W' h=>(h.low (w.heap.size+1) (by omega) (Ae Q.o) (by simp)).trans Q.o;have cm:Hid (∀W',Fp [] w W'->Ba W' (some ⟨b,o+xi*6,none⟩) S row):=fun W' h=>HQ.o.fp h;have ct:=Y ((C.o.block _ (Ae HH.o) (by simp)).trans HH.o);have cn:Hid (∀i (z:i<vals.length) (h2:i<xs.length),i≠k->Ap w3 (w2.heap.size+2) vals[i] xs[i]):=fun i z h2 _=>(ax.o i z h2).fp C.o;have bv:Hid (Ap w3 (w2.heap.size+2) (.slice a3 last.length c3) last):=by
      have:=co.o.fp C.o;rw[bd.o] at this;exact this
     have cj:Hid (∀i (z:i<vals.length),i≠k->∀q,vals[i].ownBlock=some q->(Value.slice a3 last.length c3).ownBlock≠some q):=by
      intro i z h2 q h3 R;rw[<-bd.o] at R;have bh:=List.pairwise_iff_getElem.1 aw.o;rcases Nat.lt_or_gt_of_ne h2 with h5|h5
      .exact bh i k z ab h5 q h3 R
      .exact bh k i ab z h5 q R h3
     have cp:Hid (∀i (z:i<vals.length),∀q,vals[i].ownBlock=some q->q<w3.heap.size):=fun i z q hq=>((ax.o i z (by rw[<-a9.o];exact z)).fp C.o).lt q hq |>.2;refine U8 (G6 w w3 (w2.heap.size+2) g k cur vals xs last row (.slice a3 last.length c3) 7 9) (fun _ _=>True) (by kernel_rfl) (by kernel_rfl) (by kernel_rfl) (fun _=>G6.start ah.o ct.o cn.o bv.o ag) ?_
     iterate 5
      apply Cm (fun _ _ _ h _=>h.plain (by decide)) rfl rfl rfl
      .intro b a w p j K t;have:=j.f 4;have:=j.f 7;(try have:=j.e 2 37);(try have:=j.e 3 38);have q0:=Ab (cq.o _ (p.kept 0 (by decide) (by decide))) 0;simp only[a0v,a0w] at q0;simp only[Oper.wp,execOp];go_simp;exact t _ p trivial
     apply Cm (fun _ _ _ h _=>h.plain (by decide)) rfl rfl rfl
     .intro b a w p j K t;have c8:=j.e 4 39;have q0:=(Ab (p.first (j.post 7 (by kernel_rfl))) k).trans aa.o;simp only[Oper.wp,execOp];go_simp;exact t _ p trivial
     apply Cm (fun _ _ _ h _=>h.plain (by decide)) rfl rfl rfl
     .intro b a w p j K t;have h6:=j.f 6;simp only[Oper.wp,execOp];go_simp;exact t _ p trivial
     apply Dw (fun _ _=>True) rfl rfl rfl
     .intro b a w p j K t;have ch:=j.e 5 40;have cg:=j.e 6 41;refine iR (.tmp 40) (.tmp 41) rfl (w2.heap.size+2) (.slice a3 last.length c3) last (Ei ch) (p.last0 j.self) _ S _ row (Ei cg) (cm.o _ p.fp) (by omega) p.sz ?_;intro v' w' z h2 h3 R;exact t _ _ (p.append (by decide) j.self z h2 h3 R (by omega) cj.o) trivial trivial
     apply Cm (fun _ _ _ h _=>h.plain (by decide)) rfl rfl rfl
     .intro b a w p j K t;have da:=j.e 0 35;have c9:=j.e 1 36;simp only[Oper.wp,execOp];go_simp;exact t _ p trivial
     apply J3 (fun _=>True) rfl rfl rfl
     .intro b a w p j K t;have c6:=j.e 8 43;have c7:=j.dep 7 42 _ (by kernel_rfl) rfl;have h7:=j.pre 7 (by kernel_rfl)
      obtain⟨a2,n2,c2,G⟩:∃a n c,_ =Value.slice a n c:=by obtain⟨a2,c2,G⟩:=(p.res h7).1.sliceL;exact⟨_,_,_,G⟩
      have F:=(j.val 7 42 (by kernel_rfl)).trans G;have y:=p.store (by decide) h7 j.self hg (by omega) rfl;rw[G] at y;have aj:=p.outer;rw[j.self] at aj;simp only[Bool.false_eq_true,if_false] at aj;have f0:=Av aj k;have q0:=(Ab aj k).trans aa.o;simp only[Oper.wp,execOp];go_simp;exact t undef _ y trivial trivial
     refine⟨?_,?_⟩
     .refine⟨fun _ _ _ _ _=>trivial,?_⟩;refine E4 _ ?_;refine⟨fun _ _ _ _ _=>trivial,?_⟩
      iterate 7 refine E4 _ ?_
      exact trivial
     .intro w' bb O;simp only[a2x,a2w,a2z,a1u]
      iterate 7 (refine A2 ?_)
      refine As ?_;intro v7 u7
      iterate 1 (refine A2 ?_)
      refine As ?_;intro v9 u9;refine C7 ?_;intro p;simp only[Aj,Act.put,a0x,a0u,a1z]
      gi_wp2_with fail
      have M:=(Ao.of (C.o.mono (by simp):Fp [w.heap.size+1] W w3) (by simp;omega)).trans (p.kept 221 (by decide) (by decide));have E:=(p.kept 221 (by decide) (by decide)).low (w.heap.size+1) (by omega) (Ae Q.o) (by simp);refine⟨M,⟨⟨_,E.trans Q.o,?_⟩,(M.low _ (by omega) (by omega) (by simp)).trans HI.o.box,p.fp⟩⟩;have a6:=p.done (O 7 (by simp)) (O 9 (by simp)) (by rw[a9.o]) hg b4 b8 cu.o cs.o a9.o ab bd.o aw.o cp.o;rw[ba.o,iU h0 (by rw[bc.o];exact au),bc.o,show xs.length-1=k by omega];exact a6
   .have zf:¬(last.length:Int)+(S:Int)≤(m:Int):=by have:=an.o;omega
    have zw:IntKind.i64.wrap ((last.length:Int)+(S:Int))=(last.length:Int)+(S:Int):=by rw[a3z];have:=an.o;omega
    refine aA (by kernel_rfl) (by kernel_rfl) (by kernel_rfl) ?_
    iterate 14
     first|apply A1 rfl rfl rfl|apply Gw _ _ rfl rfl rfl rfl (by kernel_rfl) rfl rfl
     .intro a w p j K t;have:=j.f 7;have:=j.f 4;have:=j.f 6;have:=j.f 3;(try have:=j.e 0 21);(try have:=j.e 1 22);(try have:=j.e 3 24);(try have:=j.e 4 25);(try have:=j.e 5 26);(try have:=j.e 6 27);(try have:=j.e 8 29);(try have:=j.e 7 28);(try have:=j.e 9 30);(try have:=j.e 10 31);(try have:=j.e 11 32);(try have:=j.e 2 23);(try have:=j.e 12 33);have q0:=Ab ((p.block _ (Ae HV.o) (by simp)).trans HV.o) 0;have q1:=Ab ((p.block _ (Ae HB.o) (by simp)).trans HB.o) 0;have q2:=(Ab ((p.block _ (Ae HH.o) (by simp)).trans HH.o) k).trans aa.o;simp only[a0v,a0w] at q0 q1;simp only[Oper.wp,execOp];go_simp;exact t _ p (Fp.refl _ _)
    refine Bn ?_
    iterate 14 refine Bm ?_
    refine Bl fun w' p=>?_
    .simp only[Aj,Act.put,a0x,a0u,a1z];have C:=Y p;clear p
     gi_wp2_with fail
     have be:=Y (fun ac (h:Fp [] w ac)=>Vi ac (some ⟨b,o+xi*6,none⟩) S (cap-xi) row (HQ.o.fp h) (by intro h;cases h) (by omega));have ao:=Y (HO.o.fp C.o);have Q:=Y ((C.o.block _ (Ae HV.o) (by simp)).trans HV.o);have ah:=Y (HI.o.fp.trans C.o);have bx:=Y ((C.o.block _ (Ae HB.o) (by simp)).trans HB.o);have ag:w2.heap.size+2<=w'.heap.size:=a3x hW C.o.size;obtain⟨w3,ae⟩:=Bz w';subst ae;refine U8 (Ew Dz (fun r=>r=row) w w3 (w2.heap.size+2) (w.heap.size+1) 149 (fun d v'=>cond d v' (.slice (some ⟨g,0,none⟩) xs.length L)) 2 3 4 5 (.slice (some ⟨g,0,none⟩) xs.length L) xs) (fun _ _=>True) (by kernel_rfl) (by kernel_rfl) (by kernel_rfl) (fun _=>Ew.start ao.o Q.o (fun _=>rfl) ah.o ag (by omega)) ?_;apply Cm (fun _ _ _ h _=>h.plain (by decide)) rfl rfl rfl
     .intro b a w p j K t;have R:=j.f 4;obtain⟨u1,az⟩:=p.first (j.post 4 (by kernel_rfl));have q0:=Ab az 0;simp only[a0v,a0w,cond] at q0;simp only[Oper.wp,execOp];go_simp;exact t _ p trivial
     apply Cm (fun _ _ _ h _=>h.plain (by decide)) rfl rfl rfl
     .intro b a w p j K t;have h6:=j.f 6;simp only[Oper.wp,execOp];go_simp;exact t _ p trivial
     apply Dw (fun _ _=>True) rfl rfl rfl
     .intro b a w p j K t;have cf:=j.e 1 45;simp only[Oper.wp,execOp];go_simp;refine(be.o _ p.fp).mono ?_;rintro e w4 ⟨vr,rfl,V,hf⟩;exact t _ _ (p.call P7 j.self hf rfl V) trivial trivial
     apply Dw (fun _ _=>True) rfl rfl rfl
     .intro b a w p j K t;have ce:=j.dep 2 46 _ (by kernel_rfl) rfl;obtain⟨rr,hg,V,-⟩:=p.res (j.pre 2 (by kernel_rfl)) (j.post 4 (by kernel_rfl));obtain⟨a2,n2,c2,G⟩:=Dz.sl V;have F:=j.val 2 46 (by kernel_rfl);rw[G] at F;have y:=p.build P7 (j.pre 2 (by kernel_rfl)) j.self;rw[G] at y;simp only[Oper.wp,execOp];go_simp;exact t _ _ y trivial trivial
     apply Dw (fun _ _=>True) rfl rfl rfl
     .intro b a w p j K t;have a8:=j.e 0 44;have cd:=j.dep 3 47 _ (by kernel_rfl) rfl;obtain⟨g,a5,a4⟩:=p.bld (j.pre 3 (by kernel_rfl)) j.self;obtain⟨rr,hg,V,hq⟩:=p.res (p.o32 (j.pre 3 (by kernel_rfl))) j.self;refine X5 Dz (.tmp 44) (.tmp 47) rfl _ _ xs (Ei a8) (p.own0 j.self) g _ rr V hq (Ei ((j.val 3 47 (by kernel_rfl)).trans a5)) a4 (by omega) p.sz ?_;intro v' w' z h2 h3;exact t _ _ (p.append P7 (j.pre 3 (by kernel_rfl)) j.self hg z h2 h3 (by omega) (by omega) (fun _ _=>rfl)) trivial trivial
     apply J3 (fun _=>True) rfl rfl rfl
     .intro b a w p j K t;have R:=j.f 4;have cc:=j.dep 4 48 _ (by kernel_rfl) rfl;obtain⟨rr,-,a1⟩:=p.own1 (j.pre 4 (by kernel_rfl))
      obtain⟨a2,n2,c2,G⟩:∃a n c,_ =Value.slice a n c:=by obtain⟨a2,c2,G⟩:=a1.slice;exact⟨_,_,_,G⟩
      have F:=(j.val 4 48 (by kernel_rfl)).trans G;have y:=p.store P7 (j.pre 4 (by kernel_rfl)) (by omega) (by omega) rfl;rw[G] at y;simp only[cond_true] at y;have f0:=Av p.cel 0;have q0:=Ab p.cel 0;simp only[Oper.wp,execOp];go_simp;exact t undef _ y trivial trivial
     refine⟨?_,?_⟩
     .refine⟨fun _ _ _ _ _=>trivial,?_⟩;refine⟨fun _ _ _ _ _=>trivial,?_⟩;refine⟨fun _ _ _ _ _=>trivial,?_⟩;refine⟨fun _ _ _ _ _=>trivial,?_⟩;refine E4 _ ?_;refine E4 _ ?_;exact trivial
     .intro w' bb O;simp only[a2x,a2w,a2z,a1u]
      iterate 2 (refine A2 ?_)
      refine As ?_;intro v2 u2;refine As ?_;intro v3 u3;refine As ?_;intro v4 u4;refine As ?_;intro v5 u5;refine C7 ?_;intro p;simp only[Aj,Act.put,a0x,a0u,a1z]
      gi_wp2_with fail
      have E:=p.cel;rw[O 5 (by simp)] at E;obtain⟨r,rfl,a0⟩:=p.own1 (O 4 (by simp));have M:=(Ao.of (C.o.mono (by simp):Fp [w.heap.size+1] W w3) (by simp;omega)).trans (p.keptD 221 (by decide));exact⟨M,⟨⟨_,E,by rw[ba.o,Xb (by rw[bc.o];exact fun h=>au h.2)];exact a0⟩,(M.low _ (by omega) (by omega) (by simp)).trans HI.o.box,p.fp⟩⟩
  .obtain rfl:xs=[]:=a3w (by omega)
   have b6:(((0:Nat):Int)-1)= -1:=by omega
   gi_wp2_with fail
   refine aA (by kernel_rfl) (by kernel_rfl) (by kernel_rfl) ?_
   iterate 14
    first
    |apply Jq _ _ rfl rfl rfl rfl (by kernel_rfl) rfl rfl
    |apply A1 rfl rfl rfl
     .intro a w p j K t;have:=j.f 7;(try have:=j.e 0 21);(try have:=j.e 1 22);(try have:=j.e 2 23);(try have:=j.e 12 33);simp only[Oper.wp,execOp];go_simp;exact t _ p (Fp.refl _ _)
   refine Bn ?_
   iterate 14 refine Bm ?_
   refine Bl fun w' p=>?_
   .simp only[Aj,Act.put,a0x,a0u,a1z];have C:=Y p;clear p
    gi_wp2_with fail
    have be:=Y (fun ac (h:Fp [] w ac)=>Vi ac (some ⟨b,o+xi*6,none⟩) S (cap-xi) row (HQ.o.fp h) (by intro h;cases h) (by omega));have ao:=Y (HO.o.fp C.o);have Q:=Y ((C.o.block _ (Ae HV.o) (by simp)).trans HV.o);have ah:=Y (HI.o.fp.trans C.o);have bx:=Y ((C.o.block _ (Ae HB.o) (by simp)).trans HB.o);have ag:w2.heap.size+2<=w'.heap.size:=a3x hW C.o.size;obtain⟨w3,ae⟩:=Bz w';subst ae;refine U8 (Ew Dz (fun r=>r=row) w w3 (w2.heap.size+2) (w.heap.size+1) 149 (fun d v'=>cond d v' (.slice T 0 L)) 2 3 4 5 (.slice T 0 L) []) (fun _ _=>True) (by kernel_rfl) (by kernel_rfl) (by kernel_rfl) (fun _=>Ew.start ao.o Q.o (fun _=>rfl) ah.o ag (by omega)) ?_;apply Cm (fun _ _ _ h _=>h.plain (by decide)) rfl rfl rfl
    .intro b a w p j K t;have R:=j.f 4;obtain⟨u1,az⟩:=p.first (j.post 4 (by kernel_rfl));have q0:=Ab az 0;simp only[a0v,a0w,cond] at q0;simp only[Oper.wp,execOp];go_simp;exact t _ p trivial
    apply Cm (fun _ _ _ h _=>h.plain (by decide)) rfl rfl rfl
    .intro b a w p j K t;have h6:=j.f 6;simp only[Oper.wp,execOp];go_simp;exact t _ p trivial
    apply Dw (fun _ _=>True) rfl rfl rfl
    .intro b a w p j K t;have cf:=j.e 1 45;simp only[Oper.wp,execOp];go_simp;refine(be.o _ p.fp).mono ?_;rintro e w4 ⟨vr,rfl,V,hf⟩;exact t _ _ (p.call P7 j.self hf rfl V) trivial trivial
    apply Dw (fun _ _=>True) rfl rfl rfl
    .intro b a w p j K t;have ce:=j.dep 2 46 _ (by kernel_rfl) rfl;obtain⟨rr,hg,V,-⟩:=p.res (j.pre 2 (by kernel_rfl)) (j.post 4 (by kernel_rfl));obtain⟨a2,n2,c2,G⟩:=Dz.sl V;have F:=j.val 2 46 (by kernel_rfl);rw[G] at F;have y:=p.build P7 (j.pre 2 (by kernel_rfl)) j.self;rw[G] at y;simp only[Oper.wp,execOp];go_simp;exact t _ _ y trivial trivial
    apply Dw (fun _ _=>True) rfl rfl rfl
    .intro b a w p j K t;have a8:=j.e 0 44;have cd:=j.dep 3 47 _ (by kernel_rfl) rfl;obtain⟨g,a5,a4⟩:=p.bld (j.pre 3 (by kernel_rfl)) j.self;obtain⟨rr,hg,V,hq⟩:=p.res (p.o32 (j.pre 3 (by kernel_rfl))) j.self;refine X5 Dz (.tmp 44) (.tmp 47) rfl _ (.slice T 0 L) [] (Ei a8) (p.own0 j.self) g _ rr V hq (Ei ((j.val 3 47 (by kernel_rfl)).trans a5)) a4 (by simp) p.sz ?_;intro v' w' z h2 h3;exact t _ _ (p.append P7 (j.pre 3 (by kernel_rfl)) j.self hg z h2 h3 (by omega) (by omega) (fun _ _=>rfl)) trivial trivial
    apply J3 (fun _=>True) rfl rfl rfl
    .intro b a w p j K t;have R:=j.f 4;have cc:=j.dep 4 48 _ (by kernel_rfl) rfl;obtain⟨rr,-,a1⟩:=p.own1 (j.pre 4 (by kernel_rfl))
     obtain⟨a2,n2,c2,G⟩:∃a n c,_ =Value.slice a n c:=by obtain⟨a2,c2,G⟩:=a1.slice;exact⟨_,_,_,G⟩
     have F:=(j.val 4 48 (by kernel_rfl)).trans G;have y:=p.store P7 (j.pre 4 (by kernel_rfl)) (by omega) (by omega) rfl;rw[G] at y;simp only[cond_true] at y;have f0:=Av p.cel 0;have q0:=Ab p.cel 0;simp only[Oper.wp,execOp];go_simp;exact t undef _ y trivial trivial
    refine⟨?_,?_⟩
    .refine⟨fun _ _ _ _ _=>trivial,?_⟩;refine⟨fun _ _ _ _ _=>trivial,?_⟩;refine⟨fun _ _ _ _ _=>trivial,?_⟩;refine⟨fun _ _ _ _ _=>trivial,?_⟩;refine E4 _ ?_;refine E4 _ ?_;exact trivial
    .intro w' bb O;simp only[a2x,a2w,a2z,a1u]
     iterate 2 (refine A2 ?_)
     refine As ?_;intro v2 u2;refine As ?_;intro v3 u3;refine As ?_;intro v4 u4;refine As ?_;intro v5 u5;refine C7 ?_;intro p;simp only[Aj,Act.put,a0x,a0u,a1z]
     gi_wp2_with fail
     have E:=p.cel;rw[O 5 (by simp)] at E;obtain⟨r,rfl,a0⟩:=p.own1 (O 4 (by simp));have M:=(Ao.of (C.o.mono (by simp):Fp [w.heap.size+1] W w3) (by simp;omega)).trans (p.keptD 221 (by decide));exact⟨M,⟨⟨_,E,by rw[ba.o,Xb (by simp)];exact a0⟩,(M.low _ (by omega) (by omega) (by simp)).trans HI.o.box,p.fp⟩⟩
 .rintro xs W rfl hI t;obtain⟨v,F,ho⟩:=hI.ex;obtain⟨T,L,rfl⟩:=ho.slice;have HI:=Y hI;have HK:=Y t;obtain⟨vn,bg⟩:=Aa ((Ji m l (Dj l 0 0)).length);rw[bg] at F ho;have q0:W.cell? ⟨w.heap.size+1,0,none⟩=some (.slice T vn L):=Ab F 0;have f0:W.frozen? ⟨w.heap.size+1,0,none⟩=false:=Av F 0;have HV:=Y F;have HO:=Y ho;clear hI t F ho bg
  gi_wp2_with fail
  have al:Fp [w.heap.size+1] W (W.setCell ⟨w.heap.size+1,0,none⟩ (.slice T vn L)):=Fp.setCell W ⟨w.heap.size+1,0,none⟩ (.slice T vn L);have R:(W.setCell ⟨w.heap.size+1,0,none⟩ (.slice T vn L)).heap[w.heap.size+1]?=some (.cells #[.slice T vn L] 149 (0,0)):=(Cf HV.o _).trans rfl;obtain⟨wa,b2⟩:=Aa (W.setCell ⟨w.heap.size+1,0,none⟩ (.slice T vn L));rw[b2] at al R ⊢;have b7:wa.heap[w2.heap.size]?=some (.deferred (some [])):=(al.block _ (Ae HK.o) (by simp;omega)).trans HK.o;have hp:=Fp.putObj wa w2.heap.size (.deferred none);refine⟨by simp,.inl ⟨_,_,rfl,run_takeDeferred b7,?_⟩⟩;have c0:(wa.putObj w2.heap.size (.deferred none)).cell? ⟨w.heap.size+1,0,none⟩=some (.slice T vn L):=Ab ((hp.block _ (Ae R) (by simp;omega)).trans R) 0;have b5:=(HO.o.fp al (by simp;omega)).fp hp;refine⟨.tuple #[.slice T vn L,.int .i64 0],by simp[results,Tryz.results89,go_sem,c0],.slice T vn L,rfl,?_,((HI.o.fp.trans al (by intro i hi;right;simp at hi;omega)).trans hp (by intro i hi;right;simp at hi;omega))⟩;exact b5.mono (by omega)
theorem uW(w:World)(a:Option Addr)(n cap:Nat)(m:Int)(c:m<1):Calls Tryz.prog 89 #[.slice a n cap,.int .i64 m] w fun e w'=>e=.returned (.tuple #[.slice none 0 0,.int .i64 1])/\Fp [] w w':=by
 go_in;go_wp2_with fail;refine bodyPost_ret (v:=.tuple #[.slice none 0 0,.int .i64 1]) (by simp[results,Tryz.results89,go_sem]) rfl ?_;exact⟨rfl,(Fp.alloc _ _).alloc' _⟩
end
section
open Go.RowKit Go.Lib
def aB:Hv (Nat ×(Option Addr × Nat × Nat)) where
 e:=106
 k:=2
 enc:=fun x=>[.int .i64 x.1,.slice x.2.1 x.2.2.1 x.2.2.2]
 len:=fun _=>rfl
 pos:=by decide
 one:=by
  intro x v hv;simp only[a5z,a4z,or_false] at hv
  rcases hv with rfl|rfl<;>rfl
theorem Tryz.infoPc:(Tryz.prog.info? 106).map (fun i=>(i.zero,i.size,i.bytes))=some (some (.agg #[.int .i64 0,.slice none 0 0]),2,32):=by kernel_rfl
def Xf(h:Nat ×(Option Addr × Nat × Nat)):Value:=.slice h.2.1 h.2.2.1 h.2.2.2
def Gk(W:World)(base:Nat)(v:Value)(ps:List (Nat × List Ac)):Prop:=∃hs,Ag aB W base v hs/\Dn (fun h x=>h.1=x.1/\Ap W base (Xf h) x.2) hs ps
theorem Gk.nil(W:World)(base:Nat):Gk W base (.slice none 0 0) []:=⟨[],Ag.nil _ _,.nil⟩
theorem Gk.mono{W:World}{base base':Nat}{v:Value}{ps:List (Nat × List Ac)}(h:Gk W base v ps)(a:base'<=base):Gk W base' v ps:=by
 obtain⟨c,i,d⟩:=h;exact⟨c,i.mono a,J9 (fun _ _ h=>⟨h.1,h.2.mono a⟩) d⟩
theorem Gk.fp{W W':World}{base:Nat}{S:List Nat}{v:Value}{ps:List (Nat × List Ac)}(h:Gk W base v ps)(a:Fp S W W')(c:∀k∈S,k<base:=by simp):Gk W' base v ps:=by
 obtain⟨d,j,i⟩:=h;exact⟨d,j.fp a c,J9 (fun _ _ h=>⟨h.1,h.2.fp a c⟩) i⟩
theorem Gk.slice{W:World}{base:Nat}{v:Value}{c:List (Nat × List Ac)}(h:Gk W base v c):∃a cap,v=.slice a c.length cap:=by
 obtain⟨j,i,d⟩:=h;obtain⟨a,cap,e,_⟩:=i.len;exact⟨a,cap,by rw[e,d.length_eq]⟩
theorem Ag.typed{α:Type}{R:Hv α}{w:World}{base:Nat}{v:Value}{l:List α}(h:Ag R w base v l):∀q,v.ownBlock=some q→base≤q∧∃c j,w.heap[q]?=some (.cells c R.e j):=by
 intro q a;rcases h.2 with⟨rfl,_⟩|⟨g,cap,cur,rfl,i,d,_⟩
 .cases a
 .obtain rfl:g=q:=by simpa [Value.ownBlock] using a
  exact⟨i,_,_,d⟩
theorem C9.keptD{W W':World}{base base':Nat}{v:Value}{xs:List (List Ac)}(h:C9 Dz W base v xs)(z:base'≤base)(p:Ao 80 base' [] W W')(a:Ao 78 base' [] W W'):C9 Dz W' base v xs:=by
 obtain⟨vals,i,y,x⟩:=h;refine⟨vals,?_,J9 (fun _ _ h=>h.kept fun q n=>?_) y,x⟩
 .refine⟨i.1,?_⟩;rcases i.2 with t|⟨g,cap,cur,j,r,d,m⟩
  .exact Or.inl t
  .exact Or.inr ⟨g,cap,cur,j,r,(a.high g _ _ (by omega) d).trans d,m⟩
 .obtain⟨A,c,B,s⟩:=h.typed q n;exact p.high q _ _ (by omega) s
theorem uX{w:World}{j:Array Oper}{rest:List Oper}{o:Oper}{a:Act}{Q:Exit→Act→World→Prop}(z:o.guard=none)(s x:Operand)
  (K:o.op=.call {callee:=.builtin .append,args:=#[s,x],argTypes:=#[102,102]})(base:Nat)(v:Value)(y:List (Nat × List Ac))(I:a.eval s=v)(m:Gk w base v y)
  (g i n c:Nat)(t:Option Addr)(r:List Ac)(J:Ap w base (.slice t n c) r)(G:a.eval x=.slice (some ⟨g,0,none⟩) 1 1)(L:w.heap[g]?=some (.cells #[.int .i64 i,.slice t n c] 106 (0,0)))(B:y.length+1<=1000000000)(d:base<=w.heap.size)
  (h:∀q w',Gk w' base q (y++[(i,r)])->Below base w w'->(∀D,D≠106->Ao D base [] w w')->wpList Tryz.prog j Q rest (a.put o.dst q) w'):wpList Tryz.prog j Q (o::rest) a w:=by
 obtain⟨A,F,E⟩:=m;have T:=E.length_eq;refine Va (R:=aB) 102 Tryz.underlying102 Tryz.infoPc rfl (by decide) z s x K base v A I F _ 1 1 [(i,t,n,c)] G (Bj.one (x:=(i,t,n,c)) L) (by intro h;cases h) (by simp;omega) d ?_;intro q w' S O N;have C:∀D,D≠106->Ao D base [] w w':=fun D M=>Sl F.typed N M;have p:=C 80 (by decide);exact h q w' ⟨_,S,Ro (J9 (fun _ _ h=>⟨h.1,h.2.keptT p⟩) E) ⟨rfl,J.keptT p⟩⟩ O C
def Gt(most:Nat)(out:List (List Ac))(k:Nat):List (Nat × List Ac):=(List.range k).flatMap fun i=>(Hh (out.getD i []) most).map fun r=>(i,r)
def G7(most:Nat)(out:List (List Ac)):List (Nat × List Ac):=Gt most out out.length
theorem P8(most:Nat)(a:List (List Ac))(k:Nat):Gt most a (k+1)=Gt most a k++(Hh (a.getD k []) most).map fun r=>(k,r):=by
 unfold Gt;rw[List.range_succ,List.flatMap_append];simp
theorem aC(l:List Ac)(most:Nat):(Hh l most).length<=l.length:=by
 have c:=iZ most l (Dj l 0 0);have a:=Xc l 0 0;unfold Hh;omega
theorem Sr(most:Nat)(a:List (List Ac)):∀k,k≤a.length→(Gt most a k).length≤(a.take k).flatten.length
 |0,_=>by simp[Gt]
 |k+1,h=>by
  have d:=Sr most a k (by omega);have c:=aC (a.getD k []) most;rw[P8,a1x,List.length_map,List.take_add_one,List.flatten_append,a1x,a0z (by omega)];rw[Z,a0z (by omega)] at c ⊢;simp only[Option.getD_some] at c ⊢;simp only[Option.toList_some,a2u,List.flatten_nil,List.append_nil];omega
theorem Eb.flat{l:List Ac}{c:List ByteArray}{a:List (List Ac)}(h:Eb l c a):a.flatten=l:=by
 induction h with
 |nil=>simp
 |cons l s c a h _ _ _ _ ih=>rw[a2u,ih,a4w]
theorem Eb.count{l:List Ac}{c:List ByteArray}{a:List (List Ac)}(h:Eb l c a):a.length=c.length+1:=by
 induction h with
 |nil=>rfl
 |cons l s c a h _ _ _ _ ih=>rw[a2v,ih,a2v]
theorem jC{l:List Ac}(h:risC l=true)(j:Nat)(a:j<l.length):Jf l j=false:=by
 cases hb:Jf l j
 .rfl
 .rw[Z7 a hb] at h;cases h
theorem aD{l:List Ac}(h:risC l=true)(n:Nat):risC (l.take n)=true:=by
 refine Uz fun j c=>?_;rw[List.length_take] at c;have a:=jC h j (by omega);unfold Jf at a ⊢;rw[Z,Z,a3u,a3u,if_pos (by omega),if_pos (by omega)];rw[Z,Z] at a;exact a
theorem Xg{l:List Ac}(h:risC l=true)(n:Nat):risC (l.drop n)=true:=by
 refine Uz fun j c=>?_;rw[List.length_drop] at c;rcases Nat.eq_zero_or_pos j with rfl|d
 .rfl
 have a:=jC h (n+j) (by omega);unfold Jf at a ⊢;rw[decide_eq_true (by omega),Bool.true_and] at a ⊢;rw[Z,Z,List.getElem?_drop,List.getElem?_drop,show n+(j-1)=n+j-1 by omega];rw[Z,Z] at a;exact a
theorem Eb.ris{l:List Ac}{i:List ByteArray}{a:List (List Ac)}(h:Eb l i a):risC l=true→∀x∈a,risC x=true:=by
 induction h with
 |nil=>
  intro h x c;rw[List.mem_singleton.1 c];exact h
 |cons l s i a h _ _ _ _ ih=>
  intro d x c;rcases List.mem_cons.1 c with rfl|c
  .exact aD d _
  .exact ih (Xg d _) x c
theorem Ap.at5{w:World}{base:Nat}{v:Value}{l:List Ac}(h:Ap w base v l)(d:∀c∈l,Di c):∃a cap,v=.slice a l.length cap/\l.length<=cap/\(a=none->cap=0)/\Ba w a l.length l:=by
 obtain⟨a,cap,e,n,m⟩:=h.at2 d;refine⟨a,cap,e,?_,n,m⟩;rcases h.2 with⟨i,p⟩|⟨g,q,cur,i,_,_,j,_⟩
 .omega
 .rw[e] at i;cases i;exact j
end
end Go.Proofs.YtkagolpnaicdoaaGreatDoor
