/- Lemmas. -/
import Derived.Test.YtkagolpnaicdoaaGreatDoorQItem
set_option maxRecDepth 100000
set_option maxHeartbeats 8000000
open Go.Lib renaming hid->Y
open List renaming setIfInBounds_toArray->a0z,getElem_mem->a0x,set_cons_succ->a0v,set_cons_zero->a0u,mem_append_left->a1x,length_set->a1w,getD_eq_getElem?_getD->a1v,mem_append_right->a1u,take_succ_eq_append_getElem->a2z,take_append_drop->a2x,mem_append->a2w,reverse_cons->a2u,getElem?_append_left->a3z,not_mem_nil->a3x,reverse_nil->a3w,cons_append->a3v,getElem?_eq_getElem->a3u,nil_append->a4z,append_nil->a4x
open Go.IntKind renaming wrap_i64->a0w
open Nat renaming le_refl->a1z
open Bool renaming false_eq_true->a2v
open Array renaming getElem?_toList->a4w
namespace Go.Proofs.YtkagolpnaicdoaaGreatDoor
section
open Go.RowKit Go.Lib
def Jr(x:Ad):List Value:=[.string x.c.row,.string x.c.col,.int .u64 x.c.ts,.int .u64 x.c.seq,.bool x.c.del,.string x.c.val,.int .i64 x.pos]
def Ic(x:Ad):Value:=.agg (Jr x).toArray
def A8:Hv Ad where
 e:=221
 k:=7
 enc:=Jr
 len:=fun _=>rfl
 pos:=by decide
 one:=fun x v hv=>by
  unfold Jr at hv;simp only[List.mem_cons,a3x,or_false] at hv
  rcases hv with rfl|rfl|rfl|rfl|rfl|rfl|rfl<;>rfl
theorem Acg(x y:Ad):E2 [Bv x y,Du y.pos x.pos]=B8 x y:=by
 rcases Nu x y with⟨c,a⟩|⟨c,a⟩
 .rw[a];unfold E2;rw[if_pos c]
 .rw[a,c];unfold E2;rw[if_neg (by decide)];unfold E2;split
  .rfl
  .rename_i h;unfold E2;omega
theorem cO(a:Int)(w:World):Calls Tryz.prog 290 #[.int .i64 a] w fun e w'=>e=.returned (.bool false)/\w=w':=by
 go_in;go_wp2;go_ret;exact⟨by simp,rfl⟩
theorem Ach(a b:Nat)(w:World):Calls Tryz.prog 264 #[.int .i64 a,.int .i64 b] w fun e w'=>e=.returned (.int .i64 (Du a b))∧w=w':=by
 by_cases d:a<b
 .have H:=Y (P0 d);go_in;go_wp2_with (go_at_call 290;refine(cO _ _).mono ?_;rintro e w' ⟨rfl,rfl⟩);go_ret;exact⟨by rw[H.o];rfl,rfl⟩
 .by_cases c:b<a
  .have H:=Y (P1 c);go_in;go_wp2_with (go_at_call 290;refine(cO _ _).mono ?_;rintro e w' ⟨rfl,rfl⟩);go_ret;exact⟨by rw[H.o];rfl,rfl⟩
  .have H:=Y (R6 d c);go_in;go_wp2_with (go_at_call 290;refine(cO _ _).mono ?_;rintro e w' ⟨rfl,rfl⟩);go_ret;exact⟨by rw[H.o];rfl,rfl⟩
def Aci:Array Value:=#[.string ⟨#[]⟩,.string ⟨#[]⟩,.int .u64 0,.int .u64 0,.bool false,.string ⟨#[]⟩]
def nU(c:Ac):Array Value:=#[.string c.row,.string c.col,.int .u64 c.ts,.int .u64 c.seq,.bool c.del,.string c.val]
theorem T8(x y:Ad)(w:World):Calls Tryz.prog 217 #[Ic x,Ic y] w fun e w'=>e=.returned (.int .i64 (B8 x y))∧Fp [] w w':=by
 have G:=Y (Acg x y);have C1:=Y (fun w=>gR (Jj x) (Jj y) w);have C2:=Y (fun w=>Ach y.pos x.pos w);rw[show Db (Jj x) (Jj y)=Bv x y from rfl] at C1;obtain⟨ck,al⟩:=Aa (Bv x y);obtain⟨cn,ak⟩:=Aa (Du y.pos x.pos);rw[al] at C1 G;rw[ak] at C2 G;have HO:=Y (fun w sb (hs:w.heap[sb]?=some (.cells #[.int .i64 ck,.int .i64 cn] 3 (0,0)))=>gQ w sb [ck,cn] hs (by show 2<=1000;decide));obtain⟨r,hr⟩:=Aa (B8 x y);rw[hr] at G;rw[G.o] at HO;rw[hr];clear al ak hr;obtain⟨⟨R,T,Q,xs,S,P⟩,xp⟩:=x;obtain⟨⟨M,O,L,ys,N,J⟩,yp⟩:=y;have C1':Hid (∀w,Calls Tryz.prog 156 #[.agg #[.string R,.string T,.int .u64 Q,.int .u64 0,.bool S,.string P],.agg #[.string M,.string O,.int .u64 L,.int .u64 0,.bool N,.string J]] w fun e w'=>e=.returned (.int .i64 ck)/\Fp [] w w'):=C1;clear C1;unfold Ic Jr;simp only;go_in;obtain⟨W,hW⟩:=Bz ((w.alloc (.cells #[.string R,.string T,.int .u64 Q,.int .u64 xs,.bool S,.string P,.int .i64 xp] 221)).alloc (.cells #[.string M,.string O,.int .u64 L,.int .u64 ys,.bool N,.string J,.int .i64 yp] 221))
 have ah:Fp [] w W:=by rw[hW];exact(Fp.alloc _ _).alloc' _
 have am:W.heap[w.heap.size]?=some (.cells #[.string R,.string T,.int .u64 Q,.int .u64 xs,.bool S,.string P,.int .i64 xp] 221 (0,0)):=by
  rw[hW,Below.heap_alloc _ _ _ (by simp)];exact Ai rfl _
 have t:W.heap[w.heap.size+1]?=some (.cells #[.string M,.string O,.int .u64 L,.int .u64 ys,.bool N,.string J,.int .i64 yp] 221 (0,0)):=by
  rw[hW];exact Ai (by simp) _
 have ap:=Y am;have ao:=Y t;have aw:=Y ah;have HX:Hid (∀w',Fp [] W w'->w'.cell? ⟨w.heap.size,0,none⟩=some (.string R)/\w'.cell? ⟨w.heap.size,1,none⟩=some (.string T)/\w'.cell? ⟨w.heap.size,2,none⟩=some (.int .u64 Q)/\w'.cell? ⟨w.heap.size,3,none⟩=some (.int .u64 xs)/\w'.cell? ⟨w.heap.size,4,none⟩=some (.bool S)/\w'.cell? ⟨w.heap.size,5,none⟩=some (.string P)/\w'.cell? ⟨w.heap.size,6,none⟩=some (.int .i64 xp)):=fun w' C=>by
  have s:=(C.block _ (Ae ap.o) (by simp)).trans ap.o;exact⟨Ab s 0,Ab s 1,Ab s 2,Ab s 3,Ab s 4,Ab s 5,Ab s 6⟩
 have HY:Hid (∀w',Fp [] W w'->w'.cell? ⟨w.heap.size+1,0,none⟩=some (.string M)/\w'.cell? ⟨w.heap.size+1,1,none⟩=some (.string O)/\w'.cell? ⟨w.heap.size+1,2,none⟩=some (.int .u64 L)/\w'.cell? ⟨w.heap.size+1,3,none⟩=some (.int .u64 ys)/\w'.cell? ⟨w.heap.size+1,4,none⟩=some (.bool N)/\w'.cell? ⟨w.heap.size+1,5,none⟩=some (.string J)/\w'.cell? ⟨w.heap.size+1,6,none⟩=some (.int .i64 yp)):=fun w' C=>by
  have s:=(C.block _ (Ae ao.o) (by simp)).trans ao.o;exact⟨Ab s 0,Ab s 1,Ab s 2,Ab s 3,Ab s 4,Ab s 5,Ab s 6⟩
 have az:W.heap.size=w.heap.size+2:=by rw[hW];simp
 clear am t ah;go_wp2_with fail;rw[<-hW];clear hW;refine Qb (G8 80 Aci (nU ⟨R,T,Q,xs,S,P⟩) (nU ⟨M,O,L,ys,N,J⟩) 4 5 6 7 W) (fun _ _=>True) (by kernel_rfl) (by kernel_rfl) (fun _=>G8.start (Fp.drew _)) ?_
 iterate 4
  apply Cm (fun _ _ _ h _=>h.plain (by decide)) rfl rfl rfl
  .intro b a w d c K u;have:=c.f 2;have:=c.f 3;(try have:=c.e 0 7);(try have:=c.e 2 9);obtain⟨x0,x1,x2,x3,x4,x5,x6⟩:=HX.o _ d.fp;obtain⟨y0,y1,y2,y3,y4,y5,y6⟩:=HY.o _ d.fp;simp only[Oper.wp,execOp];go_simp;exact u _ d trivial
 apply Dw (fun _ _=>True) rfl rfl rfl
 .intro b a w d c K u;simp only[Oper.wp,execOp];go_simp;exact u _ _ (d.makeI (c.post 6 (by kernel_rfl)) (by decide)) trivial trivial
 apply Dw (fun _ _=>True) rfl rfl rfl
 .intro b a w d c K u;simp only[Oper.wp,execOp];go_simp;exact u _ _ (d.makeJ (c.post 7 (by kernel_rfl)) (by decide)) trivial trivial
 apply J3 (fun _=>True) rfl rfl rfl
 .intro b a w d c K u;have h5:=c.dep 4 5 _ (by kernel_rfl) rfl;have h8:=c.e 1 8;obtain⟨B,F,e2,k⟩:=d.ai (c.pre 4 (by kernel_rfl));have h5:a.tmps[5]?.getD undef=.pointer (some ⟨B,0,none⟩):=(c.val 4 5 (by kernel_rfl)).trans F;rw[c.self,if_neg (by decide)] at k;have q0:w.cell? ⟨B,0,none⟩=some (.string ⟨#[]⟩):=Ab k 0;have q1:w.cell? ⟨B,1,none⟩=some (.string ⟨#[]⟩):=Ab k 1;have q2:w.cell? ⟨B,2,none⟩=some (.int .u64 0):=Ab k 2;have q3:w.cell? ⟨B,3,none⟩=some (.int .u64 0):=Ab k 3;have q4:w.cell? ⟨B,4,none⟩=some (.bool false):=Ab k 4;have q5:w.cell? ⟨B,5,none⟩=some (.string ⟨#[]⟩):=Ab k 5;have g0:=Av k 0;have g1:=Av k 1;have g2:=Av k 2;have g3:=Av k 3;have g4:=Av k 4;have g5:=Av k 5;have V:=d.fillP (w2:=((((((w.setCell ⟨B,0,none⟩ (.string R)).setCell ⟨B,1,none⟩ (.string T)).setCell ⟨B,2,none⟩ (.int .u64 Q)).setCell ⟨B,3,none⟩ (.int .u64 xs)).setCell ⟨B,4,none⟩ (.bool S)).setCell ⟨B,5,none⟩ (.string P))) (c.pre 4 (by kernel_rfl)) F ((((((Fp.setCell w ⟨B,0,none⟩ _).setCell' (Or.inl (by simp)) _).setCell' (Or.inl (by simp)) _).setCell' (Or.inl (by simp)) _).setCell' (Or.inl (by simp)) _).setCell' (Or.inl (by simp)) _) (by rw[Cf (Cf (Cf (Cf (Cf (Cf k _) _) _) _) _) _];rfl) (by decide);simp only[Oper.wp,execOp];go_simp;exact u undef _ V trivial trivial
 apply J3 (fun _=>True) rfl rfl rfl
 .intro b a w d c K u;have h6:=c.dep 5 6 _ (by kernel_rfl) rfl;have a9:=c.e 3 10;obtain⟨B,F,e2,k⟩:=d.aj (c.pre 5 (by kernel_rfl));have h6:a.tmps[6]?.getD undef=.pointer (some ⟨B,0,none⟩):=(c.val 5 6 (by kernel_rfl)).trans F;rw[c.self,if_neg (by decide)] at k;have q0:w.cell? ⟨B,0,none⟩=some (.string ⟨#[]⟩):=Ab k 0;have q1:w.cell? ⟨B,1,none⟩=some (.string ⟨#[]⟩):=Ab k 1;have q2:w.cell? ⟨B,2,none⟩=some (.int .u64 0):=Ab k 2;have q3:w.cell? ⟨B,3,none⟩=some (.int .u64 0):=Ab k 3;have q4:w.cell? ⟨B,4,none⟩=some (.bool false):=Ab k 4;have q5:w.cell? ⟨B,5,none⟩=some (.string ⟨#[]⟩):=Ab k 5;have g0:=Av k 0;have g1:=Av k 1;have g2:=Av k 2;have g3:=Av k 3;have g4:=Av k 4;have g5:=Av k 5;have V:=d.fillQ (w2:=((((((w.setCell ⟨B,0,none⟩ (.string M)).setCell ⟨B,1,none⟩ (.string O)).setCell ⟨B,2,none⟩ (.int .u64 L)).setCell ⟨B,3,none⟩ (.int .u64 ys)).setCell ⟨B,4,none⟩ (.bool N)).setCell ⟨B,5,none⟩ (.string J))) (c.pre 5 (by kernel_rfl)) F ((((((Fp.setCell w ⟨B,0,none⟩ _).setCell' (Or.inl (by simp)) _).setCell' (Or.inl (by simp)) _).setCell' (Or.inl (by simp)) _).setCell' (Or.inl (by simp)) _).setCell' (Or.inl (by simp)) _) (by rw[Cf (Cf (Cf (Cf (Cf (Cf k _) _) _) _) _) _];rfl) (by decide);simp only[Oper.wp,execOp];go_simp;exact u undef _ V trivial trivial
 refine⟨?_,?_⟩
 .refine⟨fun _ _ _ _ _=>trivial,?_⟩;refine⟨fun _ _ _ _ _=>trivial,?_⟩;refine⟨fun _ _ _ _ _=>trivial,?_⟩;refine⟨fun _ _ _ _ _=>trivial,?_⟩
  iterate 4 refine E4 _ ?_
  exact trivial
 .intro w' bb t;simp only[a2u,a3w,a4z,a3v]
  iterate 4 (refine A2 ?_)
  refine As ?_;intro v4 u4;refine As ?_;intro v5 u5;refine As ?_;intro v6 u6;refine As ?_;intro v7 u7;refine C7 ?_;intro d;simp only[Aj,Act.put,a0z,a0v,a0u];obtain⟨z,F,ar,D⟩:=d.ai (t 4 (by simp));obtain⟨B2,e2,aq,aa⟩:=d.aj (t 5 (by simp));have ag:=d.ne (t 4 (by simp)) (t 5 (by simp));rw[t 6 (by simp),if_pos rfl] at D;rw[t 7 (by simp),if_pos rfl] at aa;have av:v4=.pointer (some ⟨z,0,none⟩):=F;have au:v5=.pointer (some ⟨B2,0,none⟩):=e2;have U:z≠B2:=fun h=>ag (by rw[F,e2,h]);have ay:=Y d.fp;subst av au;have q1:w'.cell? ⟨z,3,none⟩=some (.int .u64 xs):=Ab D 3;have g1:=Av D 3;have A:(w'.setCell ⟨z,3,none⟩ (.int .u64 0)).heap[B2]?=_ :=(O1 (Ne.symm U) _).trans aa;have q2:(w'.setCell ⟨z,3,none⟩ (.int .u64 0)).cell? ⟨B2,3,none⟩=some (.int .u64 ys):=Ab A 3;have g2:=Av A 3;have af:((w'.setCell ⟨z,3,none⟩ (.int .u64 0)).setCell ⟨B2,3,none⟩ (.int .u64 0)).heap[z]?=some (.cells #[.string R,.string T,.int .u64 Q,.int .u64 0,.bool S,.string P] 80 (0,0)):=((O1 U _).trans (Cf D _)).trans rfl;have ae:((w'.setCell ⟨z,3,none⟩ (.int .u64 0)).setCell ⟨B2,3,none⟩ (.int .u64 0)).heap[B2]?=some (.cells #[.string M,.string O,.int .u64 L,.int .u64 0,.bool N,.string J] 80 (0,0)):=(Cf A _).trans rfl;have I:=Y ((ay.o.setCell' (p:=⟨z,3,none⟩) (Or.inr ar) (.int .u64 0)).setCell' (p:=⟨B2,3,none⟩) (Or.inr aq) (.int .u64 0));have ad:=Y af;have ac:=Y ae;obtain⟨W2,ab⟩:=Bz ((w'.setCell ⟨z,3,none⟩ (.int .u64 0)).setCell ⟨B2,3,none⟩ (.int .u64 0));clear d t ag F e2 D aa A af ae u4 u5 u6 u7;go_wp2_with fail;rw[<-ab];rw[<-ab] at I ad ac;clear ab q1 g1 q2 g2
  have HL:Hid (∀w',Fp [] W2 w'→(w'.cell? ⟨z,0,none⟩=some (.string R)∧w'.cell? ⟨z,1,none⟩=some (.string T)∧w'.cell? ⟨z,2,none⟩=some (.int .u64 Q)∧w'.cell? ⟨z,3,none⟩=some (.int .u64 0)∧w'.cell? ⟨z,4,none⟩=some (.bool S)∧w'.cell? ⟨z,5,none⟩=some (.string P))∧
    (w'.cell? ⟨B2,0,none⟩=some (.string M)/\w'.cell? ⟨B2,1,none⟩=some (.string O)/\w'.cell? ⟨B2,2,none⟩=some (.int .u64 L)/\w'.cell? ⟨B2,3,none⟩=some (.int .u64 0)/\w'.cell? ⟨B2,4,none⟩=some (.bool N)/\w'.cell? ⟨B2,5,none⟩=some (.string J))):=fun w' C=>by
   have s:=(C.block _ (Ae ad.o) (by simp)).trans ad.o;have E:=(C.block _ (Ae ac.o) (by simp)).trans ac.o;exact⟨⟨Ab s 0,Ab s 1,Ab s 2,Ab s 3,Ab s 4,Ab s 5⟩,Ab E 0,Ab E 1,Ab E 2,Ab E 3,Ab E 4,Ab E 5⟩
  refine Bo (by kernel_rfl) (by kernel_rfl) ?_
  iterate 8
   apply A1 rfl rfl rfl
   .intro a w d c K u;have:=c.f 5;have:=c.f 6;have:=c.f 3;have:=c.f 2;(try have:=c.e 0 13);(try have:=c.e 1 14);(try have:=c.e 3 16);(try have:=c.e 5 18);(try have:=c.e 4 17);(try have:=c.e 6 19);obtain⟨⟨a0,a1,a2,a3,a4,a5⟩,b0,b1,b2,b3,b4,b5⟩:=HL.o _ d;obtain⟨-,-,-,-,-,-,x6⟩:=HX.o _ (I.o.trans d);obtain⟨-,-,-,-,-,-,y6⟩:=HY.o _ (I.o.trans d);simp only[Oper.wp,execOp];go_simp
    first
    |exact u _ d (Fp.refl _ _)
    |first
      |((with_reducible refine(C1'.o _).mono ?_);rintro e w2 ⟨rfl,C⟩;exact u _ (d.trans C) C)
      |((with_reducible refine(C2.o _).mono ?_);rintro e w2 ⟨rfl,rfl⟩;exact u _ d (Fp.refl _ _))
  apply nI (fun w' v=>∃g,v=.slice (some ⟨g,0,none⟩) 2 2/\w'.heap[g]?=some (.cells #[.int .i64 ck,.int .i64 cn] 3 (0,0))) rfl rfl rfl
  .intro a w d c K u;have a8:=c.e 2 15;have a7:=c.e 7 20;simp only[Oper.wp,execOp];go_simp;exact u _ _ (d.alloc' _) (Fp.alloc _ _) ⟨_,rfl,Ai rfl _⟩
  apply A1 rfl rfl rfl
  .intro a w d c K u;have an:=c.dep 8 21 _ (by kernel_rfl) rfl;obtain⟨g,an,hg⟩:=an;simp only[Oper.wp,execOp];go_simp;refine(HO.o _ g hg).mono ?_;rintro e w2 ⟨rfl,rfl⟩;exact u _ d (Fp.refl _ _)
  apply A1 rfl rfl rfl
  .intro a w d c K u;have a6:=c.e 9 22;simp only[Oper.wp,execOp];go_simp;exact u _ d (Fp.refl _ _)
  refine⟨?_,?_⟩
  .repeat(first|exact trivial|refine cI _ ?_ |refine⟨fun w1 w2 v _ C ⟨g,s,E⟩=>⟨g,s,(C.block g (Ae E) (by simp)).trans E⟩,?_⟩)
  .intro w' d;simp only[a2u,a3w,a4z,a3v]
   iterate 8 (refine A2 ?_)
   refine As ?_;intro v8 u8
   iterate 2 (refine A2 ?_)
   refine C7 ?_;simp only[Aj,Act.put,a0z,a0v,a0u];have ax:=Y d;clear d;go_wp2_with fail;go_ret;exact⟨rfl,(aw.o.trans I.o).trans ax.o⟩
theorem nV(x y:Ad)(w:World):Calls Tryz.prog 219 #[Ic x,Ic y] w fun e w'=>e=.returned (.bool (Bc x y))/\Fp [] w w':=by
 have C1:=Y (fun w=>gU x.c y.c w);have h:Hid (Bc x y=I2 x.c y.c):=rfl;obtain⟨r,a⟩:=Aa (I2 x.c y.c);rw[a] at C1 h;rw[h.o];clear a;obtain⟨⟨B,D,A,xs,C,z⟩,G⟩:=x;obtain⟨⟨t,v,s,ys,u,k⟩,F⟩:=y;have C1':Hid (∀w,Calls Tryz.prog 265 #[.agg #[.string B,.string D,.int .u64 A,.int .u64 xs,.bool C,.string z],.agg #[.string t,.string v,.int .u64 s,.int .u64 ys,.bool u,.string k]] w fun e w'=>e=.returned (.bool r)/\Fp [] w w'):=C1;clear C1;unfold Ic Jr;simp only;go_in;go_wp2_with fail;refine(C1'.o _).mono ?_;rintro e I ⟨rfl,d⟩;have E:=Y (((Fp.alloc w _).alloc' _).trans d);clear d;go_wp2_with fail;go_ret;exact⟨rfl,E.o⟩
end
section
open Go.RowKit Go.Lib
structure Ie(w:World)(b o:Nat)(x:Ad):Prop where
 c0:w.cell? ⟨b,o,none⟩=some (.string x.c.row)
 c1:w.cell? ⟨b,o+1,none⟩=some (.string x.c.col)
 c2:w.cell? ⟨b,o+2,none⟩=some (.int .u64 x.c.ts)
 c3:w.cell? ⟨b,o+3,none⟩=some (.int .u64 x.c.seq)
 c4:w.cell? ⟨b,o+4,none⟩=some (.bool x.c.del)
 c5:w.cell? ⟨b,o+5,none⟩=some (.string x.c.val)
 c6:w.cell? ⟨b,o+6,none⟩=some (.int .i64 x.pos)
theorem Vv{w:World}{b o:Nat}{x:Ad}(h:Oy A8 w b o x):Ie w b o x:=⟨h 0 _ rfl,h 1 _ rfl,h 2 _ rfl,h 3 _ rfl,h 4 _ rfl,h 5 _ rfl,h 6 _ rfl⟩
theorem Gx{w:World}{base g n cap i:Nat}{l:List Ad}(h:Ag A8 w base (.slice (some ⟨g,0,none⟩) n cap) l)(a:i<l.length):Ie w g (i*7) (Af l i):=by
 rw[Md a];exact Vv (h.elem a).1
theorem Qh{w:World}{base g n cap i:Nat}{l:List Ad}{x:Ad}(h:Ag A8 w base (.slice (some ⟨g,0,none⟩) n cap) l)(c:i<l.length)(a:Af l i=x):Ie w g (i*7) x:=by
 rw[<-a];exact Gx h c
theorem cP{w:World}{base g n cap i:Nat}{l:List Ad}(x:Ad)(h:Ag A8 w base (.slice (some ⟨g,0,none⟩) n cap) l)(a:i<l.length):
  Ag A8 (w.setCells g (i*7) (Jr x)) base (.slice (some ⟨g,0,none⟩) n cap) (l.set i x)/\Fp [g] w (w.setCells g (i*7) (Jr x)):=h.setQ x a
def Js(l:List Ad)(i j p q:Nat)(b:Nat->Bool):List Ad:=
 let l1:=if b p=true then l.set i (Af l j) else l
 if b q=true then l1.set j (Af l i) else l1
structure J6(w0:World)(base g n cap:Nat)(l:List Ad)(i j p q:Nat)(b:Nat->Bool)(w:World):Prop where
 own:Ag A8 w base (.slice (some ⟨g,0,none⟩) n cap) (Js l i j p q b)
 fp:Fp [g] w0 w
variable {w0 w : World} {base g n cap i j p q : Nat} {l : List Ad} {b : Nat -> Bool}
theorem J6.first(h:J6 w0 base g n cap l i j p q b w)(c:b p=false)(a:b q=false):Ag A8 w base (.slice (some ⟨g,0,none⟩) n cap) l:=by
 have:=h.own;unfold Js at this;rw[c,a] at this;exact this
theorem Iq:(Js l i j p q b).length=l.length:=by
 unfold Js;simp only
 split<;>split<;>simp
theorem Yg(c:b p=true)(a:b q=true):Js l i j p q b=I4 l i j:=by
 unfold Js I4;simp only;rw[if_pos c,if_pos a]
theorem J6.storeP(h:J6 w0 base g n cap l i j p q b w)(d:b p=false)(s:i<l.length)(c:i≠j)(a:p≠q):
  J6 w0 base g n cap l i j p q (Ak b p) (w.setCells g (i*7) (Jr (Af l j))):=by
 obtain⟨u,t⟩:=cP (Af l j) h.own (i:=i) (by rw[Iq];exact s);refine⟨?_,h.fp.trans t (by intro k r;exact Or.inl r)⟩;have e:(Js l i j p q b).set i (Af l j)=Js l i j p q (Ak b p):=by
  cases hq:b q with
  |true=>simp only[Js,Ak,d,hq,if_neg (Ne.symm a),if_true,a2v,if_false];exact List.set_comm _ _ c.symm
  |false=>simp only[Js,Ak,d,hq,if_neg (Ne.symm a),if_true,a2v,if_false]
 rw[<-e];exact u
theorem J6.storeQ(h:J6 w0 base g n cap l i j p q b w)(c:b q=false)(r:j<l.length)(a:p≠q):
  J6 w0 base g n cap l i j p q (Ak b q) (w.setCells g (j*7) (Jr (Af l i))):=by
 obtain⟨t,s⟩:=cP (Af l i) h.own (i:=j) (by rw[Iq];exact r);refine⟨?_,h.fp.trans s (by intro k d;exact Or.inl d)⟩;have e:(Js l i j p q b).set j (Af l i)=Js l i j p q (Ak b q):=by
  simp only[Js,Ak,c,if_neg a,if_true,a2v,if_false]
 rw[<-e];exact t
theorem J6.plain{k:Nat}(h:J6 w0 base g n cap l i j p q b w)(a:k≠p∧k≠q):J6 w0 base g n cap l i j p q (Ak b k) w:=by
 refine⟨?_,h.fp⟩;have e:Js l i j p q (Ak b k)=Js l i j p q b:=by
  unfold Js Ak;simp only;rw[if_neg a.1.symm,if_neg a.2.symm]
 rw[e];exact h.own
theorem Acj(w:World)(base g n cap a b:Nat)(l:List Ad)(ho:Ag A8 w base (.slice (some ⟨g,0,none⟩) n cap) l)(aj:Be l)(bk:a≤b)(hb:b≤l.length)(hn:l.length≤1000000):
  Calls Tryz.prog 288 #[.slice (some ⟨g,0,none⟩) n cap,.int .i64 a,.int .i64 b,.func (.func 217) #[] #[]] w fun e w'=>e=.returned (.tuple #[])/\(∃P,Dl a b l P/\B5 P a b/\Ag A8 w' base (.slice (some ⟨g,0,none⟩) n cap) P)/\Fp [g] w w':=by
 have HO:=Y ho;have ay:=Y aj;have ao:=Y T8;have hm:l.length=n:=by
  obtain⟨a',c',e,-⟩:=ho.len;cases e;rfl
 have HM:=Y hm;rw[hm] at hb hn;clear ho aj hm;go_in
 have n1:IntKind.i64.wrap ((a:Int)+1)=((a+1:Nat):Int):=by rw[a0w];omega
 go_wp2_with fail
 go_loopg [8] (b-a) (fun gg vi wr=>∃(i:Nat) (P:List Ad),vi=.int .i64 i/\a<i/\gg+i=b+1/\Dl a b l P/\B5 P a i/\Ag A8 wr base (.slice (some ⟨g,0,none⟩) n cap) P/\Fp [g] w wr)
 case atStart=>exact⟨a+1,l,by simp,by omega,by omega,Dl.refl _ _ _,B5.one _ _,HO.o,Fp.refl _ _⟩
 case round=>
  clear n1;obtain⟨i,l1,rfl,bj,bi,ht,hs,ho,J⟩:=hrel;have HT:=Y ht;have HS:=Y hs;have an:=Y ho;have HF:=Y J;clear ht hs ho J;by_cases bf:i<b
  .have zi:(i:Int)<(b:Int):=(by omega)
   have bx:Hid (l1.length=n):=HT.o.len.trans HM.o;go_wp2_with fail
   go_loopg [9] i (fun gg vj wt=>∃(j:Nat) (z:List Ad),vj=.int .i64 j/\gg=j/\a<=j/\j<=i/\Dl a b l z/\Qz z a (i+1) j/\Ag A8 wt base (.slice (some ⟨g,0,none⟩) n cap) z/\Fp [g] w wt)
   case atStart=>exact⟨i,l1,rfl,rfl,by omega,a1z _,HT.o,HS.o.but,an.o,HF.o⟩
   case round=>
    obtain⟨j,z,rfl,bh,am,be,ah,ai,ak,al⟩:=hrel;have M:=Y ah;have aa:=Y ai;have t:=Y ak;have ac:=Y al;have ab:Hid (z.length=n):=M.o.len.trans HM.o;have D:=Y (M.o.ok ay.o);clear ah ai ak al
    have n3:IntKind.i64.wrap ((i:Int)+1)=((i+1:Nat):Int):=(by rw[a0w];omega)
    by_cases ar:j=a
    .subst ar
     have zj:¬(j:Int)>(j:Int):=(by omega)
     go_wp2_with fail;refine Bo (by kernel_rfl) (by kernel_rfl) ?_
     iterate 17
      first
      |apply Jq _ _ rfl rfl rfl rfl (by kernel_rfl) rfl rfl
      |apply A1 rfl rfl rfl
       .intro a w d c K s;have:=c.f 9;have:=c.f 1;(try have:=c.e 0 18);(try have:=c.e 1 19);(try have:=c.e 2 20);(try have:=c.e 3 21);(try have:=c.e 15 33);simp only[Oper.wp,execOp];go_simp;exact s _ d (Fp.refl _ _)
     refine Bn ?_
     iterate 17 refine Bm ?_
     refine Bl fun w' d=>?_
     .simp only[Aj,Act.put,a0z,a0v,a0u];have I:=Y (ac.o.trans d);have G:=Y (Ag.kept t.o (fun k B=>d.block k (t.o.lt k B).2 (by simp)));clear d;go_wp2_with fail
      go_roundg (b-i)
      case measure=>omega
      case rel=>exact⟨i+1,z,by simp,by omega,by omega,M.o,aa.o.done D.o (Or.inl rfl) (a1z _),G.o,I.o⟩
    .have zj:(j:Int)>(a:Int):=(by omega)
     have n2:IntKind.i64.wrap ((j:Int)-1)=((j-1:Nat):Int):=(by rw[a0w];omega)
     obtain⟨k,B⟩:=Aa (j-1);rw[B] at n2
     have C:j<z.length:=(by rw[ab.o];omega)
     have F:k<z.length:=(by rw[ab.o];omega)
     obtain⟨-,-,-,bg,-,-⟩:=t.o.elem C
     have ba:(j:Int)<(n:Int):=(by omega)
     have a9:(k:Int)<(n:Int):=(by omega)
     have ae:Hid (∀w',Fp [] wr w'->Ie w' g (j*7) (Af z j)):=fun w' J=>Gx (t.o.kept (fun k B=>J.block k (t.o.lt k B).2 (by simp))) C;have ad:Hid (∀w',Fp [] wr w'->Ie w' g (k*7) (Af z k)):=fun w' J=>Gx (t.o.kept (fun k B=>J.block k (t.o.lt k B).2 (by simp))) F;have v:=Y (fun h=>aa.o.done D.o (Or.inr h) am);have u:=Y (fun h=>aa.o.step (by rw[ab.o];omega) (by omega) (by omega) h);rw[B] at v u;have E:=Y (fun h=>Aw.not (D.o.at j) (D.o.at k) h);have O:=Y (fun h=>Aw.lt (x:=Af z j) (y:=Af z k) h);have au:=Y (Dl.swap (a:=a) (b:=b) C F am (by omega) (by omega) (by omega));have N:=Y (fun w=>ao.o (Af z j) (Af z k) w);obtain⟨x,hx⟩:=Aa (Af z j);obtain⟨y,hy⟩:=Aa (Af z k);rw[hx] at ae E O N v u;rw[hy] at ad E O N v u;have HX:=Y hx;have HY:=Y hy;obtain⟨r,hr⟩:=Aa (B8 x y);rw[hr] at E O N;have HK:=Y B
     have aq:j≠k:=(by omega)
     have n4:IntKind.i64.wrap ((j:Int)-1)=(k:Int):=n2;obtain⟨⟨xr,xc,xt,xs,xd,xv⟩,xp⟩:=x;obtain⟨⟨yr,yc,yt,ys,yd,yv⟩,yp⟩:=y;have HC1':Hid (∀w,Calls Tryz.prog 217 #[.agg #[.string xr,.string xc,.int .u64 xt,.int .u64 xs,.bool xd,.string xv,.int .i64 xp],.agg #[.string yr,.string yc,.int .u64 yt,.int .u64 ys,.bool yd,.string yv,.int .i64 yp]] w fun e w'=>e=.returned (.int .i64 r)/\Fp [] w w'):=N;clear B hx hy hr N;by_cases Q:r<0
     .go_wp2_with fail;refine Bo (by kernel_rfl) (by kernel_rfl) ?_
      iterate 17
       first|apply A1 rfl rfl rfl|apply Gw _ _ rfl rfl rfl rfl (by kernel_rfl) rfl rfl
       .intro a w d c K s;have:=c.f 9;have:=c.f 1;have:=c.f 3;have:=c.f 0;(try have:=c.e 0 18);(try have:=c.e 1 19);(try have:=c.e 2 20);(try have:=c.e 5 23);(try have:=c.e 6 24);(try have:=c.e 7 25);(try have:=c.e 10 28);(try have:=c.e 9 27);(try have:=c.e 11 29);(try have:=c.e 12 30);(try have:=c.e 4 22);(try have:=c.e 8 26);(try have:=c.e 13 31);(try have:=c.e 14 32);(try have:=c.e 3 21);(try have:=c.e 15 33);obtain⟨a0,a1,a2,W,V,U,T⟩:=ae.o _ d;obtain⟨b0,b1,b2,b3,b4,b5,b6⟩:=ad.o _ d;simp only at a0 a1 a2 W V U T b0 b1 b2 b3 b4 b5 b6;simp only[Oper.wp,execOp];go_simp
        first
        |exact s _ d (Fp.refl _ _)
        |(with_reducible refine(HC1'.o _).mono ?_);rintro e w2 ⟨rfl,J⟩;exact s _ (d.trans J) J
      refine Bn ?_
      iterate 17 refine Bm ?_
      refine Bl fun w' d=>?_
      .simp only[Aj,Act.put,a0z,a0v,a0u];have I:=Y (ac.o.trans d);have G:=Y (Ag.kept t.o (fun k B=>d.block k (t.o.lt k B).2 (by simp)));have a7:=Y d;clear d
       obtain⟨ap,af⟩:∃x,x=w':=⟨_,rfl⟩
       rw[<-af] at I G a7 ⊢;clear af;go_wp2_with fail;refine E3 (fun bb w'=>J6 ap base g n cap z j k 15 17 bb w') (fun _ _=>True) (by kernel_rfl) (by kernel_rfl) ⟨G.o.kept (fun k B=>rfl),(Fp.drew _).mono (by simp)⟩ ?_
       iterate 9
        apply A3 (fun _ _ h=>h.plain (by decide)) rfl rfl rfl
        .intro b a w d c K s;have:=c.f 0;have:=c.f 9;(try have:=c.e 3 40);(try have:=c.e 6 43);(try have:=c.e 5 42);(try have:=c.e 7 44);simp only[Oper.wp,execOp];go_simp;exact s _ d trivial
       apply A3 (fun _ _ h=>h.plain (by decide)) rfl rfl rfl
       .intro b a w d c K s;have br:=c.e 8 45;obtain⟨b0,b1,b2,b3,b4,b5,b6⟩:=Qh (d.first (c.post 15 (by kernel_rfl)) (c.post 17 (by kernel_rfl))) F HY.o;simp only at b0 b1 b2 b3 b4 b5 b6;simp only[Oper.wp,execOp];go_simp;exact s _ d trivial
       iterate 3
        apply A3 (fun _ _ h=>h.plain (by decide)) rfl rfl rfl
        .intro b a w d c K s;have:=c.f 0;have:=c.f 9;(try have:=c.e 10 47);(try have:=c.e 11 48);simp only[Oper.wp,execOp];go_simp;exact s _ d trivial
       apply A3 (fun _ _ h=>h.plain (by decide)) rfl rfl rfl
       .intro b a w d c K s;have bp:=c.e 12 49;obtain⟨a0,a1,a2,W,V,U,T⟩:=Qh (d.first (c.post 15 (by kernel_rfl)) (c.post 17 (by kernel_rfl))) C HX.o;simp only at a0 a1 a2 W V U T;simp only[Oper.wp,execOp];go_simp;exact s _ d trivial
       apply A3 (fun _ _ h=>h.plain (by decide)) rfl rfl rfl
       .intro b a w d c K s;have bw:=c.e 0 37;have bv:=c.e 1 38;simp only[Oper.wp,execOp];go_simp;exact s _ d trivial
       apply F3 (fun _=>True) rfl rfl
       .intro b a w d c K s;have bn:=c.e 14 51;have bq:=c.e 9 46;obtain⟨a0,a1,a2,W,V,U,T⟩:=Gx d.own (i:=j) (by rw[Iq];exact C);obtain⟨-,A,-,-,-,-⟩:=d.own.elem (i:=j) (by rw[Iq];exact C);have z0:=A (j*7);have z1:=A (j*7+1);have z2:=A (j*7+2);have z3:=A (j*7+3);have z4:=A (j*7+4);have z5:=A (j*7+5);have z6:=A (j*7+6);have L:=d.storeP c.self C aq (by decide);rw[HY.o] at L;clear A;simp only[Oper.wp,execOp];go_simp;exact s undef _ L trivial trivial
       apply A3 (fun _ _ h=>h.plain (by decide)) rfl rfl rfl
       .intro b a w d c K s;have bt:=c.e 2 39;have bs:=c.e 4 41;simp only[Oper.wp,execOp];go_simp;exact s _ d trivial
       apply F3 (fun _=>True) rfl rfl
       .intro b a w d c K s;have bm:=c.e 16 52;have bo:=c.e 13 50;obtain⟨a0,a1,a2,W,V,U,T⟩:=Gx d.own (i:=k) (by rw[Iq];exact F);obtain⟨-,A,-,-,-,-⟩:=d.own.elem (i:=k) (by rw[Iq];exact F);have z0:=A (k*7);have z1:=A (k*7+1);have z2:=A (k*7+2);have z3:=A (k*7+3);have z4:=A (k*7+4);have z5:=A (k*7+5);have z6:=A (k*7+6);have L:=d.storeQ c.self F (by decide);rw[HX.o] at L;clear A;simp only[Oper.wp,execOp];go_simp;exact s undef _ L trivial trivial
       refine⟨?_,?_⟩
       .refine⟨fun _ _ _ _ _=>trivial,?_⟩;refine Cb _ ?_;refine⟨fun _ _ _ _ _=>trivial,?_⟩
        iterate 15 refine Cb _ ?_
        exact trivial
       .intro w' bb d S;simp only[a2u,a3w,a4z,a3v]
        iterate 15 (refine A2 ?_)
        refine As ?_;intro bd u15
        iterate 1 (refine A2 ?_)
        refine As ?_;intro bc u17;refine C7 ?_;simp only[Aj,Act.put,a0z,a0v,a0u];have R:=d.own;rw[Yg (S 15 (by simp)) (S 17 (by simp))] at R;have az:=Y R;have a8:=Y (I.o.trans d.fp (by intro i hi;exact Or.inl hi));have ag:=au.o;have av:=Y (M.o.trans ag);have ax:=Y (u.o (O.o Q));clear d S R ag u15 u17;go_wp2_with fail
        go_roundg k
        case measure=>have:=HK.o;omega
        case rel=>exact⟨k,_,rfl,rfl,by have:=HK.o;omega,by have:=HK.o;omega,av.o,ax.o,az.o,a8.o⟩
     .have zr:¬(r<0):=Q;go_wp2_with fail;refine Bo (by kernel_rfl) (by kernel_rfl) ?_
      iterate 17
       first|apply A1 rfl rfl rfl|apply Gw _ _ rfl rfl rfl rfl (by kernel_rfl) rfl rfl
       .intro a w d c K s;have:=c.f 9;have:=c.f 1;have:=c.f 3;have:=c.f 0;(try have:=c.e 0 18);(try have:=c.e 1 19);(try have:=c.e 2 20);(try have:=c.e 5 23);(try have:=c.e 6 24);(try have:=c.e 7 25);(try have:=c.e 10 28);(try have:=c.e 9 27);(try have:=c.e 11 29);(try have:=c.e 12 30);(try have:=c.e 4 22);(try have:=c.e 8 26);(try have:=c.e 13 31);(try have:=c.e 14 32);(try have:=c.e 3 21);(try have:=c.e 15 33);obtain⟨a0,a1,a2,W,V,U,T⟩:=ae.o _ d;obtain⟨b0,b1,b2,b3,b4,b5,b6⟩:=ad.o _ d;simp only at a0 a1 a2 W V U T b0 b1 b2 b3 b4 b5 b6;simp only[Oper.wp,execOp];go_simp
        first
        |exact s _ d (Fp.refl _ _)
        |(with_reducible refine(HC1'.o _).mono ?_);rintro e w2 ⟨rfl,J⟩;exact s _ (d.trans J) J
      refine Bn ?_
      iterate 17 refine Bm ?_
      refine Bl fun w' d=>?_
      .simp only[Aj,Act.put,a0z,a0v,a0u];have I:=Y (ac.o.trans d);have G:=Y (Ag.kept t.o (fun k B=>d.block k (t.o.lt k B).2 (by simp)));clear d;go_wp2_with fail
       go_roundg (b-i)
       case measure=>omega
       case rel=>exact⟨i+1,z,by simp,by omega,by omega,M.o,v.o (E.o Q),G.o,I.o⟩
  .have zi:¬(i:Int)<(b:Int):=(by omega)
   have aw:Hid (B5 l1 a b):=fun p q h1 h2 h3=>HS.o p q h1 h2 (by omega);go_wp2_with fail;go_end0;exact⟨rfl,⟨l1,HT.o,aw.o,an.o⟩,HF.o⟩
end
section
open Go.RowKit Go.Lib
theorem Ack(w:World)(g k n m:Nat)(r:Array Value)(A:w.heap[g]?=some (.cells r 221 (0,0)))(F:k+n*7≤r.size)(G:0<n):∃B,∀y,(Builtin.clear_ #[162] y #[.slice (some ⟨g,k,none⟩) n m]).run Tryz.prog w=.ok (.tuple #[]) (w.setCells g k B):=by
 obtain⟨Z,u⟩:=Aa ((Builtin.zeroCells (Value.agg #[.string ⟨#[]⟩,.string ⟨#[]⟩,.int .u64 0,.int .u64 0,.bool false,.string ⟨#[]⟩,.int .i64 0]).cells n).toList)
 have z:Z.length=n*7:=by rw[<-u];simp[Builtin.zeroCells,Value.cells]
 have c:∀v∈Z,v.oneCell'=true:=by
  intro v t;rw[<-u] at t;simp only[Builtin.zeroCells,Value.cells] at t;obtain⟨i,d⟩:=List.getElem?_of_mem t;simp only[a4w] at d;obtain⟨C,d⟩:=Array.getElem?_eq_some_iff.1 d;simp at d;subst d;have E:i%7<7:=Nat.mod_lt _ (by decide);have s:∀j,j<7->(([Value.string ⟨#[]⟩,.string ⟨#[]⟩,.int .u64 0,.int .u64 0,.bool false,.string ⟨#[]⟩,.int .i64 0]:List Value)[j]?.getD default).oneCell'=true:=by
   intro j h
   match j,h with
   |0,_=>rfl
   |1,_=>rfl
   |2,_=>rfl
   |3,_=>rfl
   |4,_=>rfl
   |5,_=>rfl
   |6,_=>rfl
  exact s _ E
 refine⟨Z,fun y=>?_⟩
 have a:=run_storeCells_cells (P:=Tryz.prog) g k Z 0 w (by
  intro j D
  rw[Ab A,Array.getElem?_eq_getElem (by omega)];rfl) (by intro j D;exact Av A _) c
 simp only[Nat.add_zero] at a
 obtain⟨m,rfl⟩:∃m,n=m+1:=⟨n-1,by omega⟩
 simp[Builtin.clear_,run_underlying Tryz.underlying162,Tryz.zeroValue221,u,a]
structure N6(l L:List Ad)(k j:Nat):Prop where
 len:L.length=l.length
 kept:L.take k=Lr l j
 rest:∀m,j-1<=m->Af L m=Af l m
 lt:k<j
 le:j<=l.length
 pos:1<=k
theorem N6.drop{l L:List Ad}{k j:Nat}(h:N6 l L k j)(d:j<l.length)(a:Bc (Af l j) (Af l (j-1))=true):N6 l L k (j+1):=by
 have c:=h.pos;have s:=h.lt;refine⟨h.len,?_,fun m r=>h.rest m (by omega),by omega,d,c⟩;rw[U4,if_neg,a4x]
 .exact h.kept
 .unfold Qa;intro e;rcases of_decide_eq_true e with e|e
  .omega
  .exact absurd (a.symm.trans e) (by decide)
theorem N6.keep{l L:List Ad}{k j:Nat}(h:N6 l L k j)(d:j<l.length)(c:Bc (Af l j) (Af l (j-1))=false):N6 l (L.set k (Af l j)) (k+1) (j+1):=by
 have r:=h.pos;have t:=h.lt
 have a:k<L.length:=by rw[h.len];omega
 refine⟨by rw[a1w];exact h.len,?_,fun m s=>?_,by omega,d,by omega⟩
 .rw[U4,if_pos (by unfold Qa;exact decide_eq_true (Or.inr c)),<-h.kept];rw[a2z (by rw[a1w];exact a),List.getElem_set_self,List.take_set_of_le (a1z _)];rfl
 .rw[aI _ _ _ _ a,if_neg (by omega)];exact h.rest m (by omega)
theorem Yh{l:List Ad}:∀k,k≤l.length→(∀i,i<k→0<i→Bc (Af l i) (Af l (i-1))=false)→Lr l k=l.take k
 |0,_,_=>by rw[List.take_zero];rfl
 |k+1,hk,h=>by
  rw[U4,Yh k (by omega) (fun i c a=>h i (by omega) a),if_pos,a2z (by omega),Qy l (by omega)];unfold Qa;refine decide_eq_true ?_;by_cases e:k=0
  .exact Or.inl e
  .exact Or.inr (h k (by omega) (by omega))
theorem N6.start{l:List Ad}{k:Nat}(d:1<=k)(c:k<l.length)(a:Bc (Af l k) (Af l (k-1))=true)(h:∀i,i<k->0<i->Bc (Af l i) (Af l (i-1))=false):N6 l l k (k+1):=by
 refine⟨rfl,?_,fun _ _=>rfl,by omega,c,d⟩;rw[U4,if_neg,a4x,Yh k (by omega) h];unfold Qa;intro e;rcases of_decide_eq_true e with e|e
 .omega
 .exact absurd (a.symm.trans e) (by decide)
theorem Acl(w:World)(base:Nat)(v:Value)(l:List Ad)(S:Ag A8 w base v l)(hn:l.length≤1000000):
  Calls Tryz.prog 218 #[v,.func (.func 219) #[] #[]] w fun e w'=>(∃v',e=.returned v'/\Ag A8 w' base v' (Lr l l.length))/\∃g,(v.ownBlock=some g∨l.length=0)/\Fp [g] w w':=by
 by_cases W:l.length<2
 .obtain⟨a,cap,rfl,-,-⟩:=S.len;have s:Lr l l.length=l:=by
   rw[Yh l.length (a1z _) (fun i h1 W=>by omega),List.take_length]
  rw[s];have HO:=Y S;have az:∃g,((Value.slice a l.length cap).ownBlock=some g∨l.length=0):=by
   by_cases h0:l.length=0
   .exact⟨0,Or.inr h0⟩
   .obtain⟨g,bk,a8,e,-⟩:=S.open (by omega);exact⟨g,Or.inl (by rw[e];rfl)⟩
  obtain⟨g,hg⟩:=az;have HG:=Y hg;obtain⟨n,C⟩:=Aa l.length;have HN:=Y C;rw[C] at HO HG W ⊢
  have z:(n:Int)<2:=by omega
  clear S s hg C hn;go_in;go_wp2_with fail;go_ret;exact⟨⟨_,rfl,HO.o⟩,g,HG.o,Fp.refl _ _⟩
 obtain⟨g,cap,a8,rfl,b7,hh,ab,-⟩:=S.open (by omega);have bw:=Ae hh;obtain⟨n,C⟩:=Aa l.length;have HN:=Y C;have HO:=Y S;rw[C] at HO W hn ab;rw[C]
 have z:¬(n:Int)<2:=by omega
 have am:=Y nV;clear S hh C;go_in;go_wp2_with fail
 go_loopg [5] n (fun gg vk wr=>∃k:Nat,vk=.int .i64 k/\gg+k=n+1/\1<=k/\k<=n/\(∀i,i<k->0<i->Bc (Af l i) (Af l (i-1))=false)/\Fp [] w wr)
 case atStart=>exact⟨1,rfl,by omega,a1z _,by omega,fun i h1 W=>by omega,Fp.refl _ _⟩
 case round=>
  obtain⟨k,rfl,bx,aw,br,V,B⟩:=hrel;have R:=Y V;have HF:=Y B;clear V B;by_cases hk:k<n
  .have zk:(k:Int)<(n:Int):=(by omega)
   have n1:IntKind.i64.wrap ((k:Int)-1)=((k-1:Nat):Int):=(by rw[a0w];omega)
   have n2:IntKind.i64.wrap ((k:Int)+1)=((k+1:Nat):Int):=(by rw[a0w];omega)
   obtain⟨p,hp⟩:=Aa (k-1);rw[hp] at n1
   have zp:(p:Int)<(n:Int):=(by omega)
   have ag:k<l.length:=(by rw[HN.o];exact hk)
   have aq:p<l.length:=(by rw[HN.o];omega)
   have F:Hid (∀w',Fp [] wr w'->Ie w' g (k*7) (Af l k)):=fun w' B=>Gx ((HO.o.fp HF.o).fp B) ag;have I:Hid (∀w',Fp [] wr w'->Ie w' g (p*7) (Af l p)):=fun w' B=>Gx ((HO.o.fp HF.o).fp B) aq;have A:=Y (fun w=>am.o (Af l k) (Af l p) w);have c:=Y (fun h=>N6.start aw ag h R.o);have u:Hid (Bc (Af l k) (Af l p)=false->∀i,i<k+1->0<i->Bc (Af l i) (Af l (i-1))=false):=fun h i h1 W=>by
    by_cases e:i=k
    .subst e;rw[hp];exact h
    .exact R.o i (by omega) W
   rw[hp] at c;obtain⟨x,hx⟩:=Aa (Af l k);obtain⟨y,hy⟩:=Aa (Af l p);rw[hx] at F A c u;rw[hy] at I A c u;obtain⟨r,hr⟩:=Aa (Bc x y);rw[hr] at A c u;obtain⟨⟨xr,xc,xt,xs,xd,xv⟩,xp⟩:=x;obtain⟨⟨yr,yc,yt,ys,yd,yv⟩,yp⟩:=y;have HC1':Hid (∀w,Calls Tryz.prog 219 #[.agg #[.string xr,.string xc,.int .u64 xt,.int .u64 xs,.bool xd,.string xv,.int .i64 xp],.agg #[.string yr,.string yc,.int .u64 yt,.int .u64 ys,.bool yd,.string yv,.int .i64 yp]] w fun e w'=>e=.returned (.bool r)/\Fp [] w w'):=A;clear hx hy hr A hp;go_wp2_with fail;refine Bo (by kernel_rfl) (by kernel_rfl) ?_
   iterate 11
    apply A1 rfl rfl rfl
    .intro a w D d K hK;have:=d.f 1;have:=d.f 0;have:=d.f 5;(try have:=d.e 1 19);(try have:=d.e 2 20);(try have:=d.e 3 21);(try have:=d.e 6 24);(try have:=d.e 5 23);(try have:=d.e 7 25);(try have:=d.e 8 26);(try have:=d.e 0 18);(try have:=d.e 4 22);(try have:=d.e 9 27);obtain⟨a0,a1,a2,a3,a4,a5,a6⟩:=F.o _ D;obtain⟨b0,b1,b2,b3,b4,b5,b6⟩:=I.o _ D;simp only at a0 a1 a2 a3 a4 a5 a6 b0 b1 b2 b3 b4 b5 b6;simp only[Oper.wp,execOp];go_simp
     first
     |exact hK _ D (Fp.refl _ _)
     |(with_reducible refine(HC1'.o _).mono ?_);rintro e w2 ⟨rfl,B⟩;exact hK _ (D.trans B) B
   refine Bn ?_
   iterate 11 refine Bm ?_
   refine Bl fun w' D=>?_
   .simp only[Aj,Act.put,a0z,a0v,a0u];have T:=Y (HF.o.trans D);clear D;cases r
    .go_wp2_with fail
     go_roundg (gk-1)
     case measure=>omega
     case rel=>exact⟨k+1,by simp,by omega,by omega,by omega,u.o (by first|rfl|trivial),T.o⟩
    .have be:=Y (c.o (by first|rfl|trivial));have an:=Y (HO.o.fp T.o)
     have bo:(k:Int)<=(cap:Int):=(by omega)
     have bn:(k:Int)<=(n:Int):=(by omega)
     have bt:¬cap=k:=(by omega)
     obtain⟨w3,ad⟩:=Bz w';rw[<-ad] at T an ⊢;clear ad F I HC1' u c;go_wp2_with fail;obtain⟨m,hm⟩:=Aa (n-k);rw[hm]
     have bs:k+m=n:=(by omega)
     clear hm
     go_loopg [5,7] m (fun gg vk vj wt=>∃(kk t:Nat) (L:List Ad),vk=.int .i64 kk/\vj=.int .i64 t/\gg+t=m+1/\1<=t/\t<=m/\N6 l L kk (k+t)/\Ag A8 wt base (.slice (some ⟨g,0,none⟩) n cap) L/\Fp [g] w wt)
     case atStart=>exact⟨k,1,l,rfl,rfl,by omega,a1z _,by omega,be.o,an.o,T.o.mono (by simp)⟩
     case round=>
      obtain⟨kk,t,L,rfl,rfl,bz,b9,b8,s,S,B⟩:=hrel;have J:=Y s;have O:=Y S;have ao:=Y B;have G:Hid (L.length=n):=s.len.trans HN.o;have bq:=s.pos;have bh:=s.lt;clear s S B;by_cases bv:t<m
      .have z2:(t:Int)<(m:Int):=(by omega)
       have n3:IntKind.i64.wrap ((t:Int)-1)=((t-1:Nat):Int):=(by rw[a0w];omega)
       have n4:IntKind.i64.wrap ((t:Int)+1)=((t+1:Nat):Int):=(by rw[a0w];omega)
       have n5:IntKind.i64.wrap ((kk:Int)+1)=((kk+1:Nat):Int):=(by rw[a0w];omega)
       obtain⟨p,hp⟩:=Aa (t-1);rw[hp] at n3
       have zp:(p:Int)<(m:Int):=(by omega)
       have ay:k+t<L.length:=(by rw[G.o];omega)
       have ar:k+p<L.length:=(by rw[G.o];omega)
       have ah:k+t<l.length:=(by rw[HN.o];omega)
       have ac:kk<L.length:=(by rw[G.o];omega)
       have bm:(kk:Int)<(n:Int):=(by omega)
       have F:Hid (∀w',Fp [] wr w'->Ie w' g (k*7+t*7) (Af l (k+t))):=fun w' B=>by
        have h:=Gx (O.o.fp B) ay;rw[J.o.rest _ (by omega),Nat.add_mul] at h;exact h
       have I:Hid (∀w',Fp [] wr w'->Ie w' g (k*7+p*7) (Af l (k+p))):=fun w' B=>by
        have h:=Gx (O.o.fp B) ar;rw[J.o.rest _ (by omega),Nat.add_mul] at h;exact h
       have Q:=Y (fun h=>J.o.drop ah h);have P:=Y (fun h=>J.o.keep ah h);rw[show k+t-1=k+p by omega] at Q P;have A:=Y (fun w=>am.o (Af l (k+t)) (Af l (k+p)) w);obtain⟨x,hx⟩:=Aa (Af l (k+t));obtain⟨y,hy⟩:=Aa (Af l (k+p));rw[hx] at F A Q P;rw[hy] at I A Q P;obtain⟨r,hr⟩:=Aa (Bc x y);rw[hr] at A Q P;obtain⟨⟨xr,xc,xt,xs,xd,xv⟩,xp⟩:=x;obtain⟨⟨yr,yc,yt,ys,yd,yv⟩,yp⟩:=y;have HC1':Hid (∀w,Calls Tryz.prog 219 #[.agg #[.string xr,.string xc,.int .u64 xt,.int .u64 xs,.bool xd,.string xv,.int .i64 xp],.agg #[.string yr,.string yc,.int .u64 yt,.int .u64 ys,.bool yd,.string yv,.int .i64 yp]] w fun e w'=>e=.returned (.bool r)/\Fp [] w w'):=A;clear hx hy hr A hp;go_wp2_with fail;refine Bo (by kernel_rfl) (by kernel_rfl) ?_
       iterate 12
        apply A1 rfl rfl rfl
        .intro a w D d K hK;have:=d.f 1;have:=d.f 6;have:=d.f 7;(try have:=d.e 1 39);(try have:=d.e 2 40);(try have:=d.e 3 41);(try have:=d.e 6 44);(try have:=d.e 5 43);(try have:=d.e 7 45);(try have:=d.e 8 46);(try have:=d.e 0 38);(try have:=d.e 4 42);(try have:=d.e 9 47);(try have:=d.e 10 48);obtain⟨a0,a1,a2,a3,a4,a5,a6⟩:=F.o _ D;obtain⟨b0,b1,b2,b3,b4,b5,b6⟩:=I.o _ D;simp only at a0 a1 a2 a3 a4 a5 a6 b0 b1 b2 b3 b4 b5 b6;simp only[Oper.wp,execOp];go_simp
         first
         |exact hK _ D (Fp.refl _ _)
         |(with_reducible refine(HC1'.o _).mono ?_);rintro e w2 ⟨rfl,B⟩;exact hK _ (D.trans B) B
       refine Bn ?_
       iterate 12 refine Bm ?_
       refine Bl fun w' D=>?_
       .simp only[Aj,Act.put,a0z,a0v,a0u];obtain⟨a0,a1,a2,a3,a4,a5,a6⟩:=F.o _ D;simp only at a0 a1 a2 a3 a4 a5 a6;have M:=Y (ao.o.trans D);have E:=Y (O.o.fp D);obtain⟨w5,N⟩:=Bz w';rw[←N] at M E a0 a1 a2 a3 a4 a5 a6 ⊢;clear D N F I HC1';cases r
        .obtain⟨c0,c1,c2,c3,c4,c5,c6⟩:=Gx E.o ac;obtain⟨-,U,-,-,-,-⟩:=E.o.elem ac;have z0:=U (kk*7);have z1:=U (kk*7+1);have z2:=U (kk*7+2);have z3:=U (kk*7+3);have z4:=U (kk*7+4);have z5:=U (kk*7+5);have z6:=U (kk*7+6);obtain⟨af,aj⟩:=cP ⟨⟨xr,xc,xt,xs,xd,xv⟩,xp⟩ E.o ac;have a9:=Y af;have bc:=Y (M.o.trans aj);have bb:=Y (P.o (by first|rfl|trivial));clear U af aj;go_wp2_with fail
         go_roundg (gk-1)
         case measure=>omega
         case rel=>exact⟨kk+1,t+1,_,by simp,by simp,by omega,by omega,by omega,bb.o,a9.o,bc.o⟩
        .have bd:=Y (Q.o (by first|rfl|trivial));clear a0 a1 a2 a3 a4 a5 a6;go_wp2_with fail
         go_roundg (gk-1)
         case measure=>omega
         case rel=>exact⟨kk,t+1,L,rfl,by simp,by omega,by omega,by omega,bd.o,E.o,M.o⟩
      .have z2:¬(t:Int)<(m:Int):=(by omega)
       have ax:k+t=n:=(by omega)
       have bf:kk<n:=(by omega)
       have ba:Hid (L.take kk=Lr l n):=by
        have h:=J.o.kept;rw[ax] at h;exact h
       obtain⟨g2,bj,al,e2,bi,ai,au,av,ae,ap⟩:=Ag.open O.o (by rw[G.o];omega);rw[G.o] at au e2;cases e2
       have s:¬cap=kk:=(by omega)
       have zc:(n:Int)<=(cap:Int):=(by omega)
       have zi:(kk:Int)<=(n:Int):=(by omega)
       have bp:(kk:Int)<=(cap:Int):=(by omega)
       obtain⟨vs,a7⟩:=Ack wr g (kk*7) (n-kk) (cap-kk) al ai (by rw[ae];show kk*7+(n-kk)*7<=cap*7;omega) (by omega);obtain⟨aa,ak⟩:=Ag.cut (m:=kk) (p:=kk*7) vs O.o (by rw[G.o];omega) (by rw[G.o];omega) rfl;rw[ba.o] at aa;have M:=Y (ao.o.trans ak);have E:=Y aa;obtain⟨w5,N⟩:=Aa (wr.setCells g (kk*7) vs);rw[N] at a7 M E;clear aa ak N ai ae ap av;go_wp2_with fail;go_ret;exact⟨⟨_,rfl,E.o⟩,g,Or.inl rfl,M.o⟩
  .have bg:k=n:=(by omega)
   have s:Lr l n=l:=by
    have:=Yh l.length (a1z _) (fun i h1 W=>R.o i (by have:=HN.o;omega) W);rw[List.take_length,HN.o] at this;exact this
   have J:=Y s
   have zk:¬(k:Int)<(n:Int):=(by omega)
   clear s;go_wp2_with fail;go_ret;exact⟨⟨_,rfl,by rw[J.o];exact HO.o.fp HF.o⟩,g,Or.inl rfl,HF.o.mono (by simp)⟩
end
section
open Go.RowKit
def Yi(c:Ac):Array Value:=#[.string c.row,.string c.col,.int .u64 c.ts,.int .u64 c.seq,.bool c.del,.string c.val]
def E9(c:Ac):List Value:=[.string c.row,.string c.col,.int .u64 c.ts,.int .u64 c.seq,.bool c.del,.string c.val]
def C3(w:World)(b:Nat)(c:Ac):Prop:=w.heap[b]?=some (.cells (Yi c) 80 (0,0))
theorem C3.cell{w:World}{b:Nat}{c:Ac}(h:C3 w b c)(o:Nat):w.cell? ⟨b,o,none⟩=(Yi c)[o]?:=Ab h o
theorem C3.free{w:World}{b:Nat}{c:Ac}(h:C3 w b c)(o:Nat):w.frozen? ⟨b,o,none⟩=false:=Av h o
theorem C3.fp{w w':World}{b:Nat}{c:Ac}{S:List Nat}(h:C3 w b c)(a:Fp S w w')(d:b∉S:=by simp):C3 w' b c:=(a.block b (Ae h) d).trans h
theorem C3.set{w:World}{b:Nat}{c c':Ac}(h:C3 w b c)(o:Nat)(v:Value)(e:(Yi c).setIfInBounds o v=Yi c'):C3 (w.setCell ⟨b,o,none⟩ v) b c':=by
 unfold C3;rw[Cf h,e]
theorem C3.cells{w:World}{b:Nat}{c:Ac}(h:C3 w b c):J1 w b 0 c:=⟨h.cell 0,h.cell 1,h.cell 2,h.cell 3,h.cell 4,h.cell 5⟩
theorem Acm{w:World}{b o:Nat}{c:Ac}(h:J1 w b o c)(j:Nat)(u:Value)(a:(E9 c)[j]?=some u):w.cell? ⟨b,o+j,none⟩=some u:=by
 match j,a with
 |0,a=>simp[E9] at a;subst a;exact h.c0
 |1,a=>simp[E9] at a;subst a;exact h.c1
 |2,a=>simp[E9] at a;subst a;exact h.c2
 |3,a=>simp[E9] at a;subst a;exact h.c3
 |4,a=>simp[E9] at a;subst a;exact h.c4
 |5,a=>simp[E9] at a;subst a;exact h.c5
 |j+6,a=>simp[E9] at a
theorem Yj(l:List Ac):(l.flatMap E9).length=l.length*6:=by
 induction l with
 |nil=>rfl
 |cons c l ih=>rw[List.flatMap_cons,List.length_append,ih,List.length_cons];show 6+_ =_;omega
theorem cQ(l:List Ac)(i j:Nat)(d:j<6)(a:i<l.length):(l.flatMap E9)[i*6+j]?=(E9 l[i])[j]?:=by
 induction l generalizing i with
 |nil=>exact absurd a (Nat.not_lt_zero _)
 |cons c l ih=>
  rw[List.flatMap_cons]
  cases i with
  |zero=>rw[a3z (by show 0*6+j<6;omega)];simp
  |succ i=>
   rw[List.getElem?_append_right (by show 6<=(i+1)*6+j;omega)]
   have e:(i+1)*6+j-(E9 c).length=i*6+j:=(by show(i+1)*6+j-6=_;omega)
   rw[e];exact ih i (by simpa using a)
theorem cR{w:World}{b o:Nat}{l:List Ac}(h:∀i (c:i<l.length),J1 w b (o+i*6) l[i])(j:Nat)(u:Value)(a:(l.flatMap E9)[j]?=some u):w.cell? ⟨b,o+j,none⟩=some u:=by
 have d:j<l.length*6:=by rw[<-Yj];exact(List.getElem?_eq_some_iff.1 a).1
 have c:j/6<l.length:=by omega
 have k:j%6<6:=Nat.mod_lt _ (by decide)
 have e:j=j/6*6+j%6:=by omega
 rw[e,cQ l _ _ k c] at a;have:=Acm (h _ c) _ _ a;rw[e,<-Nat.add_assoc];exact this
def Ap(w:World)(base:Nat)(v:Value)(l:List Ac):Prop:=w.ownsRow base 80 6 v l.length (l.flatMap E9)
theorem Ap.nil(w:World)(base:Nat):Ap w base (.slice none 0 0) []:=World.ownsRow_nil w base _ _
theorem Ap.mono{w:World}{base base':Nat}{v:Value}{l:List Ac}(h:Ap w base v l)(s:base'<=base):Ap w base' v l:=by
 obtain⟨t,a⟩:=h;refine⟨t,?_⟩;rcases a with a|⟨g,cap,c,d,k,r⟩
 .exact Or.inl a
 .exact Or.inr ⟨g,cap,c,d,Nat.le_trans s k,r⟩
theorem Ap.lt{w:World}{base:Nat}{v:Value}{l:List Ac}(h:Ap w base v l):∀k,v.ownBlock=some k->base<=k/\k<w.heap.size:=World.ownsRow.lt h
theorem Ap.kept{w w':World}{base:Nat}{v:Value}{l:List Ac}(h:Ap w base v l)(u:∀k,v.ownBlock=some k->w'.heap[k]?=w.heap[k]?):Ap w' base v l:=by
 obtain⟨y,a⟩:=h;refine⟨y,?_⟩;rcases a with a|⟨g,cap,c,d,t,s,r⟩
 .exact Or.inl a
 .exact Or.inr ⟨g,cap,c,d,t,(u g (by rw[d];rfl)).trans s,r⟩
theorem Ap.fp{w w':World}{base:Nat}{v:Value}{l:List Ac}{S:List Nat}(h:Ap w base v l)(d:Fp S w w')(r:∀i∈S,i<base:=by simp):Ap w' base v l:=
 h.kept fun k a=>d.block k (h.lt k a).2 (fun c=>by have:=r k c;have:=(h.lt k a).1;omega)
theorem Ap.at{w:World}{base:Nat}{v:Value}{l:List Ac}(h:Ap w base v l)(k:∀c∈l,Di c):∃a cap,v=.slice a l.length cap∧Ba w a l.length l:=by
 obtain⟨F,y⟩:=h;rcases y with⟨rfl,z⟩|⟨g,cap,A,rfl,E,r,C,D,B,s⟩
 .have:l=[]:=List.eq_nil_of_length_eq_zero z;subst this;exact⟨none,0,rfl,rfl,Or.inl rfl,by simp⟩
 .refine⟨_,_,rfl,rfl,Or.inr ⟨g,0,rfl,Ae r,fun i u=>?_⟩,k⟩;have d:∀j,j<6→w.cell? ⟨g,0+i*6+j,none⟩=(E9 l[i])[j]?:=by
   intro j t;rw[Ab r,<-cQ l i j t u,<-s,List.getElem?_take,if_pos (by omega),a4w,Nat.zero_add]
  exact⟨d 0 (by decide),d 1 (by decide),d 2 (by decide),d 3 (by decide),d 4 (by decide),d 5 (by decide)⟩
theorem Ap.at2{w:World}{base:Nat}{v:Value}{l:List Ac}(h:Ap w base v l)(k:∀c∈l,Di c):∃a cap,v=.slice a l.length cap∧(a=none→cap=0)∧Ba w a l.length l:=by
 obtain⟨a,cap,e,s⟩:=h.at k;refine⟨a,cap,e,fun r=>?_,s⟩;rcases h.2 with⟨d,_⟩|⟨g,u,t,d,_⟩
 .rw[e] at d
  injection d
 .rw[e,r] at d
  injection d with h2
  cases h2
theorem Ap.made(w:World)(base:Nat)(a:base<=w.heap.size):Ap (w.alloc (.cells #[] 80)) base (.slice (some ⟨w.heap.size,0,none⟩) 0 0) []:=
 World.ownsRow_made w #[] 0 a (by decide) rfl
theorem Tryz.infoCel:(Tryz.prog.info? 80).map (fun i=>(i.zero,i.size,i.bytes))=some (some (.agg #[.string ⟨#[]⟩,.string ⟨#[]⟩,.int .u64 0,.int .u64 0,.bool false,.string ⟨#[]⟩]),6,72):=by kernel_rfl
theorem cS{w w':World}{base:Nat}{v:Value}{l:List Ac}(h:Ap w base v l)(c:w.grownBy w' v.ownBlock)(d:base<=w.heap.size):Below base w w':=
 (Below.refl base w).grown c d (fun k a=>(h.lt k a).1)
theorem cT(l:List Ac):∀u∈l.flatMap E9,u.oneCell'=true:=by
 intro u d;obtain⟨c,_,a⟩:=List.mem_flatMap.1 d;simp only[E9,List.mem_cons,a3x,or_false] at a
 rcases a with rfl|rfl|rfl|rfl|rfl|rfl<;>rfl
theorem Ua{w:World}{A:Array Oper}{rest:List Oper}{o:Oper}{a:Act}{Q:Exit→Act→World→Prop}(B:o.guard=none)(s x:Operand)
  (O:o.op=.call {callee:=.builtin .append,args:=#[s,x],argTypes:=#[78,78]})(base:Nat)(v:Value)(l:List Ac)(N:a.eval s=v)(d:Ap w base v l)
  (z:Option Addr)(m c:Nat)(y:List Ac)(L:a.eval x=.slice z m c)(J:Ba w z m y)(r:z=none->c=0)(P:l.length+y.length<=1000000000)(k:base<=w.heap.size)
  (h:∀C w',Ap w' base C (l++y)->Below base w w'->wpList Tryz.prog A Q rest (a.put o.dst C) w'):wpList Tryz.prog A Q (o::rest) a w:=by
 obtain⟨K,R,F,E,D⟩:=info_parts Tryz.infoCel;have I:=J.len
 cases z with
 |none=>
  have:y=[]:=by
   rcases J.cells with t|⟨b,o,t,_⟩
   .exact t
   .cases t
  subst this;obtain rfl:=r rfl;have G:m=0:=I;subst G;refine wpList_append_own_none B s x 78 O base 80 K 6 Tryz.underlying78 R v l.length (l.flatMap E9) N d L ?_;exact h v w (by rw[a4x];exact d) (Below.refl _ _)
 |some z=>
  refine wpList_append_own w B s x 78 O base 80 K _ 6 72 Tryz.underlying78 R F E D rfl (by decide) v l.length (l.flatMap E9) N d z m c (y.flatMap E9) L (by rw[Yj,I]) ?_ (cT y) (by unfold maxLen;omega) (by omega) k ?_
  .intro j u M;rcases J.cells with t|⟨b,o,t,_,S⟩
   .subst t;simp at M
   .obtain rfl:=Option.some.inj t
    have V:(⟨b,o,none⟩:Addr).add j=⟨b,o+j,none⟩:=(by unfold Addr.add;split<;>simp_all)
    rw[V];exact cR S j u M
  .intro C w' U T _;refine h C w' ?_ (cS d T k);unfold Ap;rw[List.length_append,List.flatMap_append,<-I];exact U
theorem C3.one{w:World}{b:Nat}{c:Ac}(h:C3 w b c)(a:Di c):Ba w (some ⟨b,0,none⟩) 1 [c]:=
 ⟨rfl,Or.inr ⟨b,0,rfl,Ae h,fun i d=>by
  obtain rfl:i=0:=by simpa using d
  exact h.cells⟩,by simpa using a⟩
theorem C3.facts0{w:World}{b:Nat}{c:Ac}(h:C3 w b c):
  w.cell? ⟨b,0,none⟩=some (.string c.row)/\w.cell? ⟨b,1,none⟩=some (.string c.col)/\w.cell? ⟨b,2,none⟩=some (.int .u64 c.ts)/\
  w.cell? ⟨b,3,none⟩=some (.int .u64 c.seq)/\w.cell? ⟨b,4,none⟩=some (.bool c.del)/\w.cell? ⟨b,5,none⟩=some (.string c.val)/\
  w.frozen? ⟨b,0,none⟩=false/\w.frozen? ⟨b,1,none⟩=false/\w.frozen? ⟨b,2,none⟩=false/\w.frozen? ⟨b,3,none⟩=false/\w.frozen? ⟨b,4,none⟩=false/\w.frozen? ⟨b,5,none⟩=false:=
 ⟨h.cell 0,h.cell 1,h.cell 2,h.cell 3,h.cell 4,h.cell 5,h.free 0,h.free 1,h.free 2,h.free 3,h.free 4,h.free 5⟩
theorem C3.facts{w:World}{b:Nat}{c:Ac}(h:C3 w b c):
  (∀X:Obj,(w.alloc X).cell? ⟨b,0,none⟩=some (.string c.row))/\(∀X:Obj,(w.alloc X).cell? ⟨b,1,none⟩=some (.string c.col))/\(∀X:Obj,(w.alloc X).cell? ⟨b,2,none⟩=some (.int .u64 c.ts))/\
  (∀X:Obj,(w.alloc X).cell? ⟨b,3,none⟩=some (.int .u64 c.seq))/\(∀X:Obj,(w.alloc X).cell? ⟨b,4,none⟩=some (.bool c.del))/\(∀X:Obj,(w.alloc X).cell? ⟨b,5,none⟩=some (.string c.val))/\
  (∀X:Obj,(w.alloc X).frozen? ⟨b,0,none⟩=false)/\(∀X:Obj,(w.alloc X).frozen? ⟨b,1,none⟩=false)/\(∀X:Obj,(w.alloc X).frozen? ⟨b,2,none⟩=false)/\
  (∀X:Obj,(w.alloc X).frozen? ⟨b,3,none⟩=false)/\(∀X:Obj,(w.alloc X).frozen? ⟨b,4,none⟩=false)/\(∀X:Obj,(w.alloc X).frozen? ⟨b,5,none⟩=false):=by
 have k:∀X:Obj,C3 (w.alloc X) b c:=fun X=>h.fp (Fp.alloc w X) a3x;exact⟨fun X=>(k X).cell 0,fun X=>(k X).cell 1,fun X=>(k X).cell 2,fun X=>(k X).cell 3,fun X=>(k X).cell 4,fun X=>(k X).cell 5,fun X=>(k X).free 0,fun X=>(k X).free 1,fun X=>(k X).free 2,fun X=>(k X).free 3,fun X=>(k X).free 4,fun X=>(k X).free 5⟩
end
section
open Go.RowKit Go.Lib
theorem Tryz.infoItm:(Tryz.prog.info? 221).map (fun i=>(i.zero,i.size,i.bytes))=some (some (.agg #[.string ⟨#[]⟩,.string ⟨#[]⟩,.int .u64 0,.int .u64 0,.bool false,.string ⟨#[]⟩,.int .i64 0]),7,80):=by kernel_rfl
theorem cU{w:World}{r:Array Oper}{rest:List Oper}{o:Oper}{a:Act}{Q:Exit→Act→World→Prop}(A:o.guard=none)(s x:Operand)
  (E:o.op=.call {callee:=.builtin .append,args:=#[s,x],argTypes:=#[162,162]})(base:Nat)(v:Value)(l:List Ad)(D:a.eval s=v)(t:Ag A8 w base v l)
  (z:Option Addr)(m c:Nat)(y:List Ad)(C:a.eval x=.slice z m c)(F:Bj A8 w z m y)(d:z=none->c=0)(u:l.length+y.length<=1000000000)(k:base<=w.heap.size)
  (h:∀B w',Ag A8 w' base B (l++y)->Below base w w'->w.grownBy w' v.ownBlock->wpList Tryz.prog r Q rest (a.put o.dst B) w'):wpList Tryz.prog r Q (o::rest) a w:=
 Va (R:=A8) 162 Tryz.underlying162 Tryz.infoItm rfl (by decide) A s x E base v l D t z m c y C F d u k h
def J7(l:List Ac)(k:Nat):List Ad:=(List.range k).map fun i=>⟨l.getD i Aq,i⟩
def C4(l:List Ac):List Ad:=J7 l l.length
theorem nW(l:List Ac)(k:Nat):J7 l (k+1)=J7 l k++[⟨l.getD k Aq,k⟩]:=by
 unfold J7;rw[List.range_succ,List.map_append];rfl
theorem O9(l:List Ac)(k:Nat):(J7 l k).length=k:=by simp[J7]
theorem Acn(w:World)(a:Option Addr)(n cap:Nat)(l:List Ac)(I:Ba w a n l)(hn:n≤1000000):
  Calls Tryz.prog 141 #[.slice a n cap] w fun e w'=>∃v,e=.returned v/\Ag A8 w' w.heap.size v (C4 l)/\Fp [] w w':=by
 have HL:=Y I;have B:=Y I.len;clear I;go_in;go_wp2_with fail
 go_loopg [2,7] n (fun g N T wr=>∃(k:Nat) (v:Value),g+k=n/\v=N/\T=.int .i64 k/\Ag A8 wr w.heap.size v (J7 l k)/\Fp [] w wr)
 case atStart=>exact⟨0,_,by omega,rfl,rfl,Ag.nil _ _,Fp.refl _ _⟩
 case round=>
  obtain⟨k,N,hg,rfl,rfl,O,P⟩:=hrel;have R:=Y O;have E:=Y P;clear O P;have aa:w.heap.size<=wr.heap.size:=E.o.size;by_cases hk:k<n
  .have S:(k:Int)<(n:Int):=(by omega)
   have z:k<l.length:=(by rw[<-B.o];exact hk)
   have t:=nW l k;have y:=O9 l k;have L:=Y y;rw[show l.getD k Aq=l[k] by rw[a1v,a3u z];rfl] at t;obtain⟨b1,D,rfl,_,d⟩:=J2 HL.o z;obtain⟨c,Q⟩:=Aa (l[k]);rw[Q] at d t;obtain⟨r,co,U,V,de,F⟩:=c;have K:=Y t;obtain⟨q0,q1,q2,q3,q4,W⟩:=d wr E.o;simp only at q0 q1 q2 q3 q4 W
   have n1:IntKind.i64.wrap ((k:Int)+1)=((k+1:Nat):Int):=(by rw[a0w];omega)
   have C:Hid (∀D G,Fp [] wr ((wr.alloc D).alloc G)):=fun D G=>(Fp.alloc wr D).alloc' G;clear d Q t y;go_wp2_with (at_builtin;(refine cU rfl _ _ rfl w.heap.size _ (J7 l k) rfl (R.o.fp (C.o _ _)) _ _ _ [⟨⟨r,co,U,V,de,F⟩,k⟩] rfl (Bj.one (Ai (by simp) _)) (fun h=>by cases h) (by have:=L.o;simp;omega) (by simp;omega) ?_);intro v2 w2 s A _;have u:=Y s;have M:=Y A;clear s A)
   go_roundg (gk-1)
   case measure=>omega
   case rel=>exact⟨k+1,_,by omega,rfl,by simp,by rw[K.o];exact u.o,(E.o.trans (C.o _ _)).belowTrans M.o⟩
  .have S:¬(k:Int)<(n:Int):=(by omega)
   have J:k=l.length:=by have:=B.o;omega
   have s:=R.o;rw[J] at s;have u:=Y s;clear s;go_wp2_with fail;go_ret;exact⟨_,rfl,u.o,E.o⟩
theorem nX(w:World)(a:Option Addr)(n cap:Nat)(l:List Ad)(s:Bj A8 w a n l)(d:a=none→cap=0)(F:n≤1000000):
  Calls Tryz.prog 144 #[.slice a n cap] w fun e w'=>∃C,e=.returned C/\Ag A8 w' w.heap.size C l/\Fp [] w w':=by
 have B:=Y s;have z:=Y s.len;have D:∀(w:World) (a:Option Addr) (n c t c':Nat),(binOp .eql 162 (.slice a n c) (.slice none t c')).run Tryz.prog w=.ok (.bool a.isNone) w:=fun w a n c t c'=>Lib.run_eql_slice_nil w _ _ a n c t c' Tryz.underlying162
 cases a with
 |none=>
  obtain rfl:=d rfl;have v:l=[]:=by
   rcases s.cells with h|⟨b,o,h,_⟩
   .exact h
   .cases h
  subst v;have u:n=0:=s.len;subst u;clear s d;go_in;go_wp2_with fail;go_ret;exact⟨_,rfl,Ag.nil _ _,Fp.refl _ _⟩
 |some ad=>
  clear s d;go_in;go_wp2_with (at_builtin;refine cU rfl _ _ rfl w.heap.size _ [] rfl (Ag.made w _ (a1z _)) _ _ _ l rfl (B.o.fp (Fp.alloc _ _)) (by intro h;cases h) (by have:=z.o;simp;omega) (by simp) ?_;intro E w2 k r _;have y:=Y k;have A:=Y r;clear k r);go_ret;exact⟨_,rfl,y.o,(Fp.alloc w _).belowTrans (A.o.mono (by simp))⟩
end
structure Pe(k:List Ad)(n j:Nat):Prop where
 par:∀i,0<i->i<n->i≠j->Aw (Af k ((i-1)/2)) (Af k i)
 grand:∀i,0<i->i<n->0<j->(i-1)/2=j->Aw (Af k ((j-1)/2)) (Af k i)
def Hm(k:List Ad)(n:Nat):Prop:=∀i,0<i->i<n->Aw (Af k ((i-1)/2)) (Af k i)
theorem Pe.done{k:List Ad}{n j:Nat}(h:Pe k n j)(c:j=0∨Aw (Af k ((j-1)/2)) (Af k j)):Hm k n:=by
 intro i r d;by_cases e:i=j
 .subst e;rcases c with a|a
  .omega
  .exact a
 .exact h.par i r d e
theorem Pe.step{k:List Ad}{n j:Nat}(s:Be k)(h:Pe k n j)(G:n≤k.length)(F:0<j)(I:j<n)(r:Aw (Af k j) (Af k ((j-1)/2))):Pe (I4 k ((j-1)/2) j) n ((j-1)/2):=by
 obtain⟨p,y⟩:=Aa ((j-1)/2);rw[y] at r ⊢
 have D:p<j:=by omega
 have a:p<k.length:=by omega
 have c:j<k.length:=by omega
 refine⟨fun i v u z=>?_,fun i v u z E=>?_⟩
 .rw[I5 _ a c,I5 i a c];by_cases d:i=j
  .subst d;rw[y,if_neg (by omega),if_pos rfl,if_pos rfl];exact r
  .rw[if_neg d,if_neg z];by_cases B:(i-1)/2=j
   .rw[if_pos B];have:=h.grand i v u F B;rw[y] at this;exact this
   .rw[if_neg B];by_cases A:(i-1)/2=p
    .rw[if_pos A];have t:=h.par i v u d;rw[A] at t;exact Aw.trans (s.at _) (s.at _) (s.at _) r t
    .rw[if_neg A];exact h.par i v u d
 .have C:Aw (Af k ((p-1)/2)) (Af k p):=h.par p z (by omega) (by omega);rw[I5 _ a c,I5 i a c,if_neg (by omega),if_neg (by omega)];by_cases d:i=j
  .rw[if_pos d];exact C
  .rw[if_neg d,if_neg (by omega)];have t:=h.par i v u d;rw[E] at t;exact Aw.trans (s.at _) (s.at _) (s.at _) C t
structure N7(k:List Ad)(n i:Nat):Prop where
 par:∀c,0<c->c<n->(c-1)/2≠i->Aw (Af k ((c-1)/2)) (Af k c)
 grand:∀c,0<c->c<n->(c-1)/2=i->0<i->Aw (Af k ((i-1)/2)) (Af k c)
theorem N7.done{k:List Ad}{n i:Nat}(h:N7 k n i)(r:∀c,0<c->c<n->(c-1)/2=i->Aw (Af k i) (Af k c)):Hm k n:=by
 intro c d a;by_cases e:(c-1)/2=i
 .rw[e];exact r c d a e
 .exact h.par c d a e
theorem N7.step{k:List Ad}{n i j:Nat}(h:N7 k n i)(G:n≤k.length)(A:0<j)(E:j<n)(y:(j-1)/2=i)(r:∀c,0<c→c<n→(c-1)/2=i→Aw (Af k j) (Af k c))(z:Aw (Af k j) (Af k i)):N7 (I4 k i j) n j:=by
 have F:i<j:=by omega
 have d:i<k.length:=by omega
 have a:j<k.length:=by omega
 refine⟨fun c v u B=>?_,fun c v u B I=>?_⟩
 .rw[I5 _ d a,I5 c d a,if_neg B];by_cases t:(c-1)/2=i
  .rw[if_pos t];by_cases s:c=j
   .rw[if_pos s];exact z
   .rw[if_neg s,if_neg (by omega)];exact r c v u t
  .rw[if_neg t];by_cases s:c=j
   .subst s;exact absurd y t
   .rw[if_neg s];by_cases C:c=i
    .rw[if_pos C];have:=h.grand j A E y (by omega);rw[C];exact this
    .rw[if_neg C];exact h.par c v u t
 .rw[y,I5 _ d a,I5 c d a,if_neg (by omega),if_pos rfl,if_neg (by omega),if_neg (by omega)];have D:=h.par c v u (by omega);rw[B] at D;exact D
theorem Hm.root{k:List Ad}{n:Nat}(a:Be k)(h:Hm k n):∀i,i<n→Aw (Af k 0) (Af k i):=by
 intro i
 induction i using Nat.strongRecOn with
 |_ i ih=>
  intro c;by_cases e:i=0
  .subst e;exact Int.le_of_eq (Oq (a.at _))
  .exact Aw.trans (a.at _) (a.at _) (a.at _) (ih ((i-1)/2) (by omega) (by omega)) (h i (by omega) c)
theorem Hm.pop{k:List Ad}{n:Nat}(h:Hm k (n+1))(t:k.length=n+1):N7 (I4 k 0 n) n 0:=by
 refine⟨fun c d s a=>?_,fun c d s a r=>absurd r (Nat.lt_irrefl _)⟩;rw[I5 _ (by omega) (by omega),I5 c (by omega) (by omega),if_neg (by omega),if_neg a,if_neg (by omega),if_neg (by omega)];exact h c d (by omega)
theorem Hm.push{k:List Ad}(x:Ad)(h:Hm k k.length):Pe (k++[x]) (k.length+1) k.length:=by
 have A:∀i,i<k.length->Af (k++[x]) i=Af k i:=fun i c=>by unfold Af;rw[a1v,a3z c,a1v]
 refine⟨fun i a r d=>?_,fun i a r d s=>by omega⟩;rw[A _ (by omega),A _ (by omega)];exact h i a (by omega)
theorem Hm.frame{k a:List Ad}{n:Nat}(h:Hm k n)(c:∀i,i<n->Af a i=Af k i):Hm a n:=fun i r d=>by
 rw[c _ (by omega),c _ d];exact h i r d
theorem Aco{x y:Ad}(h:Aw x y)(c:Bc x y=true):y.pos<=x.pos:=by
 unfold Aw at h;rcases Int.lt_or_eq_of_le h with a|a
 .exact Nat.le_of_lt (jG a c)
 .rw[(jF a).2];exact a1z _
structure L1(done out:List Ad):Prop where
 res:Bf done out
theorem L1.nil:L1 [] []:=⟨Bf.nil⟩
theorem nY{l:List Ad}(h:0<l.length):Af l (l.length-1)∈l:=by
 rw[Md (by omega)];exact a0x _
theorem Dv.last{l:List Ad}(h:Dv l){x:Ad}(a:x∈l):x=Af l (l.length-1)∨Bv x (Af l (l.length-1))<0:=by
 obtain⟨i,c,e⟩:=List.mem_iff_getElem.1 a;rw[Md (by omega)];by_cases d:i=l.length-1
 .left;subst d;exact e.symm
 .right;rw[<-e];exact List.pairwise_iff_getElem.1 h i (l.length-1) c (by omega) (by omega)
theorem L1.skip{done out:List Ad}{x:Ad}(h:L1 done out)(k:∀y∈done,Aw y x)(t:0<out.length)(r:Bc (Af out (out.length-1)) x=true):L1 (done++[x]) out:=by
 have s:=nY t;refine⟨⟨h.res.ris,fun y a=>a1x _ (h.res.sub y a),fun y a z d c=>?_,fun y a=>?_⟩⟩
 .rcases List.mem_append.1 d with d|d
  .exact h.res.last y a z d c
  .rw[List.mem_singleton.1 d] at c ⊢;exact Aco (k y (h.res.sub y a)) c
 .rcases List.mem_append.1 a with a|a
  .exact h.res.cov y a
  .rw[List.mem_singleton.1 a];exact⟨_,s,r⟩
theorem L1.take{done out:List Ad}{x:Ad}(s:Be done)(B:B9 x)(h:L1 done out)(u:∀y∈done,Aw y x)(C:out.length=0∨Bc (Af out (out.length-1)) x=false):L1 (done++[x]) (out++[x]):=by
 have r:∀y∈out,Bv y x<0:=fun y a=>by
  have F:0<out.length:=List.length_pos_of_mem a;have A:=nY F;have k:Bc (Af out (out.length-1)) x=false:=C.resolve_left (by omega);rw[U2] at k;have E:Bv (Af out (out.length-1)) x<0:=by
   have:=Xk (u _ (h.res.sub _ A));omega
  rcases h.res.ris.last a with e|e
  .rw[e];exact E
  .exact jH (s y (h.res.sub y a)) (s _ (h.res.sub _ A)) B e (by omega)
 refine⟨⟨?_,fun y a=>?_,fun y a z c d=>?_,fun y a=>?_⟩⟩
 .refine List.pairwise_append.2 ⟨h.res.ris,List.pairwise_singleton _ _,fun y a z c=>?_⟩;rw[List.mem_singleton.1 c];exact r y a
 .rcases List.mem_append.1 a with a|a
  .exact a1x _ (h.res.sub y a)
  .exact a1u _ a
 .rcases List.mem_append.1 a with a|a
  .rcases List.mem_append.1 c with c|c
   .exact h.res.last y a z c d
   .rw[List.mem_singleton.1 c] at d;have:=r y a;have:=(K5 _ _).1 d;omega
  .rw[List.mem_singleton.1 a] at d ⊢;rcases List.mem_append.1 c with c|c
   .obtain⟨v,t,k⟩:=h.res.cov z c;have:=r v t;have D:Bc v x=true:=Mc k (by rw[Qx];exact d);have:=(K5 _ _).1 D;omega
   .rw[List.mem_singleton.1 c];exact a1z _
 .rcases List.mem_append.1 a with a|a
  .obtain⟨z,c,k⟩:=h.res.cov y a;exact⟨z,a1x _ c,k⟩
  .rw[List.mem_singleton.1 a];exact⟨x,a1u _ (List.mem_singleton.2 rfl),Xj _⟩
theorem Bf.perm{a b r:List Ad}(h:Bf a r)(k:∀x,x∈b↔x∈a):Bf b r:=
 ⟨h.ris,fun x d=>(k x).2 (h.sub x d),fun x d y c=>h.last x d y ((k y).1 c),fun y c=>h.cov y ((k y).1 c)⟩
theorem Dv.first{x:Ad}{r:List Ad}(c:B9 x)(h:Dv (x::r)):∀y∈x::r,Aw x y:=by
 intro y a;rcases List.mem_cons.1 a with e|e
 .subst e;exact Int.le_of_eq (Oq c)
 .have k:=(List.pairwise_cons.1 h).1 y e;unfold Aw
  rcases Nu x y with⟨_,d⟩|⟨d,_⟩<;>omega
structure Fa(all:List Ad)(rs:List (List Ad)):Prop where
 ris:∀r∈rs,Dv r
 sub:∀r∈rs,∀x∈r,x∈all
 cov:∀y∈all,∃r∈rs,∃x∈r,Bc x y=true/\y.pos<=x.pos
theorem Dv.same{r:List Ad}(a:Be r)(h:Dv r){x y:Ad}(t:x∈r)(s:y∈r)(z:Bc x y=true):x=y:=by
 obtain⟨i,v,k⟩:=List.mem_iff_getElem.1 t;obtain⟨j,u,d⟩:=List.mem_iff_getElem.1 s;have B:=(K5 x y).1 z;have A:=Ot (a x t) (a y s);rcases Nat.lt_trichotomy i j with c|c|c
 .have:=List.pairwise_iff_getElem.1 h i j v u c;rw[k,d] at this;omega
 .subst c;rw[<-k,<-d]
 .have:=List.pairwise_iff_getElem.1 h j i u v c;rw[k,d] at this;omega
theorem Fa.one{all r:List Ad}(v:Be all)(h:Fa all [r]):Bf all r:=by
 have u:Be r:=fun x t=>v x (h.sub r (List.mem_singleton.2 rfl) x t);have A:=h.ris r (List.mem_singleton.2 rfl);refine⟨A,h.sub r (List.mem_singleton.2 rfl),fun x t y s C=>?_,fun y s=>?_⟩
 .obtain⟨B,c,z,k,a,d⟩:=h.cov y s;rw[List.mem_singleton.1 c] at k;have:z=x:=A.same u k t (Mc a (by rw[Qx];exact C));rw[<-this];exact d
 .obtain⟨B,c,z,k,a,d⟩:=h.cov y s;rw[List.mem_singleton.1 c] at k;exact⟨z,k,a⟩
theorem Fa.none{all:List Ad}(h:Fa all []):all=[]:=by
 cases all with
 |nil=>rfl
 |cons x l=>
  obtain⟨r,a,_⟩:=h.cov x List.mem_cons_self;cases a
theorem cV{x y:Ad}(h:Bc x y=true):Bc y x=true:=by rw[Qx];exact h
theorem nZ{x y:Ad}(z:Ad)(a:B9 z)(d:B9 x)(c:B9 y)(h:Bc x y=true):Bv z x=Bv z y:=by
 have s:=U3 z h;have r:=Ot a d;have k:=Ot a c;omega
theorem Yk{r:List Ad}(h:Dv r){i j:Nat}(a:i<j)(c:j<r.length):Bv (r[i]'(by omega)) r[j]<0:=List.pairwise_iff_getElem.1 h i j (by omega) c a
section
variable {pre out : List Ad} {x : Ad} {m : Nat}
theorem cW(h:Bf pre out){y:Ad}(c:y∈pre++[x]):(∃z∈out,Bc z y=true)∨y=x:=by
 rcases List.mem_append.1 c with a|a
 .exact Or.inl (h.cov y a)
 .exact Or.inr (List.mem_singleton.1 a)
theorem Acp(F:Be pre)(D:B9 x)(h:Bf pre out)(N:m≤out.length)(G:∀i (B:i<out.length),i<m→Bv out[i] x<0)(I:∀N:m<out.length,0<Bv out[m] x):Bf (pre++[x]) (out.take m++[x]++out.drop m):=by
 have r:Be out:=fun y k=>F y (h.sub y k);have L:∀y∈out.take m,Bv y x<0:=by
  intro y k;obtain⟨i,B,rfl⟩:=List.mem_iff_getElem.1 k;rw[List.length_take] at B;rw[List.getElem_take];exact G i (by omega) (by omega)
 have K:∀y∈out.drop m,Bv x y<0:=by
  intro y k;obtain⟨i,B,rfl⟩:=List.mem_iff_getElem.1 k;rw[List.length_drop] at B;rw[List.getElem_drop];have c:=I (by omega);have s:=Ot (r _ (a0x (show m<out.length by omega))) D;rcases Nat.eq_zero_or_pos i with rfl|P
  .have:Bv x (out[m+0]'(by omega))=Bv x (out[m]'(by omega)):=rfl;omega
  .exact jH D (r _ (a0x (show m<out.length by omega))) (r _ (a0x _)) (by omega) (Int.le_of_lt (Yk h.ris (show m<m+i by omega) (by omega)))
 have d:∀z,z∈out.take m++[x]++out.drop m↔z∈out∨z=x:=by
  intro z;have e:z∈out↔z∈out.take m∨z∈out.drop m:=by
   rw[<-a2w,a2x]
  rw[a2w,a2w,List.mem_singleton,e];constructor
  .rintro((c|c)|c)
   .exact Or.inl (Or.inl c)
   .exact Or.inr c
   .exact Or.inl (Or.inr c)
  .rintro((c|c)|c)
   .exact Or.inl (Or.inl c)
   .exact Or.inr c
   .exact Or.inl (Or.inr c)
 have A:∀z∈out,Bc z x=false:=by
  intro z t;rw[U2];rw[<-a2x m out,a2w] at t;rcases t with c|c
  .have:=L z c;omega
  .have s:=K z c;have O:=Ot (r z (List.mem_of_mem_drop c)) D;omega
 have u:=List.pairwise_append.1 (show Dv (out.take m++out.drop m) by rw[a2x];exact h.ris);refine⟨?_,fun z t=>?_,fun z t y k v=>?_,fun y k=>?_⟩
 .refine List.pairwise_append.2 ⟨List.pairwise_append.2 ⟨u.1,List.pairwise_singleton _ _,fun a J b C=>?_⟩,u.2.1,fun a J b C=>?_⟩
  .rw[List.mem_singleton.1 C];exact L a J
  .rcases List.mem_append.1 J with c|c
   .exact u.2.2 a c b C
   .rw[List.mem_singleton.1 c];exact K b C
 .rcases(d z).1 t with c|c
  .exact a1x _ (h.sub z c)
  .rw[c];exact a1u _ (List.mem_singleton.2 rfl)
 .rcases(d z).1 t with c|c
  .rcases List.mem_append.1 k with s|s
   .exact h.last z c y s v
   .rw[List.mem_singleton.1 s] at v;rw[A z c] at v;cases v
  .subst c;rcases List.mem_append.1 k with s|s
   .obtain⟨q,M,E⟩:=h.cov y s;have:=A q M;rw[Mc E (cV v)] at this;cases this
   .rw[List.mem_singleton.1 s];exact a1z _
 .rcases cW h k with⟨z,t,v⟩|rfl
  .exact⟨z,(d z).2 (Or.inl t),v⟩
  .exact⟨y,(d y).2 (Or.inr rfl),Xj _⟩
theorem Acr(h:Bf pre out)(u:m<out.length)(t:Bc out[m] x=true)(v:x.pos≤out[m].pos)(r:Be out):Bf (pre++[x]) out:=by
 refine⟨h.ris,fun z c=>a1x _ (h.sub z c),fun z c y k a=>?_,fun y k=>?_⟩
 .rcases List.mem_append.1 k with s|s
  .exact h.last z c y s a
  .rw[List.mem_singleton.1 s] at a ⊢;have e:=h.ris.same r c (a0x u) (Mc a (cV t));rw[e];exact v
 .rcases cW h k with⟨z,c,d⟩|rfl
  .exact⟨z,c,d⟩
  .exact⟨_,a0x u,t⟩
theorem Acs(I:Be pre)(G:B9 x)(h:Bf pre out)(F:m<out.length)(A:Bc out[m] x=true)(O:out[m].pos≤x.pos):Bf (pre++[x]) (out.set m x):=by
 have r:Be out:=fun y v=>I y (h.sub y v);have D:=r _ (a0x F)
 have c:∀i (a:i<out.length),(out.set m x)[i]'(by rw[a1w];exact a)=if m=i then x else out[i]:=fun i a=>by rw[List.getElem_set]
 have u:∀i (a:i<out.length),i≠m->Bc out[i] x=false:=by
  intro i a u;rw[U2];rcases Nat.lt_or_gt_of_ne u with L|L
  .have d:=Yk h.ris L F;rw[nZ _ (r _ (a0x a)) D G A] at d;omega
  .have d:=Yk h.ris L a;rw[U3 _ A] at d;have P:=Ot (r _ (a0x a)) G;omega
 have s:∀z∈out.set m x,z=x∨∃i,∃a:i<out.length,i≠m/\z=out[i]:=by
  intro z t;obtain⟨i,a,rfl⟩:=List.mem_iff_getElem.1 t;rw[a1w] at a;rw[c i a];by_cases e:m=i
  .exact Or.inl (if_pos e)
  .exact Or.inr ⟨i,a,fun h=>e h.symm,if_neg e⟩
 have C:x∈out.set m x:=List.mem_iff_getElem.2 ⟨m,by rw[a1w];exact F,by rw[c m F,if_pos rfl]⟩;refine⟨List.pairwise_iff_getElem.2 fun i j a J K=>?_,fun z t=>?_,fun z t y v k=>?_,fun y v=>?_⟩
 .rw[a1w] at a J;rw[c i a,c j J];have d:=Yk h.ris K J;by_cases N:m=i
  .rw[if_pos N,if_neg (by omega)];subst N;rw[<-U3 _ A];exact d
  .rw[if_neg N];by_cases M:m=j
   .rw[if_pos M];subst M;rw[<-nZ _ (r _ (a0x a)) D G A];exact d
   .rw[if_neg M];exact d
 .rcases s z t with rfl|⟨i,a,-,rfl⟩
  .exact a1u _ (List.mem_singleton.2 rfl)
  .exact a1x _ (h.sub _ (a0x a))
 .rcases s z t with rfl|⟨i,a,E,rfl⟩
  .rcases List.mem_append.1 v with d|d
   .have:=h.last _ (a0x F) y d (Mc A k);omega
   .rw[List.mem_singleton.1 d];exact a1z _
  .rcases List.mem_append.1 v with d|d
   .exact h.last _ (a0x a) y d k
   .rw[List.mem_singleton.1 d,u i a E] at k;cases k
 .rcases cW h v with⟨z,t,B⟩|rfl
  .obtain⟨i,a,rfl⟩:=List.mem_iff_getElem.1 t;by_cases e:i=m
   .subst e;exact⟨x,C,Mc (cV A) B⟩
   .exact⟨out[i],List.mem_iff_getElem.2 ⟨i,by rw[a1w];exact a,by rw[c i a,if_neg (fun h=>e h.symm)]⟩,B⟩
  .exact⟨y,C,Xj _⟩
end
section
open Go.RowKit Go.Lib
def Dm:Hv Ad:={A8 with e:=94}
theorem Tryz.infoRi:(Tryz.prog.info? 94).map (fun i=>(i.zero,i.size,i.bytes))=some (some (.agg #[.string ⟨#[]⟩,.string ⟨#[]⟩,.int .u64 0,.int .u64 0,.bool false,.string ⟨#[]⟩,.int .i64 0]),7,80):=by kernel_rfl
theorem oC{w:World}{r:Array Oper}{rest:List Oper}{o:Oper}{a:Act}{Q:Exit→Act→World→Prop}(A:o.guard=none)(s x:Operand)
  (E:o.op=.call {callee:=.builtin .append,args:=#[s,x],argTypes:=#[89,89]})(base:Nat)(v:Value)(l:List Ad)(D:a.eval s=v)(t:Ag Dm w base v l)
  (z:Option Addr)(m c:Nat)(y:List Ad)(C:a.eval x=.slice z m c)(F:Bj Dm w z m y)(d:z=none->c=0)(u:l.length+y.length<=1000000000)(k:base<=w.heap.size)
  (h:∀B w',Ag Dm w' base B (l++y)->Below base w w'->w.grownBy w' v.ownBlock->wpList Tryz.prog r Q rest (a.put o.dst B) w'):wpList Tryz.prog r Q (o::rest) a w:=
 Va (R:=Dm) 89 Tryz.underlying89 Tryz.infoRi rfl (by decide) A s x E base v l D t z m c y C F d u k h
theorem Acu(w:World)(a:Option Addr)(n cap:Nat)(l:List Ac)(G:Ba w a n l)(hn:n≤1000000):
  Calls Tryz.prog 42 #[.slice a n cap] w fun e w'=>∃v,e=.returned v/\Ag Dm w' w.heap.size v (C4 l)/\Fp [] w w':=by
 have HL:=Y G;have B:=Y G.len;clear G;go_in;go_wp2_with fail
 go_loopg [3,4] n (fun g M S wr=>∃(k:Nat) (v:Value),g+k=n/\v=M/\S=.int .i64 k/\Ag Dm wr w.heap.size v (J7 l k)/\Fp [] w wr)
 case atStart=>exact⟨0,_,by omega,rfl,rfl,Ag.made _ _ (a1z _),Fp.alloc _ _⟩
 case round=>
  obtain⟨k,M,hg,rfl,rfl,N,O⟩:=hrel;have Q:=Y N;have E:=Y O;clear N O;have aa:w.heap.size<=wr.heap.size:=E.o.size;by_cases hk:k<n
  .have R:(k:Int)<(n:Int):=(by omega)
   have z:k<l.length:=(by rw[<-B.o];exact hk)
   have t:=nW l k;have y:=O9 l k;have K:=Y y;rw[show l.getD k Aq=l[k] by rw[a1v,a3u z];rfl] at t;obtain⟨b1,D,rfl,_,d⟩:=J2 HL.o z;obtain⟨c,P⟩:=Aa (l[k]);rw[P] at d t;obtain⟨r,co,T,U,de,F⟩:=c;have J:=Y t;obtain⟨q0,q1,q2,q3,W,V⟩:=d wr E.o;simp only at q0 q1 q2 q3 W V
   have n1:IntKind.i64.wrap ((k:Int)+1)=((k+1:Nat):Int):=(by rw[a0w];omega)
   have C:Hid (∀D,Fp [] wr (wr.alloc D)):=fun D=>Fp.alloc wr D;clear d P t y;go_wp2_with (at_builtin;(refine oC rfl _ _ rfl w.heap.size _ (J7 l k) rfl (Q.o.fp (C.o _)) _ _ _ [⟨⟨r,co,T,U,de,F⟩,k⟩] rfl (Bj.one (Ai (by simp) _)) (fun h=>by cases h) (by have:=K.o;simp;omega) (by simp;omega) ?_);intro v2 w2 s A _;have u:=Y s;have L:=Y A;clear s A)
   go_roundg (gk-1)
   case measure=>omega
   case rel=>exact⟨k+1,_,by omega,rfl,by simp,by rw[J.o];exact u.o,(E.o.trans (C.o _)).belowTrans L.o⟩
  .have R:¬(k:Int)<(n:Int):=(by omega)
   have I:k=l.length:=by have:=B.o;omega
   have s:=Q.o;rw[I] at s;have u:=Y s;clear s;go_wp2_with fail;go_ret;exact⟨_,rfl,u.o,E.o⟩
theorem cX(x y:Ad)(w:World):Calls Tryz.prog 80 #[Ic x,Ic y] w fun e w'=>e=.returned (.int .i64 (B8 x y))∧Fp [] w w':=by
 have C:=Y (fun w=>iO (Jj x) (Jj y) w);have d:=Nu x y;rw[show Db (Jj x) (Jj y)=Bv x y from rfl] at C;obtain⟨G,E⟩:=Aa (Bv x y);obtain⟨r,T⟩:=Aa (B8 x y);rw[E] at C d;rw[T] at d ⊢;clear E T;obtain⟨⟨Q,S,P,xs,R,O⟩,c⟩:=x;obtain⟨⟨L,N,K,ys,M,J⟩,a⟩:=y;unfold Ic Jr;unfold A7 Jj at C;simp only at C d ⊢;have k:Hid ((¬G=0∧r=G)∨(G=0∧c<a∧r=1)∨(G=0∧a<c∧r= -1)∨(G=0∧c=a∧r=0)):=by
  rcases d with h|⟨s,B⟩
  .exact Or.inl h
  .right;rcases Nat.lt_trichotomy c a with v|v|v
   .exact Or.inl ⟨s,v,by rw[B,P1 v]⟩
   .exact Or.inr (Or.inr ⟨s,v,by rw[B,R6 (by omega) (by omega)]⟩)
   .exact Or.inr (Or.inl ⟨s,v,by rw[B,P0 v]⟩)
 clear d;obtain⟨W,F⟩:=Bz ((w.alloc (.cells #[.string Q,.string S,.int .u64 P,.int .u64 xs,.bool R,.string O,.int .i64 c] 94)).alloc (.cells #[.string L,.string N,.int .u64 K,.int .u64 ys,.bool M,.string J,.int .i64 a] 94))
 have I:Hid (Fp [] w W):=by rw[F];exact(Fp.alloc _ _).alloc' _
 have A:Hid (W.heap[w.heap.size]?=some (.cells #[.string Q,.string S,.int .u64 P,.int .u64 xs,.bool R,.string O,.int .i64 c] 94 (0,0))):=by
  rw[F];exact Dy (Ai rfl _)
 have z:Hid (W.heap[w.heap.size+1]?=some (.cells #[.string L,.string N,.int .u64 K,.int .u64 ys,.bool M,.string J,.int .i64 a] 94 (0,0))):=by
  rw[F];exact Ai (by simp) _
 go_in;go_wp2_with fail;refine(C.o _).mono ?_;rintro e w2 ⟨rfl,D⟩
 have t:Fp [] W w2:=by rw[F];exact((Fp.alloc _ _).alloc' _).trans D
 have p0:w2.cell? ⟨w.heap.size,6,none⟩=some (.int .i64 c):=by rw[t.cell (Ae A.o) (by simp)];exact Ab A.o 6
 have V:w2.cell? ⟨w.heap.size+1,6,none⟩=some (.int .i64 a):=by rw[t.cell (Ae z.o) (by simp)];exact Ab z.o 6
 have u:=Y (I.o.trans t);clear t D F I A z C;rcases k.o with⟨s,rfl⟩|⟨s,B,rfl⟩|⟨s,B,rfl⟩|⟨s,B,rfl⟩
 .clear k;go_wp2_with fail;go_ret;exact⟨rfl,u.o⟩
 .subst s
  have z1:¬(c:Int)>(a:Int):=by omega
  have U:(c:Int)<(a:Int):=by omega
  clear k;go_wp2_with fail;go_ret;exact⟨rfl,u.o⟩
 .subst s
  have z1:(c:Int)>(a:Int):=by omega
  clear k;go_wp2_with fail;go_ret;exact⟨rfl,u.o⟩
 .subst s
  have z1:¬(c:Int)>(a:Int):=by omega
  have U:¬(c:Int)<(a:Int):=by omega
  clear k;go_wp2_with fail;go_ret;exact⟨rfl,u.o⟩
end
end Go.Proofs.YtkagolpnaicdoaaGreatDoor
