/-
 wal: the closures of write and of Append. Slices of strings that came in. wal: write; bytes; change, Append; Off.
-/
import Derived.Test.YtkagolpnaicdoaaGreatDoorMJobK
import Derived.Test.YtkagolpnaicdoaaGreatDoorMTabG
set_option maxRecDepth 100000
set_option maxHeartbeats 8000000
open Go.Lib renaming hid→a0z
open List renaming setIfInBounds_toArray→a0x,getElem?_cons_succ→a0w,getElem?_cons_zero→a0v,getElem?_toArray→a0u,set_cons_succ→a1z,set_cons_zero→a1x,reverse_cons→a1w,reverse_nil→a1v,cons_append→a1u,take_succ_eq_append_getElem→a2z,nil_append→a2x
namespace Go.Proofs.YtkagolpnaicdoaaGreatDoor
section
open Go.RowKit Go.Lib Go.Maps Go.MapKept Go.ChangeMaps
theorem yP(w:World)(b bm L ql qo:Nat)(lg:Lg)(d:Dk)(other:ByteArray)(hd:Ah w b bm d)(hok:Ap d)(hname:other.size≤maxLen)(hl:B3 w L b lg)(hql:w.heap[ql]?=some (.cells #[.pointer (some ⟨L,0,none⟩)] 119 (0,0)))(hqo:w.heap[qo]?=some (.cells #[.string other] 9 (0,0))):
  Calls Tryz.prog 179 #[.pointer (some ⟨ql,0,none⟩),.pointer (some ⟨qo,0,none⟩)] w fun e w'=>e=.returned (.int .i64 (d.createE other))∧Ah w' b bm (d.create other)∧Fp [b,bm] w w':=by
 have n0:=hl.ne hd;have nql:=E6 hql (by decide) hd;have nqo:=E6 hqo (by decide) hd;have HD:=a0z hd;have HL:=a0z hl;have Hql:=a0z hql;have Hqo:=a0z hqo;have HC:=a0z (fun W (h:Ah W b bm d)=>xM W b bm d other h hok hname);clear hd hl hql hqo
 obtain⟨x,hx⟩:∃x,d.createE other=x:=⟨_,rfl⟩
 obtain⟨d2,hd2⟩:∃x,d.create other=x:=⟨_,rfl⟩
 rw[hx,hd2] at HC ⊢;clear hx hd2;go_enter Tryz.func179,Tryz.ntmps179;go_wp2_with (fail);refine Gj (fun bb w'=>Gx b bm w d d2 (bb 5) w') (fun _ _=>True) (by kernel_rfl) (by kernel_rfl) (Gx.start HD.out) ?_
 iterate 5
  apply Bm (fun _ _ h=>h) rfl rfl rfl
  ·intro b a w hC hA K hK
   try have h0:=hA.fr 0 rfl
   try have h3:=hA.eq 0 3 rfl
   try have h4:=hA.eq 1 4 rfl
   try have h5:=hA.eq 2 5 rfl
   try have h1:=hA.fr 1 rfl
   have rql:=Aa ((hC.fp.block _ (Ab Hql.out) nql).trans Hql.out) 0;have rqo:=Aa ((hC.fp.block _ (Ab Hqo.out) nqo).trans Hqo.out) 0;have g0:=Aa (HL.out.fp hC.fp n0) 0;have g1:=Aa (HL.out.fp hC.fp n0) 1;simp only[E0,a0u,a0w,a0v] at g0 g1 rql rqo;simp only[Oper.wp,execOp];go_simp;exact hK _ hC trivial
 apply Hk (Br (.int .i64 x)) rfl rfl rfl
 ·intro b a w hC hA K hK;have h6:=hA.eq 3 6 rfl;have h7:=hA.eq 4 7 rfl;simp only[Oper.wp,execOp];go_simp;(with_reducible refine(HC.out _ (hC.first hA.self)).mono ?_);rintro e w2 ⟨rfl,hd2,hf2⟩;exact hK _ _ ⟨hd2,hC.fp.trans hf2 (by intro i hi;exact Or.inl hi)⟩ trivial rfl
 apply Bm (fun _ _ h=>h) rfl rfl rfl
 ·intro b a w hC hA K hK;have h8:=hA.eq 5 8 rfl;simp only[Oper.wp,execOp];go_simp;exact hK _ hC trivial
 refine⟨?_,?_⟩
 ·refine B6 _ ?_;refine⟨fun _ _ _ _ h=>h,?_⟩
  iterate 5 refine B6 _ ?_
  exact trivial
 ·intro w' bb hC hbb;simp only[a1w,a1v,a2x,a1u]
  iterate 5 (refine Aq ?_)
  refine Av ?_;intro v5 u5;obtain rfl:=u5
  iterate 1 (refine Aq ?_)
  refine A8 ?_;simp only[Am,Act.put,a0x,a1z,a1x];have hbx:bb 5=true:=hbb 5 (by decide);have hCd:=hC.disk;rw[hbx] at hCd;have HDD:Hid (Ah w' b bm d2):=a0z hCd;have HFF:=a0z hC.fp;clear hC hbb hCd;go_wp2_with (fail);go_ret;exact⟨rfl,HDD.out,HFF.out⟩
theorem yQ(w:World)(b bm L ql qo qs:Nat)(lg:Lg)(d:Dk)(other s:ByteArray)(hd:Ah w b bm d)(hok:Ap d)(hname:other.size≤maxLen)(hs:s.size≤1000000000)(hl:B3 w L b lg)(hql:w.heap[ql]?=some (.cells #[.pointer (some ⟨L,0,none⟩)] 119 (0,0)))(hqo:w.heap[qo]?=some (.cells #[.string other] 9 (0,0)))(hqs:w.heap[qs]?=some (.cells #[.string s] 9 (0,0))):
  Calls Tryz.prog 181 #[.pointer (some ⟨ql,0,none⟩),.pointer (some ⟨qo,0,none⟩),.pointer (some ⟨qs,0,none⟩)] w fun e w'=>e=.returned (.int .i64 (d.appendE other s))∧Ah w' b bm (d.append other s)∧Fp [b,bm] w w':=by
 have n0:=hl.ne hd;have nql:=E6 hql (by decide) hd;have nqo:=E6 hqo (by decide) hd;have nqs:=E6 hqs (by decide) hd;have HD:=a0z hd;have HL:=a0z hl;have Hql:=a0z hql;have Hqo:=a0z hqo;have Hqs:=a0z hqs;have HC:=a0z (fun W (h:Ah W b bm d)=>iF W b bm d other s h hok hname hs);clear hd hl hql hqo hqs
 obtain⟨x,hx⟩:∃x,d.appendE other s=x:=⟨_,rfl⟩
 obtain⟨d2,hd2⟩:∃x,d.append other s=x:=⟨_,rfl⟩
 rw[hx,hd2] at HC ⊢;clear hx hd2;go_enter Tryz.func181,Tryz.ntmps181;go_wp2_with (fail);refine Gj (fun bb w'=>Gx b bm w d d2 (bb 6) w') (fun _ _=>True) (by kernel_rfl) (by kernel_rfl) (Gx.start HD.out) ?_
 iterate 6
  apply Bm (fun _ _ h=>h) rfl rfl rfl
  ·intro b a w hC hA K hK
   try have h0:=hA.fr 0 rfl
   try have h4:=hA.eq 0 4 rfl
   try have h5:=hA.eq 1 5 rfl
   try have h6:=hA.eq 2 6 rfl
   try have h1:=hA.fr 1 rfl
   try have h2:=hA.fr 2 rfl
   have rql:=Aa ((hC.fp.block _ (Ab Hql.out) nql).trans Hql.out) 0;have rqo:=Aa ((hC.fp.block _ (Ab Hqo.out) nqo).trans Hqo.out) 0;have rqs:=Aa ((hC.fp.block _ (Ab Hqs.out) nqs).trans Hqs.out) 0;have g0:=Aa (HL.out.fp hC.fp n0) 0;have g1:=Aa (HL.out.fp hC.fp n0) 1;simp only[E0,a0u,a0w,a0v] at g0 g1 rql rqo rqs;simp only[Oper.wp,execOp];go_simp;exact hK _ hC trivial
 apply Hk (Br (.int .i64 x)) rfl rfl rfl
 ·intro b a w hC hA K hK;have h7:=hA.eq 3 7 rfl;have h8:=hA.eq 4 8 rfl;have h9:=hA.eq 5 9 rfl;simp only[Oper.wp,execOp];go_simp;(with_reducible refine(HC.out _ (hC.first hA.self)).mono ?_);rintro e w2 ⟨rfl,hd2,hf2⟩;exact hK _ _ ⟨hd2,hC.fp.trans hf2 (by intro i hi;exact Or.inl hi)⟩ trivial rfl
 apply Bm (fun _ _ h=>h) rfl rfl rfl
 ·intro b a w hC hA K hK;have h10:=hA.eq 6 10 rfl;simp only[Oper.wp,execOp];go_simp;exact hK _ hC trivial
 refine⟨?_,?_⟩
 ·refine B6 _ ?_;refine⟨fun _ _ _ _ h=>h,?_⟩
  iterate 6 refine B6 _ ?_
  exact trivial
 ·intro w' bb hC hbb;simp only[a1w,a1v,a2x,a1u]
  iterate 6 (refine Aq ?_)
  refine Av ?_;intro v6 u6;obtain rfl:=u6
  iterate 1 (refine Aq ?_)
  refine A8 ?_;simp only[Am,Act.put,a0x,a1z,a1x];have hbx:bb 6=true:=hbb 6 (by decide);have hCd:=hC.disk;rw[hbx] at hCd;have HDD:Hid (Ah w' b bm d2):=a0z hCd;have HFF:=a0z hC.fp;clear hC hbb hCd;go_wp2_with (fail);go_ret;exact⟨rfl,HDD.out,HFF.out⟩
theorem yR(w:World)(b bm L ql qo:Nat)(lg:Lg)(d:Dk)(other:ByteArray)(hd:Ah w b bm d)(hok:Ap d)(hname:other.size≤maxLen)(hl:B3 w L b lg)(hql:w.heap[ql]?=some (.cells #[.pointer (some ⟨L,0,none⟩)] 119 (0,0)))(hqo:w.heap[qo]?=some (.cells #[.string other] 9 (0,0))):
  Calls Tryz.prog 183 #[.pointer (some ⟨ql,0,none⟩),.pointer (some ⟨qo,0,none⟩)] w fun e w'=>e=.returned (.int .i64 (d.thereE other))∧Ah w' b bm (d.sync other)∧Fp [b,bm] w w':=by
 have n0:=hl.ne hd;have nql:=E6 hql (by decide) hd;have nqo:=E6 hqo (by decide) hd;have HD:=a0z hd;have HL:=a0z hl;have Hql:=a0z hql;have Hqo:=a0z hqo;have HC:=a0z (fun W (h:Ah W b bm d)=>Yj W b bm d other h hok hname);clear hd hl hql hqo
 obtain⟨x,hx⟩:∃x,d.thereE other=x:=⟨_,rfl⟩
 obtain⟨d2,hd2⟩:∃x,d.sync other=x:=⟨_,rfl⟩
 rw[hx,hd2] at HC ⊢;clear hx hd2;go_enter Tryz.func183,Tryz.ntmps183;go_wp2_with (fail);refine Gj (fun bb w'=>Gx b bm w d d2 (bb 5) w') (fun _ _=>True) (by kernel_rfl) (by kernel_rfl) (Gx.start HD.out) ?_
 iterate 5
  apply Bm (fun _ _ h=>h) rfl rfl rfl
  ·intro b a w hC hA K hK
   try have h0:=hA.fr 0 rfl
   try have h3:=hA.eq 0 3 rfl
   try have h4:=hA.eq 1 4 rfl
   try have h5:=hA.eq 2 5 rfl
   try have h1:=hA.fr 1 rfl
   have rql:=Aa ((hC.fp.block _ (Ab Hql.out) nql).trans Hql.out) 0;have rqo:=Aa ((hC.fp.block _ (Ab Hqo.out) nqo).trans Hqo.out) 0;have g0:=Aa (HL.out.fp hC.fp n0) 0;have g1:=Aa (HL.out.fp hC.fp n0) 1;simp only[E0,a0u,a0w,a0v] at g0 g1 rql rqo;simp only[Oper.wp,execOp];go_simp;exact hK _ hC trivial
 apply Hk (Br (.int .i64 x)) rfl rfl rfl
 ·intro b a w hC hA K hK;have h6:=hA.eq 3 6 rfl;have h7:=hA.eq 4 7 rfl;simp only[Oper.wp,execOp];go_simp;(with_reducible refine(HC.out _ (hC.first hA.self)).mono ?_);rintro e w2 ⟨rfl,hd2,hf2⟩;exact hK _ _ ⟨hd2,hC.fp.trans hf2 (by intro i hi;exact Or.inl hi)⟩ trivial rfl
 apply Bm (fun _ _ h=>h) rfl rfl rfl
 ·intro b a w hC hA K hK;have h8:=hA.eq 5 8 rfl;simp only[Oper.wp,execOp];go_simp;exact hK _ hC trivial
 refine⟨?_,?_⟩
 ·refine B6 _ ?_;refine⟨fun _ _ _ _ h=>h,?_⟩
  iterate 5 refine B6 _ ?_
  exact trivial
 ·intro w' bb hC hbb;simp only[a1w,a1v,a2x,a1u]
  iterate 5 (refine Aq ?_)
  refine Av ?_;intro v5 u5;obtain rfl:=u5
  iterate 1 (refine Aq ?_)
  refine A8 ?_;simp only[Am,Act.put,a0x,a1z,a1x];have hbx:bb 5=true:=hbb 5 (by decide);have hCd:=hC.disk;rw[hbx] at hCd;have HDD:Hid (Ah w' b bm d2):=a0z hCd;have HFF:=a0z hC.fp;clear hC hbb hCd;go_wp2_with (fail);go_ret;exact⟨rfl,HDD.out,HFF.out⟩
theorem yS(w:World)(b bm L ql qo:Nat)(lg:Lg)(d:Dk)(other:ByteArray)(hd:Ah w b bm d)(hok:Ap d)(hname:other.size≤maxLen)(hto:lg.name.size≤maxLen)(hl:B3 w L b lg)(hql:w.heap[ql]?=some (.cells #[.pointer (some ⟨L,0,none⟩)] 119 (0,0)))(hqo:w.heap[qo]?=some (.cells #[.string other] 9 (0,0))):
  Calls Tryz.prog 184 #[.pointer (some ⟨ql,0,none⟩),.pointer (some ⟨qo,0,none⟩)] w fun e w'=>e=.returned (.int .i64 (d.renameE other lg.name))∧Ah w' b bm (d.rename other lg.name)∧Fp [b,bm] w w':=by
 have n0:=hl.ne hd;have nql:=E6 hql (by decide) hd;have nqo:=E6 hqo (by decide) hd;have HD:=a0z hd;have HL:=a0z hl;have Hql:=a0z hql;have Hqo:=a0z hqo;have HC:=a0z (fun W (h:Ah W b bm d)=>xH W b bm d other lg.name h hok hname hto);clear hd hl hql hqo
 obtain⟨x,hx⟩:∃x,d.renameE other lg.name=x:=⟨_,rfl⟩
 obtain⟨d2,hd2⟩:∃x,d.rename other lg.name=x:=⟨_,rfl⟩
 rw[hx,hd2] at HC ⊢;clear hx hd2;go_enter Tryz.func184,Tryz.ntmps184;go_wp2_with (fail);refine Gj (fun bb w'=>Gx b bm w d d2 (bb 9) w') (fun _ _=>True) (by kernel_rfl) (by kernel_rfl) (Gx.start HD.out) ?_
 iterate 9
  apply Bm (fun _ _ h=>h) rfl rfl rfl
  ·intro b a w hC hA K hK
   try have h0:=hA.fr 0 rfl
   try have h3:=hA.eq 0 3 rfl
   try have h4:=hA.eq 1 4 rfl
   try have h5:=hA.eq 2 5 rfl
   try have h1:=hA.fr 1 rfl
   try have h8:=hA.eq 5 8 rfl
   try have h9:=hA.eq 6 9 rfl
   try have h10:=hA.eq 7 10 rfl
   have rql:=Aa ((hC.fp.block _ (Ab Hql.out) nql).trans Hql.out) 0;have rqo:=Aa ((hC.fp.block _ (Ab Hqo.out) nqo).trans Hqo.out) 0;have g0:=Aa (HL.out.fp hC.fp n0) 0;have g1:=Aa (HL.out.fp hC.fp n0) 1;simp only[E0,a0u,a0w,a0v] at g0 g1 rql rqo;simp only[Oper.wp,execOp];go_simp;exact hK _ hC trivial
 apply Hk (Br (.int .i64 x)) rfl rfl rfl
 ·intro b a w hC hA K hK;have h6:=hA.eq 3 6 rfl;have h7:=hA.eq 4 7 rfl;have h11:=hA.eq 8 11 rfl;simp only[Oper.wp,execOp];go_simp;(with_reducible refine(HC.out _ (hC.first hA.self)).mono ?_);rintro e w2 ⟨rfl,hd2,hf2⟩;exact hK _ _ ⟨hd2,hC.fp.trans hf2 (by intro i hi;exact Or.inl hi)⟩ trivial rfl
 apply Bm (fun _ _ h=>h) rfl rfl rfl
 ·intro b a w hC hA K hK;have h12:=hA.eq 9 12 rfl;simp only[Oper.wp,execOp];go_simp;exact hK _ hC trivial
 refine⟨?_,?_⟩
 ·refine B6 _ ?_;refine⟨fun _ _ _ _ h=>h,?_⟩
  iterate 9 refine B6 _ ?_
  exact trivial
 ·intro w' bb hC hbb;simp only[a1w,a1v,a2x,a1u]
  iterate 9 (refine Aq ?_)
  refine Av ?_;intro v9 u9;obtain rfl:=u9
  iterate 1 (refine Aq ?_)
  refine A8 ?_;simp only[Am,Act.put,a0x,a1z,a1x];have hbx:bb 9=true:=hbb 9 (by decide);have hCd:=hC.disk;rw[hbx] at hCd;have HDD:Hid (Ah w' b bm d2):=a0z hCd;have HFF:=a0z hC.fp;clear hC hbb hCd;go_wp2_with (fail);go_ret;exact⟨rfl,HDD.out,HFF.out⟩
theorem yT(w:World)(b bm L ql qs:Nat)(lg:Lg)(d:Dk)(s:ByteArray)(hd:Ah w b bm d)(hok:Ap d)(hto:lg.name.size≤maxLen)(hs:s.size≤1000000000)(hl:B3 w L b lg)(hql:w.heap[ql]?=some (.cells #[.pointer (some ⟨L,0,none⟩)] 119 (0,0)))(hqs:w.heap[qs]?=some (.cells #[.string s] 9 (0,0))):
  Calls Tryz.prog 191 #[.pointer (some ⟨ql,0,none⟩),.pointer (some ⟨qs,0,none⟩)] w fun e w'=>e=.returned (.int .i64 (d.appendE lg.name s))∧Ah w' b bm (d.append lg.name s)∧Fp [b,bm] w w':=by
 have n0:=hl.ne hd;have nql:=E6 hql (by decide) hd;have nqs:=E6 hqs (by decide) hd;have HD:=a0z hd;have HL:=a0z hl;have Hql:=a0z hql;have Hqs:=a0z hqs;have HC:=a0z (fun W (h:Ah W b bm d)=>iF W b bm d lg.name s h hok hto hs);clear hd hl hql hqs
 obtain⟨x,hx⟩:∃x,d.appendE lg.name s=x:=⟨_,rfl⟩
 obtain⟨d2,hd2⟩:∃x,d.append lg.name s=x:=⟨_,rfl⟩
 rw[hx,hd2] at HC ⊢;clear hx hd2;go_enter Tryz.func191,Tryz.ntmps191;go_wp2_with (fail);refine Gj (fun bb w'=>Gx b bm w d d2 (bb 9) w') (fun _ _=>True) (by kernel_rfl) (by kernel_rfl) (Gx.start HD.out) ?_
 iterate 9
  apply Bm (fun _ _ h=>h) rfl rfl rfl
  ·intro b a w hC hA K hK
   try have h0:=hA.fr 0 rfl
   try have h3:=hA.eq 0 3 rfl
   try have h4:=hA.eq 1 4 rfl
   try have h5:=hA.eq 2 5 rfl
   try have h7:=hA.eq 4 7 rfl
   try have h8:=hA.eq 5 8 rfl
   try have h9:=hA.eq 6 9 rfl
   try have h1:=hA.fr 1 rfl
   have rql:=Aa ((hC.fp.block _ (Ab Hql.out) nql).trans Hql.out) 0;have rqs:=Aa ((hC.fp.block _ (Ab Hqs.out) nqs).trans Hqs.out) 0;have g0:=Aa (HL.out.fp hC.fp n0) 0;have g1:=Aa (HL.out.fp hC.fp n0) 1;simp only[E0,a0u,a0w,a0v] at g0 g1 rql rqs;simp only[Oper.wp,execOp];go_simp;exact hK _ hC trivial
 apply Hk (Br (.int .i64 x)) rfl rfl rfl
 ·intro b a w hC hA K hK;have h6:=hA.eq 3 6 rfl;have h10:=hA.eq 7 10 rfl;have h11:=hA.eq 8 11 rfl;simp only[Oper.wp,execOp];go_simp;(with_reducible refine(HC.out _ (hC.first hA.self)).mono ?_);rintro e w2 ⟨rfl,hd2,hf2⟩;exact hK _ _ ⟨hd2,hC.fp.trans hf2 (by intro i hi;exact Or.inl hi)⟩ trivial rfl
 apply Bm (fun _ _ h=>h) rfl rfl rfl
 ·intro b a w hC hA K hK;have h12:=hA.eq 9 12 rfl;simp only[Oper.wp,execOp];go_simp;exact hK _ hC trivial
 refine⟨?_,?_⟩
 ·refine B6 _ ?_;refine⟨fun _ _ _ _ h=>h,?_⟩
  iterate 9 refine B6 _ ?_
  exact trivial
 ·intro w' bb hC hbb;simp only[a1w,a1v,a2x,a1u]
  iterate 9 (refine Aq ?_)
  refine Av ?_;intro v9 u9;obtain rfl:=u9
  iterate 1 (refine Aq ?_)
  refine A8 ?_;simp only[Am,Act.put,a0x,a1z,a1x];have hbx:bb 9=true:=hbb 9 (by decide);have hCd:=hC.disk;rw[hbx] at hCd;have HDD:Hid (Ah w' b bm d2):=a0z hCd;have HFF:=a0z hC.fp;clear hC hbb hCd;go_wp2_with (fail);go_ret;exact⟨rfl,HDD.out,HFF.out⟩
theorem yU(w:World)(b bm L ql:Nat)(lg:Lg)(d:Dk)(hd:Ah w b bm d)(hok:Ap d)(hto:lg.name.size≤maxLen)(hl:B3 w L b lg)(hql:w.heap[ql]?=some (.cells #[.pointer (some ⟨L,0,none⟩)] 119 (0,0))):
  Calls Tryz.prog 192 #[.pointer (some ⟨ql,0,none⟩)] w fun e w'=>e=.returned (.int .i64 (d.thereE lg.name))∧Ah w' b bm (d.sync lg.name)∧Fp [b,bm] w w':=by
 have n0:=hl.ne hd;have nql:=E6 hql (by decide) hd;have HD:=a0z hd;have HL:=a0z hl;have Hql:=a0z hql;have HC:=a0z (fun W (h:Ah W b bm d)=>Yj W b bm d lg.name h hok hto);clear hd hl hql
 obtain⟨x,hx⟩:∃x,d.thereE lg.name=x:=⟨_,rfl⟩
 obtain⟨d2,hd2⟩:∃x,d.sync lg.name=x:=⟨_,rfl⟩
 rw[hx,hd2] at HC ⊢;clear hx hd2;go_enter Tryz.func192,Tryz.ntmps192;go_wp2_with (fail);refine Gj (fun bb w'=>Gx b bm w d d2 (bb 8) w') (fun _ _=>True) (by kernel_rfl) (by kernel_rfl) (Gx.start HD.out) ?_
 iterate 8
  apply Bm (fun _ _ h=>h) rfl rfl rfl
  ·intro b a w hC hA K hK
   try have h0:=hA.fr 0 rfl
   try have h2:=hA.eq 0 2 rfl
   try have h3:=hA.eq 1 3 rfl
   try have h4:=hA.eq 2 4 rfl
   try have h6:=hA.eq 4 6 rfl
   try have h7:=hA.eq 5 7 rfl
   try have h8:=hA.eq 6 8 rfl
   have rql:=Aa ((hC.fp.block _ (Ab Hql.out) nql).trans Hql.out) 0;have g0:=Aa (HL.out.fp hC.fp n0) 0;have g1:=Aa (HL.out.fp hC.fp n0) 1;simp only[E0,a0u,a0w,a0v] at g0 g1 rql;simp only[Oper.wp,execOp];go_simp;exact hK _ hC trivial
 apply Hk (Br (.int .i64 x)) rfl rfl rfl
 ·intro b a w hC hA K hK;have h5:=hA.eq 3 5 rfl;have h9:=hA.eq 7 9 rfl;simp only[Oper.wp,execOp];go_simp;(with_reducible refine(HC.out _ (hC.first hA.self)).mono ?_);rintro e w2 ⟨rfl,hd2,hf2⟩;exact hK _ _ ⟨hd2,hC.fp.trans hf2 (by intro i hi;exact Or.inl hi)⟩ trivial rfl
 apply Bm (fun _ _ h=>h) rfl rfl rfl
 ·intro b a w hC hA K hK;have h10:=hA.eq 8 10 rfl;simp only[Oper.wp,execOp];go_simp;exact hK _ hC trivial
 refine⟨?_,?_⟩
 ·refine B6 _ ?_;refine⟨fun _ _ _ _ h=>h,?_⟩
  iterate 8 refine B6 _ ?_
  exact trivial
 ·intro w' bb hC hbb;simp only[a1w,a1v,a2x,a1u]
  iterate 8 (refine Aq ?_)
  refine Av ?_;intro v8 u8;obtain rfl:=u8
  iterate 1 (refine Aq ?_)
  refine A8 ?_;simp only[Am,Act.put,a0x,a1z,a1x];have hbx:bb 8=true:=hbb 8 (by decide);have hCd:=hC.disk;rw[hbx] at hCd;have HDD:Hid (Ah w' b bm d2):=a0z hCd;have HFF:=a0z hC.fp;clear hC hbb hCd;go_wp2_with (fail);go_ret;exact⟨rfl,HDD.out,HFF.out⟩
end
section
open Go.ChangeShapes Go.WideShapes Go.ChangeAt Go.RowKit
structure Fj(w:World)(a:Option Addr)(len:Nat)(l:List ByteArray):Prop where
 len:len=l.length
 cells:l=[]∨∃b o,a=some ⟨b,o,none⟩∧∀i (h:i<l.length),w.cell? ⟨b,o+i,none⟩=some (.string l[i])
 small:∀s∈l,s.size≤maxLen
theorem Fj.of_fp{w w':World}{a:Option Addr}{len:Nat}{l:List ByteArray}(h:Fj w a len l)(hf:Fp [] w w'):Fj w' a len l:=by
 refine⟨h.len,?_,h.small⟩
 rcases h.cells with h0|⟨b,o,rfl,hc⟩
 ·exact Or.inl h0
 ·exact Or.inr ⟨b,o,rfl,fun i hi=>by rw[hf.cell (World.block_lt_of_cell? _ _ (hc i hi)) (by simp)];exact hc i hi⟩
end
section
open Go.RowKit Go.Lib Go.Maps Go.MapKept Go.ChangeMaps
theorem yV{w:World}{b bm L ql qo qs:Nat}{lg:Lg}{d0:Dk}{other s:ByteArray}(hd:Ah w b bm d0)(hname:other.size≤maxLen)(hto:lg.name.size≤maxLen)(hs:s.size≤1000000000)(hl:B3 w L b lg)
  (h1:w.heap[ql]?=some (.cells #[.pointer (some ⟨L,0,none⟩)] 119 (0,0)))(h2:w.heap[qo]?=some (.cells #[.string other] 9 (0,0)))(h3:w.heap[qs]?=some (.cells #[.string s] 9 (0,0))):
  Wm w b bm [(177,#[.pointer (some ⟨ql,0,none⟩),.pointer (some ⟨qo,0,none⟩)]),(179,#[.pointer (some ⟨ql,0,none⟩),.pointer (some ⟨qo,0,none⟩)]),(181,#[.pointer (some ⟨ql,0,none⟩),.pointer (some ⟨qo,0,none⟩),.pointer (some ⟨qs,0,none⟩)]),(183,#[.pointer (some ⟨ql,0,none⟩),.pointer (some ⟨qo,0,none⟩)]),(184,#[.pointer (some ⟨ql,0,none⟩),.pointer (some ⟨qo,0,none⟩)])] (Ov lg.name other s):=by
 have n0:=hl.ne hd;have n1:=E6 h1 (by decide) hd;have n2:=E6 h2 (by decide) hd;have n3:=E6 h3 (by decide) hd
 have f1:∀W,Fp [b,bm] w W→W.heap[ql]?=some (.cells #[.pointer (some ⟨L,0,none⟩)] 119 (0,0)):=fun W hf=>(hf.block _ (Ab h1) n1).trans h1
 have f2:∀W,Fp [b,bm] w W→W.heap[qo]?=some (.cells #[.string other] 9 (0,0)):=fun W hf=>(hf.block _ (Ab h2) n2).trans h2
 have f3:∀W,Fp [b,bm] w W→W.heap[qs]?=some (.cells #[.string s] 9 (0,0)):=fun W hf=>(hf.block _ (Ab h3) n3).trans h3
 refine⟨rfl,fun i hi hi2=>?_,wT _ _ _⟩
 have hcase:i=0∨i=1∨i=2∨i=3∨i=4:=by simp at hi;omega
 rcases hcase with rfl|rfl|rfl|rfl|rfl
 ·exact⟨fun w=>by kernel_rfl,fun d W hd hok hf=>nO W b bm L ql qo lg d other hd hok hname (hl.fp hf n0) (f1 W hf) (f2 W hf)⟩
 ·exact⟨fun w=>by kernel_rfl,fun d W hd hok hf=>yP W b bm L ql qo lg d other hd hok hname (hl.fp hf n0) (f1 W hf) (f2 W hf)⟩
 ·exact⟨fun w=>by kernel_rfl,fun d W hd hok hf=>yQ W b bm L ql qo qs lg d other s hd hok hname hs (hl.fp hf n0) (f1 W hf) (f2 W hf) (f3 W hf)⟩
 ·exact⟨fun w=>by kernel_rfl,fun d W hd hok hf=>yR W b bm L ql qo lg d other hd hok hname (hl.fp hf n0) (f1 W hf) (f2 W hf)⟩
 ·exact⟨fun w=>by kernel_rfl,fun d W hd hok hf=>yS W b bm L ql qo lg d other hd hok hname hto (hl.fp hf n0) (f1 W hf) (f2 W hf)⟩
theorem yW(w:World)(b bm L:Nat)(lg:Lg)(d:Dk)(s:ByteArray)(hd:Ah w b bm d)(hok:Ap d)(hto:lg.name.size≤1000)(hs:s.size≤1000000000)(hl:B3 w L b lg):
  Calls Tryz.prog 114 #[.pointer (some ⟨L,0,none⟩),.string s] w fun e w'=>e=.returned (.int .i64 (d.wWrite lg.name s).2)∧Ah w' b bm (d.wWrite lg.name s).1∧Fp [b,bm] w w':=by
 obtain⟨W,hW⟩:∃W,W=((((w.alloc (.cells #[.pointer (some ⟨L,0,none⟩)] 119)).alloc (.cells #[.string s] 9)).alloc (.cells #[.string (lg.name++Iw)] 9)).alloc (.cells #[.func (.func 177) #[] #[.pointer (some ⟨w.heap.size,0,none⟩),.pointer (some ⟨w.heap.size+1+1,0,none⟩)],.func (.func 179) #[] #[.pointer (some ⟨w.heap.size,0,none⟩),.pointer (some ⟨w.heap.size+1+1,0,none⟩)],.func (.func 181) #[] #[.pointer (some ⟨w.heap.size,0,none⟩),.pointer (some ⟨w.heap.size+1+1,0,none⟩),.pointer (some ⟨w.heap.size+1,0,none⟩)],.func (.func 183) #[] #[.pointer (some ⟨w.heap.size,0,none⟩),.pointer (some ⟨w.heap.size+1+1,0,none⟩)],.func (.func 184) #[] #[.pointer (some ⟨w.heap.size,0,none⟩),.pointer (some ⟨w.heap.size+1+1,0,none⟩)]] 254)):=⟨_,rfl⟩
 have hfW:Fp [] w W:=by rw[hW];exact(((Fp.alloc _ _).alloc' _).alloc' _).alloc' _
 have hb1:W.heap[w.heap.size]?=some (.cells #[.pointer (some ⟨L,0,none⟩)] 119 (0,0)):=by
  rw[hW,Below.heap_alloc _ _ _ (by simp<;>omega),Below.heap_alloc _ _ _ (by simp<;>omega),Below.heap_alloc _ _ _ (by simp<;>omega)];exact Aj rfl _
 have hb2:W.heap[w.heap.size+1]?=some (.cells #[.string s] 9 (0,0)):=by
  rw[hW,Below.heap_alloc _ _ _ (by simp<;>omega),Below.heap_alloc _ _ _ (by simp<;>omega)];exact Aj (by simp) _
 have hb3:W.heap[w.heap.size+1+1]?=some (.cells #[.string (lg.name++Iw)] 9 (0,0)):=by
  rw[hW,Below.heap_alloc _ _ _ (by simp<;>omega)];exact Aj (by simp) _
 have hsz:(lg.name++Iw).size≤maxLen:=by rw[ByteArray.size_append];show lg.name.size+1≤maxLen;unfold maxLen;omega
 have hdW:=hd.of_fp hfW (by simp) (by simp);have hst:=yV hdW hsz (by unfold maxLen;omega) hs (hl.fp hfW (by simp)) hb1 hb3 hb2
 have HC:Calls Tryz.prog 176 #[.slice (some ⟨w.heap.size+1+1+1,0,none⟩) 5 5] W fun e w'=>e=.returned (.int .i64 (d.wWrite lg.name s).2)∧Ah w' b bm (d.wWrite lg.name s).1∧Fp [b,bm] W w':=by
  have h:=bI W b bm (w.heap.size+1+1+1) d _ _ hdW hok (by rw[hW];exact Aj (by simp) _) (by simp) hst;rw[show Gk (Ov lg.name (lg.name++Iw) s) d=d.wWrite lg.name s from rfl] at h;exact h
 have c1:w.cell? ⟨L,1,none⟩=some (.string lg.name):=Aa hl 1;have hlt:=Ab hl;have HC:=a0z HC;have HF:=a0z hfW;rw[hW] at HC HF
 obtain⟨⟨d2,x⟩,hx⟩:∃r,d.wWrite lg.name s=r:=⟨_,rfl⟩
 rw[hx] at HC ⊢
 have zn:¬lg.name.size+1>9223372036854775807:=by omega
 clear hx hW hst hdW hb1 hb2 hb3 hfW hd hl hsz;unfold Iw at HC HF;go_enter Tryz.func114,Tryz.ntmps114;go_wp2_with (fail);(with_reducible refine HC.out.mono ?_);rintro e w2 ⟨rfl,hd2,hf2⟩;have HD2:=a0z hd2;have HF2:=a0z ((HF.out.mono (S':=[b,bm]) (by simp)).trans hf2 (by intro i hi;exact Or.inl hi));clear hd2 hf2;go_wp2_with (fail);go_ret;exact⟨rfl,HD2.out,HF2.out⟩
theorem yX{l:List ByteArray}{k:Nat}(hk:k<l.length)(h:65535<(l[k]).size):Il l=(⟨#[]⟩,71):=by
 unfold Il Yi;rw[if_neg];intro h2;have:=List.all_eq_true.1 h2 l[k] (List.getElem_mem hk);simp only[decide_eq_true_eq] at this;omega
theorem iG{l:List ByteArray}(h:∀t∈l,t.size≤65535):Il l=(bl (Bl l),0):=by
 unfold Il Yi;rw[if_pos]
 exact List.all_eq_true.2 fun t ht=>by simpa using h t ht
theorem yY{l:List ByteArray}(k:Nat):Bd (l.take k)≤Bd l:=by
 have h:=Vk (l.take k) (l.drop k);rw[List.take_append_drop] at h;omega
theorem yZ{l:List ByteArray}{k:Nat}(hk:k<l.length):Bd (l.take (k+1))=Bd (l.take k)+(6+(l[k]).size):=by
 rw[a2z hk,Vk];rfl
theorem Yv:∀(l:List ByteArray),6*l.length≤Bd l
 |[]=>Nat.zero_le _
 |t::r=>by have:=Yv r;simp only[List.length_cons,Bd];omega
theorem zA{w:World}{a:Option Addr}{n k:Nat}{l:List ByteArray}(h:Fj w a n l)(hk:k<l.length):∃b o,a=some ⟨b,o,none⟩∧∀w',Fp [] w w'→w'.cell? ⟨b,o+k,none⟩=some (.string l[k]):=by
 rcases h.cells with h0|⟨b,o,e,hc⟩
 ·rw[h0] at hk;exact absurd hk (Nat.not_lt_zero _)
 ·exact⟨b,o,e,fun w' hf=>by rw[hf.cell (World.block_lt_of_cell? _ _ (hc k hk)) (by simp)];exact hc k hk⟩
theorem zB(w:World)(a:Option Addr)(n cap:Nat)(l:List ByteArray)(hat:Fj w a n l)(ht:B0 w)(hsz:Bd l≤100000000):
  Calls Tryz.prog 242 #[.slice a n cap] w fun e w'=>e=.returned (.tuple #[.string (Il l).1,.int .i64 (Il l).2])∧Fp [] w w':=by
 have HAT:=a0z hat;have HLN:=a0z hat.len;have HT:=a0z ht;have HPUT:=a0z (fun s w h ht=>fC s w h ht);have HWS:=a0z (fun l s w h1 h2=>R9 Yf (show 131≠5 by decide) w.heap.size w.heap.size l s w h1 h2);have hll:=Yv l
 have hlen:l.length≤100000000:=by omega
 have HSZ:=a0z hsz;clear hat ht hsz HWS hll;go_enter Tryz.func242,Tryz.ntmps242;go_wp2_with (fail)
 go_loopg [11] n (fun g vi W=>∃(k:Nat),g+k=n∧vi=.int .i64 k∧(∀t∈l.take k,t.size≤65535)∧C4 131 w.heap.size w.heap.size (Bl (l.take k)) W∧Fp [] w W)
 case atStart=>exact⟨0,by omega,rfl,by simp,C4.fresh _ _,Fp.alloc _ _⟩
 case round=>
  obtain⟨k,hg,rfl,hall,hb,hf⟩:=hrel;have HALL:=a0z hall;have HB:=a0z hb;have HF:=a0z hf;clear hall hb hf
  by_cases hk:k<n
  ·have zk:(k:Int)<(n:Int):=by omega
   have hkl:k<l.length:=by rw[←HLN.out];exact hk
   obtain⟨b1,o1,rfl,hcells⟩:=zA HAT.out hkl;have hcell:=hcells wr HF.out;have hsk:=yZ hkl;have hst:=yY (l:=l) (k+1);have hrl:=Ky (l.take k)
   have hrs:Bl (l.take (k+1))=Bl (l.take k)++Da l[k]:=by
    rw[a2z hkl,gI];show _ ++(Da l[k]++[])=_;rw[List.append_nil]
   have hbad:65535<(l[k]).size→Il l=(⟨#[]⟩,71):=yX hkl
   have hal:∀t∈l.take (k+1),t=l[k]∨t∈l.take k:=by
    intro t ht;rw[a2z hkl] at ht
    rcases List.mem_append.1 ht with h|h
    ·exact Or.inr h
    ·exact Or.inl (List.mem_singleton.1 h)
   obtain⟨t,htt⟩:∃t,l[k]=t:=⟨_,rfl⟩
   rw[htt] at hcell hsk hrs hbad hal
   have hts:t.size≤100000000:=by have:=HSZ.out;omega
   have hlb:(Bl (l.take k)).length+(Jb t).size≤1000000000:=by rw[hrl,fB];have:=HSZ.out;omega
   have HRS:=a0z hrs;have HBAD:=a0z hbad;have HAL:=a0z hal;have HLB:=a0z hlb;have HTS:=a0z hts;have HP:=a0z (HPUT.out t wr hts (HT.out.fp HF.out (by simp)));clear hcells hsk hst hrl hrs hbad hal htt hlb hts
   by_cases hw:65535<t.size
   ·have HB2:=a0z (HBAD.out hw);have hpp:Ku t=(⟨#[]⟩,71):=if_pos hw;rw[hpp] at HP;clear hw hpp;go_wp2_with (fail);(with_reducible refine HP.out.mono ?_);rintro e w2 ⟨rfl,hf2⟩;have HF2:=a0z (HF.out.trans hf2 (by simp));clear hf2;go_wp2_with (fail);go_ret2;rw[HB2.out];exact⟨rfl,HF2.out⟩
   ·have hpp:Ku t=(Jb t,0):=if_neg hw;have HW:=a0z hw;rw[hpp] at HP;clear hw hpp;go_wp2_with (fail);(with_reducible refine HP.out.mono ?_);rintro e w2 ⟨rfl,hf2⟩;have HB2:=a0z (HB.out.fp hf2 (by simp));have HF2:=a0z (HF.out.trans hf2 (by simp));clear hf2;go_wp2_with (fail);(with_reducible refine(R9 Yf (by decide) w.heap.size w.heap.size (Bl (l.take k)) (Jb t) w2 HB2.out HLB.out).mono ?_);rintro e w3 ⟨rfl,hb3,hf3⟩
    have HB3:Hid (C4 131 w.heap.size w.heap.size (Bl (l.take (k+1))) w3):=by
     rw[HRS.out];rw[show(Jb t).data.toList=Da t from by rw[Vi];exact Qr _] at hb3;exact a0z hb3
    have HF3:=a0z (HF2.out.bfp hf3 (Nat.le_refl _));clear hb3 hf3;go_wp2_with (fail)
    go_roundg (gk-1)
    case measure=>omega
    case rel=>exact⟨k+1,by omega,by go_num,fun t' ht'=>by
     rcases HAL.out t' ht' with rfl|h
     ·have:=HW.out;omega
     ·exact HALL.out t' h,HB3.out,HF3.out⟩
  ·have zk:¬(k:Int)<(n:Int):=by omega
   have hkn:l.take k=l:=by rw[List.take_of_length_le (by rw[←HLN.out];omega)]
   have hb2:=HB.out;have ha2:=HALL.out;rw[hkn] at hb2 ha2;have HB2:=a0z hb2;have HG:=a0z (iG ha2);clear hkn hb2 ha2;go_wp2_with (fail);(with_reducible refine(Y6 w.heap.size w.heap.size (Bl l) _ HB2.out).mono ?_);rintro e w3 ⟨rfl,hf3⟩;have HF3:=a0z (HF.out.belowTrans hf3);clear hf3;go_wp2_with (fail);go_ret2;rw[HG.out];exact⟨rfl,HF3.out⟩
end
end Go.Proofs.YtkagolpnaicdoaaGreatDoor
