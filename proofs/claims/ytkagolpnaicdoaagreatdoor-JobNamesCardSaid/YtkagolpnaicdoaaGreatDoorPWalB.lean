/-
 wal: the closures of write and of Append. Slices of strings that came in. wal: write; bytes; change, Append; Off. wal: change; Append; Off.
-/
import Derived.Test.YtkagolpnaicdoaaGreatDoorPJobP
import Derived.Test.YtkagolpnaicdoaaGreatDoorPTabG
set_option maxRecDepth 100000
set_option maxHeartbeats 8000000
open Go.Lib renaming hid→a0z
open List renaming getElem?_cons_zero→a0x,getElem?_toArray→a0w,setIfInBounds_toArray→a0v,getElem?_cons_succ→a0u,set_cons_succ→a1z,set_cons_zero→a1x,reverse_cons→a1w,reverse_nil→a1v,cons_append→a1u,nil_append→a2z,take_succ_eq_append_getElem→a2x,not_mem_nil→a2w,mem_cons→a2v
namespace Go.Proofs.YtkagolpnaicdoaaGreatDoor
section
open Go.RowKit Go.Lib Go.Maps Go.MapKept Go.ChangeMaps
theorem Aau(w:World)(b bm L ql qo:Nat)(lg:Lg)(d:Dk)(other:ByteArray)(hd:Ah w b bm d)(hok:Ak d)(hname:other.size≤maxLen)(hl:B5 w L b lg)(hql:w.heap[ql]?=some (.cells #[.pointer (some ⟨L,0,none⟩)] 119 (0,0)))(hqo:w.heap[qo]?=some (.cells #[.string other] 9 (0,0))):
  Calls Tryz.prog 179 #[.pointer (some ⟨ql,0,none⟩),.pointer (some ⟨qo,0,none⟩)] w fun e w'=>e=.returned (.int .i64 (d.createE other))∧Ah w' b bm (d.create other)∧Fp [b,bm] w w':=by
 have n0:=hl.ne hd;have nql:=Fh hql (by decide) hd;have nqo:=Fh hqo (by decide) hd;have HD:=a0z hd;have HL:=a0z hl;have Hql:=a0z hql;have Hqo:=a0z hqo;have HC:=a0z (fun W (h:Ah W b bm d)=>Aao W b bm d other h hok hname);clear hd hl hql hqo
 obtain⟨x,hx⟩:∃x,d.createE other=x:=⟨_,rfl⟩
 obtain⟨d2,hd2⟩:∃x,d.create other=x:=⟨_,rfl⟩
 rw[hx,hd2] at HC ⊢;clear hx hd2;go_enter Tryz.func179,Tryz.ntmps179;go_wp2_with (fail);refine F9 (fun bb w'=>G5 b bm w d d2 (bb 5) w') (fun _ _=>True) (by kernel_rfl) (by kernel_rfl) (G5.start HD.out) ?_
 iterate 5
  apply Bi (fun _ _ h=>h) rfl rfl rfl
  ·intro b a w hC hA K hK
   try have h0:=hA.fr 0 rfl
   try have h3:=hA.eq 0 3 rfl
   try have h4:=hA.eq 1 4 rfl
   try have h5:=hA.eq 2 5 rfl
   try have h1:=hA.fr 1 rfl
   have rql:=Aa ((hC.fp.block _ (Ab Hql.out) nql).trans Hql.out) 0;have rqo:=Aa ((hC.fp.block _ (Ab Hqo.out) nqo).trans Hqo.out) 0;have g0:=Aa (HL.out.fp hC.fp n0) 0;have g1:=Aa (HL.out.fp hC.fp n0) 1;simp only[E8,a0w,a0u,a0x] at g0 g1 rql rqo;simp only[Oper.wp,execOp];go_simp;exact hK _ hC trivial
 apply He (B0 (.int .i64 x)) rfl rfl rfl
 ·intro b a w hC hA K hK;have h6:=hA.eq 3 6 rfl;have h7:=hA.eq 4 7 rfl;simp only[Oper.wp,execOp];go_simp;(with_reducible refine(HC.out _ (hC.first hA.self)).mono ?_);rintro e w2 ⟨rfl,hd2,hf2⟩;exact hK _ _ ⟨hd2,hC.fp.trans hf2 (by intro i hi;exact Or.inl hi)⟩ trivial rfl
 apply Bi (fun _ _ h=>h) rfl rfl rfl
 ·intro b a w hC hA K hK;have h8:=hA.eq 5 8 rfl;simp only[Oper.wp,execOp];go_simp;exact hK _ hC trivial
 refine⟨?_,?_⟩
 ·refine Cc _ ?_;refine⟨fun _ _ _ _ h=>h,?_⟩
  iterate 5 refine Cc _ ?_
  exact trivial
 ·intro w' bb hC hbb;simp only[a1w,a1v,a2z,a1u]
  iterate 5 (refine Au ?_)
  refine Az ?_;intro v5 u5;obtain rfl:=u5
  iterate 1 (refine Au ?_)
  refine A6 ?_;simp only[Am,Act.put,a0v,a1z,a1x];have hbx:bb 5=true:=hbb 5 (by decide);have hCd:=hC.disk;rw[hbx] at hCd;have HDD:Hid (Ah w' b bm d2):=a0z hCd;have HFF:=a0z hC.fp;clear hC hbb hCd;go_wp2_with (fail);go_ret;exact⟨rfl,HDD.out,HFF.out⟩
theorem Aav(w:World)(b bm L ql qo qs:Nat)(lg:Lg)(d:Dk)(other s:ByteArray)(hd:Ah w b bm d)(hok:Ak d)(hname:other.size≤maxLen)(hs:s.size≤1000000000)(hl:B5 w L b lg)(hql:w.heap[ql]?=some (.cells #[.pointer (some ⟨L,0,none⟩)] 119 (0,0)))(hqo:w.heap[qo]?=some (.cells #[.string other] 9 (0,0)))(hqs:w.heap[qs]?=some (.cells #[.string s] 9 (0,0))):
  Calls Tryz.prog 181 #[.pointer (some ⟨ql,0,none⟩),.pointer (some ⟨qo,0,none⟩),.pointer (some ⟨qs,0,none⟩)] w fun e w'=>e=.returned (.int .i64 (d.appendE other s))∧Ah w' b bm (d.append other s)∧Fp [b,bm] w w':=by
 have n0:=hl.ne hd;have nql:=Fh hql (by decide) hd;have nqo:=Fh hqo (by decide) hd;have nqs:=Fh hqs (by decide) hd;have HD:=a0z hd;have HL:=a0z hl;have Hql:=a0z hql;have Hqo:=a0z hqo;have Hqs:=a0z hqs;have HC:=a0z (fun W (h:Ah W b bm d)=>kB W b bm d other s h hok hname hs);clear hd hl hql hqo hqs
 obtain⟨x,hx⟩:∃x,d.appendE other s=x:=⟨_,rfl⟩
 obtain⟨d2,hd2⟩:∃x,d.append other s=x:=⟨_,rfl⟩
 rw[hx,hd2] at HC ⊢;clear hx hd2;go_enter Tryz.func181,Tryz.ntmps181;go_wp2_with (fail);refine F9 (fun bb w'=>G5 b bm w d d2 (bb 6) w') (fun _ _=>True) (by kernel_rfl) (by kernel_rfl) (G5.start HD.out) ?_
 iterate 6
  apply Bi (fun _ _ h=>h) rfl rfl rfl
  ·intro b a w hC hA K hK
   try have h0:=hA.fr 0 rfl
   try have h4:=hA.eq 0 4 rfl
   try have h5:=hA.eq 1 5 rfl
   try have h6:=hA.eq 2 6 rfl
   try have h1:=hA.fr 1 rfl
   try have h2:=hA.fr 2 rfl
   have rql:=Aa ((hC.fp.block _ (Ab Hql.out) nql).trans Hql.out) 0;have rqo:=Aa ((hC.fp.block _ (Ab Hqo.out) nqo).trans Hqo.out) 0;have rqs:=Aa ((hC.fp.block _ (Ab Hqs.out) nqs).trans Hqs.out) 0;have g0:=Aa (HL.out.fp hC.fp n0) 0;have g1:=Aa (HL.out.fp hC.fp n0) 1;simp only[E8,a0w,a0u,a0x] at g0 g1 rql rqo rqs;simp only[Oper.wp,execOp];go_simp;exact hK _ hC trivial
 apply He (B0 (.int .i64 x)) rfl rfl rfl
 ·intro b a w hC hA K hK;have h7:=hA.eq 3 7 rfl;have h8:=hA.eq 4 8 rfl;have h9:=hA.eq 5 9 rfl;simp only[Oper.wp,execOp];go_simp;(with_reducible refine(HC.out _ (hC.first hA.self)).mono ?_);rintro e w2 ⟨rfl,hd2,hf2⟩;exact hK _ _ ⟨hd2,hC.fp.trans hf2 (by intro i hi;exact Or.inl hi)⟩ trivial rfl
 apply Bi (fun _ _ h=>h) rfl rfl rfl
 ·intro b a w hC hA K hK;have h10:=hA.eq 6 10 rfl;simp only[Oper.wp,execOp];go_simp;exact hK _ hC trivial
 refine⟨?_,?_⟩
 ·refine Cc _ ?_;refine⟨fun _ _ _ _ h=>h,?_⟩
  iterate 6 refine Cc _ ?_
  exact trivial
 ·intro w' bb hC hbb;simp only[a1w,a1v,a2z,a1u]
  iterate 6 (refine Au ?_)
  refine Az ?_;intro v6 u6;obtain rfl:=u6
  iterate 1 (refine Au ?_)
  refine A6 ?_;simp only[Am,Act.put,a0v,a1z,a1x];have hbx:bb 6=true:=hbb 6 (by decide);have hCd:=hC.disk;rw[hbx] at hCd;have HDD:Hid (Ah w' b bm d2):=a0z hCd;have HFF:=a0z hC.fp;clear hC hbb hCd;go_wp2_with (fail);go_ret;exact⟨rfl,HDD.out,HFF.out⟩
theorem Aaw(w:World)(b bm L ql qo:Nat)(lg:Lg)(d:Dk)(other:ByteArray)(hd:Ah w b bm d)(hok:Ak d)(hname:other.size≤maxLen)(hl:B5 w L b lg)(hql:w.heap[ql]?=some (.cells #[.pointer (some ⟨L,0,none⟩)] 119 (0,0)))(hqo:w.heap[qo]?=some (.cells #[.string other] 9 (0,0))):
  Calls Tryz.prog 183 #[.pointer (some ⟨ql,0,none⟩),.pointer (some ⟨qo,0,none⟩)] w fun e w'=>e=.returned (.int .i64 (d.thereE other))∧Ah w' b bm (d.sync other)∧Fp [b,bm] w w':=by
 have n0:=hl.ne hd;have nql:=Fh hql (by decide) hd;have nqo:=Fh hqo (by decide) hd;have HD:=a0z hd;have HL:=a0z hl;have Hql:=a0z hql;have Hqo:=a0z hqo;have HC:=a0z (fun W (h:Ah W b bm d)=>Zu W b bm d other h hok hname);clear hd hl hql hqo
 obtain⟨x,hx⟩:∃x,d.thereE other=x:=⟨_,rfl⟩
 obtain⟨d2,hd2⟩:∃x,d.sync other=x:=⟨_,rfl⟩
 rw[hx,hd2] at HC ⊢;clear hx hd2;go_enter Tryz.func183,Tryz.ntmps183;go_wp2_with (fail);refine F9 (fun bb w'=>G5 b bm w d d2 (bb 5) w') (fun _ _=>True) (by kernel_rfl) (by kernel_rfl) (G5.start HD.out) ?_
 iterate 5
  apply Bi (fun _ _ h=>h) rfl rfl rfl
  ·intro b a w hC hA K hK
   try have h0:=hA.fr 0 rfl
   try have h3:=hA.eq 0 3 rfl
   try have h4:=hA.eq 1 4 rfl
   try have h5:=hA.eq 2 5 rfl
   try have h1:=hA.fr 1 rfl
   have rql:=Aa ((hC.fp.block _ (Ab Hql.out) nql).trans Hql.out) 0;have rqo:=Aa ((hC.fp.block _ (Ab Hqo.out) nqo).trans Hqo.out) 0;have g0:=Aa (HL.out.fp hC.fp n0) 0;have g1:=Aa (HL.out.fp hC.fp n0) 1;simp only[E8,a0w,a0u,a0x] at g0 g1 rql rqo;simp only[Oper.wp,execOp];go_simp;exact hK _ hC trivial
 apply He (B0 (.int .i64 x)) rfl rfl rfl
 ·intro b a w hC hA K hK;have h6:=hA.eq 3 6 rfl;have h7:=hA.eq 4 7 rfl;simp only[Oper.wp,execOp];go_simp;(with_reducible refine(HC.out _ (hC.first hA.self)).mono ?_);rintro e w2 ⟨rfl,hd2,hf2⟩;exact hK _ _ ⟨hd2,hC.fp.trans hf2 (by intro i hi;exact Or.inl hi)⟩ trivial rfl
 apply Bi (fun _ _ h=>h) rfl rfl rfl
 ·intro b a w hC hA K hK;have h8:=hA.eq 5 8 rfl;simp only[Oper.wp,execOp];go_simp;exact hK _ hC trivial
 refine⟨?_,?_⟩
 ·refine Cc _ ?_;refine⟨fun _ _ _ _ h=>h,?_⟩
  iterate 5 refine Cc _ ?_
  exact trivial
 ·intro w' bb hC hbb;simp only[a1w,a1v,a2z,a1u]
  iterate 5 (refine Au ?_)
  refine Az ?_;intro v5 u5;obtain rfl:=u5
  iterate 1 (refine Au ?_)
  refine A6 ?_;simp only[Am,Act.put,a0v,a1z,a1x];have hbx:bb 5=true:=hbb 5 (by decide);have hCd:=hC.disk;rw[hbx] at hCd;have HDD:Hid (Ah w' b bm d2):=a0z hCd;have HFF:=a0z hC.fp;clear hC hbb hCd;go_wp2_with (fail);go_ret;exact⟨rfl,HDD.out,HFF.out⟩
theorem Aax(w:World)(b bm L ql qo:Nat)(lg:Lg)(d:Dk)(other:ByteArray)(hd:Ah w b bm d)(hok:Ak d)(hname:other.size≤maxLen)(hto:lg.name.size≤maxLen)(hl:B5 w L b lg)(hql:w.heap[ql]?=some (.cells #[.pointer (some ⟨L,0,none⟩)] 119 (0,0)))(hqo:w.heap[qo]?=some (.cells #[.string other] 9 (0,0))):
  Calls Tryz.prog 184 #[.pointer (some ⟨ql,0,none⟩),.pointer (some ⟨qo,0,none⟩)] w fun e w'=>e=.returned (.int .i64 (d.renameE other lg.name))∧Ah w' b bm (d.rename other lg.name)∧Fp [b,bm] w w':=by
 have n0:=hl.ne hd;have nql:=Fh hql (by decide) hd;have nqo:=Fh hqo (by decide) hd;have HD:=a0z hd;have HL:=a0z hl;have Hql:=a0z hql;have Hqo:=a0z hqo;have HC:=a0z (fun W (h:Ah W b bm d)=>Aak W b bm d other lg.name h hok hname hto);clear hd hl hql hqo
 obtain⟨x,hx⟩:∃x,d.renameE other lg.name=x:=⟨_,rfl⟩
 obtain⟨d2,hd2⟩:∃x,d.rename other lg.name=x:=⟨_,rfl⟩
 rw[hx,hd2] at HC ⊢;clear hx hd2;go_enter Tryz.func184,Tryz.ntmps184;go_wp2_with (fail);refine F9 (fun bb w'=>G5 b bm w d d2 (bb 9) w') (fun _ _=>True) (by kernel_rfl) (by kernel_rfl) (G5.start HD.out) ?_
 iterate 9
  apply Bi (fun _ _ h=>h) rfl rfl rfl
  ·intro b a w hC hA K hK
   try have h0:=hA.fr 0 rfl
   try have h3:=hA.eq 0 3 rfl
   try have h4:=hA.eq 1 4 rfl
   try have h5:=hA.eq 2 5 rfl
   try have h1:=hA.fr 1 rfl
   try have h8:=hA.eq 5 8 rfl
   try have h9:=hA.eq 6 9 rfl
   try have h10:=hA.eq 7 10 rfl
   have rql:=Aa ((hC.fp.block _ (Ab Hql.out) nql).trans Hql.out) 0;have rqo:=Aa ((hC.fp.block _ (Ab Hqo.out) nqo).trans Hqo.out) 0;have g0:=Aa (HL.out.fp hC.fp n0) 0;have g1:=Aa (HL.out.fp hC.fp n0) 1;simp only[E8,a0w,a0u,a0x] at g0 g1 rql rqo;simp only[Oper.wp,execOp];go_simp;exact hK _ hC trivial
 apply He (B0 (.int .i64 x)) rfl rfl rfl
 ·intro b a w hC hA K hK;have h6:=hA.eq 3 6 rfl;have h7:=hA.eq 4 7 rfl;have h11:=hA.eq 8 11 rfl;simp only[Oper.wp,execOp];go_simp;(with_reducible refine(HC.out _ (hC.first hA.self)).mono ?_);rintro e w2 ⟨rfl,hd2,hf2⟩;exact hK _ _ ⟨hd2,hC.fp.trans hf2 (by intro i hi;exact Or.inl hi)⟩ trivial rfl
 apply Bi (fun _ _ h=>h) rfl rfl rfl
 ·intro b a w hC hA K hK;have h12:=hA.eq 9 12 rfl;simp only[Oper.wp,execOp];go_simp;exact hK _ hC trivial
 refine⟨?_,?_⟩
 ·refine Cc _ ?_;refine⟨fun _ _ _ _ h=>h,?_⟩
  iterate 9 refine Cc _ ?_
  exact trivial
 ·intro w' bb hC hbb;simp only[a1w,a1v,a2z,a1u]
  iterate 9 (refine Au ?_)
  refine Az ?_;intro v9 u9;obtain rfl:=u9
  iterate 1 (refine Au ?_)
  refine A6 ?_;simp only[Am,Act.put,a0v,a1z,a1x];have hbx:bb 9=true:=hbb 9 (by decide);have hCd:=hC.disk;rw[hbx] at hCd;have HDD:Hid (Ah w' b bm d2):=a0z hCd;have HFF:=a0z hC.fp;clear hC hbb hCd;go_wp2_with (fail);go_ret;exact⟨rfl,HDD.out,HFF.out⟩
theorem Aay(w:World)(b bm L ql qs:Nat)(lg:Lg)(d:Dk)(s:ByteArray)(hd:Ah w b bm d)(hok:Ak d)(hto:lg.name.size≤maxLen)(hs:s.size≤1000000000)(hl:B5 w L b lg)(hql:w.heap[ql]?=some (.cells #[.pointer (some ⟨L,0,none⟩)] 119 (0,0)))(hqs:w.heap[qs]?=some (.cells #[.string s] 9 (0,0))):
  Calls Tryz.prog 191 #[.pointer (some ⟨ql,0,none⟩),.pointer (some ⟨qs,0,none⟩)] w fun e w'=>e=.returned (.int .i64 (d.appendE lg.name s))∧Ah w' b bm (d.append lg.name s)∧Fp [b,bm] w w':=by
 have n0:=hl.ne hd;have nql:=Fh hql (by decide) hd;have nqs:=Fh hqs (by decide) hd;have HD:=a0z hd;have HL:=a0z hl;have Hql:=a0z hql;have Hqs:=a0z hqs;have HC:=a0z (fun W (h:Ah W b bm d)=>kB W b bm d lg.name s h hok hto hs);clear hd hl hql hqs
 obtain⟨x,hx⟩:∃x,d.appendE lg.name s=x:=⟨_,rfl⟩
 obtain⟨d2,hd2⟩:∃x,d.append lg.name s=x:=⟨_,rfl⟩
 rw[hx,hd2] at HC ⊢;clear hx hd2;go_enter Tryz.func191,Tryz.ntmps191;go_wp2_with (fail);refine F9 (fun bb w'=>G5 b bm w d d2 (bb 9) w') (fun _ _=>True) (by kernel_rfl) (by kernel_rfl) (G5.start HD.out) ?_
 iterate 9
  apply Bi (fun _ _ h=>h) rfl rfl rfl
  ·intro b a w hC hA K hK
   try have h0:=hA.fr 0 rfl
   try have h3:=hA.eq 0 3 rfl
   try have h4:=hA.eq 1 4 rfl
   try have h5:=hA.eq 2 5 rfl
   try have h7:=hA.eq 4 7 rfl
   try have h8:=hA.eq 5 8 rfl
   try have h9:=hA.eq 6 9 rfl
   try have h1:=hA.fr 1 rfl
   have rql:=Aa ((hC.fp.block _ (Ab Hql.out) nql).trans Hql.out) 0;have rqs:=Aa ((hC.fp.block _ (Ab Hqs.out) nqs).trans Hqs.out) 0;have g0:=Aa (HL.out.fp hC.fp n0) 0;have g1:=Aa (HL.out.fp hC.fp n0) 1;simp only[E8,a0w,a0u,a0x] at g0 g1 rql rqs;simp only[Oper.wp,execOp];go_simp;exact hK _ hC trivial
 apply He (B0 (.int .i64 x)) rfl rfl rfl
 ·intro b a w hC hA K hK;have h6:=hA.eq 3 6 rfl;have h10:=hA.eq 7 10 rfl;have h11:=hA.eq 8 11 rfl;simp only[Oper.wp,execOp];go_simp;(with_reducible refine(HC.out _ (hC.first hA.self)).mono ?_);rintro e w2 ⟨rfl,hd2,hf2⟩;exact hK _ _ ⟨hd2,hC.fp.trans hf2 (by intro i hi;exact Or.inl hi)⟩ trivial rfl
 apply Bi (fun _ _ h=>h) rfl rfl rfl
 ·intro b a w hC hA K hK;have h12:=hA.eq 9 12 rfl;simp only[Oper.wp,execOp];go_simp;exact hK _ hC trivial
 refine⟨?_,?_⟩
 ·refine Cc _ ?_;refine⟨fun _ _ _ _ h=>h,?_⟩
  iterate 9 refine Cc _ ?_
  exact trivial
 ·intro w' bb hC hbb;simp only[a1w,a1v,a2z,a1u]
  iterate 9 (refine Au ?_)
  refine Az ?_;intro v9 u9;obtain rfl:=u9
  iterate 1 (refine Au ?_)
  refine A6 ?_;simp only[Am,Act.put,a0v,a1z,a1x];have hbx:bb 9=true:=hbb 9 (by decide);have hCd:=hC.disk;rw[hbx] at hCd;have HDD:Hid (Ah w' b bm d2):=a0z hCd;have HFF:=a0z hC.fp;clear hC hbb hCd;go_wp2_with (fail);go_ret;exact⟨rfl,HDD.out,HFF.out⟩
theorem Aaz(w:World)(b bm L ql:Nat)(lg:Lg)(d:Dk)(hd:Ah w b bm d)(hok:Ak d)(hto:lg.name.size≤maxLen)(hl:B5 w L b lg)(hql:w.heap[ql]?=some (.cells #[.pointer (some ⟨L,0,none⟩)] 119 (0,0))):
  Calls Tryz.prog 192 #[.pointer (some ⟨ql,0,none⟩)] w fun e w'=>e=.returned (.int .i64 (d.thereE lg.name))∧Ah w' b bm (d.sync lg.name)∧Fp [b,bm] w w':=by
 have n0:=hl.ne hd;have nql:=Fh hql (by decide) hd;have HD:=a0z hd;have HL:=a0z hl;have Hql:=a0z hql;have HC:=a0z (fun W (h:Ah W b bm d)=>Zu W b bm d lg.name h hok hto);clear hd hl hql
 obtain⟨x,hx⟩:∃x,d.thereE lg.name=x:=⟨_,rfl⟩
 obtain⟨d2,hd2⟩:∃x,d.sync lg.name=x:=⟨_,rfl⟩
 rw[hx,hd2] at HC ⊢;clear hx hd2;go_enter Tryz.func192,Tryz.ntmps192;go_wp2_with (fail);refine F9 (fun bb w'=>G5 b bm w d d2 (bb 8) w') (fun _ _=>True) (by kernel_rfl) (by kernel_rfl) (G5.start HD.out) ?_
 iterate 8
  apply Bi (fun _ _ h=>h) rfl rfl rfl
  ·intro b a w hC hA K hK
   try have h0:=hA.fr 0 rfl
   try have h2:=hA.eq 0 2 rfl
   try have h3:=hA.eq 1 3 rfl
   try have h4:=hA.eq 2 4 rfl
   try have h6:=hA.eq 4 6 rfl
   try have h7:=hA.eq 5 7 rfl
   try have h8:=hA.eq 6 8 rfl
   have rql:=Aa ((hC.fp.block _ (Ab Hql.out) nql).trans Hql.out) 0;have g0:=Aa (HL.out.fp hC.fp n0) 0;have g1:=Aa (HL.out.fp hC.fp n0) 1;simp only[E8,a0w,a0u,a0x] at g0 g1 rql;simp only[Oper.wp,execOp];go_simp;exact hK _ hC trivial
 apply He (B0 (.int .i64 x)) rfl rfl rfl
 ·intro b a w hC hA K hK;have h5:=hA.eq 3 5 rfl;have h9:=hA.eq 7 9 rfl;simp only[Oper.wp,execOp];go_simp;(with_reducible refine(HC.out _ (hC.first hA.self)).mono ?_);rintro e w2 ⟨rfl,hd2,hf2⟩;exact hK _ _ ⟨hd2,hC.fp.trans hf2 (by intro i hi;exact Or.inl hi)⟩ trivial rfl
 apply Bi (fun _ _ h=>h) rfl rfl rfl
 ·intro b a w hC hA K hK;have h10:=hA.eq 8 10 rfl;simp only[Oper.wp,execOp];go_simp;exact hK _ hC trivial
 refine⟨?_,?_⟩
 ·refine Cc _ ?_;refine⟨fun _ _ _ _ h=>h,?_⟩
  iterate 8 refine Cc _ ?_
  exact trivial
 ·intro w' bb hC hbb;simp only[a1w,a1v,a2z,a1u]
  iterate 8 (refine Au ?_)
  refine Az ?_;intro v8 u8;obtain rfl:=u8
  iterate 1 (refine Au ?_)
  refine A6 ?_;simp only[Am,Act.put,a0v,a1z,a1x];have hbx:bb 8=true:=hbb 8 (by decide);have hCd:=hC.disk;rw[hbx] at hCd;have HDD:Hid (Ah w' b bm d2):=a0z hCd;have HFF:=a0z hC.fp;clear hC hbb hCd;go_wp2_with (fail);go_ret;exact⟨rfl,HDD.out,HFF.out⟩
end
section
open Go.ChangeShapes Go.WideShapes Go.ChangeAt Go.RowKit
structure F4(w:World)(a:Option Addr)(len:Nat)(l:List ByteArray):Prop where
 len:len=l.length
 cells:l=[]∨∃b o,a=some ⟨b,o,none⟩∧∀i (h:i<l.length),w.cell? ⟨b,o+i,none⟩=some (.string l[i])
 small:∀s∈l,s.size≤maxLen
theorem F4.of_fp{w w':World}{a:Option Addr}{len:Nat}{l:List ByteArray}(h:F4 w a len l)(hf:Fp [] w w'):F4 w' a len l:=by
 refine⟨h.len,?_,h.small⟩
 rcases h.cells with h0|⟨b,o,rfl,hc⟩
 ·exact Or.inl h0
 ·exact Or.inr ⟨b,o,rfl,fun i hi=>by rw[hf.cell (World.block_lt_of_cell? _ _ (hc i hi)) (by simp)];exact hc i hi⟩
end
section
open Go.RowKit Go.Lib Go.Maps Go.MapKept Go.ChangeMaps
theorem Aa0{w:World}{b bm L ql qo qs:Nat}{lg:Lg}{d0:Dk}{other s:ByteArray}(hd:Ah w b bm d0)(hname:other.size≤maxLen)(hto:lg.name.size≤maxLen)(hs:s.size≤1000000000)(hl:B5 w L b lg)
  (h1:w.heap[ql]?=some (.cells #[.pointer (some ⟨L,0,none⟩)] 119 (0,0)))(h2:w.heap[qo]?=some (.cells #[.string other] 9 (0,0)))(h3:w.heap[qs]?=some (.cells #[.string s] 9 (0,0))):
  X1 w b bm [(177,#[.pointer (some ⟨ql,0,none⟩),.pointer (some ⟨qo,0,none⟩)]),(179,#[.pointer (some ⟨ql,0,none⟩),.pointer (some ⟨qo,0,none⟩)]),(181,#[.pointer (some ⟨ql,0,none⟩),.pointer (some ⟨qo,0,none⟩),.pointer (some ⟨qs,0,none⟩)]),(183,#[.pointer (some ⟨ql,0,none⟩),.pointer (some ⟨qo,0,none⟩)]),(184,#[.pointer (some ⟨ql,0,none⟩),.pointer (some ⟨qo,0,none⟩)])] (Pn lg.name other s):=by
 have n0:=hl.ne hd;have n1:=Fh h1 (by decide) hd;have n2:=Fh h2 (by decide) hd;have n3:=Fh h3 (by decide) hd
 have f1:∀W,Fp [b,bm] w W→W.heap[ql]?=some (.cells #[.pointer (some ⟨L,0,none⟩)] 119 (0,0)):=fun W hf=>(hf.block _ (Ab h1) n1).trans h1
 have f2:∀W,Fp [b,bm] w W→W.heap[qo]?=some (.cells #[.string other] 9 (0,0)):=fun W hf=>(hf.block _ (Ab h2) n2).trans h2
 have f3:∀W,Fp [b,bm] w W→W.heap[qs]?=some (.cells #[.string s] 9 (0,0)):=fun W hf=>(hf.block _ (Ab h3) n3).trans h3
 refine⟨rfl,fun i hi hi2=>?_,zJ _ _ _⟩
 have hcase:i=0∨i=1∨i=2∨i=3∨i=4:=by simp at hi;omega
 rcases hcase with rfl|rfl|rfl|rfl|rfl
 ·exact⟨fun w=>by kernel_rfl,fun d W hd hok hf=>rT W b bm L ql qo lg d other hd hok hname (hl.fp hf n0) (f1 W hf) (f2 W hf)⟩
 ·exact⟨fun w=>by kernel_rfl,fun d W hd hok hf=>Aau W b bm L ql qo lg d other hd hok hname (hl.fp hf n0) (f1 W hf) (f2 W hf)⟩
 ·exact⟨fun w=>by kernel_rfl,fun d W hd hok hf=>Aav W b bm L ql qo qs lg d other s hd hok hname hs (hl.fp hf n0) (f1 W hf) (f2 W hf) (f3 W hf)⟩
 ·exact⟨fun w=>by kernel_rfl,fun d W hd hok hf=>Aaw W b bm L ql qo lg d other hd hok hname (hl.fp hf n0) (f1 W hf) (f2 W hf)⟩
 ·exact⟨fun w=>by kernel_rfl,fun d W hd hok hf=>Aax W b bm L ql qo lg d other hd hok hname hto (hl.fp hf n0) (f1 W hf) (f2 W hf)⟩
theorem Aa1(w:World)(b bm L:Nat)(lg:Lg)(d:Dk)(s:ByteArray)(hd:Ah w b bm d)(hok:Ak d)(hto:lg.name.size≤1000)(hs:s.size≤1000000000)(hl:B5 w L b lg):
  Calls Tryz.prog 114 #[.pointer (some ⟨L,0,none⟩),.string s] w fun e w'=>e=.returned (.int .i64 (d.wWrite lg.name s).2)∧Ah w' b bm (d.wWrite lg.name s).1∧Fp [b,bm] w w':=by
 obtain⟨W,hW⟩:∃W,W=((((w.alloc (.cells #[.pointer (some ⟨L,0,none⟩)] 119)).alloc (.cells #[.string s] 9)).alloc (.cells #[.string (lg.name++I7)] 9)).alloc (.cells #[.func (.func 177) #[] #[.pointer (some ⟨w.heap.size,0,none⟩),.pointer (some ⟨w.heap.size+1+1,0,none⟩)],.func (.func 179) #[] #[.pointer (some ⟨w.heap.size,0,none⟩),.pointer (some ⟨w.heap.size+1+1,0,none⟩)],.func (.func 181) #[] #[.pointer (some ⟨w.heap.size,0,none⟩),.pointer (some ⟨w.heap.size+1+1,0,none⟩),.pointer (some ⟨w.heap.size+1,0,none⟩)],.func (.func 183) #[] #[.pointer (some ⟨w.heap.size,0,none⟩),.pointer (some ⟨w.heap.size+1+1,0,none⟩)],.func (.func 184) #[] #[.pointer (some ⟨w.heap.size,0,none⟩),.pointer (some ⟨w.heap.size+1+1,0,none⟩)]] 254)):=⟨_,rfl⟩
 have hfW:Fp [] w W:=by rw[hW];exact(((Fp.alloc _ _).alloc' _).alloc' _).alloc' _
 have hb1:W.heap[w.heap.size]?=some (.cells #[.pointer (some ⟨L,0,none⟩)] 119 (0,0)):=by
  rw[hW,Below.heap_alloc _ _ _ (by simp<;>omega),Below.heap_alloc _ _ _ (by simp<;>omega),Below.heap_alloc _ _ _ (by simp<;>omega)];exact Ai rfl _
 have hb2:W.heap[w.heap.size+1]?=some (.cells #[.string s] 9 (0,0)):=by
  rw[hW,Below.heap_alloc _ _ _ (by simp<;>omega),Below.heap_alloc _ _ _ (by simp<;>omega)];exact Ai (by simp) _
 have hb3:W.heap[w.heap.size+1+1]?=some (.cells #[.string (lg.name++I7)] 9 (0,0)):=by
  rw[hW,Below.heap_alloc _ _ _ (by simp<;>omega)];exact Ai (by simp) _
 have hsz:(lg.name++I7).size≤maxLen:=by rw[ByteArray.size_append];show lg.name.size+1≤maxLen;unfold maxLen;omega
 have hdW:=hd.of_fp hfW (by simp) (by simp);have hst:=Aa0 hdW hsz (by unfold maxLen;omega) hs (hl.fp hfW (by simp)) hb1 hb3 hb2
 have HC:Calls Tryz.prog 176 #[.slice (some ⟨w.heap.size+1+1+1,0,none⟩) 5 5] W fun e w'=>e=.returned (.int .i64 (d.wWrite lg.name s).2)∧Ah w' b bm (d.wWrite lg.name s).1∧Fp [b,bm] W w':=by
  have h:=dZ W b bm (w.heap.size+1+1+1) d _ _ hdW hok (by rw[hW];exact Ai (by simp) _) (by simp) hst;rw[show F3 (Pn lg.name (lg.name++I7) s) d=d.wWrite lg.name s from rfl] at h;exact h
 have c1:w.cell? ⟨L,1,none⟩=some (.string lg.name):=Aa hl 1;have hlt:=Ab hl;have HC:=a0z HC;have HF:=a0z hfW;rw[hW] at HC HF
 obtain⟨⟨d2,x⟩,hx⟩:∃r,d.wWrite lg.name s=r:=⟨_,rfl⟩
 rw[hx] at HC ⊢
 have zn:¬lg.name.size+1>9223372036854775807:=by omega
 clear hx hW hst hdW hb1 hb2 hb3 hfW hd hl hsz;unfold I7 at HC HF;go_enter Tryz.func114,Tryz.ntmps114;go_wp2_with (fail);(with_reducible refine HC.out.mono ?_);rintro e w2 ⟨rfl,hd2,hf2⟩;have HD2:=a0z hd2;have HF2:=a0z ((HF.out.mono (S':=[b,bm]) (by simp)).trans hf2 (by intro i hi;exact Or.inl hi));clear hd2 hf2;go_wp2_with (fail);go_ret;exact⟨rfl,HD2.out,HF2.out⟩
theorem Aa2{l:List ByteArray}{k:Nat}(hk:k<l.length)(h:65535<(l[k]).size):Ie l=(⟨#[]⟩,71):=by
 unfold Ie Zk;rw[if_neg];intro h2;have:=List.all_eq_true.1 h2 l[k] (List.getElem_mem hk);simp only[decide_eq_true_eq] at this;omega
theorem Zw{l:List ByteArray}(h:∀t∈l,t.size≤65535):Ie l=(bl (A0 l),0):=by
 unfold Ie Zk;rw[if_pos]
 exact List.all_eq_true.2 fun t ht=>by simpa using h t ht
theorem Aa3{l:List ByteArray}(k:Nat):Be (l.take k)≤Be l:=by
 have h:=To (l.take k) (l.drop k);rw[List.take_append_drop] at h;omega
theorem Aa4{l:List ByteArray}{k:Nat}(hk:k<l.length):Be (l.take (k+1))=Be (l.take k)+(6+(l[k]).size):=by
 rw[a2x hk,To];rfl
theorem Zx:∀(l:List ByteArray),6*l.length≤Be l
 |[]=>Nat.zero_le _
 |t::r=>by have:=Zx r;simp only[List.length_cons,Be];omega
theorem Aa5{w:World}{a:Option Addr}{n k:Nat}{l:List ByteArray}(h:F4 w a n l)(hk:k<l.length):∃b o,a=some ⟨b,o,none⟩∧∀w',Fp [] w w'→w'.cell? ⟨b,o+k,none⟩=some (.string l[k]):=by
 rcases h.cells with h0|⟨b,o,e,hc⟩
 ·rw[h0] at hk;exact absurd hk (Nat.not_lt_zero _)
 ·exact⟨b,o,e,fun w' hf=>by rw[hf.cell (World.block_lt_of_cell? _ _ (hc k hk)) (by simp)];exact hc k hk⟩
theorem Aa6(w:World)(a:Option Addr)(n cap:Nat)(l:List ByteArray)(hat:F4 w a n l)(ht:Ce w)(hsz:Be l≤100000000):
  Calls Tryz.prog 242 #[.slice a n cap] w fun e w'=>e=.returned (.tuple #[.string (Ie l).1,.int .i64 (Ie l).2])∧Fp [] w w':=by
 have HAT:=a0z hat;have HLN:=a0z hat.len;have HT:=a0z ht;have HPUT:=a0z (fun s w h ht=>iP s w h ht);have HWS:=a0z (fun l s w h1 h2=>Uc Zh (show 131≠5 by decide) w.heap.size w.heap.size l s w h1 h2);have hll:=Zx l
 have hlen:l.length≤100000000:=by omega
 have HSZ:=a0z hsz;clear hat ht hsz HWS hll;go_enter Tryz.func242,Tryz.ntmps242;go_wp2_with (fail)
 go_loopg [11] n (fun g vi W=>∃(k:Nat),g+k=n∧vi=.int .i64 k∧(∀t∈l.take k,t.size≤65535)∧Da 131 w.heap.size w.heap.size (A0 (l.take k)) W∧Fp [] w W)
 case atStart=>exact⟨0,by omega,rfl,by simp,Da.fresh _ _,Fp.alloc _ _⟩
 case round=>
  obtain⟨k,hg,rfl,hall,hb,hf⟩:=hrel;have HALL:=a0z hall;have HB:=a0z hb;have HF:=a0z hf;clear hall hb hf
  by_cases hk:k<n
  ·have zk:(k:Int)<(n:Int):=by omega
   have hkl:k<l.length:=by rw[←HLN.out];exact hk
   obtain⟨b1,o1,rfl,hcells⟩:=Aa5 HAT.out hkl;have hcell:=hcells wr HF.out;have hsk:=Aa4 hkl;have hst:=Aa3 (l:=l) (k+1);have hrl:=Ic (l.take k)
   have hrs:A0 (l.take (k+1))=A0 (l.take k)++B8 l[k]:=by
    rw[a2x hkl,We];show _ ++(B8 l[k]++[])=_;rw[List.append_nil]
   have hbad:65535<(l[k]).size→Ie l=(⟨#[]⟩,71):=Aa2 hkl
   have hal:∀t∈l.take (k+1),t=l[k]∨t∈l.take k:=by
    intro t ht;rw[a2x hkl] at ht
    rcases List.mem_append.1 ht with h|h
    ·exact Or.inr h
    ·exact Or.inl (List.mem_singleton.1 h)
   obtain⟨t,htt⟩:∃t,l[k]=t:=⟨_,rfl⟩
   rw[htt] at hcell hsk hrs hbad hal
   have hts:t.size≤100000000:=by have:=HSZ.out;omega
   have hlb:(A0 (l.take k)).length+(Jm t).size≤1000000000:=by rw[hrl,iO];have:=HSZ.out;omega
   have HRS:=a0z hrs;have HBAD:=a0z hbad;have HAL:=a0z hal;have HLB:=a0z hlb;have HTS:=a0z hts;have HP:=a0z (HPUT.out t wr hts (HT.out.fp HF.out (by simp)));clear hcells hsk hst hrl hrs hbad hal htt hlb hts
   by_cases hw:65535<t.size
   ·have HB2:=a0z (HBAD.out hw);have hpp:K8 t=(⟨#[]⟩,71):=if_pos hw;rw[hpp] at HP;clear hw hpp;go_wp2_with (fail);(with_reducible refine HP.out.mono ?_);rintro e w2 ⟨rfl,hf2⟩;have HF2:=a0z (HF.out.trans hf2 (by simp));clear hf2;go_wp2_with (fail);go_ret2;rw[HB2.out];exact⟨rfl,HF2.out⟩
   ·have hpp:K8 t=(Jm t,0):=if_neg hw;have HW:=a0z hw;rw[hpp] at HP;clear hw hpp;go_wp2_with (fail);(with_reducible refine HP.out.mono ?_);rintro e w2 ⟨rfl,hf2⟩;have HB2:=a0z (HB.out.fp hf2 (by simp));have HF2:=a0z (HF.out.trans hf2 (by simp));clear hf2;go_wp2_with (fail);(with_reducible refine(Uc Zh (by decide) w.heap.size w.heap.size (A0 (l.take k)) (Jm t) w2 HB2.out HLB.out).mono ?_);rintro e w3 ⟨rfl,hb3,hf3⟩
    have HB3:Hid (Da 131 w.heap.size w.heap.size (A0 (l.take (k+1))) w3):=by
     rw[HRS.out];rw[show(Jm t).data.toList=B8 t from by rw[Wb];exact Rn _] at hb3;exact a0z hb3
    have HF3:=a0z (HF2.out.bfp hf3 (Nat.le_refl _));clear hb3 hf3;go_wp2_with (fail)
    go_roundg (gk-1)
    case measure=>omega
    case rel=>exact⟨k+1,by omega,by go_num,fun t' ht'=>by
     rcases HAL.out t' ht' with rfl|h
     ·have:=HW.out;omega
     ·exact HALL.out t' h,HB3.out,HF3.out⟩
  ·have zk:¬(k:Int)<(n:Int):=by omega
   have hkn:l.take k=l:=by rw[List.take_of_length_le (by rw[←HLN.out];omega)]
   have hb2:=HB.out;have ha2:=HALL.out;rw[hkn] at hb2 ha2;have HB2:=a0z hb2;have HG:=a0z (Zw ha2);clear hkn hb2 ha2;go_wp2_with (fail);(with_reducible refine(aN w.heap.size w.heap.size (A0 l) _ HB2.out).mono ?_);rintro e w3 ⟨rfl,hf3⟩;have HF3:=a0z (HF.out.belowTrans hf3);clear hf3;go_wp2_with (fail);go_ret2;rw[HG.out];exact⟨rfl,HF3.out⟩
end
section
open Go.RowKit Go.Lib Go.Maps Go.MapKept Go.ChangeMaps
theorem Aa7{w:World}{b bm L ql qs:Nat}{lg:Lg}{d0:Dk}{s:ByteArray}(hd:Ah w b bm d0)(hto:lg.name.size≤maxLen)(hs:s.size≤1000000000)(hl:B5 w L b lg)
  (h1:w.heap[ql]?=some (.cells #[.pointer (some ⟨L,0,none⟩)] 119 (0,0)))(h3:w.heap[qs]?=some (.cells #[.string s] 9 (0,0))):
  X1 w b bm [(191,#[.pointer (some ⟨ql,0,none⟩),.pointer (some ⟨qs,0,none⟩)]),(192,#[.pointer (some ⟨ql,0,none⟩)])] (Po lg.name s):=by
 have n0:=hl.ne hd;have n1:=Fh h1 (by decide) hd;have n3:=Fh h3 (by decide) hd
 have f1:∀W,Fp [b,bm] w W→W.heap[ql]?=some (.cells #[.pointer (some ⟨L,0,none⟩)] 119 (0,0)):=fun W hf=>(hf.block _ (Ab h1) n1).trans h1
 have f3:∀W,Fp [b,bm] w W→W.heap[qs]?=some (.cells #[.string s] 9 (0,0)):=fun W hf=>(hf.block _ (Ab h3) n3).trans h3
 refine⟨rfl,fun i hi hi2=>?_,jR _ _⟩
 have hcase:i=0∨i=1:=by simp at hi;omega
 rcases hcase with rfl|rfl
 ·exact⟨fun w=>by kernel_rfl,fun d W hd hok hf=>Aay W b bm L ql qs lg d s hd hok hto hs (hl.fp hf n0) (f1 W hf) (f3 W hf)⟩
 ·exact⟨fun w=>by kernel_rfl,fun d W hd hok hf=>Aaz W b bm L ql lg d hd hok hto (hl.fp hf n0) (f1 W hf)⟩
theorem Aa8(w:World)(b bm L ql:Nat)(lg:Lg)(d:Dk)(s:ByteArray)(hd:Ah w b bm d)(hok:Ak d)(hto:lg.name.size≤1000)(hs:s.size≤1000000000)(hl:B5 w L b lg)
  (h1:w.heap[ql]?=some (.cells #[.pointer (some ⟨L,0,none⟩)] 119 (0,0))):
  Calls Tryz.prog 190 #[.string s,.pointer (some ⟨ql,0,none⟩)] w fun e w'=>e=.returned (.int .i64 (d.wAppend lg.name s).2)∧Ah w' b bm (d.wAppend lg.name s).1∧Fp [b,bm] w w':=by
 obtain⟨W,hW⟩:∃W,W=((w.alloc (.cells #[.string s] 9)).alloc (.cells #[.func (.func 191) #[] #[.pointer (some ⟨ql,0,none⟩),.pointer (some ⟨w.heap.size,0,none⟩)],.func (.func 192) #[] #[.pointer (some ⟨ql,0,none⟩)]] 254)):=⟨_,rfl⟩
 have hfW:Fp [] w W:=by rw[hW];exact(Fp.alloc _ _).alloc' _
 have hb2:W.heap[w.heap.size]?=some (.cells #[.string s] 9 (0,0)):=by
  rw[hW,Below.heap_alloc _ _ _ (by simp<;>omega)];exact Ai (by simp) _
 have hdW:=hd.of_fp hfW (by simp) (by simp);have hst:=Aa7 hdW (by unfold maxLen;omega) hs (hl.fp hfW (by simp)) ((hfW.block _ (Ab h1) (by simp)).trans h1) hb2
 have HC:Calls Tryz.prog 176 #[.slice (some ⟨w.heap.size+1,0,none⟩) 2 2] W fun e w'=>e=.returned (.int .i64 (d.wAppend lg.name s).2)∧Ah w' b bm (d.wAppend lg.name s).1∧Fp [b,bm] W w':=by
  have h:=dZ W b bm (w.heap.size+1) d _ _ hdW hok (by rw[hW];exact Ai (by simp) _) (by simp) hst;rw[show F3 (Po lg.name s) d=d.wAppend lg.name s from rfl] at h;exact h
 have HC:=a0z HC;have HF:=a0z hfW;rw[hW] at HC HF
 obtain⟨⟨d2,x⟩,hx⟩:∃r,d.wAppend lg.name s=r:=⟨_,rfl⟩
 rw[hx] at HC ⊢;clear hx hW hst hdW hb2 hfW hd hl h1;go_enter Tryz.func190,Tryz.ntmps190;go_wp2_with (fail);(with_reducible refine HC.out.mono ?_);rintro e w2 ⟨rfl,hd2,hf2⟩;have HD2:=a0z hd2;have HF2:=a0z ((HF.out.mono (S':=[b,bm]) (by simp)).trans hf2 (by intro i hi;exact Or.inl hi));clear hd2 hf2;go_wp2_with (fail);go_ret;exact⟨rfl,HD2.out,HF2.out⟩
theorem Aa9{lg:Lg}{d:Dk}{l:List ByteArray}{m:Nat}{g:ByteArray→Dk→Dk × Int}(h:lg.off=true):I8 lg d l m g=(lg,d,6):=by
 unfold I8;rw[h];rfl
theorem Aba{lg:Lg}{d:Dk}{l:List ByteArray}{m:Nat}{g:ByteArray→Dk→Dk × Int}{s:ByteArray}{x:Int}(h:lg.off=false)(hb:Ie l=(s,x))(hx:x≠0):I8 lg d l m g=(lg,d,x):=by
 unfold I8;rw[h,hb,if_neg (by decide),if_pos hx]
theorem Abb{lg:Lg}{d d2:Dk}{l:List ByteArray}{m:Nat}{g:ByteArray→Dk→Dk × Int}{s:ByteArray}{x:Int}(h:lg.off=false)(hb:Ie l=(s,0))(hg:g s d=(d2,x)):I8 lg d l m g=(if x=0 then{lg with many:=m} else if x=2 then lg else{lg with off:=true},d2,x):=by
 unfold I8;rw[h,hb,if_neg (by decide),if_neg (by simp)];simp only[hg]
theorem B5.put{w:World}{L b:Nat}{lg:Lg}(h:B5 w L b lg):B5 (w.setCell ⟨L,3,none⟩ (.bool true)) L b {lg with off:=true}:=(Bm h _).trans rfl
theorem B5.putMany{w:World}{L b m:Nat}{lg:Lg}(h:B5 w L b lg):B5 (w.setCell ⟨L,2,none⟩ (.int .i64 m)) L b {lg with many:=m}:=(Bm h _).trans rfl
theorem Abc(w:World)(b bm L:Nat)(lg:Lg)(d:Dk)(a:Option Addr)(n cap:Nat)(l:List ByteArray)(m F:Nat)(caps:Array Value)(g:ByteArray→Dk→Dk × Int)
  (hd:Ah w b bm d)(hl:B5 w L b lg)(hat:F4 w a n l)(ht:Ce w)(hsz:Be l≤100000000)
  (hen:∀s w,(callFunc F (#[.string s]++caps)).run Tryz.prog w=.ok (.enter F (#[.string s]++caps)) w)
  (hdo:∀s W,(A0 l).length=s.size→Fp [] w W→Ah W b bm d→Calls Tryz.prog F (#[.string s]++caps) W fun e w'=>e=.returned (.int .i64 (g s d).2)∧Ah w' b bm (g s d).1∧Fp [b,bm] W w'):
  Calls Tryz.prog 189 #[.pointer (some ⟨L,0,none⟩),.slice a n cap,.int .i64 m,.func (.func F) #[] caps] w fun e w'=>e=.returned (.int .i64 (I8 lg d l m g).2.2)∧Ah w' b bm (I8 lg d l m g).2.1∧B5 w' L b (I8 lg d l m g).1∧Fp [b,bm,L] w w':=by
 have n0:=hl.ne hd;have hlt:=Ab hl;have c3:w.cell? ⟨L,3,none⟩=some (.bool lg.off):=Aa hl 3;have HBY:=a0z (Aa6 w a n cap l hat ht hsz);have HD:=a0z hd;have HL:=a0z hl;have HDO:=a0z hdo;have HN0:=a0z n0;clear hd hl hat ht hsz hdo n0;cases ho:lg.off
 case true=>
  rw[ho] at c3;have HE:=a0z (Aa9 (d:=d) (l:=l) (m:=m) (g:=g) ho);clear ho;go_enter Tryz.func189,Tryz.ntmps189;go_wp2_with (fail);go_ret;rw[HE.out];exact⟨rfl,HD.out,HL.out,Fp.refl _ _⟩
 case false=>
  rw[ho] at c3
  obtain⟨⟨s,x⟩,hx⟩:∃r,Ie l=r:=⟨_,rfl⟩
  rw[hx] at HBY
  by_cases h0:x=0
  ·subst h0
   have hslen:(A0 l).length=s.size:=by
    unfold Ie at hx;split at hx
    ·cases hx;rw[D1]
    ·cases hx
   obtain⟨⟨d2,y⟩,hy⟩:∃r,g s d=r:=⟨_,rfl⟩
   have HGO:Hid (∀W,Fp [] w W→Calls Tryz.prog F (#[.string s]++caps) W fun e w'=>e=.returned (.int .i64 y)∧Ah w' b bm d2∧Fp [b,bm] W w'):=a0z (fun W hf=>by
    have h:=HDO.out s W hslen hf (HD.out.of_fp hf (by simp) (by simp));rw[hy] at h
    exact h)
   have HE:=a0z (Abb (m:=m) ho hx hy);have hens:=hen s;clear ho hx hy hslen hen;go_enter Tryz.func189,Tryz.ntmps189;go_wp2_with (fail);(with_reducible refine HBY.out.mono ?_);rintro e w1 ⟨rfl,hf1⟩;have HF1:=a0z hf1;clear hf1;go_wp2_with (fail);(with_reducible refine(HGO.out _ HF1.out).mono ?_);rintro e w2 ⟨rfl,hd2,hf2⟩;have HD2:=a0z hd2;have HF2:Hid (Fp [b,bm] w w2):=a0z ((HF1.out.mono (by simp)).trans hf2 (by intro i hi;exact Or.inl hi));have HL2:=a0z (HL.out.fp HF2.out HN0.out);have hlt2:=Ab HL2.out;have e2:w2.cell? ⟨L,2,none⟩=some (.int .i64 lg.many):=Aa HL2.out 2;have e3:w2.cell? ⟨L,3,none⟩=some (.bool lg.off):=Aa HL2.out 3;have f2:w2.frozen? ⟨L,2,none⟩=false:=Ar HL2.out 2;have f3:w2.frozen? ⟨L,3,none⟩=false:=Ar HL2.out 3;have HNE:Hid (b≠L∧bm≠L):=a0z (by have:=HN0.out;simp only[a2v,a2w,or_false,not_or] at this;exact⟨Ne.symm this.1,Ne.symm this.2⟩)
   have HST:Hid (∀p u,p=L→Fp [b,bm,L] w (w2.setCell ⟨p,3,none⟩ u)∧Fp [b,bm,L] w (w2.setCell ⟨p,2,none⟩ u)):=a0z (fun p u hp=>by
    subst hp
    exact⟨(HF2.out.mono (S':=[b,bm,p]) (by intro i hi;simp only[a2v,a2w,or_false] at hi ⊢;omega)).setCell' (Or.inl (by simp)) u,(HF2.out.mono (S':=[b,bm,p]) (by intro i hi;simp only[a2v,a2w,or_false] at hi ⊢;omega)).setCell' (Or.inl (by simp)) u⟩)
   clear hd2 hf2
   by_cases y0:y=0
   ·subst y0;go_wp2_with (fail);go_ret;rw[HE.out];refine⟨rfl,HD2.out.of_fp (S:=[L]) (Fp.setCell _ ⟨L,2,none⟩ _) (by simpa using HNE.out.1) (by simpa using HNE.out.2),HL2.out.putMany,(HST.out L _ rfl).2⟩
   ·by_cases y2:y=2
    ·subst y2;go_wp2_with (fail);go_ret;rw[HE.out];exact⟨rfl,HD2.out,HL2.out,HF2.out.mono (by intro i hi;simp only[a2v,a2w,or_false] at hi ⊢;omega)⟩
    ·have b0:((y:Int)==0)=false:=by simpa using y0
     have b2:((y:Int)==2)=false:=by simpa using y2
     have HEY:Hid (I8 lg d l m g=({lg with off:=true},d2,y)):=by
      have:=HE.out;rw[if_neg y0,if_neg y2] at this;exact this
     clear y0 y2;go_wp2_with (fail);go_ret;rw[HEY.out];exact⟨rfl,HD2.out.of_fp (S:=[L]) (Fp.setCell _ ⟨L,3,none⟩ _) (by simpa using HNE.out.1) (by simpa using HNE.out.2),HL2.out.put,(HST.out L _ rfl).1⟩
  ·have hb:((x:Int)!=0)=true:=by simpa using h0
   have HE:=a0z (Aba (d:=d) (m:=m) (g:=g) ho hx h0);clear ho hx h0 hen;go_enter Tryz.func189,Tryz.ntmps189;go_wp2_with (fail);(with_reducible refine HBY.out.mono ?_);rintro e w1 ⟨rfl,hf1⟩;have HF1:=a0z hf1;clear hf1;go_wp2_with (fail);go_ret;rw[HE.out];exact⟨rfl,HD.out.of_fp HF1.out (by simp) (by simp),HL.out.fp HF1.out (by simp),HF1.out.mono (by simp)⟩
structure Pv(S:List Nat)(w0:World)(Post:World→Prop)(done:Bool)(w:World):Prop where
 pre:done=false→Fp [] w0 w
 post:done=true→Post w
 fp:Fp S w0 w
theorem Pv.start{S:List Nat}{w0:World}{Post:World→Prop}:Pv S w0 Post false w0.drew:=⟨fun _=>Fp.drew w0,(fun h=>by cases h),(Fp.drew w0).mono (by simp)⟩
theorem Pv.did{S S':List Nat}{w0 w w2:World}{Post:World→Prop}(h:Fp [] w0 w)(hf:Fp S' w w2)(hS:∀i∈S',i∈S∨w0.heap.size≤i)(hp:Post w2):Pv S w0 Post true w2:=⟨(fun h=>by cases h),fun _=>hp,(h.mono (S':=S) (by simp)).trans hf hS⟩
theorem kI{a c:Bool}(h:a=true→c=true)(hc:c=false):a=false:=by cases a<;>cases c<;>simp_all
structure Tt(S:List Nat)(w0:World)(Post:World→Prop)(b5 b8 done:Bool)(w:World):Prop where
 t:Pv S w0 Post done w
 o1:b8=true→b5=true
 o2:done=true→b8=true
theorem Tt.early{S:List Nat}{w0:World}{Post:World→Prop}{b5 b8 done:Bool}{w:World}(h:Tt S w0 Post b5 b8 done w)(h5:b5=false):Fp [] w0 w:=h.t.pre (kI h.o2 (kI h.o1 h5))
theorem Abd(w:World)(db bm L:Nat)(lg:Lg)(d:Dk)(a:Option Addr)(n cap:Nat)(l:List ByteArray)
  (hd:Ah w db bm d)(hok:Ak d)(hto:lg.name.size≤1000)(hl:B5 w L db lg)(hat:F4 w a n l)(ht:Ce w)(hsz:Be l≤100000000)(hm:lg.many≤1000000000):
  Calls Tryz.prog 117 #[.pointer (some ⟨L,0,none⟩),.slice a n cap] w fun e w'=>e=.returned (.int .i64 (Gg lg d l).2.2)∧Ah w' db bm (Gg lg d l).2.1∧B5 w' L db (Gg lg d l).1∧Fp [db,bm,L] w w':=by
 have hll:=Zx l;have hln:=hat.len;have hfa:=Fp.alloc w (.cells #[.pointer (some ⟨L,0,none⟩)] 119)
 obtain⟨w0,hw0⟩:∃w0,w.alloc (.cells #[.pointer (some ⟨L,0,none⟩)] 119)=w0:=⟨_,rfl⟩
 have hbx:w0.heap[w.heap.size]?=some (.cells #[.pointer (some ⟨L,0,none⟩)] 119 (0,0)):=by rw[←hw0];exact Ai rfl _
 rw[hw0] at hfa;have hd0:=hd.of_fp hfa (by simp) (by simp);have hl0:=hl.fp hfa (by simp);have hat0:=hat.of_fp hfa;have ht0:=ht.fp hfa (by simp);have nq:=Fh hbx (by decide) hd0
 have nqL:w.heap.size≠L:=by have:=Ab hl;omega
 obtain⟨mn,hmn⟩:∃mn,lg.many+n=mn:=⟨_,rfl⟩
 have HC:Hid (∀W,Ah W db bm d→B5 W L db lg→Fp [db,bm,L] w0 W→F4 W a n l→Ce W→W.heap[w.heap.size]?=some (.cells #[.pointer (some ⟨L,0,none⟩)] 119 (0,0))→Calls Tryz.prog 189 #[.pointer (some ⟨L,0,none⟩),.slice a n cap,.int .i64 ((mn:Nat):Int),.func (.func 190) #[] #[.pointer (some ⟨w.heap.size,0,none⟩)]] W fun e w'=>e=.returned (.int .i64 (Gg lg d l).2.2)∧Ah w' db bm (Gg lg d l).2.1∧B5 w' L db (Gg lg d l).1∧Fp [db,bm,L] W w'):=a0z (fun W h1 h2 h3 h4 h5 h6=>by
  have h:=Abc W db bm L lg d a n cap l (lg.many+n) 190 #[.pointer (some ⟨w.heap.size,0,none⟩)] (fun s d=>d.wAppend lg.name s) h1 h2 h4 h5 hsz (fun s w=>by kernel_rfl)
   (fun s W' hs hf hdW=>Aa8 W' db bm L w.heap.size lg d s hdW hok hto (by rw[←hs,Ic];omega) (h2.fp hf (by simp)) ((hf.block _ (Ab h6) (by simp)).trans h6))
  have e1:Gg lg d l=I8 lg d l (lg.many+n) (fun s d=>d.wAppend lg.name s):=by unfold Gg;rw[hln]
  rw[e1,hmn];rw[hmn] at h
  exact h)
 obtain⟨⟨lg2,d2,x⟩,hx⟩:∃r,Gg lg d l=r:=⟨_,rfl⟩
 rw[hx] at HC ⊢;have HD0:=a0z hd0;have HL0:=a0z hl0;have HAT:=a0z hat0;have HT:=a0z ht0;have HBX:=a0z hbx;have HF0:=a0z hfa
 have nql:w.heap.size∉[db,bm,L]:=by
  intro hm;simp only[a2v,a2w,or_false] at hm nq
  rcases hm with h|h|h
  ·exact nq (Or.inl h)
  ·exact nq (Or.inr h)
  ·exact nqL h
 have hmf:∀(fn:Fn) (first cap:Array Value) (w:World),(Instr.makeFunc fn first cap).run Tryz.prog w=.ok (.func fn first cap) w:=fun _ _ _ _=>rfl
 have zn:IntKind.i64.wrap ((lg.many:Int)+(n:Int))=(mn:Int):=by rw[IntKind.wrap_i64];omega
 clear hx hd hl hat ht hd0 hl0 hat0 ht0 hbx hfa hln hll hok hto nq hmn;go_enter Tryz.func117,Tryz.ntmps117;go_wp2_with (fail);refine F9 (fun bb w'=>Tt [db,bm,L] w0 (fun W=>Ah W db bm d2∧B5 W L db lg2) (bb 5) (bb 8) (bb 10) w') (fun _ _=>True) (by kernel_rfl) (by kernel_rfl) ⟨Pv.start,(fun h=>by cases h),(fun h=>by cases h)⟩ ?_
 iterate 5
  apply Bi (fun _ _ h=>h) rfl rfl rfl
  ·intro b a w hC hA K hK
   try have h2:=hA.fr 2 rfl
   try have h1:=hA.fr 1 rfl
   try have h7:=hA.eq 2 7 rfl
   try have h8:=hA.eq 3 8 rfl
   have q0:=Aa ((hC.t.fp.block _ (Ab HBX.out) nql).trans HBX.out) 0;simp only[a0w,a0x] at q0;simp only[Oper.wp,execOp];go_simp;exact hK _ hC trivial
 apply He (B0 (.int .i64 lg.many)) rfl rfl rfl
 ·intro b a w hC hA K hK;have h9:=hA.eq 4 9 rfl;have q0:=Aa ((hC.t.fp.block _ (Ab HBX.out) nql).trans HBX.out) 0;simp only[a0w,a0x] at q0;have hf0:=hC.early hA.self;have q1:=Aa (HL0.out.fp hf0 (by simp)) 2;simp only[E8,a0w,a0u,a0x] at q1
  have hst:Tt [db,bm,L] w0 (fun W=>Ah W db bm d2∧B5 W L db lg2) true (b 8) (b 10) w:=⟨hC.t,(fun _=>rfl),hC.o2⟩
  simp only[Oper.wp,execOp];go_simp;exact hK _ _ hst trivial rfl
 iterate 2
  apply Bi (fun _ _ h=>h) rfl rfl rfl
  ·intro b a w hC hA K hK
   try have h1:=hA.fr 1 rfl
   try have h11:=hA.eq 6 11 rfl
   simp only[Oper.wp,execOp];go_simp;exact hK _ hC trivial
 apply He (B0 (.int .i64 mn)) rfl rfl rfl
 ·intro b a w hC hA K hK;have h10:=hA.eq 5 10 rfl;have h12:=hA.eq 7 12 rfl;have h5:=hA.pre 5 (by kernel_rfl)
  have hst:Tt [db,bm,L] w0 (fun W=>Ah W db bm d2∧B5 W L db lg2) (b 5) true (b 10) w:=⟨hC.t,(fun _=>h5),(fun _=>rfl)⟩
  simp only[Oper.wp,execOp];go_simp;exact hK _ _ hst trivial rfl
 apply Bi (fun _ _ h=>h) rfl rfl rfl
 ·intro b a w hC hA K hK;have h2:=hA.fr 2 rfl;simp only[Oper.wp,execOp];go_simp;exact hK _ hC trivial
 apply He (B0 (.int .i64 x)) rfl rfl rfl
 ·intro b a w hC hA K hK;have h5:=hA.eq 0 5 rfl;have h6:=hA.eq 1 6 rfl;have h13:=hA.eq 8 13 rfl;have h14:=hA.eq 9 14 rfl;have h8:=hA.pre 8 (by kernel_rfl);have hf0:=hC.t.pre hA.self;simp only[Oper.wp,execOp];go_simp;(with_reducible refine(HC.out _ (HD0.out.of_fp hf0 (by simp) (by simp)) (HL0.out.fp hf0 (by simp)) (hf0.mono (by simp)) (HAT.out.of_fp hf0) (HT.out.fp hf0 (by simp)) ((hf0.block _ (Ab HBX.out) (by simp)).trans HBX.out)).mono ?_);rintro e w2 ⟨rfl,hd2,hl2,hf2⟩;exact hK _ _ ⟨Pv.did hf0 hf2 (by intro i hi;exact Or.inl hi) ⟨hd2,hl2⟩,hC.o1,(fun _=>h8)⟩ trivial rfl
 apply Bi (fun _ _ h=>h) rfl rfl rfl
 ·intro b a w hC hA K hK;have h15:=hA.eq 10 15 rfl;simp only[Oper.wp,execOp];go_simp;exact hK _ hC trivial
 refine⟨?_,?_⟩
 ·refine Cc _ ?_;refine⟨fun _ _ _ _ h=>h,?_⟩;refine Cc _ ?_;refine⟨fun _ _ _ _ h=>h,?_⟩;refine Cc _ ?_;refine Cc _ ?_;refine⟨fun _ _ _ _ h=>h,?_⟩
  iterate 5 refine Cc _ ?_
  exact trivial
 ·intro w' bb hC hbb;simp only[a1w,a1v,a2z,a1u]
  iterate 5 (refine Au ?_)
  refine Az ?_;intro v5 u5;obtain rfl:=u5
  iterate 2 (refine Au ?_)
  refine Az ?_;intro v8 u8;obtain rfl:=u8
  iterate 1 (refine Au ?_)
  refine Az ?_;intro v10 u10;obtain rfl:=u10
  iterate 1 (refine Au ?_)
  refine A6 ?_;simp only[Am,Act.put,a0v,a1z,a1x];obtain⟨hd2,hl2⟩:=hC.t.post (hbb 10 (by decide));have HD2:=a0z hd2;have HL2:=a0z hl2;have HF2:Hid (Fp [db,bm,L] w w'):=a0z ((HF0.out.mono (S':=[db,bm,L]) (by simp)).trans hC.t.fp (by intro i hi;exact Or.inl hi));clear hC hbb hd2 hl2;go_wp2_with (fail);go_ret;exact⟨rfl,HD2.out,HL2.out,HF2.out⟩
theorem Abe(w:World)(L b:Nat)(lg:Lg)(hl:B5 w L b lg):Calls Tryz.prog 67 #[.pointer (some ⟨L,0,none⟩)] w fun e w'=>e=.returned (.bool lg.off)∧w'=w:=by
 have c3:w.cell? ⟨L,3,none⟩=some (.bool lg.off):=Aa hl 3;clear hl;go_enter Tryz.func67,Tryz.ntmps67;go_wp2;go_ret;exact⟨rfl,rfl⟩
end
end Go.Proofs.YtkagolpnaicdoaaGreatDoor
