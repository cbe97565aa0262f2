/-
 wal: the closures of write and of Append. Slices of strings that came in. wal: write; bytes; change, Append; Off.
-/
import Derived.Test.YtkagolpnaicdoaaGreatDoorSJobK
import Derived.Test.YtkagolpnaicdoaaGreatDoorSTabG
set_option maxRecDepth 100000
set_option maxHeartbeats 8000000
namespace Go.Proofs.YtkagolpnaicdoaaGreatDoor
section
open Go.RowKit Go.Lib Go.Maps Go.MapKept Go.ChangeMaps
theorem write2_any (w : World) (b bm L ql qo : Nat) (lg : Lg) (d : Dk) (other : ByteArray) (hd : DiskAt w b bm d) (hok : DkOK d) (hname : other.size ≤ maxLen) (hl : LogAt w L b lg) (hql : w.heap[ql]? = some (.cells #[.pointer (some ⟨L, 0, none⟩)] 119 (0, 0))) (hqo : w.heap[qo]? = some (.cells #[.string other] 9 (0, 0))) :
  Calls Tryz.prog 179 #[.pointer (some ⟨ql, 0, none⟩), .pointer (some ⟨qo, 0, none⟩)] w fun e w' => e = .returned (.int .i64 (d.createE other)) ∧ DiskAt w' b bm (d.create other) ∧ Fp [b, bm] w w' := by
 have n0 := hl.ne hd
 have nql := box_ne hql (by decide) hd
 have nqo := box_ne hqo (by decide) hd
 have HD := Lib.hid hd
 have HL := Lib.hid hl
 have Hql := Lib.hid hql
 have Hqo := Lib.hid hqo
 have HC := Lib.hid (fun W (h : DiskAt W b bm d) => create_any W b bm d other h hok hname)
 clear hd hl hql hqo
 obtain ⟨x, hx⟩ : ∃ x, d.createE other = x := ⟨_, rfl⟩
 obtain ⟨d2, hd2⟩ : ∃ x, d.create other = x := ⟨_, rfl⟩
 rw [hx, hd2] at HC ⊢
 clear hx hd2
 go_enter Tryz.func179, Tryz.ntmps179
 go_wp2_with (fail)
 refine wp_region_n (fun bb w' => DkC b bm w d d2 (bb 5) w') (fun _ _ => True) (by kernel_rfl) (by kernel_rfl) (DkC.start HD.out) ?_
 iterate 5
  apply nx_plain (fun _ _ h => h) rfl rfl rfl
  ·intro b a w hC hA K hK
   try have h0 := hA.fr 0 rfl
   try have h3 := hA.eq 0 3 rfl
   try have h4 := hA.eq 1 4 rfl
   try have h5 := hA.eq 2 5 rfl
   try have h1 := hA.fr 1 rfl
   have rql := cell_of_block ((hC.fp.block _ (heap_lt Hql.out) nql).trans Hql.out) 0
   have rqo := cell_of_block ((hC.fp.block _ (heap_lt Hqo.out) nqo).trans Hqo.out) 0
   have g0 := cell_of_block (HL.out.fp hC.fp n0) 0
   have g1 := cell_of_block (HL.out.fp hC.fp n0) 1
   simp only [logCells, List.getElem?_toArray, List.getElem?_cons_succ, List.getElem?_cons_zero] at g0 g1 rql rqo
   simp only [Oper.wp, execOp]; go_simp
   exact hK _ hC trivial
 apply nx_turn (eqV (.int .i64 x)) rfl rfl rfl
 ·intro b a w hC hA K hK
  have h6 := hA.eq 3 6 rfl
  have h7 := hA.eq 4 7 rfl
  simp only [Oper.wp, execOp]; go_simp
  (with_reducible refine (HC.out _ (hC.first hA.self)).mono ?_)
  rintro e w2 ⟨rfl, hd2, hf2⟩
  exact hK _ _ ⟨hd2, hC.fp.trans hf2 (by intro i hi; exact Or.inl hi)⟩ trivial rfl
 apply nx_plain (fun _ _ h => h) rfl rfl rfl
 ·intro b a w hC hA K hK
  have h8 := hA.eq 5 8 rfl
  simp only [Oper.wp, execOp]; go_simp
  exact hK _ hC trivial
 refine ⟨?_, ?_⟩
 ·refine stabN_val _ ?_
  refine ⟨fun _ _ _ _ h => h, ?_⟩
  iterate 5 refine stabN_val _ ?_
  exact trivial
 ·intro w' bb hC hbb
  simp only [List.reverse_cons, List.reverse_nil, List.nil_append, List.cons_append]
  iterate 5 (refine all_val ?_)
  refine all_some ?_
  intro v5 u5
  obtain rfl := u5
  iterate 1 (refine all_val ?_)
  refine all_nil ?_
  simp only [putAll, Act.put, List.setIfInBounds_toArray, List.set_cons_succ, List.set_cons_zero]
  have hbx : bb 5 = true := hbb 5 (by decide)
  have hCd := hC.disk
  rw [hbx] at hCd
  have HDD : Hid (DiskAt w' b bm d2) := Lib.hid hCd
  have HFF := Lib.hid hC.fp
  clear hC hbb hCd
  go_wp2_with (fail)
  go_ret
  exact ⟨rfl, HDD.out, HFF.out⟩
theorem write3_any (w : World) (b bm L ql qo qs : Nat) (lg : Lg) (d : Dk) (other s : ByteArray) (hd : DiskAt w b bm d) (hok : DkOK d) (hname : other.size ≤ maxLen) (hs : s.size ≤ 1000000000) (hl : LogAt w L b lg) (hql : w.heap[ql]? = some (.cells #[.pointer (some ⟨L, 0, none⟩)] 119 (0, 0))) (hqo : w.heap[qo]? = some (.cells #[.string other] 9 (0, 0))) (hqs : w.heap[qs]? = some (.cells #[.string s] 9 (0, 0))) :
  Calls Tryz.prog 181 #[.pointer (some ⟨ql, 0, none⟩), .pointer (some ⟨qo, 0, none⟩), .pointer (some ⟨qs, 0, none⟩)] w fun e w' => e = .returned (.int .i64 (d.appendE other s)) ∧ DiskAt w' b bm (d.append other s) ∧ Fp [b, bm] w w' := by
 have n0 := hl.ne hd
 have nql := box_ne hql (by decide) hd
 have nqo := box_ne hqo (by decide) hd
 have nqs := box_ne hqs (by decide) hd
 have HD := Lib.hid hd
 have HL := Lib.hid hl
 have Hql := Lib.hid hql
 have Hqo := Lib.hid hqo
 have Hqs := Lib.hid hqs
 have HC := Lib.hid (fun W (h : DiskAt W b bm d) => append_any W b bm d other s h hok hname hs)
 clear hd hl hql hqo hqs
 obtain ⟨x, hx⟩ : ∃ x, d.appendE other s = x := ⟨_, rfl⟩
 obtain ⟨d2, hd2⟩ : ∃ x, d.append other s = x := ⟨_, rfl⟩
 rw [hx, hd2] at HC ⊢
 clear hx hd2
 go_enter Tryz.func181, Tryz.ntmps181
 go_wp2_with (fail)
 refine wp_region_n (fun bb w' => DkC b bm w d d2 (bb 6) w') (fun _ _ => True) (by kernel_rfl) (by kernel_rfl) (DkC.start HD.out) ?_
 iterate 6
  apply nx_plain (fun _ _ h => h) rfl rfl rfl
  ·intro b a w hC hA K hK
   try have h0 := hA.fr 0 rfl
   try have h4 := hA.eq 0 4 rfl
   try have h5 := hA.eq 1 5 rfl
   try have h6 := hA.eq 2 6 rfl
   try have h1 := hA.fr 1 rfl
   try have h2 := hA.fr 2 rfl
   have rql := cell_of_block ((hC.fp.block _ (heap_lt Hql.out) nql).trans Hql.out) 0
   have rqo := cell_of_block ((hC.fp.block _ (heap_lt Hqo.out) nqo).trans Hqo.out) 0
   have rqs := cell_of_block ((hC.fp.block _ (heap_lt Hqs.out) nqs).trans Hqs.out) 0
   have g0 := cell_of_block (HL.out.fp hC.fp n0) 0
   have g1 := cell_of_block (HL.out.fp hC.fp n0) 1
   simp only [logCells, List.getElem?_toArray, List.getElem?_cons_succ, List.getElem?_cons_zero] at g0 g1 rql rqo rqs
   simp only [Oper.wp, execOp]; go_simp
   exact hK _ hC trivial
 apply nx_turn (eqV (.int .i64 x)) rfl rfl rfl
 ·intro b a w hC hA K hK
  have h7 := hA.eq 3 7 rfl
  have h8 := hA.eq 4 8 rfl
  have h9 := hA.eq 5 9 rfl
  simp only [Oper.wp, execOp]; go_simp
  (with_reducible refine (HC.out _ (hC.first hA.self)).mono ?_)
  rintro e w2 ⟨rfl, hd2, hf2⟩
  exact hK _ _ ⟨hd2, hC.fp.trans hf2 (by intro i hi; exact Or.inl hi)⟩ trivial rfl
 apply nx_plain (fun _ _ h => h) rfl rfl rfl
 ·intro b a w hC hA K hK
  have h10 := hA.eq 6 10 rfl
  simp only [Oper.wp, execOp]; go_simp
  exact hK _ hC trivial
 refine ⟨?_, ?_⟩
 ·refine stabN_val _ ?_
  refine ⟨fun _ _ _ _ h => h, ?_⟩
  iterate 6 refine stabN_val _ ?_
  exact trivial
 ·intro w' bb hC hbb
  simp only [List.reverse_cons, List.reverse_nil, List.nil_append, List.cons_append]
  iterate 6 (refine all_val ?_)
  refine all_some ?_
  intro v6 u6
  obtain rfl := u6
  iterate 1 (refine all_val ?_)
  refine all_nil ?_
  simp only [putAll, Act.put, List.setIfInBounds_toArray, List.set_cons_succ, List.set_cons_zero]
  have hbx : bb 6 = true := hbb 6 (by decide)
  have hCd := hC.disk
  rw [hbx] at hCd
  have HDD : Hid (DiskAt w' b bm d2) := Lib.hid hCd
  have HFF := Lib.hid hC.fp
  clear hC hbb hCd
  go_wp2_with (fail)
  go_ret
  exact ⟨rfl, HDD.out, HFF.out⟩
theorem write4_any (w : World) (b bm L ql qo : Nat) (lg : Lg) (d : Dk) (other : ByteArray) (hd : DiskAt w b bm d) (hok : DkOK d) (hname : other.size ≤ maxLen) (hl : LogAt w L b lg) (hql : w.heap[ql]? = some (.cells #[.pointer (some ⟨L, 0, none⟩)] 119 (0, 0))) (hqo : w.heap[qo]? = some (.cells #[.string other] 9 (0, 0))) :
  Calls Tryz.prog 183 #[.pointer (some ⟨ql, 0, none⟩), .pointer (some ⟨qo, 0, none⟩)] w fun e w' => e = .returned (.int .i64 (d.thereE other)) ∧ DiskAt w' b bm (d.sync other) ∧ Fp [b, bm] w w' := by
 have n0 := hl.ne hd
 have nql := box_ne hql (by decide) hd
 have nqo := box_ne hqo (by decide) hd
 have HD := Lib.hid hd
 have HL := Lib.hid hl
 have Hql := Lib.hid hql
 have Hqo := Lib.hid hqo
 have HC := Lib.hid (fun W (h : DiskAt W b bm d) => sync_any W b bm d other h hok hname)
 clear hd hl hql hqo
 obtain ⟨x, hx⟩ : ∃ x, d.thereE other = x := ⟨_, rfl⟩
 obtain ⟨d2, hd2⟩ : ∃ x, d.sync other = x := ⟨_, rfl⟩
 rw [hx, hd2] at HC ⊢
 clear hx hd2
 go_enter Tryz.func183, Tryz.ntmps183
 go_wp2_with (fail)
 refine wp_region_n (fun bb w' => DkC b bm w d d2 (bb 5) w') (fun _ _ => True) (by kernel_rfl) (by kernel_rfl) (DkC.start HD.out) ?_
 iterate 5
  apply nx_plain (fun _ _ h => h) rfl rfl rfl
  ·intro b a w hC hA K hK
   try have h0 := hA.fr 0 rfl
   try have h3 := hA.eq 0 3 rfl
   try have h4 := hA.eq 1 4 rfl
   try have h5 := hA.eq 2 5 rfl
   try have h1 := hA.fr 1 rfl
   have rql := cell_of_block ((hC.fp.block _ (heap_lt Hql.out) nql).trans Hql.out) 0
   have rqo := cell_of_block ((hC.fp.block _ (heap_lt Hqo.out) nqo).trans Hqo.out) 0
   have g0 := cell_of_block (HL.out.fp hC.fp n0) 0
   have g1 := cell_of_block (HL.out.fp hC.fp n0) 1
   simp only [logCells, List.getElem?_toArray, List.getElem?_cons_succ, List.getElem?_cons_zero] at g0 g1 rql rqo
   simp only [Oper.wp, execOp]; go_simp
   exact hK _ hC trivial
 apply nx_turn (eqV (.int .i64 x)) rfl rfl rfl
 ·intro b a w hC hA K hK
  have h6 := hA.eq 3 6 rfl
  have h7 := hA.eq 4 7 rfl
  simp only [Oper.wp, execOp]; go_simp
  (with_reducible refine (HC.out _ (hC.first hA.self)).mono ?_)
  rintro e w2 ⟨rfl, hd2, hf2⟩
  exact hK _ _ ⟨hd2, hC.fp.trans hf2 (by intro i hi; exact Or.inl hi)⟩ trivial rfl
 apply nx_plain (fun _ _ h => h) rfl rfl rfl
 ·intro b a w hC hA K hK
  have h8 := hA.eq 5 8 rfl
  simp only [Oper.wp, execOp]; go_simp
  exact hK _ hC trivial
 refine ⟨?_, ?_⟩
 ·refine stabN_val _ ?_
  refine ⟨fun _ _ _ _ h => h, ?_⟩
  iterate 5 refine stabN_val _ ?_
  exact trivial
 ·intro w' bb hC hbb
  simp only [List.reverse_cons, List.reverse_nil, List.nil_append, List.cons_append]
  iterate 5 (refine all_val ?_)
  refine all_some ?_
  intro v5 u5
  obtain rfl := u5
  iterate 1 (refine all_val ?_)
  refine all_nil ?_
  simp only [putAll, Act.put, List.setIfInBounds_toArray, List.set_cons_succ, List.set_cons_zero]
  have hbx : bb 5 = true := hbb 5 (by decide)
  have hCd := hC.disk
  rw [hbx] at hCd
  have HDD : Hid (DiskAt w' b bm d2) := Lib.hid hCd
  have HFF := Lib.hid hC.fp
  clear hC hbb hCd
  go_wp2_with (fail)
  go_ret
  exact ⟨rfl, HDD.out, HFF.out⟩
theorem write5_any (w : World) (b bm L ql qo : Nat) (lg : Lg) (d : Dk) (other : ByteArray) (hd : DiskAt w b bm d) (hok : DkOK d) (hname : other.size ≤ maxLen) (hto : lg.name.size ≤ maxLen) (hl : LogAt w L b lg) (hql : w.heap[ql]? = some (.cells #[.pointer (some ⟨L, 0, none⟩)] 119 (0, 0))) (hqo : w.heap[qo]? = some (.cells #[.string other] 9 (0, 0))) :
  Calls Tryz.prog 184 #[.pointer (some ⟨ql, 0, none⟩), .pointer (some ⟨qo, 0, none⟩)] w fun e w' => e = .returned (.int .i64 (d.renameE other lg.name)) ∧ DiskAt w' b bm (d.rename other lg.name) ∧ Fp [b, bm] w w' := by
 have n0 := hl.ne hd
 have nql := box_ne hql (by decide) hd
 have nqo := box_ne hqo (by decide) hd
 have HD := Lib.hid hd
 have HL := Lib.hid hl
 have Hql := Lib.hid hql
 have Hqo := Lib.hid hqo
 have HC := Lib.hid (fun W (h : DiskAt W b bm d) => rename_any W b bm d other lg.name h hok hname hto)
 clear hd hl hql hqo
 obtain ⟨x, hx⟩ : ∃ x, d.renameE other lg.name = x := ⟨_, rfl⟩
 obtain ⟨d2, hd2⟩ : ∃ x, d.rename other lg.name = x := ⟨_, rfl⟩
 rw [hx, hd2] at HC ⊢
 clear hx hd2
 go_enter Tryz.func184, Tryz.ntmps184
 go_wp2_with (fail)
 refine wp_region_n (fun bb w' => DkC b bm w d d2 (bb 9) w') (fun _ _ => True) (by kernel_rfl) (by kernel_rfl) (DkC.start HD.out) ?_
 iterate 9
  apply nx_plain (fun _ _ h => h) rfl rfl rfl
  ·intro b a w hC hA K hK
   try have h0 := hA.fr 0 rfl
   try have h3 := hA.eq 0 3 rfl
   try have h4 := hA.eq 1 4 rfl
   try have h5 := hA.eq 2 5 rfl
   try have h1 := hA.fr 1 rfl
   try have h8 := hA.eq 5 8 rfl
   try have h9 := hA.eq 6 9 rfl
   try have h10 := hA.eq 7 10 rfl
   have rql := cell_of_block ((hC.fp.block _ (heap_lt Hql.out) nql).trans Hql.out) 0
   have rqo := cell_of_block ((hC.fp.block _ (heap_lt Hqo.out) nqo).trans Hqo.out) 0
   have g0 := cell_of_block (HL.out.fp hC.fp n0) 0
   have g1 := cell_of_block (HL.out.fp hC.fp n0) 1
   simp only [logCells, List.getElem?_toArray, List.getElem?_cons_succ, List.getElem?_cons_zero] at g0 g1 rql rqo
   simp only [Oper.wp, execOp]; go_simp
   exact hK _ hC trivial
 apply nx_turn (eqV (.int .i64 x)) rfl rfl rfl
 ·intro b a w hC hA K hK
  have h6 := hA.eq 3 6 rfl
  have h7 := hA.eq 4 7 rfl
  have h11 := hA.eq 8 11 rfl
  simp only [Oper.wp, execOp]; go_simp
  (with_reducible refine (HC.out _ (hC.first hA.self)).mono ?_)
  rintro e w2 ⟨rfl, hd2, hf2⟩
  exact hK _ _ ⟨hd2, hC.fp.trans hf2 (by intro i hi; exact Or.inl hi)⟩ trivial rfl
 apply nx_plain (fun _ _ h => h) rfl rfl rfl
 ·intro b a w hC hA K hK
  have h12 := hA.eq 9 12 rfl
  simp only [Oper.wp, execOp]; go_simp
  exact hK _ hC trivial
 refine ⟨?_, ?_⟩
 ·refine stabN_val _ ?_
  refine ⟨fun _ _ _ _ h => h, ?_⟩
  iterate 9 refine stabN_val _ ?_
  exact trivial
 ·intro w' bb hC hbb
  simp only [List.reverse_cons, List.reverse_nil, List.nil_append, List.cons_append]
  iterate 9 (refine all_val ?_)
  refine all_some ?_
  intro v9 u9
  obtain rfl := u9
  iterate 1 (refine all_val ?_)
  refine all_nil ?_
  simp only [putAll, Act.put, List.setIfInBounds_toArray, List.set_cons_succ, List.set_cons_zero]
  have hbx : bb 9 = true := hbb 9 (by decide)
  have hCd := hC.disk
  rw [hbx] at hCd
  have HDD : Hid (DiskAt w' b bm d2) := Lib.hid hCd
  have HFF := Lib.hid hC.fp
  clear hC hbb hCd
  go_wp2_with (fail)
  go_ret
  exact ⟨rfl, HDD.out, HFF.out⟩
theorem append11_any (w : World) (b bm L ql qs : Nat) (lg : Lg) (d : Dk) (s : ByteArray) (hd : DiskAt w b bm d) (hok : DkOK d) (hto : lg.name.size ≤ maxLen) (hs : s.size ≤ 1000000000) (hl : LogAt w L b lg) (hql : w.heap[ql]? = some (.cells #[.pointer (some ⟨L, 0, none⟩)] 119 (0, 0))) (hqs : w.heap[qs]? = some (.cells #[.string s] 9 (0, 0))) :
  Calls Tryz.prog 191 #[.pointer (some ⟨ql, 0, none⟩), .pointer (some ⟨qs, 0, none⟩)] w fun e w' => e = .returned (.int .i64 (d.appendE lg.name s)) ∧ DiskAt w' b bm (d.append lg.name s) ∧ Fp [b, bm] w w' := by
 have n0 := hl.ne hd
 have nql := box_ne hql (by decide) hd
 have nqs := box_ne hqs (by decide) hd
 have HD := Lib.hid hd
 have HL := Lib.hid hl
 have Hql := Lib.hid hql
 have Hqs := Lib.hid hqs
 have HC := Lib.hid (fun W (h : DiskAt W b bm d) => append_any W b bm d lg.name s h hok hto hs)
 clear hd hl hql hqs
 obtain ⟨x, hx⟩ : ∃ x, d.appendE lg.name s = x := ⟨_, rfl⟩
 obtain ⟨d2, hd2⟩ : ∃ x, d.append lg.name s = x := ⟨_, rfl⟩
 rw [hx, hd2] at HC ⊢
 clear hx hd2
 go_enter Tryz.func191, Tryz.ntmps191
 go_wp2_with (fail)
 refine wp_region_n (fun bb w' => DkC b bm w d d2 (bb 9) w') (fun _ _ => True) (by kernel_rfl) (by kernel_rfl) (DkC.start HD.out) ?_
 iterate 9
  apply nx_plain (fun _ _ h => h) rfl rfl rfl
  ·intro b a w hC hA K hK
   try have h0 := hA.fr 0 rfl
   try have h3 := hA.eq 0 3 rfl
   try have h4 := hA.eq 1 4 rfl
   try have h5 := hA.eq 2 5 rfl
   try have h7 := hA.eq 4 7 rfl
   try have h8 := hA.eq 5 8 rfl
   try have h9 := hA.eq 6 9 rfl
   try have h1 := hA.fr 1 rfl
   have rql := cell_of_block ((hC.fp.block _ (heap_lt Hql.out) nql).trans Hql.out) 0
   have rqs := cell_of_block ((hC.fp.block _ (heap_lt Hqs.out) nqs).trans Hqs.out) 0
   have g0 := cell_of_block (HL.out.fp hC.fp n0) 0
   have g1 := cell_of_block (HL.out.fp hC.fp n0) 1
   simp only [logCells, List.getElem?_toArray, List.getElem?_cons_succ, List.getElem?_cons_zero] at g0 g1 rql rqs
   simp only [Oper.wp, execOp]; go_simp
   exact hK _ hC trivial
 apply nx_turn (eqV (.int .i64 x)) rfl rfl rfl
 ·intro b a w hC hA K hK
  have h6 := hA.eq 3 6 rfl
  have h10 := hA.eq 7 10 rfl
  have h11 := hA.eq 8 11 rfl
  simp only [Oper.wp, execOp]; go_simp
  (with_reducible refine (HC.out _ (hC.first hA.self)).mono ?_)
  rintro e w2 ⟨rfl, hd2, hf2⟩
  exact hK _ _ ⟨hd2, hC.fp.trans hf2 (by intro i hi; exact Or.inl hi)⟩ trivial rfl
 apply nx_plain (fun _ _ h => h) rfl rfl rfl
 ·intro b a w hC hA K hK
  have h12 := hA.eq 9 12 rfl
  simp only [Oper.wp, execOp]; go_simp
  exact hK _ hC trivial
 refine ⟨?_, ?_⟩
 ·refine stabN_val _ ?_
  refine ⟨fun _ _ _ _ h => h, ?_⟩
  iterate 9 refine stabN_val _ ?_
  exact trivial
 ·intro w' bb hC hbb
  simp only [List.reverse_cons, List.reverse_nil, List.nil_append, List.cons_append]
  iterate 9 (refine all_val ?_)
  refine all_some ?_
  intro v9 u9
  obtain rfl := u9
  iterate 1 (refine all_val ?_)
  refine all_nil ?_
  simp only [putAll, Act.put, List.setIfInBounds_toArray, List.set_cons_succ, List.set_cons_zero]
  have hbx : bb 9 = true := hbb 9 (by decide)
  have hCd := hC.disk
  rw [hbx] at hCd
  have HDD : Hid (DiskAt w' b bm d2) := Lib.hid hCd
  have HFF := Lib.hid hC.fp
  clear hC hbb hCd
  go_wp2_with (fail)
  go_ret
  exact ⟨rfl, HDD.out, HFF.out⟩
theorem append12_any (w : World) (b bm L ql : Nat) (lg : Lg) (d : Dk)  (hd : DiskAt w b bm d) (hok : DkOK d) (hto : lg.name.size ≤ maxLen) (hl : LogAt w L b lg) (hql : w.heap[ql]? = some (.cells #[.pointer (some ⟨L, 0, none⟩)] 119 (0, 0))) :
  Calls Tryz.prog 192 #[.pointer (some ⟨ql, 0, none⟩)] w fun e w' => e = .returned (.int .i64 (d.thereE lg.name)) ∧ DiskAt w' b bm (d.sync lg.name) ∧ Fp [b, bm] w w' := by
 have n0 := hl.ne hd
 have nql := box_ne hql (by decide) hd
 have HD := Lib.hid hd
 have HL := Lib.hid hl
 have Hql := Lib.hid hql
 have HC := Lib.hid (fun W (h : DiskAt W b bm d) => sync_any W b bm d lg.name h hok hto)
 clear hd hl hql
 obtain ⟨x, hx⟩ : ∃ x, d.thereE lg.name = x := ⟨_, rfl⟩
 obtain ⟨d2, hd2⟩ : ∃ x, d.sync lg.name = x := ⟨_, rfl⟩
 rw [hx, hd2] at HC ⊢
 clear hx hd2
 go_enter Tryz.func192, Tryz.ntmps192
 go_wp2_with (fail)
 refine wp_region_n (fun bb w' => DkC b bm w d d2 (bb 8) w') (fun _ _ => True) (by kernel_rfl) (by kernel_rfl) (DkC.start HD.out) ?_
 iterate 8
  apply nx_plain (fun _ _ h => h) rfl rfl rfl
  ·intro b a w hC hA K hK
   try have h0 := hA.fr 0 rfl
   try have h2 := hA.eq 0 2 rfl
   try have h3 := hA.eq 1 3 rfl
   try have h4 := hA.eq 2 4 rfl
   try have h6 := hA.eq 4 6 rfl
   try have h7 := hA.eq 5 7 rfl
   try have h8 := hA.eq 6 8 rfl
   have rql := cell_of_block ((hC.fp.block _ (heap_lt Hql.out) nql).trans Hql.out) 0
   have g0 := cell_of_block (HL.out.fp hC.fp n0) 0
   have g1 := cell_of_block (HL.out.fp hC.fp n0) 1
   simp only [logCells, List.getElem?_toArray, List.getElem?_cons_succ, List.getElem?_cons_zero] at g0 g1 rql
   simp only [Oper.wp, execOp]; go_simp
   exact hK _ hC trivial
 apply nx_turn (eqV (.int .i64 x)) rfl rfl rfl
 ·intro b a w hC hA K hK
  have h5 := hA.eq 3 5 rfl
  have h9 := hA.eq 7 9 rfl
  simp only [Oper.wp, execOp]; go_simp
  (with_reducible refine (HC.out _ (hC.first hA.self)).mono ?_)
  rintro e w2 ⟨rfl, hd2, hf2⟩
  exact hK _ _ ⟨hd2, hC.fp.trans hf2 (by intro i hi; exact Or.inl hi)⟩ trivial rfl
 apply nx_plain (fun _ _ h => h) rfl rfl rfl
 ·intro b a w hC hA K hK
  have h10 := hA.eq 8 10 rfl
  simp only [Oper.wp, execOp]; go_simp
  exact hK _ hC trivial
 refine ⟨?_, ?_⟩
 ·refine stabN_val _ ?_
  refine ⟨fun _ _ _ _ h => h, ?_⟩
  iterate 8 refine stabN_val _ ?_
  exact trivial
 ·intro w' bb hC hbb
  simp only [List.reverse_cons, List.reverse_nil, List.nil_append, List.cons_append]
  iterate 8 (refine all_val ?_)
  refine all_some ?_
  intro v8 u8
  obtain rfl := u8
  iterate 1 (refine all_val ?_)
  refine all_nil ?_
  simp only [putAll, Act.put, List.setIfInBounds_toArray, List.set_cons_succ, List.set_cons_zero]
  have hbx : bb 8 = true := hbb 8 (by decide)
  have hCd := hC.disk
  rw [hbx] at hCd
  have HDD : Hid (DiskAt w' b bm d2) := Lib.hid hCd
  have HFF := Lib.hid hC.fp
  clear hC hbb hCd
  go_wp2_with (fail)
  go_ret
  exact ⟨rfl, HDD.out, HFF.out⟩
end
section
open Go.ChangeShapes Go.WideShapes Go.ChangeAt Go.RowKit
structure StrsAt (w : World) (a : Option Addr) (len : Nat) (l : List ByteArray) : Prop where
 len : len = l.length
 cells : l = [] ∨ ∃ b o, a = some ⟨b, o, none⟩ ∧ ∀ i (h : i < l.length), w.cell? ⟨b, o + i, none⟩ = some (.string l[i])
 small : ∀ s ∈ l, s.size ≤ maxLen
theorem StrsAt.of_fp {w w' : World} {a : Option Addr} {len : Nat} {l : List ByteArray} (h : StrsAt w a len l) (hf : Fp [] w w') : StrsAt w' a len l := by
 refine ⟨h.len, ?_, h.small⟩
 rcases h.cells with h0 | ⟨b, o, rfl, hc⟩
 ·exact Or.inl h0
 ·exact Or.inr ⟨b, o, rfl, fun i hi => by rw [hf.cell (World.block_lt_of_cell? _ _ (hc i hi)) (by simp)]; exact hc i hi⟩
end
section
open Go.RowKit Go.Lib Go.Maps Go.MapKept Go.ChangeMaps
theorem write_steps {w : World} {b bm L ql qo qs : Nat} {lg : Lg} {d0 : Dk} {other s : ByteArray} (hd : DiskAt w b bm d0) (hname : other.size ≤ maxLen) (hto : lg.name.size ≤ maxLen) (hs : s.size ≤ 1000000000) (hl : LogAt w L b lg)
  (h1 : w.heap[ql]? = some (.cells #[.pointer (some ⟨L, 0, none⟩)] 119 (0, 0))) (h2 : w.heap[qo]? = some (.cells #[.string other] 9 (0, 0))) (h3 : w.heap[qs]? = some (.cells #[.string s] 9 (0, 0))) :
  StepsAt w b bm [(177, #[.pointer (some ⟨ql, 0, none⟩), .pointer (some ⟨qo, 0, none⟩)]), (179, #[.pointer (some ⟨ql, 0, none⟩), .pointer (some ⟨qo, 0, none⟩)]), (181, #[.pointer (some ⟨ql, 0, none⟩), .pointer (some ⟨qo, 0, none⟩), .pointer (some ⟨qs, 0, none⟩)]), (183, #[.pointer (some ⟨ql, 0, none⟩), .pointer (some ⟨qo, 0, none⟩)]), (184, #[.pointer (some ⟨ql, 0, none⟩), .pointer (some ⟨qo, 0, none⟩)])] (wSteps lg.name other s) := by
 have n0 := hl.ne hd
 have n1 := box_ne h1 (by decide) hd
 have n2 := box_ne h2 (by decide) hd
 have n3 := box_ne h3 (by decide) hd
 have f1 : ∀ W, Fp [b, bm] w W → W.heap[ql]? = some (.cells #[.pointer (some ⟨L, 0, none⟩)] 119 (0, 0)) := fun W hf => (hf.block _ (heap_lt h1) n1).trans h1
 have f2 : ∀ W, Fp [b, bm] w W → W.heap[qo]? = some (.cells #[.string other] 9 (0, 0)) := fun W hf => (hf.block _ (heap_lt h2) n2).trans h2
 have f3 : ∀ W, Fp [b, bm] w W → W.heap[qs]? = some (.cells #[.string s] 9 (0, 0)) := fun W hf => (hf.block _ (heap_lt h3) n3).trans h3
 refine ⟨rfl, fun i hi hi2 => ?_, wSteps_ok _ _ _⟩
 have hcase : i = 0 ∨ i = 1 ∨ i = 2 ∨ i = 3 ∨ i = 4 := by simp at hi; omega
 rcases hcase with rfl | rfl | rfl | rfl | rfl
 ·exact ⟨fun w => by kernel_rfl, fun d W hd hok hf => write1_any W b bm L ql qo lg d other hd hok hname (hl.fp hf n0) (f1 W hf) (f2 W hf)⟩
 ·exact ⟨fun w => by kernel_rfl, fun d W hd hok hf => write2_any W b bm L ql qo lg d other hd hok hname (hl.fp hf n0) (f1 W hf) (f2 W hf)⟩
 ·exact ⟨fun w => by kernel_rfl, fun d W hd hok hf => write3_any W b bm L ql qo qs lg d other s hd hok hname hs (hl.fp hf n0) (f1 W hf) (f2 W hf) (f3 W hf)⟩
 ·exact ⟨fun w => by kernel_rfl, fun d W hd hok hf => write4_any W b bm L ql qo lg d other hd hok hname (hl.fp hf n0) (f1 W hf) (f2 W hf)⟩
 ·exact ⟨fun w => by kernel_rfl, fun d W hd hok hf => write5_any W b bm L ql qo lg d other hd hok hname hto (hl.fp hf n0) (f1 W hf) (f2 W hf)⟩
theorem write_any (w : World) (b bm L : Nat) (lg : Lg) (d : Dk) (s : ByteArray) (hd : DiskAt w b bm d) (hok : DkOK d) (hto : lg.name.size ≤ 1000) (hs : s.size ≤ 1000000000) (hl : LogAt w L b lg) :
  Calls Tryz.prog 114 #[.pointer (some ⟨L, 0, none⟩), .string s] w fun e w' => e = .returned (.int .i64 (d.wWrite lg.name s).2) ∧ DiskAt w' b bm (d.wWrite lg.name s).1 ∧ Fp [b, bm] w w' := by
 obtain ⟨W, hW⟩ : ∃ W, W = ((((w.alloc (.cells #[.pointer (some ⟨L, 0, none⟩)] 119)).alloc (.cells #[.string s] 9)).alloc (.cells #[.string (lg.name ++ plusB)] 9)).alloc (.cells #[.func (.func 177) #[] #[.pointer (some ⟨w.heap.size, 0, none⟩), .pointer (some ⟨w.heap.size + 1 + 1, 0, none⟩)], .func (.func 179) #[] #[.pointer (some ⟨w.heap.size, 0, none⟩), .pointer (some ⟨w.heap.size + 1 + 1, 0, none⟩)], .func (.func 181) #[] #[.pointer (some ⟨w.heap.size, 0, none⟩), .pointer (some ⟨w.heap.size + 1 + 1, 0, none⟩), .pointer (some ⟨w.heap.size + 1, 0, none⟩)], .func (.func 183) #[] #[.pointer (some ⟨w.heap.size, 0, none⟩), .pointer (some ⟨w.heap.size + 1 + 1, 0, none⟩)], .func (.func 184) #[] #[.pointer (some ⟨w.heap.size, 0, none⟩), .pointer (some ⟨w.heap.size + 1 + 1, 0, none⟩)]] 254)) := ⟨_, rfl⟩
 have hfW : Fp [] w W := by rw [hW]; exact (((Fp.alloc _ _).alloc' _).alloc' _).alloc' _
 have hb1 : W.heap[w.heap.size]? = some (.cells #[.pointer (some ⟨L, 0, none⟩)] 119 (0, 0)) := by
  rw [hW, Below.heap_alloc _ _ _ (by simp <;> omega), Below.heap_alloc _ _ _ (by simp <;> omega), Below.heap_alloc _ _ _ (by simp <;> omega)]
  exact heap_alloc_at rfl _
 have hb2 : W.heap[w.heap.size + 1]? = some (.cells #[.string s] 9 (0, 0)) := by
  rw [hW, Below.heap_alloc _ _ _ (by simp <;> omega), Below.heap_alloc _ _ _ (by simp <;> omega)]
  exact heap_alloc_at (by simp) _
 have hb3 : W.heap[w.heap.size + 1 + 1]? = some (.cells #[.string (lg.name ++ plusB)] 9 (0, 0)) := by
  rw [hW, Below.heap_alloc _ _ _ (by simp <;> omega)]
  exact heap_alloc_at (by simp) _
 have hsz : (lg.name ++ plusB).size ≤ maxLen := by rw [ByteArray.size_append]; show lg.name.size + 1 ≤ maxLen; unfold maxLen; omega
 have hdW := hd.of_fp hfW (by simp) (by simp)
 have hst := write_steps hdW hsz (by unfold maxLen; omega) hs (hl.fp hfW (by simp)) hb1 hb3 hb2
 have HC : Calls Tryz.prog 176 #[.slice (some ⟨w.heap.size + 1 + 1 + 1, 0, none⟩) 5 5] W fun e w' => e = .returned (.int .i64 (d.wWrite lg.name s).2) ∧ DiskAt w' b bm (d.wWrite lg.name s).1 ∧ Fp [b, bm] W w' := by
  have h := steps_any W b bm (w.heap.size + 1 + 1 + 1) d _ _ hdW hok (by rw [hW]; exact heap_alloc_at (by simp) _) (by simp) hst
  rw [show stepsP (wSteps lg.name (lg.name ++ plusB) s) d = d.wWrite lg.name s from rfl] at h
  exact h
 have c1 : w.cell? ⟨L, 1, none⟩ = some (.string lg.name) := cell_of_block hl 1
 have hlt := heap_lt hl
 have HC := Lib.hid HC
 have HF := Lib.hid hfW
 rw [hW] at HC HF
 obtain ⟨⟨d2, x⟩, hx⟩ : ∃ r, d.wWrite lg.name s = r := ⟨_, rfl⟩
 rw [hx] at HC ⊢
 have zn : ¬ lg.name.size + 1 > 9223372036854775807 := by omega
 clear hx hW hst hdW hb1 hb2 hb3 hfW hd hl hsz
 unfold plusB at HC HF
 go_enter Tryz.func114, Tryz.ntmps114
 go_wp2_with (fail)
 (with_reducible refine HC.out.mono ?_)
 rintro e w2 ⟨rfl, hd2, hf2⟩
 have HD2 := Lib.hid hd2
 have HF2 := Lib.hid ((HF.out.mono (S' := [b, bm]) (by simp)).trans hf2 (by intro i hi; exact Or.inl hi))
 clear hd2 hf2
 go_wp2_with (fail)
 go_ret
 exact ⟨rfl, HD2.out, HF2.out⟩
theorem bytesP_bad {l : List ByteArray} {k : Nat} (hk : k < l.length) (h : 65535 < (l[k]).size) : bytesP l = (⟨#[]⟩, 71) := by
 unfold bytesP narrow
 rw [if_neg]
 intro h2
 have := List.all_eq_true.1 h2 l[k] (List.getElem_mem hk)
 simp only [decide_eq_true_eq] at this
 omega
theorem bytesP_good {l : List ByteArray} (h : ∀ t ∈ l, t.size ≤ 65535) : bytesP l = (bl (recsL l), 0) := by
 unfold bytesP narrow
 rw [if_pos]
 exact List.all_eq_true.2 fun t ht => by simpa using h t ht
theorem sumsT_take {l : List ByteArray} (k : Nat) : sumsT (l.take k) ≤ sumsT l := by
 have h := sumsT_append (l.take k) (l.drop k)
 rw [List.take_append_drop] at h
 omega
theorem sumsT_get {l : List ByteArray} {k : Nat} (hk : k < l.length) : sumsT (l.take (k + 1)) = sumsT (l.take k) + (6 + (l[k]).size) := by
 rw [List.take_succ_eq_append_getElem hk, sumsT_append]
 rfl
theorem sumsT_len : ∀ (l : List ByteArray), 6 * l.length ≤ sumsT l
 |[] => Nat.zero_le _
 |t :: r => by have := sumsT_len r; simp only [List.length_cons, sumsT]; omega
theorem strs_get {w : World} {a : Option Addr} {n k : Nat} {l : List ByteArray} (h : StrsAt w a n l) (hk : k < l.length) : ∃ b o, a = some ⟨b, o, none⟩ ∧ ∀ w', Fp [] w w' → w'.cell? ⟨b, o + k, none⟩ = some (.string l[k]) := by
 rcases h.cells with h0 | ⟨b, o, e, hc⟩
 ·rw [h0] at hk; exact absurd hk (Nat.not_lt_zero _)
 ·exact ⟨b, o, e, fun w' hf => by rw [hf.cell (World.block_lt_of_cell? _ _ (hc k hk)) (by simp)]; exact hc k hk⟩
theorem wbytes_any (w : World) (a : Option Addr) (n cap : Nat) (l : List ByteArray) (hat : StrsAt w a n l) (ht : TabAt w) (hsz : sumsT l ≤ 100000000) :
  Calls Tryz.prog 242 #[.slice a n cap] w fun e w' => e = .returned (.tuple #[.string (bytesP l).1, .int .i64 (bytesP l).2]) ∧ Fp [] w w' := by
 have HAT := Lib.hid hat
 have HLN := Lib.hid hat.len
 have HT := Lib.hid ht
 have HPUT := Lib.hid (fun s w h ht => put_any s w h ht)
 have HWS := Lib.hid (fun l s w h1 h2 => writeString_any liesSB (show 131 ≠ 5 by decide) w.heap.size w.heap.size l s w h1 h2)
 have hll := sumsT_len l
 have hlen : l.length ≤ 100000000 := by omega
 have HSZ := Lib.hid hsz
 clear hat ht hsz HWS hll
 go_enter Tryz.func242, Tryz.ntmps242
 go_wp2_with (fail)
 go_loopg [11] n (fun g vi W => ∃ (k : Nat), g + k = n ∧ vi = .int .i64 k ∧ (∀ t ∈ l.take k, t.size ≤ 65535) ∧ BAt 131 w.heap.size w.heap.size (recsL (l.take k)) W ∧ Fp [] w W)
 case atStart => exact ⟨0, by omega, rfl, by simp, BAt.fresh _ _, Fp.alloc _ _⟩
 case round =>
  obtain ⟨k, hg, rfl, hall, hb, hf⟩ := hrel
  have HALL := Lib.hid hall
  have HB := Lib.hid hb
  have HF := Lib.hid hf
  clear hall hb hf
  by_cases hk : k < n
  ·have zk : (k : Int) < (n : Int) := by omega
   have hkl : k < l.length := by rw [← HLN.out]; exact hk
   obtain ⟨b1, o1, rfl, hcells⟩ := strs_get HAT.out hkl
   have hcell := hcells wr HF.out
   have hsk := sumsT_get hkl
   have hst := sumsT_take (l := l) (k + 1)
   have hrl := recsL_length (l.take k)
   have hrs : recsL (l.take (k + 1)) = recsL (l.take k) ++ recL l[k] := by
    rw [List.take_succ_eq_append_getElem hkl, recsL_append]
    show _ ++ (recL l[k] ++ []) = _
    rw [List.append_nil]
   have hbad : 65535 < (l[k]).size → bytesP l = (⟨#[]⟩, 71) := bytesP_bad hkl
   have hal : ∀ t ∈ l.take (k + 1), t = l[k] ∨ t ∈ l.take k := by
    intro t ht
    rw [List.take_succ_eq_append_getElem hkl] at ht
    rcases List.mem_append.1 ht with h | h
    ·exact Or.inr h
    ·exact Or.inl (List.mem_singleton.1 h)
   obtain ⟨t, htt⟩ : ∃ t, l[k] = t := ⟨_, rfl⟩
   rw [htt] at hcell hsk hrs hbad hal
   have hts : t.size ≤ 100000000 := by have := HSZ.out; omega
   have hlb : (recsL (l.take k)).length + (recB t).size ≤ 1000000000 := by rw [hrl, recB_size]; have := HSZ.out; omega
   have HRS := Lib.hid hrs
   have HBAD := Lib.hid hbad
   have HAL := Lib.hid hal
   have HLB := Lib.hid hlb
   have HTS := Lib.hid hts
   have HP := Lib.hid (HPUT.out t wr hts (HT.out.fp HF.out (by simp)))
   clear hcells hsk hst hrl hrs hbad hal htt hlb hts
   by_cases hw : 65535 < t.size
   ·have HB2 := Lib.hid (HBAD.out hw)
    have hpp : putP t = (⟨#[]⟩, 71) := if_pos hw
    rw [hpp] at HP
    clear hw hpp
    go_wp2_with (fail)
    (with_reducible refine HP.out.mono ?_)
    rintro e w2 ⟨rfl, hf2⟩
    have HF2 := Lib.hid (HF.out.trans hf2 (by simp))
    clear hf2
    go_wp2_with (fail)
    go_ret2
    rw [HB2.out]
    exact ⟨rfl, HF2.out⟩
   ·have hpp : putP t = (recB t, 0) := if_neg hw
    have HW := Lib.hid hw
    rw [hpp] at HP
    clear hw hpp
    go_wp2_with (fail)
    (with_reducible refine HP.out.mono ?_)
    rintro e w2 ⟨rfl, hf2⟩
    have HB2 := Lib.hid (HB.out.fp hf2 (by simp))
    have HF2 := Lib.hid (HF.out.trans hf2 (by simp))
    clear hf2
    go_wp2_with (fail)
    (with_reducible refine (writeString_any liesSB (by decide) w.heap.size w.heap.size (recsL (l.take k)) (recB t) w2 HB2.out HLB.out).mono ?_)
    rintro e w3 ⟨rfl, hb3, hf3⟩
    have HB3 : Hid (BAt 131 w.heap.size w.heap.size (recsL (l.take (k + 1))) w3) := by
     rw [HRS.out]
     rw [show (recB t).data.toList = recL t from by rw [recB_bl]; exact bl_toList _] at hb3
     exact Lib.hid hb3
    have HF3 := Lib.hid (HF2.out.bfp hf3 (Nat.le_refl _))
    clear hb3 hf3
    go_wp2_with (fail)
    go_roundg (gk - 1)
    case measure => omega
    case rel => exact ⟨k + 1, by omega, by go_num, fun t' ht' => by
     rcases HAL.out t' ht' with rfl | h
     ·have := HW.out; omega
     ·exact HALL.out t' h, HB3.out, HF3.out⟩
  ·have zk : ¬ (k : Int) < (n : Int) := by omega
   have hkn : l.take k = l := by rw [List.take_of_length_le (by rw [← HLN.out]; omega)]
   have hb2 := HB.out
   have ha2 := HALL.out
   rw [hkn] at hb2 ha2
   have HB2 := Lib.hid hb2
   have HG := Lib.hid (bytesP_good ha2)
   clear hkn hb2 ha2
   go_wp2_with (fail)
   (with_reducible refine (string_any w.heap.size w.heap.size (recsL l) _ HB2.out).mono ?_)
   rintro e w3 ⟨rfl, hf3⟩
   have HF3 := Lib.hid (HF.out.belowTrans hf3)
   clear hf3
   go_wp2_with (fail)
   go_ret2
   rw [HG.out]
   exact ⟨rfl, HF3.out⟩
end
end Go.Proofs.YtkagolpnaicdoaaGreatDoor
