/-
  The reference of layer 7: Print.
-/
import Derived.Test.YtfhjdfimkeogaaaDoorParPrint
import Derived.Test.YtfhjdfimkeogaaaDoorParDec
import Derived.Test.YtfhjdfimkeogaaaDoorParRefE
namespace Go.Proofs.YtfhjdfimkeogaaaDoor
open Go.RowKit Go.Lib

set_option maxRecDepth 100000 in
set_option maxHeartbeats 16000000 in
theorem rprint_any (w : World) (a : Option Addr) (len cap : Nat) (l : List Cel) (hl : CelsAt w a len l) (hb : ∀ c ∈ l, c.row.size + c.col.size + c.val.size ≤ 10000000) (hn : len ≤ 90) :
    Calls Tryd.prog 17 #[.slice a len cap] w fun e w' => e = .returned (.tuple #[.string (printP l).1, .int .i64 ((printP l).2 : Nat)]) ∧ Fp [] w w' := by
  have HL := Lib.hid hl
  have HBD := Lib.hid hb
  have HLEN := Lib.hid hl.len
  clear hl hb
  go_enter Tryd.func17, Tryd.ntmps17
  go_wp2_with (fail)
  go_loopg [4, 5] len (fun g vo vi wr => ∃ (k : Nat) (acc : ByteArray), g + k = len ∧ vi = .int .i64 k ∧ vo = .string acc ∧ Fp [] w wr ∧ printP l = printGo acc (l.drop k) ∧ acc.size ≤ k * 10000100)
  case atStart => exact ⟨0, ⟨#[]⟩, rfl, rfl, rfl, Fp.refl _ _, rfl, Nat.zero_le _⟩
  case round =>
    obtain ⟨k, acc, hg, rfl, rfl, hf, hgo, hacc⟩ := hrel
    have HF := Lib.hid hf
    have HGO := Lib.hid hgo
    clear hf hgo
    by_cases hk : k < len
    · have hkl : k < l.length := by rw [← HLEN.out]; exact hk
      obtain ⟨b1, o1, rfl, hb1, hcells⟩ := cels_get HL.out hkl
      obtain ⟨c, hc⟩ : ∃ c, l[k] = c := ⟨_, rfl⟩
      have HD : Hid (l.drop k = c :: l.drop (k + 1)) := by unfold Hid; rw [← hc]; exact List.drop_eq_getElem_cons hkl
      have hcm : c ∈ l := by rw [← hc]; exact List.getElem_mem hkl
      have hsz := HBD.out c hcm
      have HOK := Lib.hid (HL.out.ok c hcm)
      rw [hc] at hcells
      have HQ := Lib.hid (hcells wr HF.out)
      have hts := HOK.out.ts
      have hdz := decB_size c.ts hts
      have HTX := Lib.hid (textOf_size c hts)
      have hez := endB_size c
      have HOKP : Hid (okP c = match lineP (textOf c) with | none => false | some x => eqC x c && !(c.row.data.toList.head? == some 35)) := rfl
      have HWO := Lib.hid (fun x => word_okP (c := c) (x := x))
      have HEN : Hid (endB c = (if c.del = true then ⟨#[45]⟩ else ⟨#[61]⟩) ++ c.val) := rfl
      have HDE : Hid (∀ w, Calls Tryd.prog 29 #[.int .u64 c.ts] w fun e w' => e = .returned (.string (decB c.ts)) ∧ Fp [] w w') := fun w => decimal_any c.ts w hts
      have htx2 : c.row ++ ⟨#[32]⟩ ++ c.col ++ ⟨#[32]⟩ ++ decB c.ts ++ ⟨#[32]⟩ ++ endB c = textOf c := rfl
      obtain ⟨q0, q1, q2, q3, q4, q5⟩ := HQ.out
      clear hcells hc hcm HBD
      obtain ⟨tx, htx⟩ : ∃ tx, textOf c = tx := ⟨_, rfl⟩
      obtain ⟨dc, hdc⟩ : ∃ dc, decB c.ts = dc := ⟨_, rfl⟩
      obtain ⟨en, hen⟩ : ∃ en, endB c = en := ⟨_, rfl⟩
      rw [htx, hdc, hen] at htx2
      rw [htx] at HTX HOKP HWO
      rw [hdc] at HDE hdz
      rw [hen] at HEN hez
      have HTXE := Lib.hid htx
      have HTZ : Hid (tx.size ≤ 10000024) := by have := HTX.out; unfold Hid; omega
      have htz : tx.size ≤ 100000000 := by have := HTZ.out; omega
      have htz2 : tx.size ≤ 10000024 := HTZ.out
      clear hdc htx hen
      obtain ⟨row, col, ts, seq, del, val⟩ := c
      have hez2 : en.size ≤ 10000001 := by have h1 : en.size = 1 + val.size := hez; have h2 : row.size + col.size + val.size ≤ 10000000 := hsz; omega
      have h32 : (⟨#[32]⟩ : ByteArray).size = 1 := rfl
      have h10 : (⟨#[10]⟩ : ByteArray).size = 1 := rfl
      have HTX2 := Lib.hid htx2
      clear hez htx2
      cases del
      all_goals
        have hsz2 : row.size + col.size + val.size ≤ 10000000 := hsz
        have hvz : (val.size : Int) ≤ 10000000 := by omega
        have hrz : (row.size : Int) ≤ 10000000 := by omega
        have hcz : (col.size : Int) ≤ 10000000 := by omega
        clear hsz hsz2
      · have hen2 : ⟨#[61]⟩ ++ val = en := HEN.out.symm
        go_wp2_with (fail)
        obtain ⟨w8, hw8⟩ : ∃ w8, wr.alloc (.cells #[.string row, .string col, .int .u64 ts, .int .u64 seq, .bool false, .string val] 38) = w8 := ⟨_, rfl⟩
        rw [hw8]
        have HC8 : Hid (CelIn w8 wr.heap.size ⟨row, col, ts, seq, false, val⟩) := by rw [← hw8]; exact heap_alloc_at rfl _
        have hf8 : Fp [] wr w8 := by rw [← hw8]; exact Fp.alloc _ _
        have HF8 := Lib.hid (HF.out.trans hf8 (by simp))
        obtain ⟨CB, hCB⟩ : ∃ CB, wr.heap.size = CB := ⟨_, rfl⟩
        rw [hCB] at HC8
        rw [hCB]
        clear hf8 hw8 hCB q0 q1 q2 q3 q4 q5
        refine wp_region_calm (by kernel_rfl) (by kernel_rfl) ?_
        -- 0
        apply ex_plain rfl rfl rfl
        · intro a w hC hA K hK
          have h6 := hA.free 6 _ (by kernel_rfl) rfl
          simp only [Oper.wp, execOp]; go_simp
          exact hK _ hC (Fp.refl _ _)
        -- 1
        apply ex_plain rfl rfl rfl
        · intro a w hC hA K hK
          have h29 : a.tmps[29]?.getD undef = _ := hA.dep 0 29 _ (by kernel_rfl) rfl
          obtain ⟨k0, k1, k2, k3, k4, k5, _⟩ := (HC8.out.fp hC (by simp)).facts0
          simp only [Oper.wp, execOp]; go_simp
          exact hK _ hC (Fp.refl _ _)
        -- 2
        apply ex_plain rfl rfl rfl
        · intro a w hC hA K hK
          have h30 : a.tmps[30]?.getD undef = _ := hA.dep 1 30 _ (by kernel_rfl) rfl
          simp only [Oper.wp, execOp]; go_simp
          rw [if_neg (by first | omega | (simp only [ByteArray.size_append]; omega))]
          exact hK _ hC (Fp.refl _ _)
        -- 3
        apply ex_plain rfl rfl rfl
        · intro a w hC hA K hK
          have h6 := hA.free 6 _ (by kernel_rfl) rfl
          simp only [Oper.wp, execOp]; go_simp
          exact hK _ hC (Fp.refl _ _)
        -- 4
        apply ex_plain rfl rfl rfl
        · intro a w hC hA K hK
          have h32 : a.tmps[32]?.getD undef = _ := hA.dep 3 32 _ (by kernel_rfl) rfl
          obtain ⟨k0, k1, k2, k3, k4, k5, _⟩ := (HC8.out.fp hC (by simp)).facts0
          simp only [Oper.wp, execOp]; go_simp
          exact hK _ hC (Fp.refl _ _)
        -- 5
        apply ex_plain rfl rfl rfl
        · intro a w hC hA K hK
          have h31 : a.tmps[31]?.getD undef = _ := hA.dep 2 31 _ (by kernel_rfl) rfl
          have h33 : a.tmps[33]?.getD undef = _ := hA.dep 4 33 _ (by kernel_rfl) rfl
          simp only [Oper.wp, execOp]; go_simp
          rw [if_neg (by first | omega | (simp only [ByteArray.size_append]; omega))]
          exact hK _ hC (Fp.refl _ _)
        -- 6
        apply ex_plain rfl rfl rfl
        · intro a w hC hA K hK
          have h34 : a.tmps[34]?.getD undef = _ := hA.dep 5 34 _ (by kernel_rfl) rfl
          simp only [Oper.wp, execOp]; go_simp
          rw [if_neg (by first | omega | (simp only [ByteArray.size_append]; omega))]
          exact hK _ hC (Fp.refl _ _)
        -- 7
        apply ex_plain rfl rfl rfl
        · intro a w hC hA K hK
          have h6 := hA.free 6 _ (by kernel_rfl) rfl
          simp only [Oper.wp, execOp]; go_simp
          exact hK _ hC (Fp.refl _ _)
        -- 8
        apply ex_plain rfl rfl rfl
        · intro a w hC hA K hK
          have h36 : a.tmps[36]?.getD undef = _ := hA.dep 7 36 _ (by kernel_rfl) rfl
          obtain ⟨k0, k1, k2, k3, k4, k5, _⟩ := (HC8.out.fp hC (by simp)).facts0
          simp only [Oper.wp, execOp]; go_simp
          exact hK _ hC (Fp.refl _ _)
        -- 9
        apply ex_plain rfl rfl rfl
        · intro a w hC hA K hK
          have h37 : a.tmps[37]?.getD undef = _ := hA.dep 8 37 _ (by kernel_rfl) rfl
          simp only [Oper.wp, execOp]; go_simp
          (with_reducible refine (HDE.out _).mono ?_); rintro e w2 ⟨rfl, hf⟩; exact hK _ (hC.trans hf (by simp)) hf
        -- 10
        apply ex_plain rfl rfl rfl
        · intro a w hC hA K hK
          have h35 : a.tmps[35]?.getD undef = _ := hA.dep 6 35 _ (by kernel_rfl) rfl
          have h38 : a.tmps[38]?.getD undef = _ := hA.dep 9 38 _ (by kernel_rfl) rfl
          simp only [Oper.wp, execOp]; go_simp
          rw [if_neg (by first | omega | (simp only [ByteArray.size_append]; omega))]
          exact hK _ hC (Fp.refl _ _)
        -- 11
        apply ex_plain rfl rfl rfl
        · intro a w hC hA K hK
          have h39 : a.tmps[39]?.getD undef = _ := hA.dep 10 39 _ (by kernel_rfl) rfl
          simp only [Oper.wp, execOp]; go_simp
          rw [if_neg (by first | omega | (simp only [ByteArray.size_append]; omega))]
          exact hK _ hC (Fp.refl _ _)
        -- 12
        apply ex_plain rfl rfl rfl
        · intro a w hC hA K hK
          have h7 := hA.free 7 _ (by kernel_rfl) rfl
          simp only [Oper.wp, execOp]; go_simp
          exact hK _ hC (Fp.refl _ _)
        -- 13
        apply ex_plain rfl rfl rfl
        · intro a w hC hA K hK
          have h40 : a.tmps[40]?.getD undef = _ := hA.dep 11 40 _ (by kernel_rfl) rfl
          have h41 : a.tmps[41]?.getD undef = _ := hA.dep 12 41 _ (by kernel_rfl) rfl
          simp only [Oper.wp, execOp]; go_simp
          rw [if_neg (by first | omega | (simp only [ByteArray.size_append]; omega))]
          exact hK _ hC (Fp.refl _ _)
        -- 14
        apply ex_plain rfl rfl rfl
        · intro a w hC hA K hK
          have h42 : a.tmps[42]?.getD undef = _ := hA.dep 13 42 _ (by kernel_rfl) rfl
          simp only [Oper.wp, execOp]; go_simp
          exact hK _ hC (Fp.refl _ _)
        refine ⟨?_, ?_⟩
        · repeat (first | exact trivial | refine stab_val _ ?_ | refine ⟨fun w1 w2 v _ hf ⟨g, h1, h2⟩ => ⟨g, h1, (hf.block g (heap_lt h2) (by simp)).trans h2⟩, ?_⟩)
        · intro w' hC
          simp only [List.reverse_cons, List.reverse_nil, List.nil_append, List.cons_append]
          iterate 15 (refine all_val ?_)
          refine all_nil ?_
          simp only [putAll, Act.put, List.setIfInBounds_toArray, List.set_cons_succ, List.set_cons_zero]
          have HF9 := Lib.hid (HF8.out.trans hC (by simp))
          have HC9 := Lib.hid (HC8.out.fp hC (by simp))
          have htx2 : row ++ ⟨#[32]⟩ ++ col ++ ⟨#[32]⟩ ++ dc ++ ⟨#[32]⟩ ++ en = tx := HTX2.out
          rw [htx2]
          clear htx2
          clear hC
          go_wp2_with (fail)
          (with_reducible refine (rline_any tx _ htz).mono ?_)
          rintro e w10 ⟨⟨⟨xr, xc, xt, xq, xd, xv⟩, rfl, hx⟩, hf⟩
          have HF10 := Lib.hid (HF9.out.trans hf (by simp))
          have HC10 := Lib.hid (HC9.out.fp hf (by simp))
          clear hf
          obtain ⟨y0, y1, y2, y3, y4, y5, _⟩ := HC10.out.facts
          cases hlp : lineP tx with
          | none =>
            have HOKF : Hid (okP ⟨row, col, ts, seq, false, val⟩ = false) := by unfold Hid; rw [HOKP.out, hlp]
            clear hlp
            rw [show (Option.none : Option Cel).isSome = false from rfl, cel_eta]
            go_wp2_with (fail)
            go_ret2
            rw [HGO.out, HD.out, print_stop HOKF.out]
            exact ⟨rfl, HF10.out.alloc' _⟩
          | some x =>
            obtain rfl : x = ⟨xr, xc, xt, xq, xd, xv⟩ := by
              rcases hx with hx | hx
              · rw [hlp] at hx; cases hx
              · rw [hlp] at hx; exact Option.some.inj hx
            clear hx
            rw [show (Option.some (⟨xr, xc, xt, xq, xd, xv⟩ : Cel)).isSome = true from rfl, cel_eta]
            have HWP := Lib.hid (HWO.out _ hlp)
            cases he : eqC ⟨xr, xc, xt, xq, xd, xv⟩ ⟨row, col, ts, seq, false, val⟩
            · have HOKF : Hid (okP ⟨row, col, ts, seq, false, val⟩ = false) := by unfold Hid; rw [HOKP.out, hlp]; simp only [he, Bool.false_and]
              have h := cel_parts _ _ he
              clear hlp he
              rcases h with h | ⟨e1, h⟩
              · have n1 : ¬ xr.toList = row.toList := beq_eq_false_iff_ne.1 h
                have n2 : (xr.toList == row.toList) = false := h
                go_wp2_with (fail)
                go_ret2
                rw [HGO.out, HD.out, print_stop HOKF.out]
                exact ⟨rfl, HF10.out.alloc' _⟩
              have e2 : row = xr := e1.symm
              clear e1
              subst e2
              rcases h with h | ⟨e1, h⟩
              · have n1 : ¬ xc.toList = col.toList := beq_eq_false_iff_ne.1 h
                have n2 : (xc.toList == col.toList) = false := h
                go_wp2_with (fail)
                go_ret2
                rw [HGO.out, HD.out, print_stop HOKF.out]
                exact ⟨rfl, HF10.out.alloc' _⟩
              have e2 : col = xc := e1.symm
              clear e1
              subst e2
              rcases h with h | ⟨e1, h⟩
              · have n0 : ¬ xt = ts := beq_eq_false_iff_ne.1 h
                have n1 : ¬ (xt : Int) = (ts : Int) := by omega
                have n2 : ((xt : Int) == (ts : Int)) = false := beq_eq_false_iff_ne.2 n1
                go_wp2_with (fail)
                go_ret2
                rw [HGO.out, HD.out, print_stop HOKF.out]
                exact ⟨rfl, HF10.out.alloc' _⟩
              have e2 : ts = xt := e1.symm
              clear e1
              subst e2
              rcases h with h | ⟨e1, h⟩
              · have n0 : ¬ xq = seq := beq_eq_false_iff_ne.1 h
                have n1 : ¬ (xq : Int) = (seq : Int) := by omega
                have n2 : ((xq : Int) == (seq : Int)) = false := beq_eq_false_iff_ne.2 n1
                go_wp2_with (fail)
                go_ret2
                rw [HGO.out, HD.out, print_stop HOKF.out]
                exact ⟨rfl, HF10.out.alloc' _⟩
              have e2 : seq = xq := e1.symm
              clear e1
              subst e2
              rcases h with h | ⟨e1, h⟩
              · have n1 : ¬ xd = false := beq_eq_false_iff_ne.1 h
                have n2 : (xd == false) = false := h
                go_wp2_with (fail)
                go_ret2
                rw [HGO.out, HD.out, print_stop HOKF.out]
                exact ⟨rfl, HF10.out.alloc' _⟩
              have e2 : false = xd := e1.symm
              clear e1
              subst e2
              have n1 : ¬ xv.toList = val.toList := beq_eq_false_iff_ne.1 h
              have n2 : (xv.toList == val.toList) = false := h
              go_wp2_with (fail)
              go_ret2
              rw [HGO.out, HD.out, print_stop HOKF.out]
              exact ⟨rfl, HF10.out.alloc' _⟩
            · have hr0 : 0 < row.size := HWP.out he
              have hnl : (⟨#[10]⟩ : ByteArray).size = 1 := rfl
              have heq := (eqC_iff _ _).1 he
              obtain ⟨sk, hsk⟩ : ∃ sk, ((row[0].toNat : Int) == 35) = sk := ⟨_, rfl⟩
              have HOKV : Hid (okP ⟨row, col, ts, seq, false, val⟩ = !sk) := by
                unfold Hid
                rw [HOKP.out, hlp]
                simp only [he, Bool.true_and]
                rw [← hsk, ← skip_at' hr0]
                unfold skipB
                rw [beq_eq_false_iff_ne.2 (by omega : row.size ≠ 0), Bool.false_or]
              simp only [Cel.mk.injEq] at heq
              obtain ⟨e1, e2, e3, e4, e5, e6⟩ := heq
              have e1 := e1.symm
              have e2 := e2.symm
              have e3 := e3.symm
              have e4 := e4.symm
              have e6 := e6.symm
              clear hlp he HWP
              subst e1 e2 e3 e4 e5 e6
              cases sk
              · have hne35 : ¬ (row[0].toNat : Int) = 35 := beq_eq_false_iff_ne.1 hsk
                go_wp2_with (fail)
                go_roundg (gk - 1)
                case measure => omega
                case rel =>
                  refine ⟨k + 1, acc ++ tx ++ ⟨#[10]⟩, by omega, by simp, rfl, HF10.out.alloc' _, ?_, ?_⟩
                  · rw [HGO.out, HD.out, print_step (by rw [HOKV.out]; rfl), HTXE.out]
                    refine congrArg (fun b => printGo b _) (data_inj ?_)
                    simp only [append_data, List.append_assoc]
                  · have e1 : (⟨#[10]⟩ : ByteArray).size = 1 := rfl
                    have e2 := HTZ.out
                    rw [ByteArray.size_append, ByteArray.size_append, e1]; omega
              · have he35 : (row[0].toNat : Int) = 35 := beq_iff_eq.1 hsk
                go_wp2_with (fail)
                go_ret2
                rw [HGO.out, HD.out, print_stop (by rw [HOKV.out]; rfl)]
                exact ⟨rfl, HF10.out.alloc' _⟩
      · have hen2 : ⟨#[45]⟩ ++ val = en := HEN.out.symm
        go_wp2_with (fail)
        obtain ⟨w8, hw8⟩ : ∃ w8, wr.alloc (.cells #[.string row, .string col, .int .u64 ts, .int .u64 seq, .bool true, .string val] 38) = w8 := ⟨_, rfl⟩
        rw [hw8]
        have HC8 : Hid (CelIn w8 wr.heap.size ⟨row, col, ts, seq, true, val⟩) := by rw [← hw8]; exact heap_alloc_at rfl _
        have hf8 : Fp [] wr w8 := by rw [← hw8]; exact Fp.alloc _ _
        have HF8 := Lib.hid (HF.out.trans hf8 (by simp))
        obtain ⟨CB, hCB⟩ : ∃ CB, wr.heap.size = CB := ⟨_, rfl⟩
        rw [hCB] at HC8
        rw [hCB]
        clear hf8 hw8 hCB q0 q1 q2 q3 q4 q5
        refine wp_region_calm (by kernel_rfl) (by kernel_rfl) ?_
        -- 0
        apply ex_plain rfl rfl rfl
        · intro a w hC hA K hK
          have h6 := hA.free 6 _ (by kernel_rfl) rfl
          simp only [Oper.wp, execOp]; go_simp
          exact hK _ hC (Fp.refl _ _)
        -- 1
        apply ex_plain rfl rfl rfl
        · intro a w hC hA K hK
          have h29 : a.tmps[29]?.getD undef = _ := hA.dep 0 29 _ (by kernel_rfl) rfl
          obtain ⟨k0, k1, k2, k3, k4, k5, _⟩ := (HC8.out.fp hC (by simp)).facts0
          simp only [Oper.wp, execOp]; go_simp
          exact hK _ hC (Fp.refl _ _)
        -- 2
        apply ex_plain rfl rfl rfl
        · intro a w hC hA K hK
          have h30 : a.tmps[30]?.getD undef = _ := hA.dep 1 30 _ (by kernel_rfl) rfl
          simp only [Oper.wp, execOp]; go_simp
          rw [if_neg (by first | omega | (simp only [ByteArray.size_append]; omega))]
          exact hK _ hC (Fp.refl _ _)
        -- 3
        apply ex_plain rfl rfl rfl
        · intro a w hC hA K hK
          have h6 := hA.free 6 _ (by kernel_rfl) rfl
          simp only [Oper.wp, execOp]; go_simp
          exact hK _ hC (Fp.refl _ _)
        -- 4
        apply ex_plain rfl rfl rfl
        · intro a w hC hA K hK
          have h32 : a.tmps[32]?.getD undef = _ := hA.dep 3 32 _ (by kernel_rfl) rfl
          obtain ⟨k0, k1, k2, k3, k4, k5, _⟩ := (HC8.out.fp hC (by simp)).facts0
          simp only [Oper.wp, execOp]; go_simp
          exact hK _ hC (Fp.refl _ _)
        -- 5
        apply ex_plain rfl rfl rfl
        · intro a w hC hA K hK
          have h31 : a.tmps[31]?.getD undef = _ := hA.dep 2 31 _ (by kernel_rfl) rfl
          have h33 : a.tmps[33]?.getD undef = _ := hA.dep 4 33 _ (by kernel_rfl) rfl
          simp only [Oper.wp, execOp]; go_simp
          rw [if_neg (by first | omega | (simp only [ByteArray.size_append]; omega))]
          exact hK _ hC (Fp.refl _ _)
        -- 6
        apply ex_plain rfl rfl rfl
        · intro a w hC hA K hK
          have h34 : a.tmps[34]?.getD undef = _ := hA.dep 5 34 _ (by kernel_rfl) rfl
          simp only [Oper.wp, execOp]; go_simp
          rw [if_neg (by first | omega | (simp only [ByteArray.size_append]; omega))]
          exact hK _ hC (Fp.refl _ _)
        -- 7
        apply ex_plain rfl rfl rfl
        · intro a w hC hA K hK
          have h6 := hA.free 6 _ (by kernel_rfl) rfl
          simp only [Oper.wp, execOp]; go_simp
          exact hK _ hC (Fp.refl _ _)
        -- 8
        apply ex_plain rfl rfl rfl
        · intro a w hC hA K hK
          have h36 : a.tmps[36]?.getD undef = _ := hA.dep 7 36 _ (by kernel_rfl) rfl
          obtain ⟨k0, k1, k2, k3, k4, k5, _⟩ := (HC8.out.fp hC (by simp)).facts0
          simp only [Oper.wp, execOp]; go_simp
          exact hK _ hC (Fp.refl _ _)
        -- 9
        apply ex_plain rfl rfl rfl
        · intro a w hC hA K hK
          have h37 : a.tmps[37]?.getD undef = _ := hA.dep 8 37 _ (by kernel_rfl) rfl
          simp only [Oper.wp, execOp]; go_simp
          (with_reducible refine (HDE.out _).mono ?_); rintro e w2 ⟨rfl, hf⟩; exact hK _ (hC.trans hf (by simp)) hf
        -- 10
        apply ex_plain rfl rfl rfl
        · intro a w hC hA K hK
          have h35 : a.tmps[35]?.getD undef = _ := hA.dep 6 35 _ (by kernel_rfl) rfl
          have h38 : a.tmps[38]?.getD undef = _ := hA.dep 9 38 _ (by kernel_rfl) rfl
          simp only [Oper.wp, execOp]; go_simp
          rw [if_neg (by first | omega | (simp only [ByteArray.size_append]; omega))]
          exact hK _ hC (Fp.refl _ _)
        -- 11
        apply ex_plain rfl rfl rfl
        · intro a w hC hA K hK
          have h39 : a.tmps[39]?.getD undef = _ := hA.dep 10 39 _ (by kernel_rfl) rfl
          simp only [Oper.wp, execOp]; go_simp
          rw [if_neg (by first | omega | (simp only [ByteArray.size_append]; omega))]
          exact hK _ hC (Fp.refl _ _)
        -- 12
        apply ex_plain rfl rfl rfl
        · intro a w hC hA K hK
          have h7 := hA.free 7 _ (by kernel_rfl) rfl
          simp only [Oper.wp, execOp]; go_simp
          exact hK _ hC (Fp.refl _ _)
        -- 13
        apply ex_plain rfl rfl rfl
        · intro a w hC hA K hK
          have h40 : a.tmps[40]?.getD undef = _ := hA.dep 11 40 _ (by kernel_rfl) rfl
          have h41 : a.tmps[41]?.getD undef = _ := hA.dep 12 41 _ (by kernel_rfl) rfl
          simp only [Oper.wp, execOp]; go_simp
          rw [if_neg (by first | omega | (simp only [ByteArray.size_append]; omega))]
          exact hK _ hC (Fp.refl _ _)
        -- 14
        apply ex_plain rfl rfl rfl
        · intro a w hC hA K hK
          have h42 : a.tmps[42]?.getD undef = _ := hA.dep 13 42 _ (by kernel_rfl) rfl
          simp only [Oper.wp, execOp]; go_simp
          exact hK _ hC (Fp.refl _ _)
        refine ⟨?_, ?_⟩
        · repeat (first | exact trivial | refine stab_val _ ?_ | refine ⟨fun w1 w2 v _ hf ⟨g, h1, h2⟩ => ⟨g, h1, (hf.block g (heap_lt h2) (by simp)).trans h2⟩, ?_⟩)
        · intro w' hC
          simp only [List.reverse_cons, List.reverse_nil, List.nil_append, List.cons_append]
          iterate 15 (refine all_val ?_)
          refine all_nil ?_
          simp only [putAll, Act.put, List.setIfInBounds_toArray, List.set_cons_succ, List.set_cons_zero]
          have HF9 := Lib.hid (HF8.out.trans hC (by simp))
          have HC9 := Lib.hid (HC8.out.fp hC (by simp))
          have htx2 : row ++ ⟨#[32]⟩ ++ col ++ ⟨#[32]⟩ ++ dc ++ ⟨#[32]⟩ ++ en = tx := HTX2.out
          rw [htx2]
          clear htx2
          clear hC
          go_wp2_with (fail)
          (with_reducible refine (rline_any tx _ htz).mono ?_)
          rintro e w10 ⟨⟨⟨xr, xc, xt, xq, xd, xv⟩, rfl, hx⟩, hf⟩
          have HF10 := Lib.hid (HF9.out.trans hf (by simp))
          have HC10 := Lib.hid (HC9.out.fp hf (by simp))
          clear hf
          obtain ⟨y0, y1, y2, y3, y4, y5, _⟩ := HC10.out.facts
          cases hlp : lineP tx with
          | none =>
            have HOKF : Hid (okP ⟨row, col, ts, seq, true, val⟩ = false) := by unfold Hid; rw [HOKP.out, hlp]
            clear hlp
            rw [show (Option.none : Option Cel).isSome = false from rfl, cel_eta]
            go_wp2_with (fail)
            go_ret2
            rw [HGO.out, HD.out, print_stop HOKF.out]
            exact ⟨rfl, HF10.out.alloc' _⟩
          | some x =>
            obtain rfl : x = ⟨xr, xc, xt, xq, xd, xv⟩ := by
              rcases hx with hx | hx
              · rw [hlp] at hx; cases hx
              · rw [hlp] at hx; exact Option.some.inj hx
            clear hx
            rw [show (Option.some (⟨xr, xc, xt, xq, xd, xv⟩ : Cel)).isSome = true from rfl, cel_eta]
            have HWP := Lib.hid (HWO.out _ hlp)
            cases he : eqC ⟨xr, xc, xt, xq, xd, xv⟩ ⟨row, col, ts, seq, true, val⟩
            · have HOKF : Hid (okP ⟨row, col, ts, seq, true, val⟩ = false) := by unfold Hid; rw [HOKP.out, hlp]; simp only [he, Bool.false_and]
              have h := cel_parts _ _ he
              clear hlp he
              rcases h with h | ⟨e1, h⟩
              · have n1 : ¬ xr.toList = row.toList := beq_eq_false_iff_ne.1 h
                have n2 : (xr.toList == row.toList) = false := h
                go_wp2_with (fail)
                go_ret2
                rw [HGO.out, HD.out, print_stop HOKF.out]
                exact ⟨rfl, HF10.out.alloc' _⟩
              have e2 : row = xr := e1.symm
              clear e1
              subst e2
              rcases h with h | ⟨e1, h⟩
              · have n1 : ¬ xc.toList = col.toList := beq_eq_false_iff_ne.1 h
                have n2 : (xc.toList == col.toList) = false := h
                go_wp2_with (fail)
                go_ret2
                rw [HGO.out, HD.out, print_stop HOKF.out]
                exact ⟨rfl, HF10.out.alloc' _⟩
              have e2 : col = xc := e1.symm
              clear e1
              subst e2
              rcases h with h | ⟨e1, h⟩
              · have n0 : ¬ xt = ts := beq_eq_false_iff_ne.1 h
                have n1 : ¬ (xt : Int) = (ts : Int) := by omega
                have n2 : ((xt : Int) == (ts : Int)) = false := beq_eq_false_iff_ne.2 n1
                go_wp2_with (fail)
                go_ret2
                rw [HGO.out, HD.out, print_stop HOKF.out]
                exact ⟨rfl, HF10.out.alloc' _⟩
              have e2 : ts = xt := e1.symm
              clear e1
              subst e2
              rcases h with h | ⟨e1, h⟩
              · have n0 : ¬ xq = seq := beq_eq_false_iff_ne.1 h
                have n1 : ¬ (xq : Int) = (seq : Int) := by omega
                have n2 : ((xq : Int) == (seq : Int)) = false := beq_eq_false_iff_ne.2 n1
                go_wp2_with (fail)
                go_ret2
                rw [HGO.out, HD.out, print_stop HOKF.out]
                exact ⟨rfl, HF10.out.alloc' _⟩
              have e2 : seq = xq := e1.symm
              clear e1
              subst e2
              rcases h with h | ⟨e1, h⟩
              · have n1 : ¬ xd = true := beq_eq_false_iff_ne.1 h
                have n2 : (xd == true) = false := h
                go_wp2_with (fail)
                go_ret2
                rw [HGO.out, HD.out, print_stop HOKF.out]
                exact ⟨rfl, HF10.out.alloc' _⟩
              have e2 : true = xd := e1.symm
              clear e1
              subst e2
              have n1 : ¬ xv.toList = val.toList := beq_eq_false_iff_ne.1 h
              have n2 : (xv.toList == val.toList) = false := h
              go_wp2_with (fail)
              go_ret2
              rw [HGO.out, HD.out, print_stop HOKF.out]
              exact ⟨rfl, HF10.out.alloc' _⟩
            · have hr0 : 0 < row.size := HWP.out he
              have hnl : (⟨#[10]⟩ : ByteArray).size = 1 := rfl
              have heq := (eqC_iff _ _).1 he
              obtain ⟨sk, hsk⟩ : ∃ sk, ((row[0].toNat : Int) == 35) = sk := ⟨_, rfl⟩
              have HOKV : Hid (okP ⟨row, col, ts, seq, true, val⟩ = !sk) := by
                unfold Hid
                rw [HOKP.out, hlp]
                simp only [he, Bool.true_and]
                rw [← hsk, ← skip_at' hr0]
                unfold skipB
                rw [beq_eq_false_iff_ne.2 (by omega : row.size ≠ 0), Bool.false_or]
              simp only [Cel.mk.injEq] at heq
              obtain ⟨e1, e2, e3, e4, e5, e6⟩ := heq
              have e1 := e1.symm
              have e2 := e2.symm
              have e3 := e3.symm
              have e4 := e4.symm
              have e6 := e6.symm
              clear hlp he HWP
              subst e1 e2 e3 e4 e5 e6
              cases sk
              · have hne35 : ¬ (row[0].toNat : Int) = 35 := beq_eq_false_iff_ne.1 hsk
                go_wp2_with (fail)
                go_roundg (gk - 1)
                case measure => omega
                case rel =>
                  refine ⟨k + 1, acc ++ tx ++ ⟨#[10]⟩, by omega, by simp, rfl, HF10.out.alloc' _, ?_, ?_⟩
                  · rw [HGO.out, HD.out, print_step (by rw [HOKV.out]; rfl), HTXE.out]
                    refine congrArg (fun b => printGo b _) (data_inj ?_)
                    simp only [append_data, List.append_assoc]
                  · have e1 : (⟨#[10]⟩ : ByteArray).size = 1 := rfl
                    have e2 := HTZ.out
                    rw [ByteArray.size_append, ByteArray.size_append, e1]; omega
              · have he35 : (row[0].toNat : Int) = 35 := beq_iff_eq.1 hsk
                go_wp2_with (fail)
                go_ret2
                rw [HGO.out, HD.out, print_stop (by rw [HOKV.out]; rfl)]
                exact ⟨rfl, HF10.out.alloc' _⟩
    · have HD : Hid (l.drop k = []) := List.drop_eq_nil_of_le (by rw [← HLEN.out]; omega)
      go_wp2_with (fail)
      go_ret2
      rw [HGO.out, HD.out]
      exact ⟨rfl, HF.out⟩
end Go.Proofs.YtfhjdfimkeogaaaDoor
