/-
  Print.
-/
import Derived.Test.YtfhjdfimkeogaaaDoorParPP
import Derived.Test.YtfhjdfimkeogaaaDoorFmt
import Derived.Test.YtfhjdfimkeogaaaDoorBuild
import Derived.Test.YtfhjdfimkeogaaaDoorParShown
namespace Go.Proofs.YtfhjdfimkeogaaaDoor
open Go.RowKit Go.Lib

theorem joinOf (c : Cel) (hts : c.ts < 18446744073709551616) (hsz : c.row.size + c.col.size + c.val.size ≤ 10000000) (w : World) (g : Nat) (hg : w.heap[g]? = some (.cells #[.string c.row, .string c.col, .string (decB c.ts), .string (endB c)] 9 (0, 0))) :
    Calls Tryd.prog 25 #[.slice (some ⟨g, 0, none⟩) 4 4, .string ⟨#[32]⟩] w fun e w' => e = .returned (.string (textOf c)) ∧ Fp [] w w' := by
  have hlen : (join ([c.row, c.col, decB c.ts, endB c].map (·.data.toList)) [32]).length = (textOf c).size := by
    rw [← join_text c]; rfl
  have hz := textOf_size c hts
  refine (Tryd.strings_Join g 0 4 [c.row, c.col, decB c.ts, endB c] ⟨#[32]⟩ w ?_ (heap_lt hg) (by show 4 ≤ _; decide) (Nat.le_refl _) ?_).mono ?_
  · intro j x hx
    rw [cell_of_block hg, Nat.zero_add]
    match j, hx with
    | 0, hx => simp at hx; subst hx; rfl
    | 1, hx => simp at hx; subst hx; rfl
    | 2, hx => simp at hx; subst hx; rfl
    | 3, hx => simp at hx; subst hx; rfl
    | j + 4, hx => simp at hx
  · show (join ([c.row, c.col, decB c.ts, endB c].map (·.data.toList)) [32]).length ≤ _
    rw [hlen]; omega
  · rintro e w' ⟨rfl, hb⟩
    exact ⟨by rw [← join_text c], Below.toFp hb⟩
theorem word_okP {c x : Cel} (h : lineP (textOf c) = some x) (he : eqC x c = true) : 0 < c.row.size := by
  obtain rfl := (eqC_iff _ _).1 he
  unfold lineP at h
  split at h
  · unfold fourB at h
    split at h
    · rename_i hh
      obtain ⟨u, _, e⟩ := Option.map_eq_some_iff.1 h
      have h1 := hh.1
      unfold nameB wordB at h1
      simp only [Bool.and_eq_true, decide_eq_true_eq] at h1
      have h3 := h1.1.1
      have h2 := congrArg Cel.row e
      rw [← h2]
      exact Nat.pos_of_ne_zero h3
    · cases h
  · cases h
theorem cel_eta (x : Cel) : cellV x = .agg #[.string x.row, .string x.col, .int .u64 x.ts, .int .u64 x.seq, .bool x.del, .string x.val] := rfl
theorem cels_get {w : World} {a : Option Addr} {len k : Nat} {l : List Cel} (h : CelsAt w a len l) (hk : k < l.length) : ∃ b1 o1, a = some ⟨b1, o1, none⟩ ∧ b1 < w.heap.size ∧ ∀ w2, Fp [] w w2 → CelCells w2 b1 (o1 + k * 6) l[k] := by
  rcases h.cells with h0 | ⟨b1, o1, h1, h2, h3⟩
  · subst h0; exact absurd hk (Nat.not_lt_zero _)
  · exact ⟨b1, o1, h1, h2, fun w2 hf => (h3 k hk).fp hf h2 (by simp)⟩
theorem liesB : liesAt Tryd.prog Tryd.prog.depth 50 (2 / Tryd.prog.cellsOf 50) 0 50 1 = true := by kernel_rfl

set_option maxRecDepth 100000 in
set_option maxHeartbeats 16000000 in
theorem print_any (w : World) (a : Option Addr) (len cap : Nat) (l : List Cel) (hl : CelsAt w a len l) (hb : ∀ c ∈ l, c.row.size + c.col.size + c.val.size ≤ 10000000) (hn : len ≤ 90) (hp : ParAt w) (hpw : PowAt w) :
    Calls Tryd.prog 16 #[.slice a len cap] w fun e w' => e = .returned (.tuple #[.string (printP l).1, .int .i64 ((printP l).2 : Nat)]) ∧ Fp [] w w' := by
  have HL := Lib.hid hl
  have HP := Lib.hid hp
  have HPW := Lib.hid hpw
  have HBD := Lib.hid hb
  have HLEN := Lib.hid hl.len
  have HWS := Lib.hid (fun l s w h1 h2 => writeString_any liesB (show 50 ≠ 5 by decide) w.heap.size w.heap.size l s w h1 h2)
  clear hl hp hpw hb HWS
  obtain ⟨B, hB⟩ : ∃ B, w.heap.size = B := ⟨_, rfl⟩
  have HB0 := Lib.hid hB
  have HWS := Lib.hid (fun l s w h1 h2 => writeString_any liesB (show 50 ≠ 5 by decide) B B l s w h1 h2)
  have HST := Lib.hid (fun l w h => string_any (T := 50) B B l w h)
  go_enter Tryd.func16, Tryd.ntmps16
  go_wp2_with (fail)
  have HI : Hid (BAt 50 B B [] (w.alloc (.cells #[.pointer none, .slice none 0 0] 50))) := by unfold Hid; rw [← hB]; exact BAt.fresh _ w
  clear hB
  go_loopg [13] len (fun g vi wr => ∃ k acc, g + k = len ∧ vi = .int .i64 (k : Nat) ∧ Fp [] w wr ∧ BAt 50 B B acc wr ∧ printP l = printGo ⟨acc.toArray⟩ (l.drop k) ∧ acc.length ≤ k * 10000100)
  case atStart => exact ⟨0, [], rfl, rfl, Fp.alloc _ _, HI.out, rfl, Nat.zero_le _⟩
  case round =>
    obtain ⟨k, acc, hg, rfl, hf, hbat, hgo, hacc⟩ := hrel
    have HF := Lib.hid hf
    have HB := Lib.hid hbat
    have HGO := Lib.hid hgo
    clear hf hbat hgo
    by_cases hk : k < len
    · have hkl : k < l.length := by rw [← HLEN.out]; exact hk
      obtain ⟨b1, o1, rfl, hb1, hcells⟩ := cels_get HL.out hkl
      obtain ⟨c, hc⟩ : ∃ c, l[k] = c := ⟨_, rfl⟩
      have HD : Hid (l.drop k = c :: l.drop (k + 1)) := by unfold Hid; rw [← hc]; exact List.drop_eq_getElem_cons hkl
      have hcm : c ∈ l := by rw [← hc]; exact List.getElem_mem hkl
      have hsz := HBD.out c hcm
      have HOK := Lib.hid (HL.out.ok c hcm)
      rw [hc] at hcells
      have HQ := Lib.hid (hcells wr HF.out)
      have hts := HOK.out.ts
      have HJ := Lib.hid (joinOf c hts hsz)
      have HTX := Lib.hid (textOf_size c hts)
      have HOKP : Hid (okP c = match lineP (textOf c) with | none => false | some x => eqC x c && !(c.row.data.toList.head? == some 35)) := rfl
      have HWO := Lib.hid (fun x => word_okP (c := c) (x := x))
      have HEN : Hid (endB c = (if c.del = true then ⟨#[45]⟩ else ⟨#[61]⟩) ++ c.val) := rfl
      have HFM : Hid (∀ w, PowAt w → Calls Tryd.prog 26 #[.int .u64 c.ts, .int .i64 10] w fun e w' => e = .returned (.string (decB c.ts)) ∧ Fp [] w w') := fun w h => fmt_any c.ts hts w h
      obtain ⟨q0, q1, q2, q3, q4, q5⟩ := HQ.out
      clear hcells hc hcm HBD
      obtain ⟨tx, htx⟩ : ∃ tx, textOf c = tx := ⟨_, rfl⟩
      obtain ⟨dc, hdc⟩ : ∃ dc, decB c.ts = dc := ⟨_, rfl⟩
      obtain ⟨en, hen⟩ : ∃ en, endB c = en := ⟨_, rfl⟩
      rw [htx, hdc, hen] at HJ
      rw [htx] at HTX HOKP HWO
      rw [hdc] at HFM
      rw [hen] at HEN
      have HTXE := Lib.hid htx
      have HTZ : Hid (tx.size ≤ 10000024) := by have := HTX.out; unfold Hid; omega
      have htz : tx.size ≤ 100000000 := by have := HTZ.out; omega
      have htz2 : tx.size ≤ 10000024 := HTZ.out
      clear hdc htx hen
      obtain ⟨row, col, ts, seq, del, val⟩ := c
      cases del
      all_goals
        have hsz2 : row.size + col.size + val.size ≤ 10000000 := hsz
        have hvz : (val.size : Int) ≤ 10000000 := by omega
        have hrz : (row.size : Int) ≤ 10000000 := by omega
        have hcz : (col.size : Int) ≤ 10000000 := by omega
        clear hsz hsz2
      · have hen2 : ⟨#[61]⟩ ++ val = en := HEN.out.symm
        go_wp2_with (fail)
        obtain ⟨w8, hw8⟩ : ∃ w8, wr.alloc (.cells #[.string row, .string col, .int .u64 ts, .int .u64 seq, .bool false, .string val] 38) = w8 := ⟨_, rfl⟩
        rw [hw8]
        have HC8 : Hid (CelIn w8 wr.heap.size ⟨row, col, ts, seq, false, val⟩) := by rw [← hw8]; exact heap_alloc_at rfl _
        have hf8 : Fp [] wr w8 := by rw [← hw8]; exact Fp.alloc _ _
        have HF8 := Lib.hid (HF.out.trans hf8 (by simp))
        have HB8 := Lib.hid (HB.out.fp hf8 (by simp))
        obtain ⟨CB, hCB⟩ : ∃ CB, wr.heap.size = CB := ⟨_, rfl⟩
        rw [hCB] at HC8
        rw [hCB]
        clear hf8 hw8 hCB q0 q1 q2 q3 q4 q5
        refine wp_region_calm (by kernel_rfl) (by kernel_rfl) ?_
        -- 0
        apply ex_plain rfl rfl rfl
        · intro a w hC hA K hK
          have h6 := hA.free 6 _ (by kernel_rfl) rfl
          simp only [Oper.wp, execOp]; go_simp
          exact hK _ hC (Fp.refl _ _)
        -- 1
        apply ex_plain rfl rfl rfl
        · intro a w hC hA K hK
          have h25 : a.tmps[25]?.getD undef = _ := hA.dep 0 25 _ (by kernel_rfl) rfl
          obtain ⟨k0, k1, k2, k3, k4, k5, _⟩ := (HC8.out.fp hC (by simp)).facts0
          simp only [Oper.wp, execOp]; go_simp
          exact hK _ hC (Fp.refl _ _)
        -- 2
        apply ex_plain rfl rfl rfl
        · intro a w hC hA K hK
          have h6 := hA.free 6 _ (by kernel_rfl) rfl
          simp only [Oper.wp, execOp]; go_simp
          exact hK _ hC (Fp.refl _ _)
        -- 3
        apply ex_plain rfl rfl rfl
        · intro a w hC hA K hK
          have h27 : a.tmps[27]?.getD undef = _ := hA.dep 2 27 _ (by kernel_rfl) rfl
          obtain ⟨k0, k1, k2, k3, k4, k5, _⟩ := (HC8.out.fp hC (by simp)).facts0
          simp only [Oper.wp, execOp]; go_simp
          exact hK _ hC (Fp.refl _ _)
        -- 4
        apply ex_plain rfl rfl rfl
        · intro a w hC hA K hK
          have h6 := hA.free 6 _ (by kernel_rfl) rfl
          simp only [Oper.wp, execOp]; go_simp
          exact hK _ hC (Fp.refl _ _)
        -- 5
        apply ex_plain rfl rfl rfl
        · intro a w hC hA K hK
          have h29 : a.tmps[29]?.getD undef = _ := hA.dep 4 29 _ (by kernel_rfl) rfl
          obtain ⟨k0, k1, k2, k3, k4, k5, _⟩ := (HC8.out.fp hC (by simp)).facts0
          simp only [Oper.wp, execOp]; go_simp
          exact hK _ hC (Fp.refl _ _)
        -- 6
        apply ex_plain rfl rfl rfl
        · intro a w hC hA K hK
          have h30 : a.tmps[30]?.getD undef = _ := hA.dep 5 30 _ (by kernel_rfl) rfl
          simp only [Oper.wp, execOp]; go_simp
          (with_reducible refine (HFM.out _ (HPW.out.fp (HF8.out.trans hC (by simp)))).mono ?_); rintro e w2 ⟨rfl, hf⟩; exact hK _ (hC.trans hf (by simp)) hf
        -- 7
        apply ex_plain rfl rfl rfl
        · intro a w hC hA K hK
          have h7 := hA.free 7 _ (by kernel_rfl) rfl
          simp only [Oper.wp, execOp]; go_simp
          exact hK _ hC (Fp.refl _ _)
        -- 8
        apply ex_some (fun w' v => ∃ g, v = .slice (some ⟨g, 0, none⟩) 4 4 ∧ w'.heap[g]? = some (.cells #[.string row, .string col, .string dc, .string en] 9 (0, 0))) rfl rfl rfl
        · intro a w hC hA K hK
          have h26 : a.tmps[26]?.getD undef = _ := hA.dep 1 26 _ (by kernel_rfl) rfl
          have h28 : a.tmps[28]?.getD undef = _ := hA.dep 3 28 _ (by kernel_rfl) rfl
          have h31 : a.tmps[31]?.getD undef = _ := hA.dep 6 31 _ (by kernel_rfl) rfl
          have h32 : a.tmps[32]?.getD undef = _ := hA.dep 7 32 _ (by kernel_rfl) rfl
          simp only [Oper.wp, execOp]; go_simp
          exact hK _ _ (hC.alloc' _) (Fp.alloc _ _) ⟨_, rfl, heap_alloc_at rfl _⟩
        -- 9
        apply ex_plain rfl rfl rfl
        · intro a w hC hA K hK
          have h33 := hA.dep 8 33 _ (by kernel_rfl) rfl
          obtain ⟨g, h33, hg⟩ := h33
          simp only [Oper.wp, execOp]; go_simp
          (with_reducible refine (HJ.out w g hg).mono ?_); rintro e w2 ⟨rfl, hf⟩; exact hK _ (hC.trans hf (by simp)) hf
        -- 10
        apply ex_plain rfl rfl rfl
        · intro a w hC hA K hK
          have h34 : a.tmps[34]?.getD undef = _ := hA.dep 9 34 _ (by kernel_rfl) rfl
          simp only [Oper.wp, execOp]; go_simp
          exact hK _ hC (Fp.refl _ _)
        refine ⟨?_, ?_⟩
        · repeat (first | exact trivial | refine stab_val _ ?_ | refine ⟨fun w1 w2 v _ hf ⟨g, h1, h2⟩ => ⟨g, h1, (hf.block g (heap_lt h2) (by simp)).trans h2⟩, ?_⟩)
        · intro w' hC
          simp only [List.reverse_cons, List.reverse_nil, List.nil_append, List.cons_append]
          iterate 8 (refine all_val ?_)
          refine all_some ?_
          intro v8 u8
          iterate 2 (refine all_val ?_)
          refine all_nil ?_
          simp only [putAll, Act.put, List.setIfInBounds_toArray, List.set_cons_succ, List.set_cons_zero]
          have HF9 := Lib.hid (HF8.out.trans hC (by simp))
          have HC9 := Lib.hid (HC8.out.fp hC (by simp))
          have HB9 := Lib.hid (HB8.out.fp hC (by simp))
          clear hC
          go_wp2_with (fail)
          (with_reducible refine (line_any tx _ htz (HP.out.fp HF9.out)).mono ?_)
          rintro e w10 ⟨rfl, hf⟩
          have HF10 := Lib.hid (HF9.out.trans hf (by simp))
          have HC10 := Lib.hid (HC9.out.fp hf (by simp))
          have HB10 := Lib.hid (HB9.out.fp hf (by simp))
          clear hf
          obtain ⟨y0, y1, y2, y3, y4, y5, _⟩ := HC10.out.facts
          cases hlp : lineP tx with
          | none =>
            have HOKF : Hid (okP ⟨row, col, ts, seq, false, val⟩ = false) := by unfold Hid; rw [HOKP.out, hlp]
            clear hlp
            rw [show (Option.none : Option Cel).getD zeroC = zeroC from rfl, show (Option.none : Option Cel).isSome = false from rfl, show cellV zeroC = .agg #[.string ⟨#[]⟩, .string ⟨#[]⟩, .int .u64 0, .int .u64 0, .bool false, .string ⟨#[]⟩] from rfl]
            go_wp2_with (fail)
            go_ret2
            rw [HGO.out, HD.out, print_stop HOKF.out]
            exact ⟨rfl, HF10.out.alloc' _⟩
          | some x =>
            obtain ⟨xr, xc, xt, xq, xd, xv⟩ := x
            rw [show (Option.some (⟨xr, xc, xt, xq, xd, xv⟩ : Cel)).getD zeroC = ⟨xr, xc, xt, xq, xd, xv⟩ from rfl, show (Option.some (⟨xr, xc, xt, xq, xd, xv⟩ : Cel)).isSome = true from rfl, cel_eta]
            have HWP := Lib.hid (HWO.out _ hlp)
            cases he : eqC ⟨xr, xc, xt, xq, xd, xv⟩ ⟨row, col, ts, seq, false, val⟩
            · have HOKF : Hid (okP ⟨row, col, ts, seq, false, val⟩ = false) := by unfold Hid; rw [HOKP.out, hlp]; simp only [he, Bool.false_and]
              have h := cel_parts _ _ he
              clear hlp he
              rcases h with h | ⟨e1, h⟩
              · have n1 : ¬ xr.toList = row.toList := beq_eq_false_iff_ne.1 h
                have n2 : (xr.toList == row.toList) = false := h
                go_wp2_with (fail)
                go_ret2
                rw [HGO.out, HD.out, print_stop HOKF.out]
                exact ⟨rfl, HF10.out.alloc' _⟩
              have e2 : row = xr := e1.symm
              clear e1
              subst e2
              rcases h with h | ⟨e1, h⟩
              · have n1 : ¬ xc.toList = col.toList := beq_eq_false_iff_ne.1 h
                have n2 : (xc.toList == col.toList) = false := h
                go_wp2_with (fail)
                go_ret2
                rw [HGO.out, HD.out, print_stop HOKF.out]
                exact ⟨rfl, HF10.out.alloc' _⟩
              have e2 : col = xc := e1.symm
              clear e1
              subst e2
              rcases h with h | ⟨e1, h⟩
              · have n0 : ¬ xt = ts := beq_eq_false_iff_ne.1 h
                have n1 : ¬ (xt : Int) = (ts : Int) := by omega
                have n2 : ((xt : Int) == (ts : Int)) = false := beq_eq_false_iff_ne.2 n1
                go_wp2_with (fail)
                go_ret2
                rw [HGO.out, HD.out, print_stop HOKF.out]
                exact ⟨rfl, HF10.out.alloc' _⟩
              have e2 : ts = xt := e1.symm
              clear e1
              subst e2
              rcases h with h | ⟨e1, h⟩
              · have n0 : ¬ xq = seq := beq_eq_false_iff_ne.1 h
                have n1 : ¬ (xq : Int) = (seq : Int) := by omega
                have n2 : ((xq : Int) == (seq : Int)) = false := beq_eq_false_iff_ne.2 n1
                go_wp2_with (fail)
                go_ret2
                rw [HGO.out, HD.out, print_stop HOKF.out]
                exact ⟨rfl, HF10.out.alloc' _⟩
              have e2 : seq = xq := e1.symm
              clear e1
              subst e2
              rcases h with h | ⟨e1, h⟩
              · have n1 : ¬ xd = false := beq_eq_false_iff_ne.1 h
                have n2 : (xd == false) = false := h
                go_wp2_with (fail)
                go_ret2
                rw [HGO.out, HD.out, print_stop HOKF.out]
                exact ⟨rfl, HF10.out.alloc' _⟩
              have e2 : false = xd := e1.symm
              clear e1
              subst e2
              have n1 : ¬ xv.toList = val.toList := beq_eq_false_iff_ne.1 h
              have n2 : (xv.toList == val.toList) = false := h
              go_wp2_with (fail)
              go_ret2
              rw [HGO.out, HD.out, print_stop HOKF.out]
              exact ⟨rfl, HF10.out.alloc' _⟩
            · have hr0 : 0 < row.size := HWP.out he
              have hnl : (⟨#[10]⟩ : ByteArray).size = 1 := rfl
              have heq := (eqC_iff _ _).1 he
              obtain ⟨sk, hsk⟩ : ∃ sk, ((row[0].toNat : Int) == 35) = sk := ⟨_, rfl⟩
              have HOKV : Hid (okP ⟨row, col, ts, seq, false, val⟩ = !sk) := by
                unfold Hid
                rw [HOKP.out, hlp]
                simp only [he, Bool.true_and]
                rw [← hsk, ← skip_at' hr0]
                unfold skipB
                rw [beq_eq_false_iff_ne.2 (by omega : row.size ≠ 0), Bool.false_or]
              simp only [Cel.mk.injEq] at heq
              obtain ⟨e1, e2, e3, e4, e5, e6⟩ := heq
              have e1 := e1.symm
              have e2 := e2.symm
              have e3 := e3.symm
              have e4 := e4.symm
              have e6 := e6.symm
              clear hlp he HWP
              subst e1 e2 e3 e4 e5 e6
              cases sk
              · have hne35 : ¬ (row[0].toNat : Int) = 35 := beq_eq_false_iff_ne.1 hsk
                go_wp2_with (fail)
                (with_reducible refine (HWS.out acc (tx ++ ⟨#[10]⟩) _ (HB10.out.fp (Fp.alloc _ _) (by simp)) (by rw [ByteArray.size_append, hnl]; omega)).mono ?_)
                rintro e w11 ⟨rfl, hb2, hk2⟩
                have HF11 : Hid (Fp [] w w11) := (HF10.out.alloc' _).bfp hk2 (by rw [HB0.out]; exact Nat.le_refl _)
                have HB11 := Lib.hid hb2
                clear hb2 hk2
                go_wp2_with (fail)
                go_roundg (gk - 1)
                case measure => omega
                case rel =>
                  refine ⟨k + 1, acc ++ (tx ++ ⟨#[10]⟩).data.toList, by omega, by simp, HF11.out, HB11.out, ?_, ?_⟩
                  · rw [HGO.out, HD.out, print_step (by rw [HOKV.out]; rfl), HTXE.out]
                    refine congrArg (fun b => printGo b _) (data_inj ?_)
                    rw [append_data]
                  · have e1 : (tx ++ ⟨#[10]⟩).data.toList.length = tx.size + 1 := by rw [← size_eq, ByteArray.size_append]; rfl
                    have e2 := HTZ.out
                    rw [List.length_append, e1]; omega
              · have he35 : (row[0].toNat : Int) = 35 := beq_iff_eq.1 hsk
                go_wp2_with (fail)
                go_ret2
                rw [HGO.out, HD.out, print_stop (by rw [HOKV.out]; rfl)]
                exact ⟨rfl, HF10.out.alloc' _⟩
      · have hen2 : ⟨#[45]⟩ ++ val = en := HEN.out.symm
        go_wp2_with (fail)
        obtain ⟨w8, hw8⟩ : ∃ w8, wr.alloc (.cells #[.string row, .string col, .int .u64 ts, .int .u64 seq, .bool true, .string val] 38) = w8 := ⟨_, rfl⟩
        rw [hw8]
        have HC8 : Hid (CelIn w8 wr.heap.size ⟨row, col, ts, seq, true, val⟩) := by rw [← hw8]; exact heap_alloc_at rfl _
        have hf8 : Fp [] wr w8 := by rw [← hw8]; exact Fp.alloc _ _
        have HF8 := Lib.hid (HF.out.trans hf8 (by simp))
        have HB8 := Lib.hid (HB.out.fp hf8 (by simp))
        obtain ⟨CB, hCB⟩ : ∃ CB, wr.heap.size = CB := ⟨_, rfl⟩
        rw [hCB] at HC8
        rw [hCB]
        clear hf8 hw8 hCB q0 q1 q2 q3 q4 q5
        refine wp_region_calm (by kernel_rfl) (by kernel_rfl) ?_
        -- 0
        apply ex_plain rfl rfl rfl
        · intro a w hC hA K hK
          have h6 := hA.free 6 _ (by kernel_rfl) rfl
          simp only [Oper.wp, execOp]; go_simp
          exact hK _ hC (Fp.refl _ _)
        -- 1
        apply ex_plain rfl rfl rfl
        · intro a w hC hA K hK
          have h25 : a.tmps[25]?.getD undef = _ := hA.dep 0 25 _ (by kernel_rfl) rfl
          obtain ⟨k0, k1, k2, k3, k4, k5, _⟩ := (HC8.out.fp hC (by simp)).facts0
          simp only [Oper.wp, execOp]; go_simp
          exact hK _ hC (Fp.refl _ _)
        -- 2
        apply ex_plain rfl rfl rfl
        · intro a w hC hA K hK
          have h6 := hA.free 6 _ (by kernel_rfl) rfl
          simp only [Oper.wp, execOp]; go_simp
          exact hK _ hC (Fp.refl _ _)
        -- 3
        apply ex_plain rfl rfl rfl
        · intro a w hC hA K hK
          have h27 : a.tmps[27]?.getD undef = _ := hA.dep 2 27 _ (by kernel_rfl) rfl
          obtain ⟨k0, k1, k2, k3, k4, k5, _⟩ := (HC8.out.fp hC (by simp)).facts0
          simp only [Oper.wp, execOp]; go_simp
          exact hK _ hC (Fp.refl _ _)
        -- 4
        apply ex_plain rfl rfl rfl
        · intro a w hC hA K hK
          have h6 := hA.free 6 _ (by kernel_rfl) rfl
          simp only [Oper.wp, execOp]; go_simp
          exact hK _ hC (Fp.refl _ _)
        -- 5
        apply ex_plain rfl rfl rfl
        · intro a w hC hA K hK
          have h29 : a.tmps[29]?.getD undef = _ := hA.dep 4 29 _ (by kernel_rfl) rfl
          obtain ⟨k0, k1, k2, k3, k4, k5, _⟩ := (HC8.out.fp hC (by simp)).facts0
          simp only [Oper.wp, execOp]; go_simp
          exact hK _ hC (Fp.refl _ _)
        -- 6
        apply ex_plain rfl rfl rfl
        · intro a w hC hA K hK
          have h30 : a.tmps[30]?.getD undef = _ := hA.dep 5 30 _ (by kernel_rfl) rfl
          simp only [Oper.wp, execOp]; go_simp
          (with_reducible refine (HFM.out _ (HPW.out.fp (HF8.out.trans hC (by simp)))).mono ?_); rintro e w2 ⟨rfl, hf⟩; exact hK _ (hC.trans hf (by simp)) hf
        -- 7
        apply ex_plain rfl rfl rfl
        · intro a w hC hA K hK
          have h7 := hA.free 7 _ (by kernel_rfl) rfl
          simp only [Oper.wp, execOp]; go_simp
          exact hK _ hC (Fp.refl _ _)
        -- 8
        apply ex_some (fun w' v => ∃ g, v = .slice (some ⟨g, 0, none⟩) 4 4 ∧ w'.heap[g]? = some (.cells #[.string row, .string col, .string dc, .string en] 9 (0, 0))) rfl rfl rfl
        · intro a w hC hA K hK
          have h26 : a.tmps[26]?.getD undef = _ := hA.dep 1 26 _ (by kernel_rfl) rfl
          have h28 : a.tmps[28]?.getD undef = _ := hA.dep 3 28 _ (by kernel_rfl) rfl
          have h31 : a.tmps[31]?.getD undef = _ := hA.dep 6 31 _ (by kernel_rfl) rfl
          have h32 : a.tmps[32]?.getD undef = _ := hA.dep 7 32 _ (by kernel_rfl) rfl
          simp only [Oper.wp, execOp]; go_simp
          exact hK _ _ (hC.alloc' _) (Fp.alloc _ _) ⟨_, rfl, heap_alloc_at rfl _⟩
        -- 9
        apply ex_plain rfl rfl rfl
        · intro a w hC hA K hK
          have h33 := hA.dep 8 33 _ (by kernel_rfl) rfl
          obtain ⟨g, h33, hg⟩ := h33
          simp only [Oper.wp, execOp]; go_simp
          (with_reducible refine (HJ.out w g hg).mono ?_); rintro e w2 ⟨rfl, hf⟩; exact hK _ (hC.trans hf (by simp)) hf
        -- 10
        apply ex_plain rfl rfl rfl
        · intro a w hC hA K hK
          have h34 : a.tmps[34]?.getD undef = _ := hA.dep 9 34 _ (by kernel_rfl) rfl
          simp only [Oper.wp, execOp]; go_simp
          exact hK _ hC (Fp.refl _ _)
        refine ⟨?_, ?_⟩
        · repeat (first | exact trivial | refine stab_val _ ?_ | refine ⟨fun w1 w2 v _ hf ⟨g, h1, h2⟩ => ⟨g, h1, (hf.block g (heap_lt h2) (by simp)).trans h2⟩, ?_⟩)
        · intro w' hC
          simp only [List.reverse_cons, List.reverse_nil, List.nil_append, List.cons_append]
          iterate 8 (refine all_val ?_)
          refine all_some ?_
          intro v8 u8
          iterate 2 (refine all_val ?_)
          refine all_nil ?_
          simp only [putAll, Act.put, List.setIfInBounds_toArray, List.set_cons_succ, List.set_cons_zero]
          have HF9 := Lib.hid (HF8.out.trans hC (by simp))
          have HC9 := Lib.hid (HC8.out.fp hC (by simp))
          have HB9 := Lib.hid (HB8.out.fp hC (by simp))
          clear hC
          go_wp2_with (fail)
          (with_reducible refine (line_any tx _ htz (HP.out.fp HF9.out)).mono ?_)
          rintro e w10 ⟨rfl, hf⟩
          have HF10 := Lib.hid (HF9.out.trans hf (by simp))
          have HC10 := Lib.hid (HC9.out.fp hf (by simp))
          have HB10 := Lib.hid (HB9.out.fp hf (by simp))
          clear hf
          obtain ⟨y0, y1, y2, y3, y4, y5, _⟩ := HC10.out.facts
          cases hlp : lineP tx with
          | none =>
            have HOKF : Hid (okP ⟨row, col, ts, seq, true, val⟩ = false) := by unfold Hid; rw [HOKP.out, hlp]
            clear hlp
            rw [show (Option.none : Option Cel).getD zeroC = zeroC from rfl, show (Option.none : Option Cel).isSome = false from rfl, show cellV zeroC = .agg #[.string ⟨#[]⟩, .string ⟨#[]⟩, .int .u64 0, .int .u64 0, .bool false, .string ⟨#[]⟩] from rfl]
            go_wp2_with (fail)
            go_ret2
            rw [HGO.out, HD.out, print_stop HOKF.out]
            exact ⟨rfl, HF10.out.alloc' _⟩
          | some x =>
            obtain ⟨xr, xc, xt, xq, xd, xv⟩ := x
            rw [show (Option.some (⟨xr, xc, xt, xq, xd, xv⟩ : Cel)).getD zeroC = ⟨xr, xc, xt, xq, xd, xv⟩ from rfl, show (Option.some (⟨xr, xc, xt, xq, xd, xv⟩ : Cel)).isSome = true from rfl, cel_eta]
            have HWP := Lib.hid (HWO.out _ hlp)
            cases he : eqC ⟨xr, xc, xt, xq, xd, xv⟩ ⟨row, col, ts, seq, true, val⟩
            · have HOKF : Hid (okP ⟨row, col, ts, seq, true, val⟩ = false) := by unfold Hid; rw [HOKP.out, hlp]; simp only [he, Bool.false_and]
              have h := cel_parts _ _ he
              clear hlp he
              rcases h with h | ⟨e1, h⟩
              · have n1 : ¬ xr.toList = row.toList := beq_eq_false_iff_ne.1 h
                have n2 : (xr.toList == row.toList) = false := h
                go_wp2_with (fail)
                go_ret2
                rw [HGO.out, HD.out, print_stop HOKF.out]
                exact ⟨rfl, HF10.out.alloc' _⟩
              have e2 : row = xr := e1.symm
              clear e1
              subst e2
              rcases h with h | ⟨e1, h⟩
              · have n1 : ¬ xc.toList = col.toList := beq_eq_false_iff_ne.1 h
                have n2 : (xc.toList == col.toList) = false := h
                go_wp2_with (fail)
                go_ret2
                rw [HGO.out, HD.out, print_stop HOKF.out]
                exact ⟨rfl, HF10.out.alloc' _⟩
              have e2 : col = xc := e1.symm
              clear e1
              subst e2
              rcases h with h | ⟨e1, h⟩
              · have n0 : ¬ xt = ts := beq_eq_false_iff_ne.1 h
                have n1 : ¬ (xt : Int) = (ts : Int) := by omega
                have n2 : ((xt : Int) == (ts : Int)) = false := beq_eq_false_iff_ne.2 n1
                go_wp2_with (fail)
                go_ret2
                rw [HGO.out, HD.out, print_stop HOKF.out]
                exact ⟨rfl, HF10.out.alloc' _⟩
              have e2 : ts = xt := e1.symm
              clear e1
              subst e2
              rcases h with h | ⟨e1, h⟩
              · have n0 : ¬ xq = seq := beq_eq_false_iff_ne.1 h
                have n1 : ¬ (xq : Int) = (seq : Int) := by omega
                have n2 : ((xq : Int) == (seq : Int)) = false := beq_eq_false_iff_ne.2 n1
                go_wp2_with (fail)
                go_ret2
                rw [HGO.out, HD.out, print_stop HOKF.out]
                exact ⟨rfl, HF10.out.alloc' _⟩
              have e2 : seq = xq := e1.symm
              clear e1
              subst e2
              rcases h with h | ⟨e1, h⟩
              · have n1 : ¬ xd = true := beq_eq_false_iff_ne.1 h
                have n2 : (xd == true) = false := h
                go_wp2_with (fail)
                go_ret2
                rw [HGO.out, HD.out, print_stop HOKF.out]
                exact ⟨rfl, HF10.out.alloc' _⟩
              have e2 : true = xd := e1.symm
              clear e1
              subst e2
              have n1 : ¬ xv.toList = val.toList := beq_eq_false_iff_ne.1 h
              have n2 : (xv.toList == val.toList) = false := h
              go_wp2_with (fail)
              go_ret2
              rw [HGO.out, HD.out, print_stop HOKF.out]
              exact ⟨rfl, HF10.out.alloc' _⟩
            · have hr0 : 0 < row.size := HWP.out he
              have hnl : (⟨#[10]⟩ : ByteArray).size = 1 := rfl
              have heq := (eqC_iff _ _).1 he
              obtain ⟨sk, hsk⟩ : ∃ sk, ((row[0].toNat : Int) == 35) = sk := ⟨_, rfl⟩
              have HOKV : Hid (okP ⟨row, col, ts, seq, true, val⟩ = !sk) := by
                unfold Hid
                rw [HOKP.out, hlp]
                simp only [he, Bool.true_and]
                rw [← hsk, ← skip_at' hr0]
                unfold skipB
                rw [beq_eq_false_iff_ne.2 (by omega : row.size ≠ 0), Bool.false_or]
              simp only [Cel.mk.injEq] at heq
              obtain ⟨e1, e2, e3, e4, e5, e6⟩ := heq
              have e1 := e1.symm
              have e2 := e2.symm
              have e3 := e3.symm
              have e4 := e4.symm
              have e6 := e6.symm
              clear hlp he HWP
              subst e1 e2 e3 e4 e5 e6
              cases sk
              · have hne35 : ¬ (row[0].toNat : Int) = 35 := beq_eq_false_iff_ne.1 hsk
                go_wp2_with (fail)
                (with_reducible refine (HWS.out acc (tx ++ ⟨#[10]⟩) _ (HB10.out.fp (Fp.alloc _ _) (by simp)) (by rw [ByteArray.size_append, hnl]; omega)).mono ?_)
                rintro e w11 ⟨rfl, hb2, hk2⟩
                have HF11 : Hid (Fp [] w w11) := (HF10.out.alloc' _).bfp hk2 (by rw [HB0.out]; exact Nat.le_refl _)
                have HB11 := Lib.hid hb2
                clear hb2 hk2
                go_wp2_with (fail)
                go_roundg (gk - 1)
                case measure => omega
                case rel =>
                  refine ⟨k + 1, acc ++ (tx ++ ⟨#[10]⟩).data.toList, by omega, by simp, HF11.out, HB11.out, ?_, ?_⟩
                  · rw [HGO.out, HD.out, print_step (by rw [HOKV.out]; rfl), HTXE.out]
                    refine congrArg (fun b => printGo b _) (data_inj ?_)
                    rw [append_data]
                  · have e1 : (tx ++ ⟨#[10]⟩).data.toList.length = tx.size + 1 := by rw [← size_eq, ByteArray.size_append]; rfl
                    have e2 := HTZ.out
                    rw [List.length_append, e1]; omega
              · have he35 : (row[0].toNat : Int) = 35 := beq_iff_eq.1 hsk
                go_wp2_with (fail)
                go_ret2
                rw [HGO.out, HD.out, print_stop (by rw [HOKV.out]; rfl)]
                exact ⟨rfl, HF10.out.alloc' _⟩
    · have HD : Hid (l.drop k = []) := List.drop_eq_nil_of_le (by rw [← HLEN.out]; omega)
      go_wp2_with (fail)
      (with_reducible refine (HST.out acc _ HB.out).mono ?_)
      rintro e w2 ⟨rfl, hb⟩
      have HF2 : Hid (Fp [] w w2) := HF.out.belowTrans (by rw [HB0.out]; exact hb)
      clear hb
      go_wp2_with (fail)
      go_ret2
      rw [HGO.out, HD.out]
      exact ⟨rfl, HF2.out⟩
end Go.Proofs.YtfhjdfimkeogaaaDoor
