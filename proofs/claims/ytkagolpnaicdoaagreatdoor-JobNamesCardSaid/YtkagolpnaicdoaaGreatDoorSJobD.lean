/-
 job.Make's tried function, walked.
-/
import Derived.Test.YtkagolpnaicdoaaGreatDoorSParCells
set_option maxRecDepth 100000
set_option maxHeartbeats 8000000
namespace Go.Proofs.YtkagolpnaicdoaaGreatDoor
open Go.RowKit Go.Lib
theorem filesOf_snoc {ps : List (Nat × List Cel)} {i : Nat} {x : Nat × List Cel} {f : ByteArray} {e : Nat} (h : i < ps.length) (hx : ps[i] = x) (hf : buildT x.2 0 = (f, e)) : filesOf (ps.take (i + 1)) = filesOf (ps.take i) ++ [f] := by
 unfold filesOf
 rw [List.take_add_one, List.getElem?_eq_getElem h, hx, List.map_append]
 simp [hf]
theorem sure_zero (w : World) (x : Int) (h : x = 0) : Calls Tryz.prog 48 #[.int .i64 x] w fun e w' => (∃ v, e = .returned v) ∧ w' = w := by
 subst h
 exact sure_ok w
def u32V (f : ByteArray) : Value := .int .u32 (moreN 0 f)
theorem makeC_any (w : World) (bi bm bw bb bo p : Nat) (s : ByteArray) (m wid mo : Int) (a2 : Option Addr) (n2 cap2 : Nat) (borders : List ByteArray) (sum ep : Value)
  (hbi : w.heap[bi]? = some (.cells #[.string s] 9 (0, 0))) (hbm : w.heap[bm]? = some (.cells #[.int .i64 m] 3 (0, 0))) (hbw : w.heap[bw]? = some (.cells #[.int .i64 wid] 3 (0, 0))) (hbb : w.heap[bb]? = some (.cells #[.slice a2 n2 cap2] 22 (0, 0))) (hbo : w.heap[bo]? = some (.cells #[.int .i64 mo] 3 (0, 0)))
  (hbp : w.heap[p]? = some (.cells #[sum, ep, .slice none 0 0, .slice none 0 0] 29 (0, 0))) (hs : s.size ≤ 100000000) (hf20 : (cellsP s).1.length < 20) (hst : StrsAt w a2 n2 borders) (hn2 : n2 ≤ 900000) (hm : m < 2 ^ 63) (hwid : wid < 2 ^ 63) (hmo : mo < 2 ^ 63) (hpar : ParAt w) (htab : TabAt w) (hg1 : 0 ≠ p) (hg2 : 2 ≠ p) :
  Calls Tryz.prog 46 #[.pointer (some ⟨bi, 0, none⟩), .pointer (some ⟨bm, 0, none⟩), .pointer (some ⟨bw, 0, none⟩), .pointer (some ⟨bb, 0, none⟩), .pointer (some ⟨bo, 0, none⟩), .pointer (some ⟨p, 0, none⟩)] w fun e w' => Fp [p] w w' ∧
   (((∃ v, e = .returned v) ∧ ∃ files vF vS, MakeR s borders m wid mo 0 files ∧ w'.heap[p]? = some (.cells #[sum, ep, vF, vS] 29 (0, 0)) ∧ OwnR 9 w' w.heap.size vF (files.map Value.string) ∧ OwnR 26 w' w.heap.size vS (files.map u32V)) ∨
    ∃ x : Nat, x ≠ 0 ∧ e = .panicked (errPan (x : Int)) ∧ MakeR s borders m wid mo x []) := by
 obtain ⟨cs, line, ec, hcp⟩ : ∃ cs line ec, cellsP s = (cs, line, ec) := ⟨_, _, _, rfl⟩
 have hok := cellsP_ok s hs
 have hfew := cellsP_few s
 rw [hcp] at hok hfew hf20
 simp only at hf20
 obtain ⟨hok1, -, hlin, hec⟩ := hok
 simp only at hok1 hlin hec hfew
 have HPC := Lib.hid (fun w h => cells_any s w hs h)
 rw [hcp] at HPC
 have HSO := Lib.hid sure_zero
 have HSB := Lib.hid sure_bad
 have HCP := Lib.hid hcp
 have HOK := Lib.hid hok1
 have HBM := Lib.hid hbm
 have HBW := Lib.hid hbw
 have HBB := Lib.hid hbb
 have HBO := Lib.hid hbo
 have HBP := Lib.hid hbp
 have HST := Lib.hid hst
 have HPAR := Lib.hid hpar
 have HTAB := Lib.hid htab
 have q0 : w.cell? ⟨bi, 0, none⟩ = some (.string s) := cell_of_block hbi 0
 clear hcp hok1 hbi hbm hbw hbb hbo hbp hst hpar htab
 go_enter Tryz.func46, Tryz.ntmps46
 go_wp2_with (fail)
 (with_reducible refine (HPC.out _ HPAR.out).mono ?_)
 rintro e w1 ⟨⟨v1, rfl, ho1⟩, hf1⟩
 obtain ⟨a1, c1, rfl, hlc1, hsh1, hca1⟩ := OwnC.at4 ho1 HOK.out
 have HF1 := Lib.hid hf1
 have HCA1 := Lib.hid hca1
 simp only
 clear ho1 hf1 hca1 q0
 go_wp2_with (fail)
 by_cases hece : ec = 0
 ·(with_reducible refine (HSO.out _ (ec : Int) (by omega)).mono ?_)
  rintro e w2 ⟨⟨vv, rfl⟩, rfl⟩
  by_cases hl0 : cs = []
  ·subst hl0
   go_wp2_with (fail)
   (with_reducible refine (HSB.out _ 1 (by decide)).mono ?_)
   rintro e w3 ⟨rfl, rfl⟩
   go_wp2_with (fail)
   refine ⟨rfl, (HF1.out.mono (by simp)), Or.inr ⟨1, by decide, rfl, ?_⟩⟩
   exact MakeR.none (by rw [HCP.out]; exact hece) (by rw [HCP.out])
  ·have hpos : 0 < cs.length := List.length_pos_iff.2 hl0
   have hz : (((cs.length : Nat) : Int) == 0) = false := beq_eq_false_iff_ne.2 (by omega)
   have q1 : w2.cell? ⟨bm, 0, none⟩ = some (.int .i64 m) := cell_of_block ((HF1.out.block _ (heap_lt HBM.out) (by simp)).trans HBM.out) 0
   have q2 : w2.cell? ⟨bw, 0, none⟩ = some (.int .i64 wid) := cell_of_block ((HF1.out.block _ (heap_lt HBW.out) (by simp)).trans HBW.out) 0
   have HL0 := Lib.hid hl0
   clear hl0
   have HA1 : Hid (CelsAt w2 a1 cs.length cs) := HCA1
   by_cases hgood : 1 ≤ m ∧ 2 ≤ wid
   ·obtain ⟨hm1, hw1⟩ := hgood
    obtain ⟨mn, rfl⟩ : ∃ k : Nat, m = k := ⟨m.toNat, by omega⟩
    obtain ⟨wn, rfl⟩ : ∃ k : Nat, wid = k := ⟨wid.toNat, by omega⟩
    have HMS := Lib.hid (fun w (h : CelsAt w a1 cs.length cs) => msort_any w a1 cs.length c1 mn wn cs h (by omega) hpos (by omega) (by omega) (by omega) (by omega))
    go_wp2_with (fail)
    (with_reducible refine (HMS.out _ HA1.out).mono ?_)
    rintro e w3 ⟨v3, r, kp, rfl, hres, ho3, hf3⟩
    have hrok : ∀ c ∈ r.map (·.c), CelOK c := by
     intro c hc
     obtain ⟨x, hx, rfl⟩ := List.mem_map.1 hc
     exact HOK.out _ (item_cell (hres.sub x hx))
    obtain ⟨sl, hsl⟩ : ∃ sl, r.map (·.c) = sl := ⟨_, rfl⟩
    have hslen : sl.length ≤ 4001 := by
     have h1 := hres.len (itemsP_ok HOK.out (by omega))
     have h2 : (itemsP cs).length = cs.length := itemsUp_length cs _
     rw [← hsl, List.length_map]
     omega
    have hsri : risC sl = true := by rw [← hsl]; exact hres.ris.risC
    rw [hsl] at ho3 hrok
    obtain ⟨a3, c3, rfl, hlc3, hsh3, hca3⟩ := OwnC.at4 ho3 hrok
    have HRES := Lib.hid hres
    have HSL := Lib.hid hsl
    have HCA3 := Lib.hid hca3
    have HF3 := Lib.hid (HF1.out.trans hf3 (by simp))
    have HSH3 := Lib.hid hsh3
    clear hres ho3 hrok hsl hca3 hf3 q1 q2 hsh3 hsh1
    go_wp2_with (fail)
    (with_reducible refine (HSO.out _ 0 rfl).mono ?_)
    rintro e w4 ⟨⟨vv4, rfl⟩, rfl⟩
    have q3 : w4.cell? ⟨bb, 0, none⟩ = some (.slice a2 n2 cap2) := cell_of_block ((HF3.out.block _ (heap_lt HBB.out) (by simp)).trans HBB.out) 0
    have q4 : w4.cell? ⟨bo, 0, none⟩ = some (.int .i64 mo) := cell_of_block ((HF3.out.block _ (heap_lt HBO.out) (by simp)).trans HBO.out) 0
    have HST4 := Lib.hid (HST.out.of_fp HF3.out)
    go_wp2_with (fail)
    by_cases hbor : bordersB borders = true
    ·by_cases hmost : 1 ≤ mo
     ·obtain ⟨mon, rfl⟩ : ∃ k : Nat, mo = k := ⟨mo.toNat, by omega⟩
      (with_reducible refine (cutall_any w4 a3 sl.length c3 a2 n2 cap2 sl borders mon HCA3.out HSH3.out hlc3 HST4.out (by omega) hn2 hbor hsri (by omega) (by omega)).mono ?_)
      rintro e w5 ⟨v5, out, rfl, ho5, hsp, hf5⟩
      obtain ⟨pa, pc, rfl⟩ := ho5.slice
      have HF5 := Lib.hid (HF3.out.trans hf5 (by simp))
      have HSP := Lib.hid hsp
      have HBOR := Lib.hid hbor
      have HO5 := Lib.hid ho5
      have hpl : (allP mon out).length ≤ 4001 := by
       have h1 := allTo_le mon out out.length (Nat.le_refl _)
       rw [List.take_length, hsp.flat] at h1
       exact Nat.le_trans h1 hslen
      obtain ⟨ps, hps⟩ : ∃ ps, allP mon out = ps := ⟨_, rfl⟩
      rw [hps] at hpl
      have HPS := Lib.hid hps
      have HO6 : Hid (OwnPc w5 w4.heap.size (.slice pa ps.length pc) ps) := by rw [← hps]; exact HO5
      rw [hps]
      clear hf5 hsp hbor ho5 HO5 hps q3 q4
      go_wp2_with (fail)
      (with_reducible refine (HSO.out _ 0 rfl).mono ?_)
      rintro e w6 ⟨⟨vv6, rfl⟩, rfl⟩
      go_wp2_with (fail)
      go_loopg [47] ps.length (fun g vi W => ∃ (i : Nat) (vF vS : Value), g = ps.length - i ∧ vi = .int .i64 i ∧ i ≤ ps.length ∧ (∀ j (_ : j < i) (h : j < ps.length), (buildT ps[j].2 0).2 = 0) ∧ W.heap[p]? = some (.cells #[sum, ep, vF, vS] 29 (0, 0)) ∧ OwnR 9 W w6.heap.size vF ((filesOf (ps.take i)).map Value.string) ∧ OwnR 26 W w6.heap.size vS ((filesOf (ps.take i)).map u32V) ∧ Fp [p] w W ∧ w6.heap.size ≤ W.heap.size ∧ (∀ D, D ≠ 9 → D ≠ 26 → Kept D w6.heap.size [p] w6 W))
      case atStart => exact ⟨0, _, _, rfl, rfl, Nat.zero_le _, fun j h => absurd h (Nat.not_lt_zero _), (HF5.out.block _ (heap_lt HBP.out) (by simp)).trans HBP.out, OwnR.nil _ _ _, OwnR.nil _ _ _, HF5.out.mono (by simp), Nat.le_refl _, fun _ _ _ => Kept.of ((Fp.refl [] _).mono (by simp)) (by simp; exact Nat.lt_of_lt_of_le (heap_lt HBP.out) HF5.out.size)⟩
      case round =>
       obtain ⟨i, vF, vS, hg, rfl, hi, herr, hcel, hF, hS, hfp, hsz, hkp⟩ := hrel
       have HERR := Lib.hid herr
       have HCEL := Lib.hid hcel
       have HFI := Lib.hid hF
       have HSI := Lib.hid hS
       have HFP := Lib.hid hfp
       have HKP := Lib.hid hkp
       have HG := Lib.hid hg
       clear herr hcel hF hS hfp hkp hg
       have hpw : p < w.heap.size := heap_lt HBP.out
       have hww4 : w.heap.size ≤ w4.heap.size := HF3.out.size
       have hww6 : w.heap.size ≤ w6.heap.size := HF5.out.size
       by_cases hlt : i < ps.length
       ·have zi : (i : Int) < (ps.length : Int) := by omega
        have n1 : IntKind.i64.wrap ((i : Int) + 1) = ((i + 1 : Nat) : Int) := by rw [IntKind.wrap_i64]; omega
        obtain ⟨i1, hi1⟩ : ∃ i1, i + 1 = i1 := ⟨_, rfl⟩
        rw [hi1] at n1
        have hopr : OwnPc wr w4.heap.size (.slice pa ps.length pc) ps := HO6.out.low fun k h1 h2 => (HKP.out 0 (by decide) (by decide)).low k h2 h2 (by simp; omega)
        obtain ⟨g, gc, xa, xn, xc, hgv, hx0, hx1, hxo⟩ := hopr.get hlt
        cases hgv
        have hmem0 : ∀ y ∈ ps, y ∈ allTo mon out out.length := by
         rw [← HPS.out]
         exact fun y h => h
        have hmem := hmem0 ps[i] (List.getElem_mem _)
        clear hmem0
        obtain ⟨⟨xi, x⟩, hx⟩ : ∃ x, ps[i] = x := ⟨_, rfl⟩
        rw [hx] at hx0 hxo hmem
        simp only at hx0 hxo
        have hxs := allTo_small hmem
        rw [HSP.out.flat] at hxs
        simp only at hxs
        have hxok : ∀ c ∈ x, CelOK c := fun c hc => HCA3.out.ok c (by
         have := allTo_mem hmem hc
         rw [HSP.out.flat] at this
         exact this)
        obtain ⟨ya, yc, hye, hyc, -, hya⟩ := OwnC.at4 hxo hxok
        cases hye
        obtain ⟨f, fe, hfe⟩ : ∃ f fe, buildT x 0 = (f, fe) := ⟨_, _, rfl⟩
        have hbt : ∀ W, Fp [] wr W → Calls Tryz.prog 51 #[.slice xa x.length xc, .int .u64 0] W fun e w' => e = .returned (.tuple #[.string (buildT x 0).1, .int .i64 ((buildT x 0).2 : Nat)]) ∧ Fp [] W w' := fun W hf => tbuild_any W xa x.length xc x 0 (hya.fp hf) hyc (by omega) (by decide) (HPAR.out.mx.fp (HFP.out.trans hf (by simp)) (by simpa using hg2)) (HTAB.out.fp (HFP.out.trans hf (by simp)) (by simpa using hg1))
        rw [hfe] at hbt
        have HBT := Lib.hid hbt
        have HX := Lib.hid hx
        have HFE := Lib.hid hfe
        have HI1 := Lib.hid hi1
        have q5 : wr.cell? ⟨g, i * 2, none⟩ = some (.int .i64 xi) := hx0
        have q6 : wr.cell? ⟨g, i * 2 + 1, none⟩ = some (.slice xa x.length xc) := hx1
        clear hopr hx0 hx1 hxo hmem hx hxok hya hfe hbt hi1
        go_wp2_with (fail)
        (with_reducible refine (HBT.out _ (Fp.alloc _ _)).mono ?_)
        rintro e w7 ⟨rfl, hf7⟩
        have HF7 := Lib.hid ((Fp.alloc wr (.cells #[.int .i64 xi, .slice xa x.length xc] 106)).trans hf7 (by simp))
        simp only
        clear hf7 q5 q6
        go_wp2_with (fail)
        by_cases hfe0 : fe = 0
        ·(with_reducible refine (HSO.out _ (fe : Int) (by omega)).mono ?_)
         rintro e w8 ⟨⟨vv8, rfl⟩, rfl⟩
         have hgood : GoodT x := good_build (seq := 0) (by rw [HFE.out]; exact hfe0)
         have hff : f = fileB x 0 := by
          have h1 := build_good 0 hgood
          rw [HFE.out] at h1
          exact (Prod.mk.inj h1).1
         have hfs : f.size ≤ 100000000 := by rw [hff]; exact file_size 0 hgood
         have HSM := Lib.hid (fun W (h : Fp [p] w W) => sum_any f W hfs (HTAB.out.fp h (by simpa using hg1)))
         obtain ⟨fa, fn, fc, rfl⟩ := HFI.out.sl
         obtain ⟨sa, sn, sc, rfl⟩ := HSI.out.sl
         have HF8 := Lib.hid (HFI.out.fp HF7.out (by simp))
         have HS8 := Lib.hid (HSI.out.fp HF7.out (by simp))
         have HC8 := Lib.hid ((HF7.out.block _ (heap_lt HCEL.out) (by simp)).trans HCEL.out)
         have HFP8 := Lib.hid (HFP.out.trans HF7.out (by simp))
         have hsz8 : w6.heap.size ≤ w8.heap.size := Nat.le_trans hsz HF7.out.size
         have HTL : Hid (((filesOf (ps.take i)).map Value.string).length + 1 ≤ 1000000000) := Lib.hid (by simp [filesOf]; omega)
         have HTL2 : Hid (((filesOf (ps.take i)).map u32V).length + 1 ≤ 1000000000) := Lib.hid (by simp [filesOf]; omega)
         clear hgood hff
         go_wp2_with (fail)
         refine wp_region_v (PlC w w8 w6.heap.size p sum ep (.slice fa fn fc) (.slice sa sn sc) ((filesOf (ps.take i)).map Value.string) ((filesOf (ps.take i)).map u32V) (.string f) (u32V f)) (fun _ _ => True) (by kernel_rfl) (by kernel_rfl) (fun _ => PlC.start HF8.out HS8.out HC8.out HFP8.out hsz8 (by omega)) ?_
         apply vx_plain (fun _ _ _ h _ => h.plain (by decide)) rfl rfl rfl
         ·intro b a w hC hA K hK
          have h5 := hA.fr 5 rfl
          simp only [Oper.wp, execOp]; go_simp
          exact hK _ hC trivial
         apply vx_plain (fun _ _ _ h _ => h.plain (by decide)) rfl rfl rfl
         ·intro b a w hC hA K hK
          have h59 := hA.eq 0 59 rfl
          have hce := hC.cel
          rw [hA.post 12 (by kernel_rfl), cond_false] at hce
          have q0 := cell_of_block hce 2
          simp only [List.getElem?_toArray, List.getElem?_cons_zero, List.getElem?_cons_succ] at q0
          simp only [Oper.wp, execOp]; go_simp
          exact hK _ hC trivial
         apply vx_plain (fun _ _ _ h _ => h.plain (by decide)) rfl rfl rfl
         ·intro b a w hC hA K hK
          have h12 := hA.fr 12 rfl
          simp only [Oper.wp, execOp]; go_simp
          exact hK _ hC trivial
         apply vx_turn (fun _ _ => True) rfl rfl rfl
         ·intro b a w hC hA K hK
          have h61 := hA.eq 2 61 rfl
          have hst := hC.bldF hA.self
          simp only [Oper.wp, execOp]; go_simp
          exact hK _ _ hst trivial trivial
         apply vx_turn (fun _ _ => True) rfl rfl rfl
         ·intro b a w hC hA K hK
          have h60 := hA.eq 1 60 rfl
          have h62 := hA.dep 3 62 _ (by kernel_rfl) rfl
          obtain ⟨g, hg1, -, hg2⟩ := hC.fb (hA.pre 3 (by kernel_rfl)) hA.self
          refine wp_append_r 22 9 Tryz.underlying22 Tryz.info9 rfl (by decide) (.tmp 60) (.tmp 62) rfl _ _ _ (ev_tmp h60) (hC.f0 hA.self) g _ rfl (ev_tmp ((hA.val 3 62 (by kernel_rfl)).trans hg1)) (cell_of_block hg2 0) HTL.out hC.sz ?_
          intro v' w' h1 h2 h3
          exact hK _ _ (hC.appF (hA.pre 3 (by kernel_rfl)) hA.self h1 h2 h3 (by omega) (by omega)) trivial trivial
         apply vx_plain (fun _ _ _ h _ => h.plain (by decide)) rfl rfl rfl
         ·intro b a w hC hA K hK
          have h5 := hA.fr 5 rfl
          simp only [Oper.wp, execOp]; go_simp
          exact hK _ hC trivial
         apply vx_plain (fun _ _ _ h _ => h.plain (by decide)) rfl rfl rfl
         ·intro b a w hC hA K hK
          have h64 := hA.eq 5 64 rfl
          have hce := hC.cel
          rw [hA.post 14 (by kernel_rfl), cond_false] at hce
          have q0 := cell_of_block hce 3
          simp only [List.getElem?_toArray, List.getElem?_cons_zero, List.getElem?_cons_succ] at q0
          simp only [Oper.wp, execOp]; go_simp
          exact hK _ hC trivial
         apply vx_plain (fun _ _ _ h _ => h.plain (by decide)) rfl rfl rfl
         ·intro b a w hC hA K hK
          have h12 := hA.fr 12 rfl
          simp only [Oper.wp, execOp]; go_simp
          exact hK _ hC trivial
         apply vx_turn (eqV (u32V f)) rfl rfl rfl
         ·intro b a w hC hA K hK
          have h66 := hA.eq 7 66 rfl
          simp only [Oper.wp, execOp]; go_simp
          (with_reducible refine (HSM.out _ hC.fp).mono ?_)
          rintro e w4 ⟨rfl, hf⟩
          exact hK _ _ ((hC.on hf).plain (by decide)) trivial rfl
         apply vx_turn (fun _ _ => True) rfl rfl rfl
         ·intro b a w hC hA K hK
          have h67 := hA.eq 8 67 rfl
          have hst := hC.bldS hA.self
          simp only [Oper.wp, execOp]; go_simp
          exact hK _ _ hst trivial trivial
         apply vx_turn (fun _ _ => True) rfl rfl rfl
         ·intro b a w hC hA K hK
          have h65 := hA.eq 6 65 rfl
          have h68 := hA.dep 9 68 _ (by kernel_rfl) rfl
          obtain ⟨g, hg1, -, hg2⟩ := hC.sb (hA.pre 9 (by kernel_rfl)) hA.self
          refine wp_append_r 27 26 Tryz.underlying27 Tryz.infoU32 rfl (by decide) (.tmp 65) (.tmp 68) rfl _ _ _ (ev_tmp h65) (hC.s0 hA.self) g _ rfl (ev_tmp ((hA.val 9 68 (by kernel_rfl)).trans hg1)) (cell_of_block hg2 0) HTL2.out hC.sz ?_
          intro v' w' h1 h2 h3
          exact hK _ _ (hC.appS (hA.pre 9 (by kernel_rfl)) hA.self h1 h2 h3 (by omega) (by omega)) trivial trivial
         apply vx_plain (fun _ _ _ h _ => h.plain (by decide)) rfl rfl rfl
         ·intro b a w hC hA K hK
          have h5 := hA.fr 5 rfl
          simp only [Oper.wp, execOp]; go_simp
          exact hK _ hC trivial
         apply vx_effect (fun _ => True) rfl rfl rfl
         ·intro b a w hC hA K hK
          have h70 := hA.eq 11 70 rfl
          have h63 := hA.dep 4 63 _ (by kernel_rfl) rfl
          obtain ⟨a2, n2, c2, e2⟩ := (hC.f1 (hA.pre 4 (by kernel_rfl))).sl
          have hv := (hA.val 4 63 (by kernel_rfl)).trans e2
          have hst := hC.stoF (hA.pre 4 (by kernel_rfl)) (by omega) rfl
          rw [e2] at hst
          have f0 := frozen_of_block hC.cel 2
          have q0 := cell_of_block hC.cel 2
          simp only [List.getElem?_toArray, List.getElem?_cons_zero, List.getElem?_cons_succ] at q0
          simp only [Oper.wp, execOp]; go_simp
          exact hK undef _ hst trivial trivial
         apply vx_plain (fun _ _ _ h _ => h.plain (by decide)) rfl rfl rfl
         ·intro b a w hC hA K hK
          have h5 := hA.fr 5 rfl
          simp only [Oper.wp, execOp]; go_simp
          exact hK _ hC trivial
         apply vx_effect (fun _ => True) rfl rfl rfl
         ·intro b a w hC hA K hK
          have h71 := hA.eq 13 71 rfl
          have h69 := hA.dep 10 69 _ (by kernel_rfl) rfl
          obtain ⟨a2, n2, c2, e2⟩ := (hC.s1 (hA.pre 10 (by kernel_rfl))).sl
          have hv := (hA.val 10 69 (by kernel_rfl)).trans e2
          have hst := hC.stoS (hA.pre 10 (by kernel_rfl)) (by omega) rfl
          rw [e2] at hst
          have f0 := frozen_of_block hC.cel 3
          have q0 := cell_of_block hC.cel 3
          simp only [List.getElem?_toArray, List.getElem?_cons_zero, List.getElem?_cons_succ] at q0
          simp only [Oper.wp, execOp]; go_simp
          exact hK undef _ hst trivial trivial
         refine ⟨?_, ?_⟩
         ·refine ⟨fun _ _ _ _ _ => trivial, ?_⟩
          refine stabV_val _ ?_
          refine ⟨fun _ _ _ _ _ => trivial, ?_⟩
          refine stabV_val _ ?_
          refine ⟨fun _ _ _ _ _ => trivial, ?_⟩
          refine ⟨fun _ _ _ _ _ => trivial, ?_⟩
          refine ⟨fun _ _ _ _ h => h, ?_⟩
          iterate 3 refine stabV_val _ ?_
          refine ⟨fun _ _ _ _ _ => trivial, ?_⟩
          refine ⟨fun _ _ _ _ _ => trivial, ?_⟩
          iterate 3 refine stabV_val _ ?_
          exact trivial
         ·intro w' bb hbb
          simp only [List.reverse_cons, List.reverse_nil, List.nil_append, List.cons_append]
          iterate 3 (refine all_val ?_)
          refine all_some ?_
          intro v3 u3
          refine all_some ?_
          intro v4 u4
          iterate 3 (refine all_val ?_)
          refine all_some ?_
          intro v8 u8
          obtain rfl := u8
          refine all_some ?_
          intro v9 u9
          refine all_some ?_
          intro v10 u10
          iterate 1 (refine all_val ?_)
          refine all_some ?_
          intro v12 u12
          iterate 1 (refine all_val ?_)
          refine all_some ?_
          intro v14 u14
          refine all_nil ?_
          intro hC
          simp only [putAll, Act.put, List.setIfInBounds_toArray, List.set_cons_succ, List.set_cons_zero]
          go_wp2_with (fail)
          go_roundg (ps.length - i1)
          case measure => have := HG.out; have := HI1.out; omega
          case rel =>
           have hce := hC.cel
           rw [hbb 12 (by simp), hbb 14 (by simp), cond_true, cond_true] at hce
           refine ⟨i1, _, _, rfl, rfl, by have := HI1.out; omega, ?_, hce, ?_, ?_, hC.fp, hC.sz, ?_⟩
           ·intro j hj hjl
            by_cases hji : j < i
            ·exact HERR.out j hji hjl
            ·obtain rfl : j = i := by have := HI1.out; omega
             rw [HX.out, HFE.out]
             exact hfe0
           ·rw [← HI1.out, filesOf_snoc hlt HX.out HFE.out, List.map_append]
            exact hC.f1 (hbb 4 (by simp))
           ·rw [← HI1.out, filesOf_snoc hlt HX.out HFE.out, List.map_append]
            exact hC.s1 (hbb 10 (by simp))
           ·intro D h1 h2
            exact ((HKP.out D h1 h2).trans (Kept.of (HF7.out.mono (by simp) : Fp [p] wr w8) (by simp; omega)) (by simp)).trans (hC.kept D h1 h2) (by simp)
        ·(with_reducible refine (HSB.out _ (fe : Int) (by omega)).mono ?_)
         rintro e w8 ⟨rfl, rfl⟩
         go_wp2_with (fail)
         refine ⟨rfl, HFP.out.trans HF7.out (by simp), Or.inr ⟨fe, hfe0, rfl, ?_⟩⟩
         have hfst : firstErr (errsOf (allP mon out)) = fe := by
          rw [HPS.out]
          have h1 := firstErr_at (errsOf ps) i (by simp [errsOf]; exact hlt) (fun j hj => by simp only [errsOf, List.getElem_map]; exact HERR.out j hj (by omega)) (by simp only [errsOf, List.getElem_map]; rw [HX.out, HFE.out]; exact hfe0)
          rw [h1]
          simp only [errsOf, List.getElem_map]
          rw [HX.out, HFE.out]
         have := MakeR.build (s := s) (borders := borders) (m := mn) (wid := wn) (mo := (mon : Int)) r out mon (by rw [HCP.out]; exact hece) (by rw [HCP.out]; exact HL0.out) hm1 hw1 HBOR.out (by omega) rfl (by rw [HCP.out]; exact HRES.out) (by rw [HSL.out]; exact HSP.out) (by rw [hfst]; exact hfe0)
         rw [hfst] at this
         exact this
       ·have z0 : ¬ (i : Int) < (ps.length : Int) := by omega
        obtain rfl : i = ps.length := by omega
        go_wp2_with (fail)
        go_end0
        have hF := HFI.out
        have hS := HSI.out
        rw [List.take_length] at hF hS
        refine ⟨HFP.out, Or.inl ⟨⟨_, rfl⟩, filesOf ps, ?_, vF, vS, HCEL.out, hF.mono hww6, hS.mono hww6⟩⟩
        have := MakeR.ok (s := s) (borders := borders) (m := mn) (wid := wn) (mo := (mon : Int)) r out mon (by rw [HCP.out]; exact hece) (by rw [HCP.out]; exact HL0.out) hm1 hw1 HBOR.out (by omega) rfl (by rw [HCP.out]; exact HRES.out) (by rw [HSL.out]; exact HSP.out) (by
         rw [HPS.out]
         intro e he
         obtain ⟨j, hj, rfl⟩ := List.mem_iff_getElem.1 he
         simp only [errsOf, List.getElem_map]
         simp only [errsOf, List.length_map] at hj
         exact HERR.out j hj hj)
        rw [HPS.out] at this
        exact this
     ·(with_reducible refine (cutall_most w4 a3 sl.length c3 a2 n2 cap2 sl borders mo HCA3.out HSH3.out hlc3 HST4.out (by omega) hn2 hbor hsri (by omega)).mono ?_)
      rintro e w5 ⟨rfl, hf5⟩
      have HF5 := Lib.hid (HF3.out.trans hf5 (by simp))
      clear hf5 q3 q4
      go_wp2_with (fail)
      (with_reducible refine (HSB.out _ 1 (by decide)).mono ?_)
      rintro e wz ⟨rfl, rfl⟩
      go_wp2_with (fail)
      refine ⟨rfl, (HF5.out.mono (by simp)), Or.inr ⟨1, by decide, rfl, ?_⟩⟩
      exact MakeR.cut (by rw [HCP.out]; exact hece) (by rw [HCP.out]; exact HL0.out) hm1 hw1 (Or.inr (by omega))
    ·have hbf : bordersB borders = false := by simpa using hbor
     (with_reducible refine (cutall_borders w4 a3 sl.length c3 a2 n2 cap2 borders mo HST4.out hn2 hbf).mono ?_)
     rintro e w5 ⟨rfl, hf5⟩
     have HF5 := Lib.hid (HF3.out.trans hf5 (by simp))
     clear hf5 q3 q4
     go_wp2_with (fail)
     (with_reducible refine (HSB.out _ 1 (by decide)).mono ?_)
     rintro e wz ⟨rfl, rfl⟩
     go_wp2_with (fail)
     refine ⟨rfl, (HF5.out.mono (by simp)), Or.inr ⟨1, by decide, rfl, ?_⟩⟩
     exact MakeR.cut (by rw [HCP.out]; exact hece) (by rw [HCP.out]; exact HL0.out) hm1 hw1 (Or.inl hbf)
   ·have hsrt : ∃ P : World → Value → Prop, Calls Tryz.prog 49 #[.slice a1 cs.length c1, .int .i64 m, .int .i64 wid] w2 fun e w' => (∃ v, P w' v ∧ e = .returned (.tuple #[v, .int .i64 0, .int .i64 1])) ∧ Fp [] w2 w' := by
     refine ⟨fun _ _ => True, ?_⟩
     by_cases hm1 : m < 1
     ·exact (msort_bad1 w2 _ m wid hm1).mono fun e w' h => ⟨⟨_, trivial, h.1⟩, h.2⟩
     ·obtain ⟨mn, rfl⟩ : ∃ k : Nat, m = k := ⟨m.toNat, by omega⟩
      refine (msort_bad2 w2 a1 cs.length c1 mn wid cs HA1.out (by omega) hpos (by omega) (by omega) (by omega)).mono fun e w' h => ?_
      obtain ⟨v, h1, h2⟩ := h
      exact ⟨⟨v, trivial, h1⟩, h2⟩
    obtain ⟨P, hsrt⟩ := hsrt
    have HSRT := Lib.hid hsrt
    clear hsrt
    go_wp2_with (fail)
    (with_reducible refine HSRT.out.mono ?_)
    rintro e w3 ⟨⟨v3, -, rfl⟩, hf3⟩
    have HF3 := Lib.hid (HF1.out.trans hf3 (by simp))
    clear hf3 q1 q2
    go_wp2_with (fail)
    (with_reducible refine (HSB.out _ 1 (by decide)).mono ?_)
    rintro e w4 ⟨rfl, rfl⟩
    go_wp2_with (fail)
    refine ⟨rfl, HF3.out.mono (by simp), Or.inr ⟨1, by decide, rfl, ?_⟩⟩
    exact MakeR.sort (by rw [HCP.out]; exact hece) (by rw [HCP.out]; exact HL0.out) (by omega)
 ·(with_reducible refine (HSB.out _ (ec : Int) (by omega)).mono ?_)
  rintro e w2 ⟨rfl, rfl⟩
  go_wp2_with (fail)
  refine ⟨rfl, (HF1.out.mono (by simp)), Or.inr ⟨ec, hece, rfl, ?_⟩⟩
  have := MakeR.parse (s := s) (borders := borders) (m := m) (wid := wid) (mo := mo) (by rw [HCP.out]; exact hece)
  rw [HCP.out] at this
  exact this
end Go.Proofs.YtkagolpnaicdoaaGreatDoor
