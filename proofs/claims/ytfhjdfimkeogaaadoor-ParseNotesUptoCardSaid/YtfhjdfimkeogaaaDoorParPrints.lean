/-
  ParsePrints: the input of any cells is the document's, and tells them.
-/
import Derived.Test.YtfhjdfimkeogaaaDoorParPL
import Derived.Test.YtfhjdfimkeogaaaDoorParRPrint
import Derived.Test.YtfhjdfimkeogaaaDoorParCellsW
namespace Go.Proofs.YtfhjdfimkeogaaaDoor
open Go.RowKit Go.Lib

theorem pow_met {W : World} {r : List (String × DataW Unit)} (h : laidMet Tryd.prog (("internal/strconv.uint64pow10", tabData .u64 pow10Tab) :: r) W.memory) : PowAt W :=
  show TabIs Tryd.prog W.memory "internal/strconv.uint64pow10" .u64 pow10Tab from tabIs_of_head (show Tryd.prog.globalNamed "internal/strconv.uint64pow10" = some 1 by kernel_rfl) (show (Tryd.prog.globals[1]?).map (·.type) = some 98 by kernel_rfl) Tryd.underlying98 Tryd.underlying36 (by kernel_rfl) (by kernel_rfl) h

def smallC (c : Cel) : Prop := c.row.size ≤ 100 ∧ c.col.size ≤ 100 ∧ c.val.size ≤ 200
set_option maxRecDepth 100000 in
set_option maxHeartbeats 8000000 in
theorem prints_walk (W : World) (a : Option Addr) (len cap : Nat) (l : List Cel) (hl : CelsAt W a len l) (hlen : len ≤ maxLen) (hp : ParAt W) (hpw : PowAt W) :
    Calls Tryd.prog 6 #[.slice a len cap] W fun e w' => e = .returned (.bool true) ∧ Fp [] W w' := by
  have HP := Lib.hid hp
  have HPW := Lib.hid hpw
  have HL := Lib.hid hl
  have HLEN := Lib.hid hl.len
  have HSH := Lib.hid shown_any
  have hlen2 : (len : Int) ≤ 9223372036854775807 := by unfold maxLen at hlen; omega
  clear hp hpw hl hlen
  by_cases h20 : len > 20
  · have h20' : (len : Int) > 20 := by omega
    go_enter Tryd.func6, Tryd.ntmps6
    go_wp2_with (fail)
    (with_reducible refine (HSH.out _ HP.out).mono ?_)
    rintro e w1 ⟨rfl, hf⟩
    have HF := Lib.hid hf
    clear hf
    go_wp2_with (fail)
    go_ret
    exact ⟨rfl, HF.out⟩
  · have h20' : ¬ (len : Int) > 20 := by omega
    go_enter Tryd.func6, Tryd.ntmps6
    go_wp2_with (fail)
    (with_reducible refine (HSH.out _ HP.out).mono ?_)
    rintro e w1 ⟨rfl, hf⟩
    have HF1 := Lib.hid hf
    clear hf
    go_wp2_with (fail)
    go_loopg [3] len (fun g vi wr => ∃ k : Nat, g + k = len ∧ vi = .int .i64 k ∧ Fp [] W wr ∧ ∀ i (hi : i < l.length), i < k → smallC l[i])
    case atStart => exact ⟨0, rfl, rfl, HF1.out, by intro i _ h; omega⟩
    case round =>
      obtain ⟨k, hg, rfl, hf, hsm⟩ := hrel
      have HF := Lib.hid hf
      have HSM := Lib.hid hsm
      clear hf hsm
      by_cases hk : k < len
      · have hkl : k < l.length := by rw [← HLEN.out]; exact hk
        obtain ⟨b1, o1, rfl, hb1, hcells⟩ := cels_get HL.out hkl
        obtain ⟨c, hc⟩ : ∃ c, l[k] = c := ⟨_, rfl⟩
        rw [hc] at hcells
        have HC := Lib.hid hc
        have hrz := (HL.out.ok c (by rw [← hc]; exact List.getElem_mem hkl)).row
        have hcz := (HL.out.ok c (by rw [← hc]; exact List.getElem_mem hkl)).col
        have hvz := (HL.out.ok c (by rw [← hc]; exact List.getElem_mem hkl)).val
        obtain ⟨q0, q1, q2, q3, q4, q5⟩ := hcells wr HF.out
        clear hcells hc
        by_cases h1 : c.row.size > 100
        · have z1 : (c.row.size : Int) > 100 := by omega
          go_wp2_with (fail)
          (with_reducible refine (HSH.out _ (HP.out.fp HF.out)).mono ?_)
          rintro e w2 ⟨rfl, hf⟩
          have HF2 := Lib.hid (HF.out.trans hf (by simp))
          clear hf
          go_wp2_with (fail)
          go_ret
          exact ⟨rfl, HF2.out⟩
        have z1 : ¬ (c.row.size : Int) > 100 := by omega
        by_cases h2 : c.col.size > 100
        · have z2 : (c.col.size : Int) > 100 := by omega
          go_wp2_with (fail)
          (with_reducible refine (HSH.out _ (HP.out.fp HF.out)).mono ?_)
          rintro e w2 ⟨rfl, hf⟩
          have HF2 := Lib.hid (HF.out.trans hf (by simp))
          clear hf
          go_wp2_with (fail)
          go_ret
          exact ⟨rfl, HF2.out⟩
        have z2 : ¬ (c.col.size : Int) > 100 := by omega
        by_cases h3 : c.val.size > 200
        · have z3 : (c.val.size : Int) > 200 := by omega
          go_wp2_with (fail)
          (with_reducible refine (HSH.out _ (HP.out.fp HF.out)).mono ?_)
          rintro e w2 ⟨rfl, hf⟩
          have HF2 := Lib.hid (HF.out.trans hf (by simp))
          clear hf
          go_wp2_with (fail)
          go_ret
          exact ⟨rfl, HF2.out⟩
        have z3 : ¬ (c.val.size : Int) > 200 := by omega
        have HSM2 : Hid (∀ i (hi : i < l.length), i < k + 1 → smallC l[i]) := fun i hi h => by
          by_cases e : i = k
          · subst e; rw [HC.out]; exact ⟨by omega, by omega, by omega⟩
          · exact HSM.out i hi (by omega)
        go_wp2_with (fail)
        go_roundg (gk - 1)
        case measure => omega
        case rel => exact ⟨k + 1, by omega, by simp, HF.out, HSM2.out⟩
      · have HAL : Hid (∀ c ∈ l, smallC c) := fun c hc => by
          obtain ⟨i, hi, rfl⟩ := List.getElem_of_mem hc
          exact HSM.out i hi (by have := HLEN.out; omega)
        have HBD : Hid (∀ c ∈ l, c.row.size + c.col.size + c.val.size ≤ 10000000) := fun c hc => by
          obtain ⟨h1, h2, h3⟩ := HAL.out c hc
          omega
        have HPR := Lib.hid (fun w hl hp hpw => print_any w a len cap l hl HBD.out (by omega) hp hpw)
        have HRP := Lib.hid (fun w hl => rprint_any w a len cap l hl HBD.out (by omega))
        rcases printP_is l with ⟨h1, h2⟩ | h1
        · have HJZ : Hid ((joinB (l.map textOf)).size ≤ 20 * 425) := by
            have := joinB_le l 424 (fun c hc => by
              obtain ⟨h1, h2, h3⟩ := HAL.out c hc
              have := textOf_size c (HL.out.ok c hc).ts
              omega)
            have e := HLEN.out
            have e2 : l.length * (424 + 1) ≤ 20 * 425 := Nat.mul_le_mul_right _ (by omega)
            exact Nat.le_trans this e2
          have HCP := Lib.hid (fun hs => cells_print h2 hs)
          obtain ⟨s, hs⟩ : ∃ s, joinB (l.map textOf) = s := ⟨_, rfl⟩
          rw [hs] at HJZ HCP h1
          rw [h1] at HPR HRP
          have hjz := HJZ.out
          have HCA := Lib.hid (fun w hp => cells_any s w (by omega) hp)
          clear h1 hs h2
          go_wp2_with (fail)
          (with_reducible refine (HPR.out _ (HL.out.fp HF.out) (HP.out.fp HF.out) (HPW.out.fp HF.out)).mono ?_)
          rintro e w2 ⟨rfl, hf⟩
          have HF2 := Lib.hid (HF.out.trans hf (by simp))
          clear hf
          rw [show ((0 : Nat) : Int) = 0 from rfl]
          go_wp2_with (fail)
          (with_reducible refine (HRP.out _ (HL.out.fp HF2.out)).mono ?_)
          rintro e w3 ⟨rfl, hf⟩
          have HF3 := Lib.hid (HF2.out.trans hf (by simp))
          clear hf
          rw [show ((0 : Nat) : Int) = 0 from rfl]
          by_cases hz : s.size ≤ 4000
          · have z4 : ¬ (s.size : Int) > 4000 := by omega
            rw [HCP.out hz] at HCA
            go_wp2_with (fail)
            (with_reducible refine (HCA.out _ (HP.out.fp HF3.out)).mono ?_)
            rintro e w4 ⟨⟨v, rfl, ho⟩, hf⟩
            have HF4 := Lib.hid (HF3.out.trans hf (by simp))
            obtain ⟨a4, c4, rfl, hc4⟩ := ho.at HL.out.ok
            have HS := Lib.hid (same_any w4 a4 a l.length c4 len cap l hc4 (HL.out.fp HF4.out) (by have := HLEN.out; show l.length ≤ _; omega))
            clear hf ho hc4
            rw [show ((l, 0, 0) : List Cel × Nat × Nat).2.1 = 0 from rfl, show ((l, 0, 0) : List Cel × Nat × Nat).2.2 = 0 from rfl, show ((0 : Nat) : Int) = 0 from rfl, show ((l, 0, 0) : List Cel × Nat × Nat).1 = l from rfl]
            go_wp2_with (fail)
            (with_reducible refine HS.out.mono ?_)
            rintro e w5 ⟨rfl, hf⟩
            have HF5 := Lib.hid (HF4.out.trans hf (by simp))
            clear hf
            go_wp2_with (fail)
            go_ret
            exact ⟨rfl, HF5.out⟩
          · have z4 : (s.size : Int) > 4000 := by omega
            rw [cells_wide hz] at HCA
            go_wp2_with (fail)
            (with_reducible refine (HCA.out _ (HP.out.fp HF3.out)).mono ?_)
            rintro e w4 ⟨⟨v, rfl, ho⟩, hf⟩
            have HF4 := Lib.hid (HF3.out.trans hf (by simp))
            clear hf ho
            rw [show (([], 0, 71) : List Cel × Nat × Nat).2.1 = 0 from rfl, show (([], 0, 71) : List Cel × Nat × Nat).2.2 = 71 from rfl, show ((0 : Nat) : Int) = 0 from rfl]
            go_wp2_with (fail)
            go_ret
            exact ⟨rfl, HF4.out⟩
        · rw [h1] at HPR HRP
          clear h1
          go_wp2_with (fail)
          (with_reducible refine (HPR.out _ (HL.out.fp HF.out) (HP.out.fp HF.out) (HPW.out.fp HF.out)).mono ?_)
          rintro e w2 ⟨rfl, hf⟩
          have HF2 := Lib.hid (HF.out.trans hf (by simp))
          clear hf
          rw [show ((1 : Nat) : Int) = 1 from rfl]
          go_wp2_with (fail)
          (with_reducible refine (HRP.out _ (HL.out.fp HF2.out)).mono ?_)
          rintro e w3 ⟨rfl, hf⟩
          have HF3 := Lib.hid (HF2.out.trans hf (by simp))
          clear hf
          rw [show ((1 : Nat) : Int) = 1 from rfl]
          go_wp2_with (fail)
          go_ret
          exact ⟨rfl, HF3.out⟩
end Go.Proofs.YtfhjdfimkeogaaaDoor
