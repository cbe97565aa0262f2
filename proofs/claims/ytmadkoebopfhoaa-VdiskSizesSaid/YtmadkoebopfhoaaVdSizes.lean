/-
  The law VdiskSizes: its walk.
-/
import Derived.Test.YtmadkoebopfhoaaVdCalm
import Derived.Test.YtmadkoebopfhoaaVdShown
import Derived.Test.YtmadkoebopfhoaaFrame
import Derived.Test.YtmadkoebopfhoaaVdActs
import Derived.Deep.CutRange
import Derived.Deep.CutBlock
namespace Go.Proofs.Ytmadkoebopfhoaa
open Go.RowKit Go.Maps Go.MapKept Go.ChangeMaps

def SizeRels (w : World) (bd : Nat) (l : List ActV) (g : Nat) (v : Value) (wr : World) : Prop :=
  ∃ k d, k ≤ l.length ∧ DiskAt wr (bd + 1) bd d ∧ Calm d ∧ Fp [] w wr ∧ g + k = l.length ∧ v = .int .i64 k

def DoneRel (w : World) (bd : Nat) (wx : World) : Prop := ∃ d, DiskAt wx (bd + 1) bd d ∧ Calm d ∧ Fp [] w wx

def SumRels (w w8 : World) (bd : Nat) (d : Dk) (ns : List ByteArray) (g : Nat) (n i : Value) (wr : World) : Prop :=
  ∃ j, j ≤ ns.length ∧ DiskAt wr (bd + 1) bd d ∧ Fp [] w wr ∧ Fp [] w8 wr ∧ g + j = ns.length ∧ n = .int .i64 (sumTo d ns j) ∧ i = .int .i64 j

set_option maxRecDepth 100000 in
set_option maxHeartbeats 2000000 in
theorem sizes_walk (hlist : ListGives) (w : World) (a : Option Addr) (len cap : Nat) (l : List ActV) (hl : ActsAt w a len l) (hlen : len ≤ maxLen) :
    Calls Try.prog 7 #[.slice a len cap] w fun e w' => e = .returned (.bool true) ∧ Fp [] w w' := by
  unfold maxLen at hlen
  have HLI := Lib.hid hlist
  have HL := Lib.hid hl
  have hll := hl.len
  clear hlist
  by_cases h80 : len ≤ 80
  · have HLL := Lib.hid hll
    have hl80 : l.length ≤ 80 := by omega
    clear hll hl
    go_enter Try.func7, Try.ntmps7
    go_wp2_with (go_at_call 8; refine (shown_any _).mono ?_; rintro e w1 ⟨rfl, hf1⟩)
    refine (new_any 5000 w1).mono ?_
    rintro e w2 ⟨rfl, hd2, hf2⟩
    obtain ⟨bd, hbd⟩ : ∃ bd, bd = w1.heap.size := ⟨_, rfl⟩
    rw [← hbd] at hd2 ⊢
    have hnew : w.heap.size ≤ bd := by have := hf1.size; omega
    have HF2 := Lib.hid (hf1.trans hf2 (by simp))
    have HD2 := Lib.hid hd2
    clear hd2 hf1 hf2 hbd
    go_wp2_with (fail)
    go_loopg [4] l.length (fun g v4 wr => SizeRels w bd l g v4 wr)
    case atStart => exact ⟨0, _, Nat.zero_le _, HD2.out, Calm.new, HF2.out, by omega, rfl⟩
    case round =>
      obtain ⟨k, d, hle, hd, hcalm, hfp, hcount, rfl⟩ := hrel
      have HD := Lib.hid hd
      have HCALM := Lib.hid hcalm
      have HFP := Lib.hid hfp
      have HCO := Lib.hid hcount
      clear hd hcalm hfp hcount
      by_cases hlt : k < l.length
      · rcases HL.out.cells with h0 | ⟨b, o, rfl, hb, hc⟩
        · rw [h0] at hlt; exact absurd hlt (by simp)
        have hcs : ActCells wr b (o + k * 6) l[k] := (hc k hlt).fp HFP.out hb (by simp)
        have hklen : k < len := by rw [HLL.out]; exact hlt
        obtain ⟨x, hx⟩ : ∃ x, x = l[k] := ⟨_, rfl⟩
        rw [← hx] at hcs
        have hgk : l.length - (k + 1) < gk := by have := HCO.out; omega
        obtain ⟨c0, c1, c2, c3, c4, c5⟩ := hcs
        clear hx hc
        obtain ⟨kd, xn, xk, xa, xb, xs⟩ := x
        simp only at c0 c1 c2 c3 c4 c5
        by_cases s1 : xa.size ≤ 100
        · by_cases s2 : xb.size ≤ 100
          · by_cases s3 : xs.size ≤ 200
            · have t1 : ¬ (100 : Int) < (xa.size : Int) := by omega
              have t2 : ¬ (100 : Int) < (xb.size : Int) := by omega
              have t3 : ¬ (200 : Int) < (xs.size : Int) := by omega
              go_upto_block 2 with (fail)
              have hdw := HD.out.of_fp (Fp.alloc wr (.cells #[.int .i64 kd, .int .i64 xn, .int .i64 xk, .string xa, .string xb, .string xs] 45)) (by simp) (by simp)
              have HDW := Lib.hid hdw
              have hfw := HFP.out.alloc' (.cells #[.int .i64 kd, .int .i64 xn, .int .i64 xk, .string xa, .string xb, .string xs] 45)
              have HFW := Lib.hid hfw
              have hblk : (wr.alloc (.cells #[.int .i64 kd, .int .i64 xn, .int .i64 xk, .string xa, .string xb, .string xs] 45)).heap[wr.heap.size]? = some (.cells #[.int .i64 kd, .int .i64 xn, .int .i64 xk, .string xa, .string xb, .string xs] 45 (0, 0)) := heap_alloc_at rfl _
              have hbw : bd + 1 < wr.heap.size := heap_lt HD.out.cells
              have hcx : ∀ w', Fp [bd + 1, bd] (wr.alloc (.cells #[.int .i64 kd, .int .i64 xn, .int .i64 xk, .string xa, .string xb, .string xs] 45)) w' → w'.cell? ⟨wr.heap.size, 3, none⟩ = some (.string xa) ∧ w'.cell? ⟨wr.heap.size, 5, none⟩ = some (.string xs) := by
                intro w' hf
                have h1 := (hf.block _ (heap_lt hblk) (by simp; omega)).trans hblk
                exact ⟨cell_of_block h1 3, cell_of_block h1 5⟩
              have HCX := Lib.hid hcx
              have hma : xa.size ≤ maxLen := by unfold maxLen; omega
              have hmb : xb.size ≤ maxLen := by unfold maxLen; omega
              have HMA := Lib.hid hma
              have HMB := Lib.hid hmb
              clear hdw hfw hblk hcx hma hmb
              go_cut [6, 7, 8, 9] from 26 to 163 (fun _ _ _ _ wx => DoneRel w bd wx)
              case first =>
                by_cases h0 : kd = 0
                · subst h0
                  have hcl := create_any _ (bd + 1) bd _ xa HDW.out HCALM.out.ok HMA.out
                  have HCL := Lib.hid hcl
                  clear hcl
                  go_wp2_with (fail)
                  refine HCL.out.mono ?_
                  rintro e w5 ⟨rfl, hd5, hf5⟩
                  have HD5 := Lib.hid hd5
                  have HF5 := Lib.hid (fp_new HFW.out hf5 hnew)
                  clear hd5 hf5 HCL
                  go_wp2_with (fail)
                  go_meet
                  case rel => exact ⟨_, HD5.out, HCALM.out.create xa, HF5.out⟩
                · have b0 : (kd == 0) = false := by simpa using h0
                  by_cases h1 : kd = 1
                  · subst h1
                    have hcl := create_any _ (bd + 1) bd _ xa HDW.out HCALM.out.ok HMA.out
                    have HCL := Lib.hid hcl
                    clear hcl
                    go_wp2_with (fail)
                    refine HCL.out.mono ?_
                    rintro e w5 ⟨rfl, hd5, hf5⟩
                    have HD5 := Lib.hid hd5
                    have HF5 := Lib.hid (fp_new HFW.out hf5 hnew)
                    clear hd5 hf5 HCL
                    go_wp2_with (fail)
                    go_meet
                    case rel => exact ⟨_, HD5.out, HCALM.out.create xa, HF5.out⟩
                  · have b1 : (kd == 1) = false := by simpa using h1
                    by_cases h2 : kd = 2
                    · subst h2
                      have hr1 := read_any _ (bd + 1) bd _ xa HDW.out HMA.out
                      have HR1 := Lib.hid hr1
                      clear hr1
                      go_wp2_with (fail)
                      refine HR1.out.mono ?_
                      rintro e w5 ⟨rfl, hf5⟩
                      have hcx := HCX.out w5 (hf5.mono (by simp))
                      obtain ⟨x3, x5⟩ := hcx
                      have hd5 := HDW.out.of_fp hf5 (by simp) (by simp)
                      have hap := append_any w5 (bd + 1) bd _ xa xs hd5 HCALM.out.ok HMA.out (by omega)
                      have HAP := Lib.hid hap
                      have HF5 := Lib.hid (HFW.out.trans hf5 (by simp))
                      have HFX := Lib.hid hf5
                      obtain ⟨hcA, hread⟩ := HCALM.out.append xa xs
                      have HCA := Lib.hid hcA
                      obtain ⟨E, hE⟩ : ∃ E, E = d.appendE xa xs := ⟨_, rfl⟩
                      obtain ⟨D2, hD2⟩ : ∃ D2, D2 = d.append xa xs := ⟨_, rfl⟩
                      obtain ⟨R, hR⟩ : ∃ R, R = d.read xa := ⟨_, rfl⟩
                      rw [← hE, ← hD2] at HAP
                      rw [← hR]
                      rw [← hD2] at HCA hread
                      rw [← hE, ← hR] at hread
                      obtain ⟨rs, re⟩ := R
                      have HREAD := Lib.hid hread
                      clear hap hf5 hd5 hcA hE hD2 hR hread HR1
                      go_wp2_with (fail)
                      refine HAP.out.mono ?_
                      rintro e w6 ⟨rfl, hd6, hf6⟩
                      have hfx6 : Fp [bd + 1, bd] _ w6 := (HFX.out.mono (by simp)).trans hf6 (by simp)
                      have hcx := HCX.out w6 hfx6
                      have HFX6 := Lib.hid hfx6
                      obtain ⟨y3, y5⟩ := hcx
                      have HD6 := Lib.hid hd6
                      have HF6 := Lib.hid (fp_new HF5.out hf6 hnew)
                      have hr2 := read_any w6 (bd + 1) bd _ xa hd6 HMA.out
                      by_cases hE0 : E = 0
                      · subst hE0
                        obtain ⟨q1, q2⟩ := HREAD.out rfl
                        have q1' : re = 0 := q1
                        subst q1'
                        rw [q2] at hr2
                        have HR2 := Lib.hid hr2
                        have hsz : ((rs.size + xs.size : Nat) : Int) ≤ 9223372036854775807 := by
                          have := HCA.out.read_le xa
                          rw [q2, ByteArray.size_append] at this
                          omega
                        clear hr2 hd6 hf6 hfx6 HAP q1 q2
                        go_wp2_with (fail)
                        refine HR2.out.mono ?_
                        rintro e w7 ⟨rfl, hf7⟩
                        have HF7 := Lib.hid (HF6.out.trans hf7 (by simp))
                        have HD7 := Lib.hid (HD6.out.of_fp hf7 (by simp) (by simp))
                        have hcx := HCX.out w7 (HFX6.out.trans hf7 (by simp))
                        obtain ⟨z3, z5⟩ := hcx
                        clear hf7
                        go_wp2_with (fail)
                        go_meet
                        case rel => exact ⟨_, HD7.out, HCA.out, HF7.out⟩
                      · have bE : (E == 0) = false := by simpa using hE0
                        clear hr2 hd6 hf6 hfx6 HAP
                        go_wp2_with (fail)
                        go_meet
                        case rel => exact ⟨_, HD6.out, HCA.out, HF6.out⟩
                    · have b2 : (kd == 2) = false := by simpa using h2
                      by_cases h3 : kd = 3
                      · subst h3
                        have hr1 := read_any _ (bd + 1) bd _ xa HDW.out HMA.out
                        have HR1 := Lib.hid hr1
                        clear hr1
                        go_wp2_with (fail)
                        refine HR1.out.mono ?_
                        rintro e w5 ⟨rfl, hf5⟩
                        have hcx := HCX.out w5 (hf5.mono (by simp))
                        obtain ⟨x3, x5⟩ := hcx
                        have hd5 := HDW.out.of_fp hf5 (by simp) (by simp)
                        have hap := append_any w5 (bd + 1) bd _ xa xs hd5 HCALM.out.ok HMA.out (by omega)
                        have HAP := Lib.hid hap
                        have HF5 := Lib.hid (HFW.out.trans hf5 (by simp))
                        have HFX := Lib.hid hf5
                        obtain ⟨hcA, hread⟩ := HCALM.out.append xa xs
                        have HCA := Lib.hid hcA
                        obtain ⟨E, hE⟩ : ∃ E, E = d.appendE xa xs := ⟨_, rfl⟩
                        obtain ⟨D2, hD2⟩ : ∃ D2, D2 = d.append xa xs := ⟨_, rfl⟩
                        obtain ⟨R, hR⟩ : ∃ R, R = d.read xa := ⟨_, rfl⟩
                        rw [← hE, ← hD2] at HAP
                        rw [← hR]
                        rw [← hD2] at HCA hread
                        rw [← hE, ← hR] at hread
                        obtain ⟨rs, re⟩ := R
                        have HREAD := Lib.hid hread
                        clear hap hf5 hd5 hcA hE hD2 hR hread HR1
                        go_wp2_with (fail)
                        refine HAP.out.mono ?_
                        rintro e w6 ⟨rfl, hd6, hf6⟩
                        have hfx6 : Fp [bd + 1, bd] _ w6 := (HFX.out.mono (by simp)).trans hf6 (by simp)
                        have hcx := HCX.out w6 hfx6
                        have HFX6 := Lib.hid hfx6
                        obtain ⟨y3, y5⟩ := hcx
                        have HD6 := Lib.hid hd6
                        have HF6 := Lib.hid (fp_new HF5.out hf6 hnew)
                        have hr2 := read_any w6 (bd + 1) bd _ xa hd6 HMA.out
                        by_cases hE0 : E = 0
                        · subst hE0
                          obtain ⟨q1, q2⟩ := HREAD.out rfl
                          have q1' : re = 0 := q1
                          subst q1'
                          rw [q2] at hr2
                          have HR2 := Lib.hid hr2
                          have hsz : ((rs.size + xs.size : Nat) : Int) ≤ 9223372036854775807 := by
                            have := HCA.out.read_le xa
                            rw [q2, ByteArray.size_append] at this
                            omega
                          clear hr2 hd6 hf6 hfx6 HAP q1 q2
                          go_wp2_with (fail)
                          refine HR2.out.mono ?_
                          rintro e w7 ⟨rfl, hf7⟩
                          have HF7 := Lib.hid (HF6.out.trans hf7 (by simp))
                          have HD7 := Lib.hid (HD6.out.of_fp hf7 (by simp) (by simp))
                          have hcx := HCX.out w7 (HFX6.out.trans hf7 (by simp))
                          obtain ⟨z3, z5⟩ := hcx
                          clear hf7
                          go_wp2_with (fail)
                          go_meet
                          case rel => exact ⟨_, HD7.out, HCA.out, HF7.out⟩
                        · have bE : (E == 0) = false := by simpa using hE0
                          clear hr2 hd6 hf6 hfx6 HAP
                          go_wp2_with (fail)
                          go_meet
                          case rel => exact ⟨_, HD6.out, HCA.out, HF6.out⟩
                      · have b3 : (kd == 3) = false := by simpa using h3
                        by_cases h4 : kd = 4
                        · subst h4
                          have hr1 := read_any _ (bd + 1) bd _ xa HDW.out HMA.out
                          have HR1 := Lib.hid hr1
                          clear hr1
                          go_wp2_with (fail)
                          refine HR1.out.mono ?_
                          rintro e w5 ⟨rfl, hf5⟩
                          have hcx := HCX.out w5 (hf5.mono (by simp))
                          obtain ⟨x3, x5⟩ := hcx
                          have hd5 := HDW.out.of_fp hf5 (by simp) (by simp)
                          have hap := append_any w5 (bd + 1) bd _ xa xs hd5 HCALM.out.ok HMA.out (by omega)
                          have HAP := Lib.hid hap
                          have HF5 := Lib.hid (HFW.out.trans hf5 (by simp))
                          have HFX := Lib.hid hf5
                          obtain ⟨hcA, hread⟩ := HCALM.out.append xa xs
                          have HCA := Lib.hid hcA
                          obtain ⟨E, hE⟩ : ∃ E, E = d.appendE xa xs := ⟨_, rfl⟩
                          obtain ⟨D2, hD2⟩ : ∃ D2, D2 = d.append xa xs := ⟨_, rfl⟩
                          obtain ⟨R, hR⟩ : ∃ R, R = d.read xa := ⟨_, rfl⟩
                          rw [← hE, ← hD2] at HAP
                          rw [← hR]
                          rw [← hD2] at HCA hread
                          rw [← hE, ← hR] at hread
                          obtain ⟨rs, re⟩ := R
                          have HREAD := Lib.hid hread
                          clear hap hf5 hd5 hcA hE hD2 hR hread HR1
                          go_wp2_with (fail)
                          refine HAP.out.mono ?_
                          rintro e w6 ⟨rfl, hd6, hf6⟩
                          have hfx6 : Fp [bd + 1, bd] _ w6 := (HFX.out.mono (by simp)).trans hf6 (by simp)
                          have hcx := HCX.out w6 hfx6
                          have HFX6 := Lib.hid hfx6
                          obtain ⟨y3, y5⟩ := hcx
                          have HD6 := Lib.hid hd6
                          have HF6 := Lib.hid (fp_new HF5.out hf6 hnew)
                          have hr2 := read_any w6 (bd + 1) bd _ xa hd6 HMA.out
                          by_cases hE0 : E = 0
                          · subst hE0
                            obtain ⟨q1, q2⟩ := HREAD.out rfl
                            have q1' : re = 0 := q1
                            subst q1'
                            rw [q2] at hr2
                            have HR2 := Lib.hid hr2
                            have hsz : ((rs.size + xs.size : Nat) : Int) ≤ 9223372036854775807 := by
                              have := HCA.out.read_le xa
                              rw [q2, ByteArray.size_append] at this
                              omega
                            clear hr2 hd6 hf6 hfx6 HAP q1 q2
                            go_wp2_with (fail)
                            refine HR2.out.mono ?_
                            rintro e w7 ⟨rfl, hf7⟩
                            have HF7 := Lib.hid (HF6.out.trans hf7 (by simp))
                            have HD7 := Lib.hid (HD6.out.of_fp hf7 (by simp) (by simp))
                            have hcx := HCX.out w7 (HFX6.out.trans hf7 (by simp))
                            obtain ⟨z3, z5⟩ := hcx
                            clear hf7
                            go_wp2_with (fail)
                            go_meet
                            case rel => exact ⟨_, HD7.out, HCA.out, HF7.out⟩
                          · have bE : (E == 0) = false := by simpa using hE0
                            clear hr2 hd6 hf6 hfx6 HAP
                            go_wp2_with (fail)
                            go_meet
                            case rel => exact ⟨_, HD6.out, HCA.out, HF6.out⟩
                        · have b4 : (kd == 4) = false := by simpa using h4
                          by_cases h5 : kd = 5
                          · subst h5
                            have hcl := sync_any _ (bd + 1) bd _ xa HDW.out HCALM.out.ok HMA.out
                            have HCL := Lib.hid hcl
                            clear hcl
                            go_wp2_with (fail)
                            refine HCL.out.mono ?_
                            rintro e w5 ⟨rfl, hd5, hf5⟩
                            have HD5 := Lib.hid hd5
                            have HF5 := Lib.hid (fp_new HFW.out hf5 hnew)
                            clear hd5 hf5 HCL
                            go_wp2_with (fail)
                            go_meet
                            case rel => exact ⟨_, HD5.out, HCALM.out.sync xa, HF5.out⟩
                          · have b5 : (kd == 5) = false := by simpa using h5
                            by_cases h6 : kd = 6
                            · subst h6
                              have hcl := sync_any _ (bd + 1) bd _ xa HDW.out HCALM.out.ok HMA.out
                              have HCL := Lib.hid hcl
                              clear hcl
                              go_wp2_with (fail)
                              refine HCL.out.mono ?_
                              rintro e w5 ⟨rfl, hd5, hf5⟩
                              have HD5 := Lib.hid hd5
                              have HF5 := Lib.hid (fp_new HFW.out hf5 hnew)
                              clear hd5 hf5 HCL
                              go_wp2_with (fail)
                              go_meet
                              case rel => exact ⟨_, HD5.out, HCALM.out.sync xa, HF5.out⟩
                            · have b6 : (kd == 6) = false := by simpa using h6
                              by_cases h7 : kd = 7
                              · subst h7
                                have hcl := rename_any _ (bd + 1) bd _ xa xb HDW.out HCALM.out.ok HMA.out HMB.out
                                have HCL := Lib.hid hcl
                                clear hcl
                                go_wp2_with (fail)
                                refine HCL.out.mono ?_
                                rintro e w5 ⟨rfl, hd5, hf5⟩
                                have HD5 := Lib.hid hd5
                                have HF5 := Lib.hid (fp_new HFW.out hf5 hnew)
                                clear hd5 hf5 HCL
                                go_wp2_with (fail)
                                go_meet
                                case rel => exact ⟨_, HD5.out, HCALM.out.rename xa xb, HF5.out⟩
                              · have b7 : (kd == 7) = false := by simpa using h7
                                by_cases h8 : kd = 8
                                · subst h8
                                  have hcl := delete_any _ (bd + 1) bd _ xa HDW.out HCALM.out.ok HMA.out
                                  have HCL := Lib.hid hcl
                                  clear hcl
                                  go_wp2_with (fail)
                                  refine HCL.out.mono ?_
                                  rintro e w5 ⟨rfl, hd5, hf5⟩
                                  have HD5 := Lib.hid hd5
                                  have HF5 := Lib.hid (fp_new HFW.out hf5 hnew)
                                  clear hd5 hf5 HCL
                                  go_wp2_with (fail)
                                  go_meet
                                  case rel => exact ⟨_, HD5.out, HCALM.out.delete xa, HF5.out⟩
                                · have b8 : (kd == 8) = false := by simpa using h8
                                  go_wp2_with (fail)
                                  go_meet
                                  case rel => exact ⟨d, HDW.out, HCALM.out, HFW.out⟩
              case rest =>
                obtain ⟨d2, hd2, hc2, hf2⟩ := hcut
                have hli := HLI.out wc (bd + 1) bd d2 hd2 hc2.ok
                have HLI2 := Lib.hid hli
                have HC2 := Lib.hid hc2
                have HF2' := Lib.hid hf2
                have HD2' := Lib.hid hd2
                clear hli hc2 hf2 hd2
                go_wp2_with (fail)
                refine HLI2.out.mono ?_
                rintro e w8 ⟨a8, c8, ns, rfl, hns, hat, hf8⟩
                have HNS := Lib.hid hns
                have HAT := Lib.hid hat
                have HD8 := Lib.hid (HD2'.out.of_fp hf8 (by simp) (by simp))
                have HF8 := Lib.hid (HF2'.out.trans hf8 (by simp))
                have hns200 : ns.length ≤ 200 := by
                  rw [hns.perm.length_eq]
                  have := HC2.out.ok.many
                  unfold mkeys
                  simpa using this
                clear hns hat hf8 HLI2
                go_wp2_with (fail)
                go_loopg [10, 12] ns.length (fun g v10 v12 wr => SumRels w w8 bd d2 ns g v10 v12 wr)
                case atStart => exact ⟨0, Nat.zero_le _, HD8.out, HF8.out, Fp.refl _ _, by omega, rfl, rfl⟩
                case round =>
                  obtain ⟨j, hjle, hdj, hfj, hf8j, hcountj, rfl, rfl⟩ := hrel
                  have HDJ := Lib.hid hdj
                  have HFJ := Lib.hid hfj
                  have HCOJ := Lib.hid hcountj
                  have hsum := sum_le HC2.out.ok HNS.out j
                  have hfit := HC2.out.ok.fits
                  rw [HC2.out.cap] at hfit
                  by_cases hj : j < ns.length
                  · rcases HAT.out with h0 | ⟨g, rfl, hg, hglt, hcell⟩
                    · rw [h0] at hj; exact absurd hj (by simp)
                    have hcj := hcell j hj
                    have hcl : ∀ w', Fp [] wr w' → w'.cell? ⟨g, j, none⟩ = some (.string ns[j]) := fun w' hf => by
                      rw [(hf8j.trans hf (by simp)).cell (by exact hglt) (by simp)]; exact hcj
                    have hsucc := sumTo_succ (d := d2) hj
                    have hsum1 := sum_le HC2.out.ok HNS.out (j + 1)
                    obtain ⟨r1, r2, r3, r4⟩ := list_read HC2.out HNS.out (List.getElem_mem hj)
                    obtain ⟨x, hx⟩ : ∃ x, x = ns[j] := ⟨_, rfl⟩
                    rw [← hx] at hcl hsucc r1 r2 r3 r4
                    have hrd := read_any wr (bd + 1) bd d2 x hdj r3
                    rw [r1] at hrd
                    have hcur := hcl wr (Fp.refl _ _)
                    have HCLJ := Lib.hid hcl
                    have HRD := Lib.hid hrd
                    have HSUC := Lib.hid hsucc
                    have HR3 := Lib.hid r3
                    have HF8J := Lib.hid hf8j
                    obtain ⟨fs, hfs⟩ : ∃ fs, fs = (fget d2 x).s := ⟨_, rfl⟩
                    obtain ⟨fy, hfy⟩ : ∃ fy, fy = (fget d2 x).synced := ⟨_, rfl⟩
                    have HFY := Lib.hid hfy
                    rw [← hfs] at HRD HSUC r2 r4
                    rw [← hfy] at r2
                    have r2' : ¬ (fs.size : Int) < (fy : Int) := by omega
                    have HSUC' := HSUC.out
                    have hle1 : (sumTo d2 ns j : Int) + fs.size ≤ 5000 := by omega
                    have hns0 : (j : Int) < (ns.length : Int) := by omega
                    clear hx hcj hcell hcl hrd hsucc r1 r3 hf8j hfs hfy HSUC' hdj hfj hcountj hsum hsum1 hfit
                    go_wp2_with (fail)
                    refine HRD.out.mono ?_
                    rintro e w9 ⟨rfl, hf9⟩
                    have hcell9 := HCLJ.out w9 hf9
                    have hd9 := HDJ.out.of_fp hf9 (by simp) (by simp)
                    have hsy := synced_any w9 (bd + 1) bd d2 x hd9 HR3.out
                    rw [← HFY.out] at hsy
                    have HSY := Lib.hid hsy
                    have HD9 := Lib.hid hd9
                    have HF9 := Lib.hid hf9
                    clear hf9 hd9 hsy
                    go_wp2_with (fail)
                    refine HSY.out.mono ?_
                    rintro e w10 ⟨rfl, rfl⟩
                    go_wp2_with (fail)
                    go_roundg (gk - 1)
                    case measure => have := HCOJ.out; omega
                    case rel => exact ⟨j + 1, hj, HD9.out, HFJ.out.trans HF9.out (by simp), HF8J.out.trans HF9.out (by simp), by have := HCOJ.out; omega, by rw [HSUC.out]; go_num, by go_num⟩
                  · have hall : sumTo d2 ns j = total d2.files := by
                      rw [show j = ns.length by omega]; exact sum_all HC2.out.ok HNS.out
                    have hsz := HC2.out.ok.size
                    have hsc := size_any wr (bd + 1) bd d2 hdj
                    rw [hsz] at hsc
                    rw [hall]
                    obtain ⟨T, hT⟩ : ∃ T, T = total d2.files := ⟨_, rfl⟩
                    rw [← hT] at hsc hfit ⊢
                    have HSC := Lib.hid hsc
                    have hTT : ¬ (5000 : Int) < (T : Int) := by omega
                    clear hsc hT hall hsz hdj hfj hcountj hsum hf8j
                    go_wp2_with (fail)
                    refine HSC.out.mono ?_
                    rintro e w9 ⟨rfl, rfl⟩
                    go_wp2_with (fail)
                    go_roundg (l.length - (k + 1))
                    case measure => exact hgk
                    case rel => exact ⟨k + 1, d2, hlt, HDJ.out, HC2.out, HFJ.out, by omega, by go_num⟩
            · have t1 : ¬ (100 : Int) < (xa.size : Int) := by omega
              have t2 : ¬ (100 : Int) < (xb.size : Int) := by omega
              have t3 : (200 : Int) < (xs.size : Int) := by omega
              go_wp2_with (go_at_call 8; refine (shown_any _).mono ?_; rintro e w5 ⟨rfl, hf5⟩)
              go_ret
              exact ⟨rfl, (HFP.out.alloc' _).trans hf5 (by simp)⟩
          · have t1 : ¬ (100 : Int) < (xa.size : Int) := by omega
            have t2 : (100 : Int) < (xb.size : Int) := by omega
            go_wp2_with (go_at_call 8; refine (shown_any _).mono ?_; rintro e w5 ⟨rfl, hf5⟩)
            go_ret
            exact ⟨rfl, (HFP.out.alloc' _).trans hf5 (by simp)⟩
        · have t1 : (100 : Int) < (xa.size : Int) := by omega
          go_wp2_with (go_at_call 8; refine (shown_any _).mono ?_; rintro e w5 ⟨rfl, hf5⟩)
          go_ret
          exact ⟨rfl, (HFP.out.alloc' _).trans hf5 (by simp)⟩
      · have hklen : ¬ k < len := by rw [HLL.out]; exact hlt
        go_wp2_with (fail)
        go_ret
        exact ⟨rfl, HFP.out⟩
  · clear hll hl
    go_enter Try.func7, Try.ntmps7
    go_wp2_with (go_at_call 8; refine (shown_any _).mono ?_; rintro e w1 ⟨rfl, hf1⟩)
    go_ret
    exact ⟨rfl, hf1⟩
end Go.Proofs.Ytmadkoebopfhoaa
