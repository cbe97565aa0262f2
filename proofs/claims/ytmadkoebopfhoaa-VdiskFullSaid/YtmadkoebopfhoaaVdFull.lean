/-
  The law VdiskFull: its walk.
-/
import Derived.Test.YtmadkoebopfhoaaVdFullPure
import Derived.Test.YtmadkoebopfhoaaFrame
namespace Go.Proofs.Ytmadkoebopfhoaa
open Go.RowKit Go.Maps Go.MapKept Go.ChangeMaps

/-- what holds at the head of the first loop -/
structure FullRel (w wr : World) (bd : Nat) (l : List ByteArray) (m k : Nat) (all : ByteArray) : Prop where
  disk : DiskAt wr (bd + 1) bd (oneD m nF all 0 false)
  fp : Fp [] w wr
  le : k ≤ l.length
  fits : all.size ≤ m
  new : w.heap.size ≤ bd

/-- .. and of the second -/
structure ManyRel (w wr : World) (bd : Nat) (m k : Nat) (all : ByteArray) : Prop where
  disk : DiskAt wr (bd + 1) bd (fullD m all k)
  fp : Fp [] w wr

def FullRels (w : World) (bd : Nat) (l : List ByteArray) (m g : Nat) (n i : Value) (wr : World) : Prop :=
  ∃ k all, FullRel w wr bd l m k all ∧ g + k = l.length ∧ n = .int .i64 all.size ∧ i = .int .i64 k

def ManyRels (w : World) (bd : Nat) (m : Nat) (all : ByteArray) (many g : Nat) (i : Value) (wr : World) : Prop :=
  ∃ k, ManyRel w wr bd m k all ∧ g + k = many ∧ i = .int .i64 k

set_option maxRecDepth 100000 in
set_option maxHeartbeats 2000000 in
theorem full_walk (hlist : ListGives) (w : World) (c : Int) (a : Option Addr) (len cap : Nat) (l : List ByteArray) (many : Int) (hc1 : 0 ≤ c) (hc2 : c ≤ 65535) (hl : StrsAt w a len l) (hlen : len ≤ maxLen) (hs1 : 0 ≤ many) (hs2 : many ≤ 255) :
    Calls Try.prog 5 #[.int .u16 c, .slice a len cap, .int .u8 many] w fun e w' => e = .returned (.bool true) ∧ Fp [] w w' := by
  unfold maxLen at hlen
  have HLI := Lib.hid hlist
  have HL := Lib.hid hl
  have hll := hl.len
  have hnA : nF.size ≤ maxLen := by decide
  have hoA : nameOk nF = true := by decide
  have HNA := Lib.hid hnA
  have HOA := Lib.hid hoA
  clear hnA hoA hlist
  obtain ⟨mn, rfl⟩ := Int.eq_ofNat_of_zero_le hs1
  by_cases h30 : len ≤ 60
  · obtain ⟨m, hm⟩ : ∃ m : Nat, c % 500 = (m : Int) := Int.eq_ofNat_of_zero_le (Int.emod_nonneg _ (by omega))
    have hm500 : m < 500 := by omega
    have HLL := Lib.hid hll
    clear hll hl
    go_enter Try.func5, Try.ntmps5
    go_wp2_with (go_at_call 8; refine (shown_any _).mono ?_; rintro e w1 ⟨rfl, hf1⟩)
    refine (new_any m w1).mono ?_
    rintro e w2 ⟨rfl, hd2, hf2⟩
    obtain ⟨bd, hbd⟩ : ∃ bd, bd = w1.heap.size := ⟨_, rfl⟩
    rw [← hbd] at hd2 ⊢
    have hnew : w.heap.size ≤ bd := by have := hf1.size; omega
    have HF2 := Lib.hid (hf1.trans hf2 (by simp))
    have hc := create_any w2 _ _ _ nF hd2 (DkOK.new (by omega)) HNA.out
    rw [(new_create m).1, (new_create m).2] at hc
    have HC := Lib.hid hc
    clear hc hd2 hf1 hf2 hbd
    go_wp2_with (fail)
    refine HC.out.mono ?_
    rintro e w3 ⟨rfl, hd3, hf3⟩
    have HF3 := Lib.hid (fp_new HF2.out hf3 hnew)
    have HD3 := Lib.hid hd3
    clear HC hd3 hf3 HF2
    go_wp2_with (fail)
    go_loopg [8, 9] l.length (fun g v8 v9 wr => FullRels w bd l m g v8 v9 wr)
    case atStart => exact ⟨0, ⟨#[]⟩, ⟨HD3.out, HF3.out, Nat.zero_le _, Nat.zero_le _, hnew⟩, by omega, rfl, rfl⟩
    case round =>
      obtain ⟨k, all, hrel, hcount, rfl, rfl⟩ := hrel
      have hle := hrel.le
      have hfit := hrel.fits
      have HREL := Lib.hid hrel
      have HCO := Lib.hid hcount
      clear hrel hcount
      by_cases hlt : k < l.length
      · rcases HL.out.cells with h0 | ⟨b, o, rfl, hc⟩
        · rw [h0] at hlt; exact absurd hlt (by simp)
        have hcell : wr.cell? ⟨b, o + k, none⟩ = some (.string l[k]) := by
          rw [HREL.out.fp.cell (World.block_lt_of_cell? _ _ (hc k hlt)) (by simp)]
          exact hc k hlt
        have hklen : k < len := by rw [HLL.out]; exact hlt
        obtain ⟨x, hx⟩ : ∃ x, x = l[k] := ⟨_, rfl⟩
        rw [← hx] at hcell
        have hcl : ∀ w', Fp [] w w' → w'.cell? ⟨b, o + k, none⟩ = some (.string x) := fun w' hf => by
          rw [hf.cell (World.block_lt_of_cell? _ _ (hc k hlt)) (by simp), hx]
          exact hc k hlt
        have HCL := Lib.hid hcl
        clear hx hc hcl
        by_cases h2 : x.size ≤ 200
        · have hap := append_any wr (bd + 1) bd _ nF x HREL.out.disk (oneOK (by omega) (by omega) (Nat.zero_le _)) HNA.out (by omega)
          have hgk : l.length - (k + 1) < gk := by have := HCO.out; omega
          have hs0 : (all.size : Int) < 500 := by omega
          by_cases hroom : (all.size + x.size : Nat) ≤ m
          · obtain ⟨e1, e2⟩ := one_append (cap := m) (n := nF) (all := all) (t := x) (sy := 0) HOA.out (by omega)
            rw [e1, e2] at hap
            have HAP := Lib.hid hap
            have hrm : (all.size : Int) + x.size ≤ m := by omega
            clear hap e1 e2
            go_wp2_with (fail)
            refine HAP.out.mono ?_
            rintro e w5 ⟨rfl, hd5, hf5⟩
            have HF5 := Lib.hid (fp_new HREL.out.fp hf5 HREL.out.new)
            have hcell5 := HCL.out w5 HF5.out
            have HD5 := Lib.hid hd5
            have hsz := size_any w5 (bd + 1) bd _ hd5
            have HSZ := Lib.hid hsz
            clear hd5 hf5 HAP hsz
            go_wp2_with (fail)
            refine HSZ.out.mono ?_
            rintro e w6 ⟨rfl, rfl⟩
            have hszv : (oneD m nF (all ++ x) 0 false).size = (all.size : Int) + x.size := by
              show (((all ++ x).size : Nat) : Int) = _
              rw [ByteArray.size_append]; omega
            rw [hszv]
            clear hszv
            go_wp2_with (fail)
            go_roundg (l.length - (k + 1))
            case measure => exact hgk
            case rel =>
              refine ⟨k + 1, all ++ x, ⟨HD5.out, HF5.out, hlt, by rw [ByteArray.size_append]; exact hroom, HREL.out.new⟩, by omega, ?_, by go_num⟩
              rw [ByteArray.size_append]
              rfl
          · obtain ⟨e1, e2⟩ := one_full (cap := m) (n := nF) (all := all) (t := x) (sy := 0) (by omega)
            rw [e1, e2] at hap
            have HAP := Lib.hid hap
            have hrm : ¬ (all.size : Int) + x.size ≤ m := by omega
            clear hap e1 e2
            go_wp2_with (fail)
            refine HAP.out.mono ?_
            rintro e w5 ⟨rfl, hd5, hf5⟩
            have HF5 := Lib.hid (fp_new HREL.out.fp hf5 HREL.out.new)
            have hcell5 := HCL.out w5 HF5.out
            have HD5 := Lib.hid hd5
            have hsz := size_any w5 (bd + 1) bd _ hd5
            rw [show (oneD m nF all 0 false).size = (all.size : Int) from rfl] at hsz
            have HSZ := Lib.hid hsz
            clear hd5 hf5 HAP hsz
            go_wp2_with (fail)
            refine HSZ.out.mono ?_
            rintro e w6 ⟨rfl, rfl⟩
            go_wp2_with (fail)
            go_roundg (l.length - (k + 1))
            case measure => exact hgk
            case rel => exact ⟨k + 1, all, ⟨HD5.out, HF5.out, hlt, hfit, HREL.out.new⟩, by omega, rfl, by go_num⟩
        · go_wp2_with (go_at_call 8; refine (shown_any _).mono ?_; rintro e w5 ⟨rfl, hf5⟩)
          go_ret
          exact ⟨rfl, HREL.out.fp.trans hf5 (by simp)⟩
      · have hklen : ¬ k < len := by rw [HLL.out]; exact hlt
        have hd : DiskAt wr (bd + 1) bd (fullD m all 0) := HREL.out.disk
        have HD := Lib.hid hd
        have HF := Lib.hid HREL.out.fp
        have HNEW := Lib.hid HREL.out.new
        clear hd HREL HCO
        go_wp2_with (fail)
        go_loopg [11] mn (fun g v11 w5 => ManyRels w bd m all mn g v11 w5)
        case atStart => exact ⟨0, ⟨HD.out, HF.out⟩, by omega, rfl⟩
        case round =>
          obtain ⟨i, hrel, hcount, rfl⟩ := hrel
          have HREL := Lib.hid hrel
          have HCO := Lib.hid hcount
          clear hrel hcount
          by_cases hi : i < mn
          · have hi255 : i < 255 := by omega
            have hmod : (i : Int) % 256 = i := by omega
            have hconv := conv_pair wr i (by omega)
            have hlt1 : bd + 1 < wr.heap.size := heap_lt HREL.out.disk.cells
            have hcr := create_any (wr.alloc (.cells #[.int .u8 110, .int .u8 i] 5)) (bd + 1) bd _ (nJ i) (HREL.out.disk.of_fp (Fp.alloc _ _) (by simp) (by simp)) (fullOK (by omega) (by omega)) (by unfold maxLen; show 2 ≤ _; omega)
            rw [(full_create (cap := m) (all := all) (i := i) (by omega)).1, (full_create (cap := m) (all := all) (i := i) (by omega)).2] at hcr
            have HCR := Lib.hid hcr
            clear hcr
            by_cases h199 : i < 199
            · rw [if_pos h199] at HCR
              have hi9 : (i : Int) < 199 := by omega
              go_wp2_with (fail)
              refine HCR.out.mono ?_
              rintro e w7 ⟨rfl, hd7, hf7⟩
              have HF7 := Lib.hid (fp_new (HREL.out.fp.alloc' _) hf7 HNEW.out)
              have HD7 := Lib.hid hd7
              clear hd7 hf7 HCR
              go_wp2_with (fail)
              go_roundg (gk - 1)
              case measure => have := HCO.out; omega
              case rel => exact ⟨i + 1, ⟨HD7.out, HF7.out⟩, by have := HCO.out; omega, by go_num⟩
            · rw [if_neg h199] at HCR
              have hi9 : ¬ (i : Int) < 199 := by omega
              go_wp2_with (fail)
              refine HCR.out.mono ?_
              rintro e w7 ⟨rfl, hd7, hf7⟩
              have HF7 := Lib.hid (fp_new (HREL.out.fp.alloc' _) hf7 HNEW.out)
              have HD7 := Lib.hid hd7
              clear hd7 hf7 HCR
              go_wp2_with (fail)
              go_roundg (gk - 1)
              case measure => have := HCO.out; omega
              case rel => exact ⟨i + 1, ⟨HD7.out, HF7.out⟩, by have := HCO.out; omega, by go_num⟩
          · have hl := HLI.out wr (bd + 1) bd _ HREL.out.disk (fullOK (by omega) (by omega))
            have HLL2 := Lib.hid hl
            obtain rfl : i = mn := by have := HCO.out; omega
            clear hl
            go_wp2_with (fail)
            refine HLL2.out.mono ?_
            rintro e w7 ⟨a7, c7, ns, rfl, hns, _, hf7⟩
            have hlen7 := full_len hns
            clear hns
            by_cases h199 : i ≤ 199
            · rw [Nat.min_eq_left (by omega)] at hlen7
              rw [hlen7]
              have h3 : ((1 + i : Nat) : Int) = 1 + (i : Int) := by omega
              have h4 : ¬ (199 : Int) < (i : Int) := by omega
              have h5 : (i : Int) ≤ 199 := by omega
              clear hlen7
              go_wp2_with (fail)
              go_ret
              exact ⟨rfl, HREL.out.fp.trans hf7 (by simp)⟩
            · rw [Nat.min_eq_right (by omega)] at hlen7
              rw [hlen7]
              have h4 : (199 : Int) < (i : Int) := by omega
              have h5 : ¬ (i : Int) ≤ 199 := by omega
              clear hlen7
              go_wp2_with (fail)
              go_ret
              exact ⟨rfl, HREL.out.fp.trans hf7 (by simp)⟩
  · clear hll hl
    go_enter Try.func5, Try.ntmps5
    go_wp2_with (go_at_call 8; refine (shown_any _).mono ?_; rintro e w1 ⟨rfl, hf1⟩)
    go_ret
    exact ⟨rfl, hf1⟩
end Go.Proofs.Ytmadkoebopfhoaa
