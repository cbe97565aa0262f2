/-
  The law VdiskKeeps: its walk.
-/
import Derived.Test.YtmadkoebopfhoaaVdOne
import Derived.Test.YtmadkoebopfhoaaFrame
namespace Go.Proofs.Ytmadkoebopfhoaa
open Go.RowKit Go.Maps Go.MapKept Go.ChangeMaps

def nA : ByteArray := ⟨#[97]⟩
def cat : List ByteArray → ByteArray
  | [] => ⟨#[]⟩
  | s :: r => s ++ cat r

theorem cat_snoc : ∀ (l : List ByteArray) (s : ByteArray), cat (l ++ [s]) = cat l ++ s
  | [], s => by
    show s ++ (⟨#[]⟩ : ByteArray) = (⟨#[]⟩ : ByteArray) ++ s
    rw [show (⟨#[]⟩ : ByteArray) = ByteArray.empty from rfl, ByteArray.append_empty, ByteArray.empty_append]
  | x :: r, s => by
    show x ++ cat (r ++ [s]) = x ++ cat r ++ s
    rw [cat_snoc r s, ByteArray.append_assoc]

theorem cat_take_succ {l : List ByteArray} {k : Nat} (h : k < l.length) : cat (l.take (k + 1)) = cat (l.take k) ++ l[k] := by
  rw [List.take_succ_eq_append_getElem h, cat_snoc]

theorem cat_prefix : ∀ (l : List ByteArray) (m : Nat), ∃ r, cat l = cat (l.take m) ++ r
  | l, 0 => ⟨cat l, by
      show cat l = (⟨#[]⟩ : ByteArray) ++ cat l
      rw [show (⟨#[]⟩ : ByteArray) = ByteArray.empty from rfl, ByteArray.empty_append]⟩
  | [], m + 1 => ⟨⟨#[]⟩, rfl⟩
  | x :: r, m + 1 => by
    obtain ⟨t, ht⟩ := cat_prefix r m
    exact ⟨t, by show x ++ cat r = x ++ cat (r.take m) ++ t; rw [ht, ByteArray.append_assoc]⟩

/-- what is sure after k texts: the texts up to the one behind which Sync came -/
def sureOf (l : List ByteArray) (at_ k : Nat) : ByteArray := if at_ < k then cat (l.take (at_ + 1)) else ⟨#[]⟩

theorem sure_prefix (l : List ByteArray) (m k : Nat) : ∃ r, cat (l.take k) = sureOf l m k ++ r := by
  unfold sureOf
  split
  · rename_i h
    obtain ⟨r, hr⟩ := cat_prefix (l.take k) (m + 1)
    exact ⟨r, by rw [hr, List.take_take, Nat.min_eq_left (by omega)]⟩
  · exact ⟨cat (l.take k), by rw [show (⟨#[]⟩ : ByteArray) = ByteArray.empty from rfl, ByteArray.empty_append]⟩

theorem sure_same {l : List ByteArray} {m k : Nat} (h : k ≠ m) : sureOf l m (k + 1) = sureOf l m k := by
  unfold sureOf
  by_cases h1 : m < k
  · rw [if_pos h1, if_pos (by omega)]
  · rw [if_neg h1, if_neg (by omega)]
theorem sure_here {l : List ByteArray} {m : Nat} : sureOf l m (m + 1) = cat (l.take (m + 1)) := by
  unfold sureOf; rw [if_pos (by omega)]

theorem cat_size {l : List ByteArray} {k : Nat} (h : ∀ s ∈ l.take k, s.size ≤ 200) : (cat (l.take k)).size ≤ 200 * k := by
  have : ∀ (r : List ByteArray), (∀ s ∈ r, s.size ≤ 200) → (cat r).size ≤ 200 * r.length := by
    intro r
    induction r with
    | nil => intro _; exact Nat.zero_le _
    | cons x r ih =>
      intro h
      have h1 := ih (fun s hs => h s (by simp [hs]))
      have h2 := h x (by simp)
      show (x ++ cat r).size ≤ _
      simp only [ByteArray.size_append, List.length_cons]
      omega
  have h1 := this _ h
  have h2 : (l.take k).length ≤ k := List.length_take_le _ _
  exact Nat.le_trans h1 (Nat.mul_le_mul_left _ h2)

/-- what holds at the head of the loop -/
structure KeepRel (w wr : World) (bd : Nat) (l : List ByteArray) (m k : Nat) : Prop where
  disk : DiskAt wr (bd + 1) bd (oneD 100000 nA (cat (l.take k)) (sureOf l m k).size false)
  fp : Fp [] w wr
  le : k ≤ l.length
  small : ∀ s ∈ l.take k, s.size ≤ 200
  new : w.heap.size ≤ bd

theorem KeepRel.size {w wr : World} {bd : Nat} {l : List ByteArray} {m k : Nat} (h : KeepRel w wr bd l m k) (h30 : l.length ≤ 30) : (cat (l.take k)).size ≤ 6000 := by
  have := cat_size h.small
  have := h.le
  omega

theorem sure_le (l : List ByteArray) (m k : Nat) : (sureOf l m k).size ≤ (cat (l.take k)).size := by
  obtain ⟨r, hr⟩ := sure_prefix l m k
  rw [hr]; simp

def KeepRels (w : World) (bd : Nat) (l : List ByteArray) (m n : Nat) (all sure i : Value) (wr : World) : Prop :=
  ∃ k, KeepRel w wr bd l m k ∧ n + k = l.length ∧ all = .string (cat (l.take k)) ∧ sure = .string (sureOf l m k) ∧ i = .int .i64 k

set_option maxRecDepth 100000 in
set_option maxHeartbeats 2000000 in
theorem keeps_walk (w : World) (a : Option Addr) (len cap : Nat) (l : List ByteArray) (sync keep : Int) (hl : StrsAt w a len l) (hlen : len ≤ maxLen) (hs1 : 0 ≤ sync) (hs2 : sync ≤ 255) (hk1 : -9223372036854775808 ≤ keep) (hk2 : keep ≤ 9223372036854775807) :
    Calls Try.prog 3 #[.slice a len cap, .int .u8 sync, .int .i64 keep] w fun e w' => e = .returned (.bool true) ∧ Fp [] w w' := by
  unfold maxLen at hlen
  have HL := Lib.hid hl
  have hll := hl.len
  have hnA : nA.size ≤ maxLen := by decide
  have hoA : nameOk nA = true := by decide
  have HNA := Lib.hid hnA
  have HOA := Lib.hid hoA
  clear hnA hoA
  by_cases h30 : len ≤ 30
  · obtain ⟨m, hm⟩ : ∃ m : Nat, sync % 31 = (m : Int) := Int.eq_ofNat_of_zero_le (Int.emod_nonneg _ (by omega))
    have HM := Lib.hid hm
    have hl30 : l.length ≤ 30 := by omega
    have HLL := Lib.hid hll
    clear hll hl hm
    go_enter Try.func3, Try.ntmps3
    go_wp2_with (go_at_call 8; refine (shown_any _).mono ?_; rintro e w1 ⟨rfl, hf1⟩)
    refine (new_any 100000 w1).mono ?_
    rintro e w2 ⟨rfl, hd2, hf2⟩
    obtain ⟨bd, hbd⟩ : ∃ bd, bd = w1.heap.size := ⟨_, rfl⟩
    rw [← hbd] at hd2 ⊢
    have hnew : w.heap.size ≤ bd := by have := hf1.size; omega
    have HF2 := Lib.hid (hf1.trans hf2 (by simp))
    have hc := create_any w2 _ _ _ nA hd2 (DkOK.new (by decide)) HNA.out
    rw [show (Dk.new 100000).create nA = oneD 100000 nA ⟨#[]⟩ 0 false from by kernel_rfl, show (Dk.new 100000).createE nA = 0 from by kernel_rfl] at hc
    have HC := Lib.hid hc
    clear hc hd2 hf1 hf2 hbd
    go_wp2_with (fail)
    refine HC.out.mono ?_
    rintro e w3 ⟨rfl, hd3, hf3⟩
    have HF3 := Lib.hid (fp_new HF2.out hf3 hnew)
    have HD3 := Lib.hid hd3
    clear HC hd3 hf3 HF2
    go_wp2_with (fail)
    go_loopg [8, 9, 10] l.length (fun n v8 v9 v10 wr => KeepRels w bd l m n v8 v9 v10 wr)
    case atStart =>
      refine ⟨0, ⟨?_, HF3.out, Nat.zero_le _, by simp, hnew⟩, by omega, rfl, ?_, rfl⟩
      · have h0 : (sureOf l m 0).size = 0 := by unfold sureOf; rw [if_neg (by omega)]; rfl
        rw [h0]
        exact HD3.out
      · unfold sureOf; rw [if_neg (by omega)]
    case round =>
      obtain ⟨k, hrel, hcount, rfl, rfl, rfl⟩ := hrel
      have hle := hrel.le
      have HREL := Lib.hid hrel
      have HCO := Lib.hid hcount
      clear hrel hcount
      by_cases hlt : k < l.length
      · rcases HL.out.cells with h0 | ⟨b, o, rfl, hc⟩
        · rw [h0] at hlt; exact absurd hlt (by simp)
        have hcell : wr.cell? ⟨b, o + k, none⟩ = some (.string l[k]) := by
          rw [HREL.out.fp.cell (World.block_lt_of_cell? _ _ (hc k hlt)) (by simp)]
          exact hc k hlt
        have hklen : k < len := by rw [HLL.out]; exact hlt
        obtain ⟨x, hx⟩ : ∃ x, x = l[k] := ⟨_, rfl⟩
        rw [← hx] at hcell
        have HX := Lib.hid hx
        have hcl : ∀ w', Fp [] w w' → w'.cell? ⟨b, o + k, none⟩ = some (.string x) := fun w' hf => by
          rw [hf.cell (World.block_lt_of_cell? _ _ (hc k hlt)) (by simp), hx]
          exact hc k hlt
        have HCL := Lib.hid hcl
        clear hx hc hcl
        by_cases h2 : x.size ≤ 200
        · have hsz := HREL.out.size hl30
          have hsure := sure_le l m k
          have hap := append_any wr (bd + 1) bd _ nA x HREL.out.disk (oneOK (by omega) (by decide) hsure) HNA.out (by omega)
          obtain ⟨e1, e2⟩ := one_append (cap := 100000) (n := nA) (all := cat (l.take k)) (t := x) (sy := (sureOf l m k).size) HOA.out (by omega)
          rw [e1, e2] at hap
          have HAP := Lib.hid hap
          clear hap e1 e2
          have hsucc : cat (l.take (k + 1)) = cat (l.take k) ++ x := by rw [HX.out]; exact cat_take_succ hlt
          have HSU := Lib.hid hsucc
          have hsm : ∀ s ∈ l.take (k + 1), s.size ≤ 200 := by
            intro s hs
            rw [List.take_succ_eq_append_getElem hlt] at hs
            rcases List.mem_append.1 hs with hs | hs
            · exact HREL.out.small s hs
            · rw [List.mem_singleton] at hs; rw [hs, ← HX.out]; exact h2
          have HSM := Lib.hid hsm
          have hgk : l.length - (k + 1) < gk := by have := HCO.out; omega
          clear hsucc hsm
          by_cases hkm : k = m
          · have hb : ((k : Int) == sync % 31) = true := by rw [HM.out, hkm]; simp
            have HKM := Lib.hid hkm
            clear hkm
            go_wp2_with (fail)
            refine HAP.out.mono ?_
            rintro e w5 ⟨rfl, hd5, hf5⟩
            have HF5 := Lib.hid (fp_new HREL.out.fp hf5 HREL.out.new)
            have hcell5 := HCL.out w5 HF5.out
            have hsy := sync_any w5 (bd + 1) bd _ nA hd5 (oneOK (by simp only [ByteArray.size_append]; omega) (by decide) (by simp only [ByteArray.size_append]; omega)) HNA.out
            obtain ⟨e1, e2⟩ := one_sync (cap := 100000) (n := nA) (all := cat (l.take k) ++ x) (sy := (sureOf l m k).size) HOA.out
            rw [e1, e2] at hsy
            have HSY := Lib.hid hsy
            clear hsy e1 e2 hd5 hf5 HAP
            go_wp2_with (fail)
            refine HSY.out.mono ?_
            rintro e w6 ⟨rfl, hd6, hf6⟩
            have HF6 := Lib.hid (fp_new HF5.out hf6 HREL.out.new)
            have HD6 := Lib.hid hd6
            clear hd6 hf6 HSY
            go_wp2_with (fail)
            go_roundg (l.length - (k + 1))
            case measure => exact hgk
            case rel =>
              have hs : sureOf l m (k + 1) = cat (l.take k) ++ x := by
                rw [HKM.out, sure_here, ← HKM.out]; exact HSU.out
              refine ⟨k + 1, ⟨?_, HF6.out, hlt, HSM.out, HREL.out.new⟩, by omega, by rw [HSU.out], by rw [hs], by go_num⟩
              rw [hs, HSU.out]
              exact HD6.out
          · have hb : ((k : Int) == sync % 31) = false := by rw [HM.out]; simp; omega
            have HKM := Lib.hid hkm
            clear hkm
            go_wp2_with (fail)
            refine HAP.out.mono ?_
            rintro e w5 ⟨rfl, hd5, hf5⟩
            have HF5 := Lib.hid (fp_new HREL.out.fp hf5 HREL.out.new)
            have hcell5 := HCL.out w5 HF5.out
            have HD5 := Lib.hid hd5
            clear hd5 hf5 HAP
            go_wp2_with (fail)
            go_roundg (l.length - (k + 1))
            case measure => exact hgk
            case rel =>
              have hs := sure_same (l := l) HKM.out
              refine ⟨k + 1, ⟨?_, HF5.out, hlt, HSM.out, HREL.out.new⟩, by omega, by rw [HSU.out], by rw [hs], by go_num⟩
              rw [hs, HSU.out]
              exact HD5.out
        · go_wp2_with (go_at_call 8; refine (shown_any _).mono ?_; rintro e w5 ⟨rfl, hf5⟩)
          go_ret
          exact ⟨rfl, HREL.out.fp.trans hf5 (by simp)⟩
      · have hklen : ¬ k < len := by rw [HLL.out]; exact hlt
        have hsz := HREL.out.size hl30
        have hsure := sure_le l m k
        obtain ⟨pre, hpre⟩ := sure_prefix l m k
        have HPRE := Lib.hid hpre
        clear hpre
        obtain ⟨all, hall⟩ : ∃ all, all = cat (l.take k) := ⟨_, rfl⟩
        obtain ⟨sr, hsr⟩ : ∃ sr, sr = sureOf l m k := ⟨_, rfl⟩
        have hd := HREL.out.disk
        rw [← hall, ← hsr] at hd hsure HPRE ⊢
        rw [← hall] at hsz
        have HF := Lib.hid HREL.out.fp
        have HNEW := Lib.hid HREL.out.new
        clear hall hsr HREL HCO
        obtain ⟨L, hL⟩ : ∃ L, L = crashLen keep ⟨all, sr.size⟩ := ⟨_, rfl⟩
        have hL1 : sr.size ≤ L := by rw [hL]; exact crashLen_ge keep ⟨all, sr.size⟩
        have hL2 : L ≤ all.size := by rw [hL]; exact crashLen_le (f := ⟨all, sr.size⟩) hsure
        have hcr := crash_any wr (bd + 1) bd _ keep hd (oneOK (by omega) (by decide) hsure) hk1 hk2
        rw [one_crash hsure, ← hL] at hcr
        have hneg : ¬ 0 ≤ keep → L = sr.size := fun h => by rw [hL]; exact crashLen_neg h _
        obtain ⟨s, hs⟩ : ∃ s, s = all.extract 0 L := ⟨_, rfl⟩
        have hss : s.size = L := by rw [hs, extract_size hL2]
        rw [← hs] at hcr
        rw [← hss] at hL1 hL2 hcr hs hneg
        have hneg' : ¬ 0 ≤ keep → s = sr := fun h => by rw [hs, hneg h, HPRE.out, extract_prefix]
        have HNEG := Lib.hid hneg'
        have HCR := Lib.hid hcr
        have hex : all.extract 0 s.size = s := hs.symm
        clear hL hcr hneg hneg' hs hss hd HPRE
        go_wp2_with (fail)
        refine HCR.out.mono ?_
        rintro e w5 ⟨rfl, hd5, hf5⟩
        have HF5 := Lib.hid (fp_new HF.out hf5 HNEW.out)
        have hc := on_any w5 _ _ _ hd5
        rw [one_on] at hc
        have HC1 := Lib.hid hc
        clear hc hd5 hf5 HCR
        go_wp2_with (fail)
        refine HC1.out.mono ?_
        rintro e w6 ⟨rfl, hd6, hf6⟩
        have HF6 := Lib.hid (fp_new HF5.out (hf6.mono (by simp)) HNEW.out)
        have hc := read_any w6 _ _ _ nA hd6 HNA.out
        rw [one_read HOA.out] at hc
        have HC2 := Lib.hid hc
        have HD6 := Lib.hid hd6
        clear hc hd6 hf6 HC1
        go_wp2_with (fail)
        refine HC2.out.mono ?_
        rintro e w7 ⟨rfl, hf7⟩
        have hd7 := HD6.out.of_fp hf7 (by simp) (by simp)
        have HD7 := Lib.hid hd7
        have HF7 := Lib.hid (HF6.out.trans hf7 (by simp))
        have hc := synced_any w7 _ _ _ nA hd7 HNA.out
        rw [one_fget] at hc
        have HC3 := Lib.hid hc
        clear hc hd7 hf7 HC2
        go_wp2_with (fail)
        refine HC3.out.mono ?_
        rintro e w8 ⟨rfl, rfl⟩
        have hc := crash_any w7 _ _ _ keep HD7.out (oneOK (by omega) (by decide) (Nat.le_refl _)) hk1 hk2
        rw [one_crash (Nat.le_refl _), crashLen_again, extract_all] at hc
        have HC4 := Lib.hid hc
        clear hc HC3
        go_wp2_with (fail)
        refine HC4.out.mono ?_
        rintro e w9 ⟨rfl, hd9, hf9⟩
        have HF9 := Lib.hid (fp_new HF7.out hf9 HNEW.out)
        have hc := on_any w9 _ _ _ hd9
        rw [one_on] at hc
        have HC5 := Lib.hid hc
        clear hc hd9 hf9 HC4
        go_wp2_with (fail)
        refine HC5.out.mono ?_
        rintro e w10 ⟨rfl, hd10, hf10⟩
        have HF10 := Lib.hid (fp_new HF9.out (hf10.mono (by simp)) HNEW.out)
        have hc := read_any w10 _ _ _ nA hd10 HNA.out
        rw [one_read HOA.out] at hc
        have HC6 := Lib.hid hc
        clear hc hd10 hf10 HC5
        by_cases hkp : 0 ≤ keep
        · go_wp2_with (fail)
          refine HC6.out.mono ?_
          rintro e w11 ⟨rfl, hf11⟩
          go_wp2_with (fail)
          go_ret
          exact ⟨rfl, HF10.out.trans hf11 (by simp)⟩
        · obtain rfl := HNEG.out (by omega)
          go_wp2_with (fail)
          refine HC6.out.mono ?_
          rintro e w11 ⟨rfl, hf11⟩
          go_wp2_with (fail)
          go_ret
          exact ⟨rfl, HF10.out.trans hf11 (by simp)⟩
  · clear hll hl
    go_enter Try.func3, Try.ntmps3
    go_wp2_with (go_at_call 8; refine (shown_any _).mono ?_; rintro e w1 ⟨rfl, hf1⟩)
    go_ret
    exact ⟨rfl, hf1⟩
end Go.Proofs.Ytmadkoebopfhoaa
