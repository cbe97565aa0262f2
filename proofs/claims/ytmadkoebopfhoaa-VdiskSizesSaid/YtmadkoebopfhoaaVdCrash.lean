/-
  The disk's Crash.
-/
import Derived.Test.YtmadkoebopfhoaaVdSmall
import Derived.Deep.LoopGhost
namespace Go.Proofs.Ytmadkoebopfhoaa
open Go.RowKit Go.Maps Go.MapKept Go.ChangeMaps

def total (F : List (ByteArray × File)) : Nat := (F.map (fun p => p.2.s.size)).sum
def crashLen (keep : Int) (f : File) : Nat := f.synced + (if 0 ≤ keep then keep.toNat % (f.s.size - f.synced + 1) else 0)
def crashFile (keep : Int) (f : File) : File := ⟨f.s.extract 0 (crashLen keep f), (f.s.extract 0 (crashLen keep f)).size⟩
def Dk.crash (d : Dk) (keep : Int) : Dk := { d with off := true, files := mall (crashFile keep) d.files, size := total (mall (crashFile keep) d.files) }

/-- what every disk keeps to -/
structure DkOK (d : Dk) : Prop where
  size : d.size = total d.files
  fits : (total d.files : Int) ≤ d.cap
  caps : d.cap ≤ 1000000000
  nodup : (mkeys d.files).Nodup
  sync : ∀ p ∈ d.files, p.2.synced ≤ p.2.s.size
  many : d.files.length ≤ 200
  left0 : 0 ≤ d.left
  left1 : d.left ≤ 9223372036854775807
  keep0 : -9223372036854775808 ≤ d.keep
  keep1 : d.keep ≤ 9223372036854775807

theorem DkOK.le {d : Dk} (h : DkOK d) : total d.files ≤ 1000000000 := by
  have := h.fits
  have := h.caps
  omega

theorem crashLen_le {keep : Int} {f : File} (h : f.synced ≤ f.s.size) : crashLen keep f ≤ f.s.size := by
  unfold crashLen
  split
  · have := Nat.mod_lt keep.toNat (show 0 < f.s.size - f.synced + 1 by omega)
    omega
  · omega

theorem extract_size {s : ByteArray} {n : Nat} (h : n ≤ s.size) : (s.extract 0 n).size = n := by simp; omega

theorem mem_total {F : List (ByteArray × File)} {p : ByteArray × File} (h : p ∈ F) : p.2.s.size ≤ total F := by
  unfold total
  induction F with
  | nil => cases h
  | cons q r ih =>
    rcases List.mem_cons.1 h with rfl | h
    · simp
    · have := ih h; simp; omega

theorem total_mput : ∀ {F : List (ByteArray × File)} (_ : (mkeys F).Nodup) {x : ByteArray} {v f : File} (_ : mget F x = some v), total (mput F x f) + v.s.size = total F + f.s.size
  | [], _, _, _, _, h => by cases h
  | p :: r, hn, x, v, f, h => by
    unfold mkeys at hn
    rw [List.map_cons, List.nodup_cons] at hn
    unfold mput
    by_cases e : p.1 = x
    · rw [if_pos e]
      have : p.2 = v := by
        rw [mget_cons_eq e] at h
        exact Option.some.inj h
      simp [total, this]; omega
    · rw [if_neg e]
      have h' : mget r x = some v := by
        rw [mget_cons_ne e] at h
        exact h
      have := total_mput hn.2 (f := f) h'
      simp [total] at this ⊢; omega


/-- the disk while it crashes -/
def Dk.mid (d : Dk) (keep : Int) (done : List ByteArray) : Dk := { d with off := true, files := mdone (crashFile keep) done d.files, size := total (mdone (crashFile keep) done d.files) }

theorem total_mdone {keep : Int} {done : List ByteArray} {F : List (ByteArray × File)} (h : ∀ p ∈ F, p.2.synced ≤ p.2.s.size) : total (mdone (crashFile keep) done F) ≤ total F := by
  induction F with
  | nil => exact Nat.le_refl _
  | cons p r ih =>
    have h1 := ih (fun q hq => h q (by simp [hq]))
    have h2 := h p (by simp)
    have h3 := crashLen_le (keep := keep) h2
    have h4 : (crashFile keep p.2).s.size ≤ p.2.s.size := by show (p.2.s.extract 0 _).size ≤ _; rw [extract_size h3]; exact h3
    unfold total at h1 ⊢
    rcases mdone_cons (crashFile keep) done p r with ⟨_, hc⟩ | ⟨_, hc⟩ <;> rw [hc] <;> simp <;> omega

theorem mid_set {d : Dk} {keep : Int} {done : List ByteArray} {x : ByteArray} {v : File} (hn : (mkeys d.files).Nodup) (hm : (x, v) ∈ d.files) (hx : x ∉ done) :
    fget (d.mid keep done) x = v ∧ (d.mid keep done).set x (crashFile keep v) false = d.mid keep (done ++ [x]) ∧ (mget (d.mid keep done).files x).isSome = true := by
  have h0 : (x, v) ∈ mdone (crashFile keep) done d.files := mem_mdone_out hm hx
  have hn' : (mkeys (mdone (crashFile keep) done d.files)).Nodup := by rw [mkeys_mdone]; exact hn
  have h1 : mget (d.mid keep done).files x = some v := mget_some hn' h0
  have h2 : fget (d.mid keep done) x = v := by unfold fget; rw [h1]; rfl
  refine ⟨h2, ?_, by rw [h1]; rfl⟩
  have h3 := mdone_put (g := crashFile keep) hn hm hx
  have h4 := total_mput hn' (f := crashFile keep v) (mget_some hn' h0)
  rw [h3] at h4
  unfold Dk.set
  rw [h2]
  unfold Dk.mid
  simp only [Bool.false_eq_true, if_false, h3, Dk.mk.injEq, true_and, and_true]
  omega


/-- what holds of a range in the midst of a crash -/
structure CrashRel (w wr : World) (b bm r : Nat) (d : Dk) (keep : Int) (done : List ByteArray) : Prop where
  disk : DiskAt wr b bm (d.mid keep done)
  range : RangeAt fileTy wr bm r (d.mid keep done).files done
  nodup : done.Nodup
  sub : ∀ x ∈ done, x ∈ mkeys d.files
  fp : Fp [b, bm] w wr
  rnew : w.heap.size ≤ r

def CrashRels (w wr : World) (b bm r : Nat) (d : Dk) (keep : Int) (n : Nat) : Prop := ∃ done, CrashRel w wr b bm r d keep done ∧ n + done.length = d.files.length

set_option maxHeartbeats 1000000 in
theorem crash_any (w : World) (b bm : Nat) (d : Dk) (keep : Int) (hd : DiskAt w b bm d) (hok : DkOK d) (hk1 : -9223372036854775808 ≤ keep) (hk2 : keep ≤ 9223372036854775807) :
    Calls Try.prog 13 #[.pointer (some ⟨b, 0, none⟩), .int .i64 keep] w fun e w' => e = .returned (.tuple #[]) ∧ DiskAt w' b bm (d.crash keep) ∧ Fp [b, bm] w w' := by
  have c3 : w.cell? ⟨b, 3, none⟩ = some (.bool d.off) := cell_of_block hd.cells 3
  have c2 : w.cell? ⟨b, 2, none⟩ = some (.map (some bm)) := cell_of_block hd.cells 2
  have f3 : w.frozen? ⟨b, 3, none⟩ = false := frozen_of_block hd.cells 3
  have hlt := heap_lt hd.cells
  have hd1 : DiskAt (w.setCell ⟨b, 3, none⟩ (.bool true)) b bm { d with off := true } :=
    ⟨by rw [heap_setCell_same hd.cells]; rfl, hd.files.of_block (heap_setCell_other (Ne.symm hd.ne) _)⟩
  obtain ⟨it, hrun, hra⟩ := hd1.files.range
  have hd2 := hd1.of_fp (Fp.alloc _ it) (by simp) (by simp)
  have HD2 := Lib.hid hd2
  have HRA := Lib.hid hra
  have HD := Lib.hid hd
  clear hd2 hra hd hd1
  go_enter Try.func13, Try.ntmps13
  go_wp2
  go_loopg [] d.files.length (fun n wr => CrashRels w wr b bm w.heap.size d keep n)
  case atStart =>
    refine ⟨[], ⟨?_, ?_, List.nodup_nil, by simp, ?_, Nat.le_refl _⟩, by simp⟩
    · have := HD2.out
      unfold Dk.mid
      rw [mdone_nil, ← hok.size]
      exact this
    · have := HRA.out
      unfold Dk.mid
      rw [mdone_nil]
      simpa [World.setCell] using this
    · exact (((Fp.refl _ _).setCell' (by simp) _).alloc' _)
  case round =>
    obtain ⟨done, hrel, hcount⟩ := hrel
    have HC := Lib.hid hcount
    have HREL := Lib.hid hrel
    have hbr : b < wr.heap.size := heap_lt hrel.disk.cells
    clear hcount hrel
    rcases HREL.out.range.next 0 with ⟨hall, hnext⟩ | ⟨x, v, w1, o, hxm, hxd, hw1, hnext, hra', hent⟩
    · have HALL := Lib.hid hall
      clear hall
      go_wp2
      go_end0
      have h1 := HREL.out.disk
      have h2 : d.mid keep done = d.crash keep := by
        have := HALL.out
        unfold Dk.mid Dk.crash
        rw [mdone_all (by intro y hy; exact this y (by show y ∈ mkeys (mdone _ _ _); rw [mkeys_mdone]; exact hy))]
      rw [h2] at h1
      exact ⟨rfl, h1, HREL.out.fp⟩
    · have hin : (x, v) ∈ d.files := mem_mdone hxm hxd
      have hms := mid_set (keep := keep) (HREL.out.disk.files.keys_nodup |> fun h => by rw [show mkeys (d.mid keep done).files = mkeys d.files from mkeys_mdone _ _ _] at h; exact h) hin hxd
      have hsy := hok.sync _ hin
      have hle := Nat.le_trans (mem_total hin) hok.le
      have hfr : Fp [w.heap.size] wr (setBlock w1 w.heap.size o) := by
        rcases hw1 with rfl | rfl
        · exact Fp.setBlock _ _ _
        · exact ((Fp.refl _ _).drew').setBlock' (by simp) _
      have hbl : b < w.heap.size := heap_lt HD.out.cells
      have hbml := HD.out.files.lt
      have hfp1 : Fp [b, bm] w (setBlock w1 w.heap.size o) := HREL.out.fp.trans hfr (by simp)
      have hdk := HREL.out.disk.of_fp hfr (by simp; omega) (by simp; omega)
      obtain ⟨w2, hw2⟩ : ∃ w2, w2 = setBlock w1 w.heap.size o := ⟨_, rfl⟩
      rw [← hw2] at hnext hra' hent hfp1 hdk
      have HMS := Lib.hid hms
      have HRA2 := Lib.hid hra'
      have HFP1 := Lib.hid hfp1
      have HDK := Lib.hid hdk
      have HIN := Lib.hid hin
      have HXD := Lib.hid hxd
      clear hms hra' hfp1 hdk hin hxd hxm hw2 hw1
      dsimp only at hsy hle
      have hnm : x.size ≤ maxLen := HDK.out.files.key_ok (mem_mdone_out HIN.out HXD.out)
      change (Instr.next (.pointer (some ⟨w.heap.size, 0, none⟩)) false 0).run Try.prog wr = .ok (.tuple #[.bool true, .string x, .agg #[.string v.s, .int .i64 v.synced]]) w2 at hnext
      change (Instr.entry (.pointer (some ⟨w.heap.size, 0, none⟩))).run Try.prog w2 = .ok (.tuple #[.string x, .agg #[.string v.s, .int .i64 v.synced]]) w2 at hent
      have hset : ∀ (L : Nat) (z : Int), crashLen keep v = L → z = L → L ≤ v.s.size → Calls Try.prog 25 #[.pointer (some ⟨b, 0, none⟩), .string x, .agg #[.string (v.s.extract 0 L), .int .i64 z], .bool false] (w2.alloc (.cells #[.string (v.s.extract 0 L), .int .i64 z] 52))
          fun e w' => e = .returned (.tuple #[]) ∧ Fp [] w' w' ∧ CrashRels w w' b bm w.heap.size d keep (gk - 1) := by
        rintro L _ hL rfl hLs
        have hcf : crashFile keep v = ⟨v.s.extract 0 L, L⟩ := by
          unfold crashFile
          rw [hL, extract_size hLs]
        obtain ⟨hm1, hm2, hm3⟩ := HMS.out
        have hfa := Fp.alloc w2 (.cells #[.string (v.s.extract 0 L), .int .i64 L] 52)
        refine (set_any (w2.alloc (.cells #[.string (v.s.extract 0 L), .int .i64 L] 52)) b bm (d.mid keep done) x ⟨v.s.extract 0 L, L⟩ false (HDK.out.of_fp hfa (by simp) (by simp)) hnm (by simp [Dk.mid]) ?_ ?_ ?_).mono ?_
        · have := total_mdone (keep := keep) (done := done) hok.sync
          have := hok.le
          simp only [Dk.mid]; omega
        · show (v.s.extract 0 L).size ≤ _
          rw [extract_size hLs]; omega
        · rw [hm1]; exact hle
        · rintro e w3 ⟨rfl, hd3, hf3, hr3⟩
          rw [← hcf] at hd3 hr3
          rw [hm2] at hd3
          have hdl : (done ++ [x]).length ≤ d.files.length := by
            have := nodup_len (a := done ++ [x]) (b := mkeys d.files) (by
              rw [List.nodup_append]
              refine ⟨HREL.out.nodup, by simp, ?_⟩
              intro a ha c hc
              rw [List.mem_singleton] at hc
              rintro rfl
              exact HXD.out (hc ▸ ha)) (by
              intro y hy
              rcases List.mem_append.1 hy with hy | hy
              · exact HREL.out.sub y hy
              · rw [List.mem_singleton] at hy
                exact List.mem_map.2 ⟨(x, v), HIN.out, hy.symm⟩)
            simpa [mkeys] using this
          refine ⟨rfl, Fp.refl _ _, done ++ [x], ⟨hd3, ?_, ?_, ?_, ?_, Nat.le_refl _⟩, ?_⟩
          · have h1 := hr3 rfl hm3 w.heap.size (done ++ [x]) (by omega) (by omega) (HRA2.out.of_block (Below.heap_alloc _ _ _ HRA2.out.map.lt) (Below.heap_alloc _ _ _ (rangeAt_lt HRA2.out)))
            have h2 : mput (d.mid keep done).files x (crashFile keep v) = (d.mid keep (done ++ [x])).files := by
              rw [← hm2]; rfl
            rw [h2] at h1
            exact h1
          · rw [List.nodup_append]
            refine ⟨HREL.out.nodup, by simp, ?_⟩
            intro a ha c hc
            rw [List.mem_singleton] at hc
            rintro rfl
            exact HXD.out (hc ▸ ha)
          · intro y hy
            rcases List.mem_append.1 hy with hy | hy
            · exact HREL.out.sub y hy
            · rw [List.mem_singleton] at hy
              exact List.mem_map.2 ⟨(x, v), HIN.out, hy.symm⟩
          · exact (HFP1.out.trans hfa (by simp)).trans hf3 (by simp)
          · have := HC.out
            simp only [List.length_append, List.length_singleton] at hdl ⊢
            omega
      have HSET := Lib.hid hset
      have hgk : gk - 1 < gk := by
        have := HC.out
        have := nodup_len (a := x :: done) (b := mkeys d.files) (List.nodup_cons.2 ⟨HXD.out, HREL.out.nodup⟩) (by
          intro y hy
          rcases List.mem_cons.1 hy with rfl | hy
          · exact List.mem_map.2 ⟨(y, v), HIN.out, rfl⟩
          · exact HREL.out.sub y hy)
        simp [mkeys] at this
        omega
      clear hset
      by_cases hkp : 0 ≤ keep
      · obtain ⟨m, hm⟩ : ∃ m : Nat, keep % (↑v.s.size - ↑v.synced + 1) = (m : Int) := Int.eq_ofNat_of_zero_le (Int.emod_nonneg _ (by omega))
        have hm2 : v.synced + m ≤ v.s.size := by
          have := Int.emod_lt_of_pos keep (show (0 : Int) < ↑v.s.size - ↑v.synced + 1 by omega)
          omega
        have HL : Hid (crashLen keep v = v.synced + m) := by
          unfold Hid crashLen
          rw [if_pos hkp]
          have : ((keep.toNat % (v.s.size - v.synced + 1) : Nat) : Int) = (m : Int) := by
            rw [← hm, Int.natCast_emod, Int.toNat_of_nonneg hkp]
            congr 1
            omega
          omega
        go_wp2_with (fail)
        refine (HSET.out (v.synced + m) _ HL.out (by omega) hm2).mono ?_
        rintro e w3 ⟨rfl, _, hr3⟩
        go_wp2_with (fail)
        go_roundg (gk - 1)
        case measure => exact hgk
        case rel => exact hr3
      · have HL : Hid (crashLen keep v = v.synced) := by
          unfold Hid crashLen
          rw [if_neg hkp]
          rfl
        go_wp2_with (fail)
        refine (HSET.out v.synced _ HL.out (by omega) hsy).mono ?_
        rintro e w3 ⟨rfl, _, hr3⟩
        go_wp2_with (fail)
        go_roundg (gk - 1)
        case measure => exact hgk
        case rel => exact hr3
end Go.Proofs.Ytmadkoebopfhoaa
