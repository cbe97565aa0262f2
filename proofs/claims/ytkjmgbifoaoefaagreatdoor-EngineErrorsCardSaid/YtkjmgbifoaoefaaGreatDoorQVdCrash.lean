/-
 The disk's Crash. The disk's gate: act and there. The disk's gate for files that have to be there. The disk as data: what its calls keep to. The disk's calls that go through the gate.
-/
import Derived.Test.YtkjmgbifoaoefaaGreatDoorQCellShown
import Derived.Deep.LoopGhost
import Derived.Deep.QuietTactic
import Derived.BigQuiet
set_option maxRecDepth 100000
set_option maxHeartbeats 8000000
namespace Go.Proofs.YtkjmgbifoaoefaaGreatDoor
section
open Go.RowKit Go.Maps Go.MapKept Go.ChangeMaps
def total (F : List (ByteArray × File)) : Nat := (F.map (fun p => p.2.s.size)).sum
def crashLen (keep : Int) (f : File) : Nat := f.synced + (if 0 ≤ keep then keep.toNat % (f.s.size - f.synced + 1) else 0)
def crashFile (keep : Int) (f : File) : File := ⟨f.s.extract 0 (crashLen keep f), (f.s.extract 0 (crashLen keep f)).size⟩
def Dk.crash (d : Dk) (keep : Int) : Dk := { d with off := true, files := mall (crashFile keep) d.files, size := total (mall (crashFile keep) d.files) }
structure DkOK (d : Dk) : Prop where
 size : d.size = total d.files
 fits : (total d.files : Int) ≤ d.cap
 caps : d.cap ≤ 1000000000
 nodup : (mkeys d.files).Nodup
 sync : ∀ p ∈ d.files, p.2.synced ≤ p.2.s.size
 many : d.files.length ≤ 200
 left0 : 0 ≤ d.left
 left1 : d.left ≤ 9223372036854775807
 keep0 : -9223372036854775808 ≤ d.keep
 keep1 : d.keep ≤ 9223372036854775807
theorem DkOK.le {d : Dk} (h : DkOK d) : total d.files ≤ 1000000000 := by
 have := h.fits
 have := h.caps
 omega
theorem crashLen_le {keep : Int} {f : File} (h : f.synced ≤ f.s.size) : crashLen keep f ≤ f.s.size := by
 unfold crashLen
 split
 ·have := Nat.mod_lt keep.toNat (show 0 < f.s.size - f.synced + 1 by omega)
  omega
 ·omega
theorem extract_size {s : ByteArray} {n : Nat} (h : n ≤ s.size) : (s.extract 0 n).size = n := by simp; omega
theorem mem_total {F : List (ByteArray × File)} {p : ByteArray × File} (h : p ∈ F) : p.2.s.size ≤ total F := by
 unfold total
 induction F with
 |nil => cases h
 |cons q r ih =>
  rcases List.mem_cons.1 h with rfl | h
  ·simp
  ·have := ih h; simp; omega
theorem total_mput : ∀ {F : List (ByteArray × File)} (_ : (mkeys F).Nodup) {x : ByteArray} {v f : File} (_ : mget F x = some v), total (mput F x f) + v.s.size = total F + f.s.size
 |[], _, _, _, _, h => by cases h
 |p :: r, hn, x, v, f, h => by
  unfold mkeys at hn
  rw [List.map_cons, List.nodup_cons] at hn
  unfold mput
  by_cases e : p.1 = x
  ·rw [if_pos e]
   have : p.2 = v := by
    rw [mget_cons_eq e] at h
    exact Option.some.inj h
   simp [total, this]; omega
  ·rw [if_neg e]
   have h' : mget r x = some v := by
    rw [mget_cons_ne e] at h
    exact h
   have := total_mput hn.2 (f := f) h'
   simp [total] at this ⊢; omega
def Dk.mid (d : Dk) (keep : Int) (done : List ByteArray) : Dk := { d with off := true, files := mdone (crashFile keep) done d.files, size := total (mdone (crashFile keep) done d.files) }
theorem total_mdone {keep : Int} {done : List ByteArray} {F : List (ByteArray × File)} (h : ∀ p ∈ F, p.2.synced ≤ p.2.s.size) : total (mdone (crashFile keep) done F) ≤ total F := by
 induction F with
 |nil => exact Nat.le_refl _
 |cons p r ih =>
  have h1 := ih (fun q hq => h q (by simp [hq]))
  have h2 := h p (by simp)
  have h3 := crashLen_le (keep := keep) h2
  have h4 : (crashFile keep p.2).s.size ≤ p.2.s.size := by show (p.2.s.extract 0 _).size ≤ _; rw [extract_size h3]; exact h3
  unfold total at h1 ⊢
  rcases mdone_cons (crashFile keep) done p r with ⟨_, hc⟩ | ⟨_, hc⟩ <;> rw [hc] <;> simp <;> omega
theorem mid_set {d : Dk} {keep : Int} {done : List ByteArray} {x : ByteArray} {v : File} (hn : (mkeys d.files).Nodup) (hm : (x, v) ∈ d.files) (hx : x ∉ done) :
  fget (d.mid keep done) x = v ∧ (d.mid keep done).set x (crashFile keep v) false = d.mid keep (done ++ [x]) ∧ (mget (d.mid keep done).files x).isSome = true := by
 have h0 : (x, v) ∈ mdone (crashFile keep) done d.files := mem_mdone_out hm hx
 have hn' : (mkeys (mdone (crashFile keep) done d.files)).Nodup := by rw [mkeys_mdone]; exact hn
 have h1 : mget (d.mid keep done).files x = some v := mget_some hn' h0
 have h2 : fget (d.mid keep done) x = v := by unfold fget; rw [h1]; rfl
 refine ⟨h2, ?_, by rw [h1]; rfl⟩
 have h3 := mdone_put (g := crashFile keep) hn hm hx
 have h4 := total_mput hn' (f := crashFile keep v) (mget_some hn' h0)
 rw [h3] at h4
 unfold Dk.set
 rw [h2]
 unfold Dk.mid
 simp only [Bool.false_eq_true, if_false, h3, Dk.mk.injEq, true_and, and_true]
 omega
structure CrashRel (w wr : World) (b bm r : Nat) (d : Dk) (keep : Int) (done : List ByteArray) : Prop where
 disk : DiskAt wr b bm (d.mid keep done)
 range : RangeAt fileTy wr bm r (d.mid keep done).files done
 nodup : done.Nodup
 sub : ∀ x ∈ done, x ∈ mkeys d.files
 fp : Fp [b, bm] w wr
 rnew : w.heap.size ≤ r
def CrashRels (w wr : World) (b bm r : Nat) (d : Dk) (keep : Int) (n : Nat) : Prop := ∃ done, CrashRel w wr b bm r d keep done ∧ n + done.length = d.files.length
theorem crash_any (w : World) (b bm : Nat) (d : Dk) (keep : Int) (hd : DiskAt w b bm d) (hok : DkOK d) (hk1 : -9223372036854775808 ≤ keep) (hk2 : keep ≤ 9223372036854775807) :
  Calls Tryz.prog 217 #[.pointer (some ⟨b, 0, none⟩), .int .i64 keep] w fun e w' => e = .returned (.tuple #[]) ∧ DiskAt w' b bm (d.crash keep) ∧ Fp [b, bm] w w' := by
 have c3 : w.cell? ⟨b, 3, none⟩ = some (.bool d.off) := cell_of_block hd.cells 3
 have c2 : w.cell? ⟨b, 2, none⟩ = some (.map (some bm)) := cell_of_block hd.cells 2
 have f3 : w.frozen? ⟨b, 3, none⟩ = false := frozen_of_block hd.cells 3
 have hlt := heap_lt hd.cells
 have hd1 : DiskAt (w.setCell ⟨b, 3, none⟩ (.bool true)) b bm { d with off := true } :=
  ⟨by rw [heap_setCell_same hd.cells]; rfl, hd.files.of_block (heap_setCell_other (Ne.symm hd.ne) _)⟩
 obtain ⟨it, hrun, hra⟩ := hd1.files.range
 have hd2 := hd1.of_fp (Fp.alloc _ it) (by simp) (by simp)
 have HD2 := Lib.hid hd2
 have HRA := Lib.hid hra
 have HD := Lib.hid hd
 clear hd2 hra hd hd1
 go_enter Tryz.func217, Tryz.ntmps217
 go_wp2
 go_loopg [] d.files.length (fun n wr => CrashRels w wr b bm w.heap.size d keep n)
 case atStart =>
  refine ⟨[], ⟨?_, ?_, List.nodup_nil, by simp, ?_, Nat.le_refl _⟩, by simp⟩
  ·have := HD2.out
   unfold Dk.mid
   rw [mdone_nil, ← hok.size]
   exact this
  ·have := HRA.out
   unfold Dk.mid
   rw [mdone_nil]
   simpa [World.setCell] using this
  ·exact (((Fp.refl _ _).setCell' (by simp) _).alloc' _)
 case round =>
  obtain ⟨done, hrel, hcount⟩ := hrel
  have HC := Lib.hid hcount
  have HREL := Lib.hid hrel
  have hbr : b < wr.heap.size := heap_lt hrel.disk.cells
  clear hcount hrel
  rcases HREL.out.range.next 0 with ⟨hall, hnext⟩ | ⟨x, v, w1, o, hxm, hxd, hw1, hnext, hra', hent⟩
  ·have HALL := Lib.hid hall
   clear hall
   go_wp2
   go_end0
   have h1 := HREL.out.disk
   have h2 : d.mid keep done = d.crash keep := by
    have := HALL.out
    unfold Dk.mid Dk.crash
    rw [mdone_all (by intro y hy; exact this y (by show y ∈ mkeys (mdone _ _ _); rw [mkeys_mdone]; exact hy))]
   rw [h2] at h1
   exact ⟨rfl, h1, HREL.out.fp⟩
  ·have hin : (x, v) ∈ d.files := mem_mdone hxm hxd
   have hms := mid_set (keep := keep) (HREL.out.disk.files.keys_nodup |> fun h => by rw [show mkeys (d.mid keep done).files = mkeys d.files from mkeys_mdone _ _ _] at h; exact h) hin hxd
   have hsy := hok.sync _ hin
   have hle := Nat.le_trans (mem_total hin) hok.le
   have hfr : Fp [w.heap.size] wr (setBlock w1 w.heap.size o) := by
    rcases hw1 with rfl | rfl
    ·exact Fp.setBlock _ _ _
    ·exact ((Fp.refl _ _).drew').setBlock' (by simp) _
   have hbl : b < w.heap.size := heap_lt HD.out.cells
   have hbml := HD.out.files.lt
   have hfp1 : Fp [b, bm] w (setBlock w1 w.heap.size o) := HREL.out.fp.trans hfr (by simp)
   have hdk := HREL.out.disk.of_fp hfr (by simp; omega) (by simp; omega)
   obtain ⟨w2, hw2⟩ : ∃ w2, w2 = setBlock w1 w.heap.size o := ⟨_, rfl⟩
   rw [← hw2] at hnext hra' hent hfp1 hdk
   have HMS := Lib.hid hms
   have HRA2 := Lib.hid hra'
   have HFP1 := Lib.hid hfp1
   have HDK := Lib.hid hdk
   have HIN := Lib.hid hin
   have HXD := Lib.hid hxd
   clear hms hra' hfp1 hdk hin hxd hxm hw2 hw1
   dsimp only at hsy hle
   have hnm : x.size ≤ maxLen := HDK.out.files.key_ok (mem_mdone_out HIN.out HXD.out)
   change (Instr.next (.pointer (some ⟨w.heap.size, 0, none⟩)) false 0).run Tryz.prog wr = .ok (.tuple #[.bool true, .string x, .agg #[.string v.s, .int .i64 v.synced]]) w2 at hnext
   change (Instr.entry (.pointer (some ⟨w.heap.size, 0, none⟩))).run Tryz.prog w2 = .ok (.tuple #[.string x, .agg #[.string v.s, .int .i64 v.synced]]) w2 at hent
   have hset : ∀ (L : Nat) (z : Int), crashLen keep v = L → z = L → L ≤ v.s.size → Calls Tryz.prog 144 #[.pointer (some ⟨b, 0, none⟩), .string x, .agg #[.string (v.s.extract 0 L), .int .i64 z], .bool false] (w2.alloc (.cells #[.string (v.s.extract 0 L), .int .i64 z] 193))
     fun e w' => e = .returned (.tuple #[]) ∧ Fp [] w' w' ∧ CrashRels w w' b bm w.heap.size d keep (gk - 1) := by
    rintro L _ hL rfl hLs
    have hcf : crashFile keep v = ⟨v.s.extract 0 L, L⟩ := by
     unfold crashFile
     rw [hL, extract_size hLs]
    obtain ⟨hm1, hm2, hm3⟩ := HMS.out
    have hfa := Fp.alloc w2 (.cells #[.string (v.s.extract 0 L), .int .i64 L] 193)
    refine (set_any (w2.alloc (.cells #[.string (v.s.extract 0 L), .int .i64 L] 193)) b bm (d.mid keep done) x ⟨v.s.extract 0 L, L⟩ false (HDK.out.of_fp hfa (by simp) (by simp)) hnm (by simp [Dk.mid]) ?_ ?_ ?_).mono ?_
    ·have := total_mdone (keep := keep) (done := done) hok.sync
     have := hok.le
     simp only [Dk.mid]; omega
    ·show (v.s.extract 0 L).size ≤ _
     rw [extract_size hLs]; omega
    ·rw [hm1]; exact hle
    ·rintro e w3 ⟨rfl, hd3, hf3, hr3⟩
     rw [← hcf] at hd3 hr3
     rw [hm2] at hd3
     have hdl : (done ++ [x]).length ≤ d.files.length := by
      have := nodup_len (a := done ++ [x]) (b := mkeys d.files) (by
       rw [List.nodup_append]
       refine ⟨HREL.out.nodup, by simp, ?_⟩
       intro a ha c hc
       rw [List.mem_singleton] at hc
       rintro rfl
       exact HXD.out (hc ▸ ha)) (by
       intro y hy
       rcases List.mem_append.1 hy with hy | hy
       ·exact HREL.out.sub y hy
       ·rw [List.mem_singleton] at hy
        exact List.mem_map.2 ⟨(x, v), HIN.out, hy.symm⟩)
      simpa [mkeys] using this
     refine ⟨rfl, Fp.refl _ _, done ++ [x], ⟨hd3, ?_, ?_, ?_, ?_, Nat.le_refl _⟩, ?_⟩
     ·have h1 := hr3 rfl hm3 w.heap.size (done ++ [x]) (by omega) (by omega) (HRA2.out.of_block (Below.heap_alloc _ _ _ HRA2.out.map.lt) (Below.heap_alloc _ _ _ (rangeAt_lt HRA2.out)))
      have h2 : mput (d.mid keep done).files x (crashFile keep v) = (d.mid keep (done ++ [x])).files := by
       rw [← hm2]; rfl
      rw [h2] at h1
      exact h1
     ·rw [List.nodup_append]
      refine ⟨HREL.out.nodup, by simp, ?_⟩
      intro a ha c hc
      rw [List.mem_singleton] at hc
      rintro rfl
      exact HXD.out (hc ▸ ha)
     ·intro y hy
      rcases List.mem_append.1 hy with hy | hy
      ·exact HREL.out.sub y hy
      ·rw [List.mem_singleton] at hy
       exact List.mem_map.2 ⟨(x, v), HIN.out, hy.symm⟩
     ·exact (HFP1.out.trans hfa (by simp)).trans hf3 (by simp)
     ·have := HC.out
      simp only [List.length_append, List.length_singleton] at hdl ⊢
      omega
   have HSET := Lib.hid hset
   have hgk : gk - 1 < gk := by
    have := HC.out
    have := nodup_len (a := x :: done) (b := mkeys d.files) (List.nodup_cons.2 ⟨HXD.out, HREL.out.nodup⟩) (by
     intro y hy
     rcases List.mem_cons.1 hy with rfl | hy
     ·exact List.mem_map.2 ⟨(y, v), HIN.out, rfl⟩
     ·exact HREL.out.sub y hy)
    simp [mkeys] at this
    omega
   clear hset
   by_cases hkp : 0 ≤ keep
   ·obtain ⟨m, hm⟩ : ∃ m : Nat, keep % (↑v.s.size - ↑v.synced + 1) = (m : Int) := Int.eq_ofNat_of_zero_le (Int.emod_nonneg _ (by omega))
    have hm2 : v.synced + m ≤ v.s.size := by
     have := Int.emod_lt_of_pos keep (show (0 : Int) < ↑v.s.size - ↑v.synced + 1 by omega)
     omega
    have HL : Hid (crashLen keep v = v.synced + m) := by
     unfold Hid crashLen
     rw [if_pos hkp]
     have : ((keep.toNat % (v.s.size - v.synced + 1) : Nat) : Int) = (m : Int) := by
      rw [← hm, Int.natCast_emod, Int.toNat_of_nonneg hkp]
      congr 1
      omega
     omega
    go_wp2_with (fail)
    refine (HSET.out (v.synced + m) _ HL.out (by omega) hm2).mono ?_
    rintro e w3 ⟨rfl, _, hr3⟩
    go_wp2_with (fail)
    go_roundg (gk - 1)
    case measure => exact hgk
    case rel => exact hr3
   ·have HL : Hid (crashLen keep v = v.synced) := by
     unfold Hid crashLen
     rw [if_neg hkp]
     rfl
    go_wp2_with (fail)
    refine (HSET.out v.synced _ HL.out (by omega) hsy).mono ?_
    rintro e w3 ⟨rfl, _, hr3⟩
    go_wp2_with (fail)
    go_roundg (gk - 1)
    case measure => exact hgk
    case rel => exact hr3
end
section
open Go.RowKit Go.Maps Go.MapKept Go.ChangeMaps
def Dk.tick (d : Dk) : Dk := { d with left := max (d.left - 1) 0 }
def Dk.does (d : Dk) (always : Bool) : Bool := d.left != 1 || always || d.keep.tmod 2 != 0
def Dk.burnt (d d2 : Dk) : Dk := if d.left = 1 then d2.crash d2.keep else d2
def Dk.told (d : Dk) : Int := if d.left = 1 then 6 else 0
structure Turns (w : World) (b bm : Nat) (d d2 : Dk) (K : Nat) (caps : Array Value) : Prop where
 enters : ∀ w, (callFunc K caps).run Tryz.prog w = .ok (.enter K caps) w
 calls : ∀ w1, DiskAt w1 b bm d → Fp [b] w w1 → Calls Tryz.prog K caps w1 fun e w' => e = .returned (.tuple #[]) ∧ DiskAt w' b bm d2 ∧ Fp [b, bm] w1 w'
theorem dk_setLeft {w : World} {b bm : Nat} {d : Dk} (h : DiskAt w b bm d) (n : Int) : DiskAt (w.setCell ⟨b, 4, none⟩ (.int .i64 n)) b bm { d with left := n } :=
 ⟨by rw [heap_setCell_same h.cells]; rfl, h.files.of_block (heap_setCell_other (Ne.symm h.ne) _)⟩
theorem act_calm (w : World) (b bm : Nat) (d d2 : Dk) (always : Bool) (K : Nat) (caps : Array Value) (hd : DiskAt w b bm d) (hok : DkOK d) (hl : d.left ≠ 1) (hdo : Turns w b bm d.tick d2 K caps) :
  Calls Tryz.prog 168 #[.pointer (some ⟨b, 0, none⟩), .bool always, .func (.func K) #[] caps] w fun e w' => e = .returned (.int .i64 d.told) ∧ DiskAt w' b bm (d.burnt d2) ∧ Fp [b, bm] w w' := by
 have c4 : w.cell? ⟨b, 4, none⟩ = some (.int .i64 d.left) := cell_of_block hd.cells 4
 have f4 : w.frozen? ⟨b, 4, none⟩ = false := frozen_of_block hd.cells 4
 have hl0 := hok.left0
 have hl1 := hok.left1
 have HD := Lib.hid hd
 have HDO := Lib.hid hdo
 have HT : Hid (d.told = 0) := if_neg hl
 have HB : Hid (d.burnt d2 = d2) := if_neg hl
 have HL := Lib.hid hl
 have hlb : (d.left == 1) = false := by simpa using hl
 clear hd hdo hl hok
 have hen := HDO.out.enters
 by_cases hz : 1 ≤ d.left
 ·have hc := HDO.out.calls _ (show DiskAt (w.setCell ⟨b, 4, none⟩ (.int .i64 (d.left - 1))) b bm d.tick from by
   have := dk_setLeft HD.out (d.left - 1); unfold Dk.tick; rwa [Int.max_eq_left (by omega)]) (Fp.setCell w ⟨b, 4, none⟩ _)
  have HC := Lib.hid hc
  clear hc
  have hmx : max (d.left - 1) 0 = d.left - 1 := Int.max_eq_left (by omega)
  go_enter Tryz.func168, Tryz.ntmps168
  go_wp2_with (fail)
  refine HC.out.mono ?_
  rintro e w2 ⟨rfl, hd2, hf2⟩
  have HD2 := Lib.hid hd2
  clear hd2
  go_wp2_with (fail)
  go_ret
  exact ⟨by rw [HT.out]; rfl, by rw [HB.out]; exact HD2.out, ((Fp.setCell _ _ _).mono (by simp)).trans hf2 (by simp)⟩
 ·have hc := HDO.out.calls _ (show DiskAt (w.setCell ⟨b, 4, none⟩ (.int .i64 0)) b bm d.tick from by
   have := dk_setLeft HD.out 0; unfold Dk.tick; rwa [Int.max_eq_right (by omega)]) (Fp.setCell w ⟨b, 4, none⟩ _)
  have HC := Lib.hid hc
  clear hc
  have hmx : max (d.left - 1) 0 = 0 := Int.max_eq_right (by omega)
  go_enter Tryz.func168, Tryz.ntmps168
  go_wp2_with (fail)
  refine HC.out.mono ?_
  rintro e w2 ⟨rfl, hd2, hf2⟩
  have HD2 := Lib.hid hd2
  clear hd2
  go_wp2_with (fail)
  go_ret
  exact ⟨by rw [HT.out]; rfl, by rw [HB.out]; exact HD2.out, ((Fp.setCell _ _ _).mono (by simp)).trans hf2 (by simp)⟩
theorem act_burns (w : World) (b bm : Nat) (d d2 : Dk) (always : Bool) (K : Nat) (caps : Array Value) (hd : DiskAt w b bm d) (hok : DkOK d2) (hl : d.left = 1) (hdo : d.does always = true → Turns w b bm d.tick d2 K caps) (hno : d.does always = false → d2 = d.tick) :
  Calls Tryz.prog 168 #[.pointer (some ⟨b, 0, none⟩), .bool always, .func (.func K) #[] caps] w fun e w' => e = .returned (.int .i64 d.told) ∧ DiskAt w' b bm (d.burnt d2) ∧ Fp [b, bm] w w' := by
 have c4 : w.cell? ⟨b, 4, none⟩ = some (.int .i64 1) := by rw [← hl]; exact cell_of_block hd.cells 4
 have c5 : w.cell? ⟨b, 5, none⟩ = some (.int .i64 d.keep) := cell_of_block hd.cells 5
 have f4 : w.frozen? ⟨b, 4, none⟩ = false := frozen_of_block hd.cells 4
 have hd1 : DiskAt (w.setCell ⟨b, 4, none⟩ (.int .i64 0)) b bm d.tick := by
  have := dk_setLeft hd 0
  unfold Dk.tick
  rw [hl]
  exact this
 have HT : Hid (d.told = 6) := if_pos hl
 have HB : Hid (d.burnt d2 = d2.crash d2.keep) := if_pos hl
 have HD := Lib.hid hd
 have HD1 := Lib.hid hd1
 have HDO := Lib.hid hdo
 have HNO := Lib.hid hno
 have HL := Lib.hid hl
 clear hd hd1 hdo hno hl
 cases hdoes : d.does always
 ·have hd2 := HNO.out hdoes
  have hcr := crash_any _ b bm d2 d2.keep (hd2 ▸ HD1.out) hok hok.keep0 hok.keep1
  have hkk : d2.keep = d.keep := by rw [hd2]; rfl
  rw [hkk] at hcr
  have HCR := Lib.hid hcr
  have ha : always = false ∧ (d.keep.tmod 2 != 0) = false := by
   unfold Dk.does at hdoes
   rw [HL.out] at hdoes
   simpa using hdoes
  have HKK := Lib.hid hkk
  obtain ⟨rfl, hk⟩ := ha
  clear hcr hdoes hd2 hkk
  go_enter Tryz.func168, Tryz.ntmps168
  go_wp2_with (fail)
  refine HCR.out.mono ?_
  rintro e w2 ⟨rfl, hd2, hf2⟩
  have HD2 := Lib.hid hd2
  clear hd2
  go_wp2_with (fail)
  go_ret
  exact ⟨by rw [HT.out]; rfl, by rw [HB.out, HKK.out]; exact HD2.out, ((Fp.setCell w ⟨b, 4, none⟩ _).mono (by simp)).trans hf2 (by simp)⟩
 ·have htu := HDO.out hdoes
  have hen := htu.enters
  have hc := htu.calls _ HD1.out (Fp.setCell w ⟨b, 4, none⟩ _)
  have HC := Lib.hid hc
  have ha : always = true ∨ always = false ∧ (d.keep.tmod 2 != 0) = true := by
   unfold Dk.does at hdoes
   rw [HL.out] at hdoes
   cases always
   ·right; simpa using hdoes
   ·left; rfl
  clear hc htu hdoes
  rcases ha with rfl | ⟨rfl, hk⟩
  all_goals
   go_enter Tryz.func168, Tryz.ntmps168
   go_wp2_with (fail)
   refine HC.out.mono ?_
   rintro e w2 ⟨rfl, hd2, hf2⟩
   have HD2 := Lib.hid hd2
   have c5' : w2.cell? ⟨b, 5, none⟩ = some (.int .i64 d2.keep) := cell_of_block hd2.cells 5
   clear hd2
   go_wp2_with (fail)
   refine (crash_any _ b bm d2 d2.keep HD2.out hok hok.keep0 hok.keep1).mono ?_
   rintro e w3 ⟨rfl, hd3, hf3⟩
   have HD3 := Lib.hid hd3
   clear hd3
   go_wp2_with (fail)
   go_ret
   exact ⟨by rw [HT.out]; rfl, by rw [HB.out]; exact HD3.out, (((Fp.setCell w ⟨b, 4, none⟩ _).mono (by simp)).trans hf2 (by simp)).trans hf3 (by simp)⟩
theorem act_any (w : World) (b bm : Nat) (d d2 : Dk) (always : Bool) (K : Nat) (caps : Array Value) (hd : DiskAt w b bm d) (hok : DkOK d) (hok2 : DkOK d2) (hdo : d.does always = true → Turns w b bm d.tick d2 K caps) (hno : d.does always = false → d2 = d.tick) :
  Calls Tryz.prog 168 #[.pointer (some ⟨b, 0, none⟩), .bool always, .func (.func K) #[] caps] w fun e w' => e = .returned (.int .i64 d.told) ∧ DiskAt w' b bm (d.burnt d2) ∧ Fp [b, bm] w w' := by
 by_cases hl : d.left = 1
 ·exact act_burns w b bm d d2 always K caps hd hok2 hl hdo hno
 ·exact act_calm w b bm d d2 always K caps hd hok hl (hdo (by simp [Dk.does, hl]))
end
section
open Go.RowKit Go.Maps Go.MapKept Go.ChangeMaps
structure TurnsF (w : World) (b bm : Nat) (d : Dk) (f : File) (d2 : Dk) (K : Nat) (caps : Array Value) : Prop where
 enters : ∀ w, (callFunc K (#[.agg #[.string f.s, .int .i64 f.synced]] ++ caps)).run Tryz.prog w = .ok (.enter K (#[.agg #[.string f.s, .int .i64 f.synced]] ++ caps)) w
 calls : ∀ w1, DiskAt w1 b bm d → Fp [b] w w1 → Calls Tryz.prog K (#[.agg #[.string f.s, .int .i64 f.synced]] ++ caps) w1 fun e w' => e = .returned (.tuple #[]) ∧ DiskAt w' b bm d2 ∧ Fp [b, bm] w1 w'
theorem TurnsF.later {w w' : World} {b bm : Nat} {d : Dk} {f : File} {d2 : Dk} {K : Nat} {caps : Array Value} (h : TurnsF w b bm d f d2 K caps) (hf : Fp [b] w w') : TurnsF w' b bm d f d2 K caps :=
 ⟨h.enters, fun w1 hd h1 => h.calls w1 hd (hf.trans h1 (by simp))⟩
theorem there1_any (w : World) (b bm p q : Nat) (d : Dk) (f : File) (d2 : Dk) (K : Nat) (caps : Array Value)
  (hp : w.cell? ⟨p, 0, none⟩ = some (.func (.func K) #[] caps)) (hq0 : w.cell? ⟨q, 0, none⟩ = some (.string f.s)) (hq1 : w.cell? ⟨q, 1, none⟩ = some (.int .i64 f.synced)) (htu : TurnsF w b bm d f d2 K caps) (hd : DiskAt w b bm d) :
  Calls Tryz.prog 208 #[.pointer (some ⟨p, 0, none⟩), .pointer (some ⟨q, 0, none⟩)] w fun e w' => e = .returned (.tuple #[]) ∧ DiskAt w' b bm d2 ∧ Fp [b, bm] w w' := by
 have hen := htu.enters
 have HC := Lib.hid (htu.calls w hd (Fp.refl _ _))
 clear htu hd
 go_enter Tryz.func208, Tryz.ntmps208
 go_wp2_with (fail)
 refine HC.out.mono ?_
 rintro e w2 ⟨rfl, hd2, hf2⟩
 have HD2 := Lib.hid hd2
 clear hd2
 go_wp2_with (fail)
 go_end0
 exact ⟨rfl, HD2.out, hf2⟩
theorem there1_enters (p q : Value) : ∀ w, (callFunc 208 #[p, q]).run Tryz.prog w = .ok (.enter 208 #[p, q]) w := fun w => by kernel_rfl
def Dk.thereD (d : Dk) (name : ByteArray) (g : File → Dk) : Dk := if d.named [name] ≠ 0 then d else match mget d.files name with | none => d | some f => d.burnt (g f)
def Dk.thereE (d : Dk) (name : ByteArray) : Int := if d.named [name] ≠ 0 then d.named [name] else match mget d.files name with | none => 3 | some _ => d.told
theorem there_any (w : World) (b bm : Nat) (d : Dk) (name : ByteArray) (always : Bool) (K : Nat) (caps : Array Value) (g : File → Dk) (hd : DiskAt w b bm d) (hok : DkOK d) (hname : name.size ≤ maxLen)
  (hg : d.named [name] = 0 → ∀ f, mget d.files name = some f → DkOK (g f) ∧ (d.does always = true → TurnsF w b bm d.tick f (g f) K caps) ∧ (d.does always = false → g f = d.tick)) :
  Calls Tryz.prog 142 #[.pointer (some ⟨b, 0, none⟩), .string name, .bool always, .func (.func K) #[] caps] w fun e w' => e = .returned (.int .i64 (d.thereE name)) ∧ DiskAt w' b bm (d.thereD name g) ∧ Fp [b, bm] w w' := by
 have c2 : w.cell? ⟨b, 2, none⟩ = some (.map (some bm)) := cell_of_block hd.cells 2
 have hlt := heap_lt hd.cells
 have hfp : Fp [] w ((w.alloc (.cells #[.func (.func K) #[] caps] 209)).alloc (.cells #[.string name] 9)) := (Fp.alloc _ _).alloc' _
 have hd1 := hd.of_fp hfp (by simp) (by simp)
 have hl : (Instr.lookup 51 (.map (some bm)) (.string name) true).run Tryz.prog ((w.alloc (.cells #[.func (.func K) #[] caps] 209)).alloc (.cells #[.string name] 9)) = .ok (.tuple #[.agg #[.string (fget d name).s, .int .i64 (fget d name).synced], .bool (mget d.files name).isSome]) ((w.alloc (.cells #[.func (.func K) #[] caps] 209)).alloc (.cells #[.string name] 9)) := hd1.files.lookup true hname
 have hnm : Calls Tryz.prog 132 #[.pointer (some ⟨b, 0, none⟩), .slice (some ⟨w.heap.size + 1, 0, none⟩) 1 1] ((w.alloc (.cells #[.func (.func K) #[] caps] 209)).alloc (.cells #[.string name] 9)) fun e w' => e = .returned (.int .i64 (d.named [name])) ∧ ((w.alloc (.cells #[.func (.func K) #[] caps] 209)).alloc (.cells #[.string name] 9)) = w' :=
  named_any _ b bm (w.heap.size + 1) d [name] hd1 (heap_alloc_at (by simp) _) (by simp)
 have HD1 := Lib.hid hd1
 have HN := Lib.hid hnm
 have HG := Lib.hid hg
 have HFP := Lib.hid hfp
 clear hd hd1 hnm hg hfp
 obtain ⟨nm, hnm⟩ : ∃ nm, nm = d.named [name] := ⟨_, rfl⟩
 rw [← hnm] at HN
 by_cases h0 : nm = 0
 ·subst h0
  cases hg : mget d.files name with
  |none =>
   rw [hg] at hl
   have HE : Hid (d.thereE name = 3) := by simp [Hid, Dk.thereE, ← hnm, hg]
   have HD : Hid (d.thereD name g = d) := by simp [Hid, Dk.thereD, ← hnm, hg]
   clear hg hnm
   go_enter Tryz.func142, Tryz.ntmps142
   go_wp2_with (go_at_call 132; refine HN.out.mono ?_; rintro e w' ⟨rfl, rfl⟩)
   go_ret
   exact ⟨by rw [HE.out]; rfl, by rw [HD.out]; exact HD1.out.of_fp (Fp.alloc _ _) (by simp) (by simp), (HFP.out.alloc' _).mono (by simp)⟩
  |some f =>
   have hfg : fget d name = f := by simp [fget, hg]
   rw [hg, hfg] at hl
   have HE : Hid (d.thereE name = d.told) := by simp [Hid, Dk.thereE, ← hnm, hg]
   have HD : Hid (d.thereD name g = d.burnt (g f)) := by simp [Hid, Dk.thereD, ← hnm, hg]
   obtain ⟨hg1, hg2, hg3⟩ := HG.out hnm.symm f hg
   have hact := act_any (((w.alloc (.cells #[.func (.func K) #[] caps] 209)).alloc (.cells #[.string name] 9)).alloc (.cells #[.string f.s, .int .i64 f.synced] 193)) b bm d (g f) always 208 #[.pointer (some ⟨w.heap.size, 0, none⟩), .pointer (some ⟨w.heap.size + 1 + 1, 0, none⟩)] (HD1.out.of_fp (Fp.alloc _ _) (by simp) (by simp)) hok hg1
    (fun hdo => by
     have htu := (hg2 hdo).later ((HFP.out.alloc' (.cells #[.string f.s, .int .i64 f.synced] 193)).mono (S' := [b]) (by simp))
     refine ⟨there1_enters _ _, fun w1 hdw hfw => ?_⟩
     refine there1_any w1 b bm w.heap.size (w.heap.size + 1 + 1) d.tick f (g f) K caps ?_ ?_ ?_ (htu.later hfw) hdw
     ·rw [hfw.cell (by simp; omega) (by simp; omega), World.cell?_of_block (w := (w.alloc (.cells #[.func (.func K) #[] caps] 209)))]
      ·exact cell_of_block (MapKept.heap_alloc w _).1 0
      ·show (((w.alloc _).alloc _).alloc _).heap[w.heap.size]? = _
       rw [Below.heap_alloc _ _ _ (by simp; omega), Below.heap_alloc _ _ _ (by simp)]
     ·rw [hfw.cell (by simp) (by simp; omega)]
      exact cell_of_block (heap_alloc_at (by simp) _) 0
     ·rw [hfw.cell (by simp) (by simp; omega)]
      exact cell_of_block (heap_alloc_at (by simp) _) 1)
    hg3
   have HA := Lib.hid hact
   clear hg hnm hact hg1 hg2 hg3 hfg
   go_enter Tryz.func142, Tryz.ntmps142
   go_wp2_with (go_at_call 132; refine HN.out.mono ?_; rintro e w' ⟨rfl, rfl⟩)
   refine HA.out.mono ?_
   rintro e w2 ⟨rfl, hd2, hf2⟩
   have HD2 := Lib.hid hd2
   clear hd2
   go_wp2_with (fail)
   go_ret
   exact ⟨by rw [HE.out]; rfl, by rw [HD.out]; exact HD2.out, ((HFP.out.alloc' _).mono (by simp)).trans hf2 (by simp)⟩
 ·have HE : Hid (d.thereE name = nm) := by simp [Hid, Dk.thereE, ← hnm, h0]
  have HD : Hid (d.thereD name g = d) := by simp [Hid, Dk.thereD, ← hnm, h0]
  have hb : ((nm : Int) != 0) = true := by simpa using h0
  clear hnm hl h0
  go_enter Tryz.func142, Tryz.ntmps142
  go_wp2_with (go_at_call 132; refine HN.out.mono ?_; rintro e w' ⟨rfl, rfl⟩)
  go_ret
  exact ⟨by rw [HE.out]; rfl, by rw [HD.out]; exact HD1.out, HFP.out.mono (by simp)⟩
end
section
open Go.RowKit Go.Maps Go.MapKept Go.ChangeMaps
theorem DkOK.tick {d : Dk} (h : DkOK d) : DkOK d.tick := by
 obtain ⟨h1, h2, h3, h4, h5, h6, h7, h8, h9, h10⟩ := h
 refine ⟨h1, h2, h3, h4, h5, h6, ?_, ?_, h9, h10⟩
 ·show 0 ≤ max (d.left - 1) 0; omega
 ·show max (d.left - 1) 0 ≤ _; omega
theorem total_mall {keep : Int} {F : List (ByteArray × File)} (h : ∀ p ∈ F, p.2.synced ≤ p.2.s.size) : total (mall (crashFile keep) F) ≤ total F := by
 have := total_mdone (keep := keep) (done := mkeys F) h
 rwa [mdone_all (fun x hx => hx)] at this
theorem crashFile_ok (keep : Int) (f : File) : (crashFile keep f).synced ≤ (crashFile keep f).s.size := Nat.le_refl _
theorem mkeys_mall {κ ν : Type} (g : ν → ν) (F : List (κ × ν)) : mkeys (mall g F) = mkeys F := by
 unfold mkeys mall
 rw [List.map_map]
 rfl
theorem DkOK.crash {d : Dk} (h : DkOK d) (keep : Int) : DkOK (d.crash keep) := by
 obtain ⟨h1, h2, h3, h4, h5, h6, h7, h8, h9, h10⟩ := h
 refine ⟨rfl, ?_, h3, ?_, ?_, ?_, h7, h8, h9, h10⟩
 ·show ((total (mall (crashFile keep) d.files) : Nat) : Int) ≤ d.cap
  have := total_mall (keep := keep) h5
  omega
 ·show (mkeys (mall (crashFile keep) d.files)).Nodup
  rw [mkeys_mall]
  exact h4
 ·intro p hp
  obtain ⟨q, _, rfl⟩ := List.mem_map.1 hp
  exact crashFile_ok _ _
 ·show (mall (crashFile keep) d.files).length ≤ 200
  unfold mall
  simpa using h6
theorem DkOK.burnt {d d2 : Dk} (h : DkOK d2) : DkOK (d.burnt d2) := by
 unfold Dk.burnt
 split
 ·exact h.crash _
 ·exact h
theorem DkOK.on {d : Dk} (h : DkOK d) : DkOK d.on := by
 obtain ⟨h1, h2, h3, h4, h5, h6, h7, h8, h9, h10⟩ := h
 exact ⟨h1, h2, h3, h4, h5, h6, by show (0 : Int) ≤ 0; omega, by show (0 : Int) ≤ _; omega, h9, h10⟩
theorem DkOK.new {cap : Int} (h : cap ≤ 1000000000) : DkOK (Dk.new cap) :=
 ⟨rfl, by show ((0 : Nat) : Int) ≤ max cap 0; omega, by show max cap 0 ≤ _; omega, List.nodup_nil, (fun p hp => absurd hp (List.not_mem_nil)), Nat.zero_le _, Int.le_refl _, (by show (0 : Int) ≤ 9223372036854775807; decide), (by show (-9223372036854775808 : Int) ≤ 0; decide), (by show (0 : Int) ≤ 9223372036854775807; decide)⟩
theorem mkeys_mput_new {κ ν : Type} [DecidableEq κ] {F : List (κ × ν)} {x : κ} {v : ν} (h : mget F x = none) : mkeys (mput F x v) = mkeys F ++ [x] := by
 rw [mput_none (mget_none_iff.1 h)]
 simp [mkeys]
theorem nodup_mput {κ ν : Type} [DecidableEq κ] {F : List (κ × ν)} {x : κ} {v : ν} (h : (mkeys F).Nodup) : (mkeys (mput F x v)).Nodup := by
 cases hg : mget F x with
 |none =>
  rw [mkeys_mput_new hg, List.nodup_append]
  refine ⟨h, by simp, ?_⟩
  intro a ha c hc
  rw [List.mem_singleton] at hc
  rintro rfl
  obtain ⟨p, hp, rfl⟩ := List.mem_map.1 ha
  exact mget_none_iff.1 hg p hp hc
 |some y => rw [mkeys_mput (by rw [hg]; rfl)]; exact h
theorem nodup_mdel {κ ν : Type} [DecidableEq κ] {F : List (κ × ν)} {x : κ} (h : (mkeys F).Nodup) : (mkeys (mdel F x)).Nodup := by
 unfold mkeys mdel
 exact List.Nodup.sublist (List.Sublist.map _ (List.filter_sublist)) h
theorem total_new {F : List (ByteArray × File)} {x : ByteArray} {f : File} (h : mget F x = none) : total (mput F x f) = total F + f.s.size := by
 rw [mput_none (mget_none_iff.1 h)]
 simp [total]
theorem total_put {F : List (ByteArray × File)} (hn : (mkeys F).Nodup) (x : ByteArray) (f : File) : total (mput F x f) + ((mget F x).getD zeroFile).s.size = total F + f.s.size := by
 cases h : mget F x with
 |none => rw [total_new h]; rfl
 |some v => exact total_mput hn h
theorem total_mdel : ∀ {F : List (ByteArray × File)} (_ : (mkeys F).Nodup) (x : ByteArray), total (mdel F x) + ((mget F x).getD zeroFile).s.size = total F
 |[], _, x => rfl
 |p :: r, hn, x => by
  unfold mkeys at hn
  rw [List.map_cons, List.nodup_cons] at hn
  by_cases e : p.1 = x
  ·have h0 : ∀ q ∈ r, q.1 ≠ x := fun q hq e2 => hn.1 (List.mem_map.2 ⟨q, hq, e2.trans e.symm⟩)
   have h1 : mdel (p :: r) x = mdel r x := by
    unfold mdel
    rw [List.filter_cons, if_neg (by simp [e])]
   rw [h1, mdel_none h0, mget_cons_eq e]
   simp [total]; omega
  ·have h1 : mdel (p :: r) x = p :: mdel r x := by
    unfold mdel
    rw [List.filter_cons, if_pos (by simpa using e)]
   rw [h1, mget_cons_ne e]
   have := total_mdel hn.2 x
   simp [total] at this ⊢; omega
theorem length_mput {κ ν : Type} [DecidableEq κ] (F : List (κ × ν)) (x : κ) (v : ν) : (mput F x v).length = if (mget F x).isSome then F.length else F.length + 1 := by
 cases h : mget F x with
 |none => rw [mput_none (mget_none_iff.1 h)]; simp
 |some y =>
  have := congrArg List.length (mkeys_mput (v := v) (by rw [h]; rfl : (mget F x).isSome = true))
  simpa [mkeys] using this
theorem length_mdel {κ ν : Type} [DecidableEq κ] : ∀ {F : List (κ × ν)} (_ : (mkeys F).Nodup) (x : κ), (mdel F x).length + (if (mget F x).isSome then 1 else 0) = F.length
 |[], _, x => rfl
 |p :: r, hn, x => by
  unfold mkeys at hn
  rw [List.map_cons, List.nodup_cons] at hn
  by_cases e : p.1 = x
  ·have h0 : ∀ q ∈ r, q.1 ≠ x := fun q hq e2 => hn.1 (List.mem_map.2 ⟨q, hq, e2.trans e.symm⟩)
   have h1 : mdel (p :: r) x = mdel r x := by
    unfold mdel
    rw [List.filter_cons, if_neg (by simp [e])]
   rw [h1, mdel_none h0, mget_cons_eq e]
   simp
  ·have h1 : mdel (p :: r) x = p :: mdel r x := by
    unfold mdel
    rw [List.filter_cons, if_pos (by simpa using e)]
   rw [h1, mget_cons_ne e]
   have := length_mdel hn.2 x
   simp only [List.length_cons]; omega
theorem DkOK.put {d : Dk} (h : DkOK d) (name : ByteArray) (f : File) (h1 : (total d.files : Int) + f.s.size - (fget d name).s.size ≤ d.cap) (h2 : f.synced ≤ f.s.size) (h3 : (mget d.files name).isSome = true ∨ d.files.length < 200) : DkOK (d.set name f false) := by
 obtain ⟨g1, g2, g3, g4, g5, g6, g7, g8, g9, g10⟩ := h
 have ht := total_put g4 name f
 have hf : ((mget d.files name).getD zeroFile) = fget d name := rfl
 rw [hf] at ht
 refine ⟨?_, ?_, g3, nodup_mput g4, ?_, ?_, g7, g8, g9, g10⟩
 ·show d.size + _ = ((total (mput d.files name f) : Nat) : Int)
  omega
 ·show ((total (mput d.files name f) : Nat) : Int) ≤ d.cap
  omega
 ·intro p hp
  rcases mem_mput hp with hp | rfl
  ·exact g5 p hp
  ·exact h2
 ·show (mput d.files name f).length ≤ 200
  rw [length_mput]
  rcases h3 with h3 | h3
  ·rw [if_pos h3]; exact g6
  ·split <;> omega
theorem DkOK.gone {d : Dk} (h : DkOK d) (name : ByteArray) (h3 : (mget d.files name).isSome = true) : DkOK (d.set name zeroFile true) := by
 obtain ⟨g1, g2, g3, g4, g5, g6, g7, g8, g9, g10⟩ := h
 have ht := total_put g4 name zeroFile
 have hf : ((mget d.files name).getD zeroFile) = fget d name := rfl
 rw [hf] at ht
 have ht2 := total_mdel (nodup_mput (x := name) (v := zeroFile) g4) name
 rw [mget_mput_same] at ht2
 have hz : zeroFile.s.size = 0 := rfl
 simp only [Option.getD_some] at ht2
 have hl := length_mdel (nodup_mput (x := name) (v := zeroFile) g4) name
 rw [mget_mput_same, length_mput, if_pos h3] at hl
 refine ⟨?_, ?_, g3, nodup_mdel (nodup_mput g4), ?_, ?_, g7, g8, g9, g10⟩
 ·show d.size + _ = ((total (mdel (mput d.files name zeroFile) name) : Nat) : Int)
  omega
 ·show ((total (mdel (mput d.files name zeroFile) name) : Nat) : Int) ≤ d.cap
  omega
 ·intro p hp
  rcases mem_mput (List.mem_filter.1 hp).1 with hp | rfl
  ·exact g5 p hp
  ·exact Nat.le_refl _
 ·show (mdel (mput d.files name zeroFile) name).length ≤ 200
  omega
theorem DkOK.file {d : Dk} (h : DkOK d) {name : ByteArray} {f : File} (hf : mget d.files name = some f) : f.synced ≤ f.s.size ∧ f.s.size ≤ total d.files :=
 ⟨h.sync _ (mget_mem hf), mem_total (mget_mem hf)⟩
theorem DkOK.fget_le {d : Dk} (h : DkOK d) (name : ByteArray) : (fget d name).s.size ≤ 1000000000 := by
 unfold fget
 cases hf : mget d.files name with
 |none => exact Nat.zero_le _
 |some f => exact Nat.le_trans (h.file hf).2 h.le
end
section
open Go.RowKit Go.Maps Go.MapKept Go.ChangeMaps
def addTo (s : ByteArray) (f : File) : File := ⟨f.s ++ s, f.synced⟩
def Dk.full (d : Dk) (name s : ByteArray) : Bool := (mget d.files name).isSome && !d.off && decide (d.cap < d.size + s.size)
def Dk.append (d : Dk) (name s : ByteArray) : Dk := if d.full name s then d else d.thereD name (fun f => d.tick.set name (addTo s f) false)
def Dk.appendE (d : Dk) (name s : ByteArray) : Int := if d.full name s then 2 else d.thereE name
theorem append1_enters (f ps pd pn : Value) : ∀ w, (callFunc 143 #[f, ps, pd, pn]).run Tryz.prog w = .ok (.enter 143 #[f, ps, pd, pn]) w := fun w => by kernel_rfl
theorem append1_any (w : World) (b bm qs qd qn : Nat) (d : Dk) (f : File) (name s : ByteArray) (hd : DiskAt w b bm d) (hname : name.size ≤ maxLen)
  (h1 : w.cell? ⟨qs, 0, none⟩ = some (.string s)) (h2 : w.cell? ⟨qd, 0, none⟩ = some (.pointer (some ⟨b, 0, none⟩))) (h3 : w.cell? ⟨qn, 0, none⟩ = some (.string name))
  (g0 : 0 ≤ d.size) (g1 : d.size ≤ 1000000000) (g2 : f.s.size + s.size ≤ 1000000000) (g3 : (fget d name).s.size ≤ 1000000000) :
  Calls Tryz.prog 143 #[.agg #[.string f.s, .int .i64 f.synced], .pointer (some ⟨qs, 0, none⟩), .pointer (some ⟨qd, 0, none⟩), .pointer (some ⟨qn, 0, none⟩)] w fun e w' => e = .returned (.tuple #[]) ∧ DiskAt w' b bm (d.set name (addTo s f) false) ∧ Fp [b, bm] w w' := by
 have hfa := Fp.alloc w (.cells #[.string (f.s ++ s), .int .i64 f.synced] 193)
 have hset := set_any (w.alloc (.cells #[.string (f.s ++ s), .int .i64 f.synced] 193)) b bm d name (addTo s f) false (hd.of_fp hfa (by simp) (by simp)) hname g0 g1 (by unfold addTo; simp; omega) g3
 change Calls Tryz.prog _ #[_, _, .agg #[.string (f.s ++ s), .int .i64 f.synced], _] _ _ at hset
 have k1 : qs < w.heap.size := World.block_lt_of_cell? _ _ h1
 have k2 : qd < w.heap.size := World.block_lt_of_cell? _ _ h2
 have k3 : qn < w.heap.size := World.block_lt_of_cell? _ _ h3
 have HS := Lib.hid hset
 have HFA := Lib.hid hfa
 clear hset hd hfa
 go_enter Tryz.func143, Tryz.ntmps143
 go_wp2_with (fail)
 refine HS.out.mono ?_
 rintro e w2 ⟨rfl, hd2, hf2, _⟩
 have HD2 := Lib.hid hd2
 clear hd2
 go_wp2_with (fail)
 go_end0
 exact ⟨rfl, HD2.out, (HFA.out.mono (by simp)).trans hf2 (by simp)⟩
theorem box_fp {w w1 : World} {b q : Nat} {v : Value} (hf : Fp [b] w w1) (hb : b ≠ q) (h : w.cell? ⟨q, 0, none⟩ = some v) : w1.cell? ⟨q, 0, none⟩ = some v := by
 rw [hf.cell (World.block_lt_of_cell? _ _ h) (by simpa using Ne.symm hb)]; exact h
theorem named_zero {d : Dk} {l : List ByteArray} (h : d.named l = 0) : d.off = false := by
 unfold Dk.named at h
 cases ho : d.off
 ·rfl
 ·rw [ho] at h; simp at h
theorem append_gate (w : World) (b bm qs qd qn : Nat) (d : Dk) (name s : ByteArray) (hok : DkOK d) (hname : name.size ≤ maxLen) (hfull : d.full name s = false) (hs : s.size ≤ 1000000000)
  (h1 : w.cell? ⟨qs, 0, none⟩ = some (.string s)) (h2 : w.cell? ⟨qd, 0, none⟩ = some (.pointer (some ⟨b, 0, none⟩))) (h3 : w.cell? ⟨qn, 0, none⟩ = some (.string name)) (n1 : b ≠ qs) (n2 : b ≠ qd) (n3 : b ≠ qn) :
  d.named [name] = 0 → ∀ f, mget d.files name = some f → DkOK (d.tick.set name (addTo s f) false) ∧ (d.does true = true → TurnsF w b bm d.tick f (d.tick.set name (addTo s f) false) 143 #[.pointer (some ⟨qs, 0, none⟩), .pointer (some ⟨qd, 0, none⟩), .pointer (some ⟨qn, 0, none⟩)]) ∧ (d.does true = false → d.tick.set name (addTo s f) false = d.tick) := by
 intro hn f hf
 have ho := named_zero hn
 have hfit : d.size + s.size ≤ d.cap := by
  unfold Dk.full at hfull
  rw [hf, ho] at hfull
  simpa using hfull
 have hfile := hok.file hf
 have hz := hok.size
 have hcp := hok.caps
 have hfg : fget d.tick name = f := by
  show (mget d.files name).getD zeroFile = f
  rw [hf]; rfl
 refine ⟨hok.tick.put name _ ?_ ?_ (Or.inl (by show (mget d.files name).isSome = true; rw [hf]; rfl)), fun _ => ⟨append1_enters _ _ _ _, fun w1 hd1 hf1 => ?_⟩, fun h => by simp [Dk.does] at h⟩
 ·rw [hfg]
  show (total d.files : Int) + ((f.s ++ s).size : Nat) - f.s.size ≤ d.cap
  simp only [ByteArray.size_append]
  omega
 ·show f.synced ≤ (f.s ++ s).size
  simp only [ByteArray.size_append]
  omega
 ·refine append1_any w1 b bm qs qd qn d.tick f name s hd1 hname (box_fp hf1 n1 h1) (box_fp hf1 n2 h2) (box_fp hf1 n3 h3) (by show 0 ≤ d.size; omega) (by show d.size ≤ _; omega) (by omega) (hok.tick.fget_le name)
theorem append_any (w : World) (b bm : Nat) (d : Dk) (name s : ByteArray) (hd : DiskAt w b bm d) (hok : DkOK d) (hname : name.size ≤ maxLen) (hs : s.size ≤ 1000000000) :
  Calls Tryz.prog 77 #[.pointer (some ⟨b, 0, none⟩), .string name, .string s] w fun e w' => e = .returned (.int .i64 (d.appendE name s)) ∧ DiskAt w' b bm (d.append name s) ∧ Fp [b, bm] w w' := by
 have hlt := heap_lt hd.cells
 have hlt1 : b < w.heap.size + 1 := by omega
 have hlt2 : b < w.heap.size + 1 + 1 := by omega
 have hlt3 : b < w.heap.size + 1 + 1 + 1 := by omega
 have c0 : w.cell? ⟨b, 0, none⟩ = some (.int .i64 d.cap) := cell_of_block hd.cells 0
 have c1 : w.cell? ⟨b, 1, none⟩ = some (.int .i64 d.size) := cell_of_block hd.cells 1
 have c2 : w.cell? ⟨b, 2, none⟩ = some (.map (some bm)) := cell_of_block hd.cells 2
 have c3 : w.cell? ⟨b, 3, none⟩ = some (.bool d.off) := cell_of_block hd.cells 3
 have hfp : Fp [] w (((w.alloc (.cells #[.pointer (some ⟨b, 0, none⟩)] 26)).alloc (.cells #[.string name] 9)).alloc (.cells #[.string s] 9)) := ((Fp.alloc _ _).alloc' _).alloc' _
 have hlg : ∀ W, Fp [] w W → (Instr.lookup 51 (.map (some bm)) (.string name) true).run Tryz.prog W = .ok (.tuple #[.agg #[.string (fget d name).s, .int .i64 (fget d name).synced], .bool (mget d.files name).isSome]) W := fun W hf => (hd.of_fp hf (by simp) (by simp)).files.lookup true hname
 have hl := hlg _ hfp.drew'
 have hl2 := hlg _ (hfp.alloc' (.cells #[.string ⟨#[]⟩, .int .i64 0] 193)).drew'
 clear hlg
 obtain ⟨W, hW⟩ : ∃ W, W = ((((w.alloc (.cells #[.pointer (some ⟨b, 0, none⟩)] 26)).alloc (.cells #[.string name] 9)).alloc (.cells #[.string s] 9)).alloc (.cells #[.string (fget d name).s, .int .i64 (fget d name).synced] 193)) := ⟨_, rfl⟩
 have hfW : Fp [] w W := by rw [hW]; exact hfp.alloc' _
 have hb1 : W.heap[w.heap.size]? = some (.cells #[.pointer (some ⟨b, 0, none⟩)] 26 (0, 0)) := by
  rw [hW, Below.heap_alloc _ _ _ (by simp <;> omega), Below.heap_alloc _ _ _ (by simp <;> omega), Below.heap_alloc _ _ _ (by simp <;> omega)]
  exact heap_alloc_at rfl _
 have hb2 : W.heap[w.heap.size + 1]? = some (.cells #[.string name] 9 (0, 0)) := by
  rw [hW, Below.heap_alloc _ _ _ (by simp <;> omega), Below.heap_alloc _ _ _ (by simp <;> omega)]
  exact heap_alloc_at (by simp) _
 have hb3 : W.heap[w.heap.size + 1 + 1]? = some (.cells #[.string s] 9 (0, 0)) := by
  rw [hW, Below.heap_alloc _ _ _ (by simp <;> omega)]
  exact heap_alloc_at (by simp) _
 have hth : d.full name s = false → ∀ W', W'.heap = W.heap → Fp [] w W' → Calls Tryz.prog 142 #[.pointer (some ⟨b, 0, none⟩), .string name, .bool true, .func (.func 143) #[] #[.pointer (some ⟨w.heap.size + 1 + 1, 0, none⟩), .pointer (some ⟨w.heap.size, 0, none⟩), .pointer (some ⟨w.heap.size + 1, 0, none⟩)]] W' fun e w' => e = .returned (.int .i64 (d.thereE name)) ∧ DiskAt w' b bm (d.thereD name (fun f => d.tick.set name (addTo s f) false)) ∧ Fp [b, bm] W' w' := by
  intro hfull W' hh hf
  refine there_any W' b bm d name true 143 _ _ (hd.of_fp hf (by simp) (by simp)) hok hname (append_gate W' b bm (w.heap.size + 1 + 1) w.heap.size (w.heap.size + 1) d name s hok hname hfull hs ?_ ?_ ?_ (by omega) (by omega) (by omega))
  ·exact cell_of_block (by rw [hh]; exact hb3) 0
  ·exact cell_of_block (by rw [hh]; exact hb1) 0
  ·exact cell_of_block (by rw [hh]; exact hb2) 0
 have HD := Lib.hid hd
 have HTH := Lib.hid hth
 have HW := Lib.hid hW
 have HFW := Lib.hid hfW
 have hz := hok.size
 have hz1 : 0 ≤ d.size := by omega
 have hz2 : d.size ≤ 1000000000 := by have := hok.le; omega
 clear hd hth hW hfW hb1 hb2 hb3 hz
 obtain ⟨is, his⟩ : ∃ is, is = (mget d.files name).isSome := ⟨_, rfl⟩
 obtain ⟨off, hoff⟩ : ∃ off, off = d.off := ⟨_, rfl⟩
 rw [← his] at hl hl2
 rw [← hoff] at c3
 have HF : Hid (d.full name s = (is && !off && decide (d.cap < d.size + s.size))) := by unfold Hid Dk.full; rw [← his, ← hoff]
 clear his hoff
 have hlast : d.full name s = true → d.appendE name s = 2 ∧ d.append name s = d := fun h => by unfold Dk.appendE Dk.append; rw [h]; exact ⟨rfl, rfl⟩
 have hlast2 : d.full name s = false → d.appendE name s = d.thereE name ∧ d.append name s = d.thereD name (fun f => d.tick.set name (addTo s f) false) := fun h => by unfold Dk.appendE Dk.append; rw [h]; exact ⟨rfl, rfl⟩
 have HL1 := Lib.hid hlast
 have HL2 := Lib.hid hlast2
 clear hlast hlast2
 have hcase : (is = true ∧ off = false ∧ d.cap < d.size + s.size) ∨ is = false ∨ (is = true ∧ off = true) ∨ (is = true ∧ off = false ∧ ¬ d.cap < d.size + s.size) := by
  cases is <;> cases off <;> simp <;> omega
 rcases hcase with ⟨rfl, rfl, hfull⟩ | rfl | ⟨rfl, rfl⟩ | ⟨rfl, rfl, hfull⟩
 ·have HFF : Hid (d.full name s = true) := by unfold Hid; rw [HF.out]; simpa using hfull
  clear HTH
  go_enter Tryz.func77, Tryz.ntmps77
  go_wp2_with (fail)
  go_region
  all_goals
   go_wp2_with (fail)
   go_quiet (fail)
   go_wp2_with (fail)
   go_ret
   refine ⟨by rw [(HL1.out HFF.out).1]; rfl, ?_, ?_⟩
   ·rw [(HL1.out HFF.out).2]
    exact HD.out.of_fp (S := []) ((((HW.out ▸ HFW.out).drew').trans (Fp.drewN _ _) (by simp))) (by simp) (by simp)
   ·exact ((((HW.out ▸ HFW.out).drew').trans (Fp.drewN _ _) (by simp))).mono (by simp)
 all_goals
  have HFF : Hid (d.full name s = false) := by unfold Hid; rw [HF.out]; simp <;> omega
  have HT : ∀ n, Hid (Calls Tryz.prog 142 #[.pointer (some ⟨b, 0, none⟩), .string name, .bool true, .func (.func 143) #[] #[.pointer (some ⟨w.heap.size + 1 + 1, 0, none⟩), .pointer (some ⟨w.heap.size, 0, none⟩), .pointer (some ⟨w.heap.size + 1, 0, none⟩)]] (W.drewN n) fun e w' => e = .returned (.int .i64 (d.thereE name)) ∧ DiskAt w' b bm (d.thereD name (fun f => d.tick.set name (addTo s f) false)) ∧ Fp [b, bm] (W.drewN n) w') := fun n => HTH.out HFF.out _ rfl (HFW.out.trans (Fp.drewN _ _) (by simp))
  rw [HW.out] at HT
  clear HTH
  go_enter Tryz.func77, Tryz.ntmps77
  go_wp2_with (fail)
  go_region
  all_goals
   go_wp2_with (fail)
   go_quiet (fail)
   go_wp2_with (fail)
   refine (HT _).out.mono ?_
   rintro e w2 ⟨rfl, hd2, hf2⟩
   have HD2 := Lib.hid hd2
   clear hd2
   go_wp2_with (fail)
   go_ret
   refine ⟨by rw [(HL2.out HFF.out).1]; rfl, by rw [(HL2.out HFF.out).2]; exact HD2.out, ?_⟩
   exact ((((HW.out ▸ HFW.out).trans (Fp.drewN _ _) (by simp))).mono (by simp)).trans hf2 (by simp)
end
end Go.Proofs.YtkjmgbifoaoefaaGreatDoor
