/-
  The disk's gate: act and there.
-/
import Derived.Test.YtmadkoebopfhoaaVdCrash
namespace Go.Proofs.Ytmadkoebopfhoaa
open Go.RowKit Go.Maps Go.MapKept Go.ChangeMaps

def Dk.tick (d : Dk) : Dk := { d with left := max (d.left - 1) 0 }
/-- whether the gate lets it be done -/
def Dk.does (d : Dk) (always : Bool) : Bool := d.left != 1 || always || d.keep.tmod 2 != 0
/-- what the gate makes of what was done -/
def Dk.burnt (d d2 : Dk) : Dk := if d.left = 1 then d2.crash d2.keep else d2
def Dk.told (d : Dk) : Int := if d.left = 1 then 6 else 0

/-- a call that turns the disk to d2, and answers nothing -/
structure Turns (w : World) (b bm : Nat) (d d2 : Dk) (K : Nat) (caps : Array Value) : Prop where
  enters : ∀ w, (callFunc K caps).run Try.prog w = .ok (.enter K caps) w
  calls : ∀ w1, DiskAt w1 b bm d → Fp [b] w w1 → Calls Try.prog K caps w1 fun e w' => e = .returned (.tuple #[]) ∧ DiskAt w' b bm d2 ∧ Fp [b, bm] w1 w'

theorem dk_setLeft {w : World} {b bm : Nat} {d : Dk} (h : DiskAt w b bm d) (n : Int) : DiskAt (w.setCell ⟨b, 4, none⟩ (.int .i64 n)) b bm { d with left := n } :=
  ⟨by rw [heap_setCell_same h.cells]; rfl, h.files.of_block (heap_setCell_other (Ne.symm h.ne) _)⟩

set_option maxHeartbeats 1000000 in
theorem act_calm (w : World) (b bm : Nat) (d d2 : Dk) (always : Bool) (K : Nat) (caps : Array Value) (hd : DiskAt w b bm d) (hok : DkOK d) (hl : d.left ≠ 1) (hdo : Turns w b bm d.tick d2 K caps) :
    Calls Try.prog 23 #[.pointer (some ⟨b, 0, none⟩), .bool always, .func (.func K) #[] caps] w fun e w' => e = .returned (.int .i64 d.told) ∧ DiskAt w' b bm (d.burnt d2) ∧ Fp [b, bm] w w' := by
  have c4 : w.cell? ⟨b, 4, none⟩ = some (.int .i64 d.left) := cell_of_block hd.cells 4
  have f4 : w.frozen? ⟨b, 4, none⟩ = false := frozen_of_block hd.cells 4
  have hl0 := hok.left0
  have hl1 := hok.left1
  have HD := Lib.hid hd
  have HDO := Lib.hid hdo
  have HT : Hid (d.told = 0) := if_neg hl
  have HB : Hid (d.burnt d2 = d2) := if_neg hl
  have HL := Lib.hid hl
  have hlb : (d.left == 1) = false := by simpa using hl
  clear hd hdo hl hok
  have hen := HDO.out.enters
  by_cases hz : 1 ≤ d.left
  · have hc := HDO.out.calls _ (show DiskAt (w.setCell ⟨b, 4, none⟩ (.int .i64 (d.left - 1))) b bm d.tick from by
      have := dk_setLeft HD.out (d.left - 1); unfold Dk.tick; rwa [Int.max_eq_left (by omega)]) (Fp.setCell w ⟨b, 4, none⟩ _)
    have HC := Lib.hid hc
    clear hc
    go_enter Try.func23, Try.ntmps23
    go_wp2_with (fail)
    refine HC.out.mono ?_
    rintro e w2 ⟨rfl, hd2, hf2⟩
    have HD2 := Lib.hid hd2
    clear hd2
    go_wp2_with (fail)
    go_ret
    exact ⟨by rw [HT.out]; rfl, by rw [HB.out]; exact HD2.out, ((Fp.setCell _ _ _).mono (by simp)).trans hf2 (by simp)⟩
  · have hc := HDO.out.calls _ (show DiskAt (w.setCell ⟨b, 4, none⟩ (.int .i64 0)) b bm d.tick from by
      have := dk_setLeft HD.out 0; unfold Dk.tick; rwa [Int.max_eq_right (by omega)]) (Fp.setCell w ⟨b, 4, none⟩ _)
    have HC := Lib.hid hc
    clear hc
    go_enter Try.func23, Try.ntmps23
    go_wp2_with (fail)
    refine HC.out.mono ?_
    rintro e w2 ⟨rfl, hd2, hf2⟩
    have HD2 := Lib.hid hd2
    clear hd2
    go_wp2_with (fail)
    go_ret
    exact ⟨by rw [HT.out]; rfl, by rw [HB.out]; exact HD2.out, ((Fp.setCell _ _ _).mono (by simp)).trans hf2 (by simp)⟩

set_option maxHeartbeats 1000000 in
theorem act_burns (w : World) (b bm : Nat) (d d2 : Dk) (always : Bool) (K : Nat) (caps : Array Value) (hd : DiskAt w b bm d) (hok : DkOK d2) (hl : d.left = 1) (hdo : d.does always = true → Turns w b bm d.tick d2 K caps) (hno : d.does always = false → d2 = d.tick) :
    Calls Try.prog 23 #[.pointer (some ⟨b, 0, none⟩), .bool always, .func (.func K) #[] caps] w fun e w' => e = .returned (.int .i64 d.told) ∧ DiskAt w' b bm (d.burnt d2) ∧ Fp [b, bm] w w' := by
  have c4 : w.cell? ⟨b, 4, none⟩ = some (.int .i64 1) := by rw [← hl]; exact cell_of_block hd.cells 4
  have c5 : w.cell? ⟨b, 5, none⟩ = some (.int .i64 d.keep) := cell_of_block hd.cells 5
  have f4 : w.frozen? ⟨b, 4, none⟩ = false := frozen_of_block hd.cells 4
  have hd1 : DiskAt (w.setCell ⟨b, 4, none⟩ (.int .i64 0)) b bm d.tick := by
    have := dk_setLeft hd 0
    unfold Dk.tick
    rw [hl]
    exact this
  have HT : Hid (d.told = 6) := if_pos hl
  have HB : Hid (d.burnt d2 = d2.crash d2.keep) := if_pos hl
  have HD := Lib.hid hd
  have HD1 := Lib.hid hd1
  have HDO := Lib.hid hdo
  have HNO := Lib.hid hno
  have HL := Lib.hid hl
  clear hd hd1 hdo hno hl
  cases hdoes : d.does always
  · have hd2 := HNO.out hdoes
    have hcr := crash_any _ b bm d2 d2.keep (hd2 ▸ HD1.out) hok hok.keep0 hok.keep1
    have hkk : d2.keep = d.keep := by rw [hd2]; rfl
    rw [hkk] at hcr
    have HCR := Lib.hid hcr
    have ha : always = false ∧ (d.keep.tmod 2 != 0) = false := by
      unfold Dk.does at hdoes
      rw [HL.out] at hdoes
      simpa using hdoes
    have HKK := Lib.hid hkk
    obtain ⟨rfl, hk⟩ := ha
    clear hcr hdoes hd2 hkk
    go_enter Try.func23, Try.ntmps23
    go_wp2_with (fail)
    refine HCR.out.mono ?_
    rintro e w2 ⟨rfl, hd2, hf2⟩
    have HD2 := Lib.hid hd2
    clear hd2
    go_wp2_with (fail)
    go_ret
    exact ⟨by rw [HT.out]; rfl, by rw [HB.out, HKK.out]; exact HD2.out, ((Fp.setCell w ⟨b, 4, none⟩ _).mono (by simp)).trans hf2 (by simp)⟩
  · have htu := HDO.out hdoes
    have hen := htu.enters
    have hc := htu.calls _ HD1.out (Fp.setCell w ⟨b, 4, none⟩ _)
    have HC := Lib.hid hc
    have ha : always = true ∨ always = false ∧ (d.keep.tmod 2 != 0) = true := by
      unfold Dk.does at hdoes
      rw [HL.out] at hdoes
      cases always
      · right; simpa using hdoes
      · left; rfl
    clear hc htu hdoes
    rcases ha with rfl | ⟨rfl, hk⟩
    all_goals
      go_enter Try.func23, Try.ntmps23
      go_wp2_with (fail)
      refine HC.out.mono ?_
      rintro e w2 ⟨rfl, hd2, hf2⟩
      have HD2 := Lib.hid hd2
      have c5' : w2.cell? ⟨b, 5, none⟩ = some (.int .i64 d2.keep) := cell_of_block hd2.cells 5
      clear hd2
      go_wp2_with (fail)
      refine (crash_any _ b bm d2 d2.keep HD2.out hok hok.keep0 hok.keep1).mono ?_
      rintro e w3 ⟨rfl, hd3, hf3⟩
      have HD3 := Lib.hid hd3
      clear hd3
      go_wp2_with (fail)
      go_ret
      exact ⟨by rw [HT.out]; rfl, by rw [HB.out]; exact HD3.out, (((Fp.setCell w ⟨b, 4, none⟩ _).mono (by simp)).trans hf2 (by simp)).trans hf3 (by simp)⟩

theorem act_any (w : World) (b bm : Nat) (d d2 : Dk) (always : Bool) (K : Nat) (caps : Array Value) (hd : DiskAt w b bm d) (hok : DkOK d) (hok2 : DkOK d2) (hdo : d.does always = true → Turns w b bm d.tick d2 K caps) (hno : d.does always = false → d2 = d.tick) :
    Calls Try.prog 23 #[.pointer (some ⟨b, 0, none⟩), .bool always, .func (.func K) #[] caps] w fun e w' => e = .returned (.int .i64 d.told) ∧ DiskAt w' b bm (d.burnt d2) ∧ Fp [b, bm] w w' := by
  by_cases hl : d.left = 1
  · exact act_burns w b bm d d2 always K caps hd hok2 hl hdo hno
  · exact act_calm w b bm d d2 always K caps hd hok hl (hdo (by simp [Dk.does, hl]))
end Go.Proofs.Ytmadkoebopfhoaa
