/-
  The reader of bytes: numbers and flags.
-/
import Derived.Test.YtlpfijkchbpdmaaDoorCellRead
namespace Go.Proofs.YtlpfijkchbpdmaaDoor
open Go.RowKit

set_option maxHeartbeats 1000000 in
theorem rnumber_any (w : World) (b : Nat) (r : Rd) (hr : RdAt w b r) (hs : r.rest.size ≤ 9223372036854775807) :
    Calls Tryd.prog 33 #[.pointer (some ⟨b, 0, none⟩)] w fun e w' => e = .returned (.int .u64 r.number.1) ∧ RdAt w' b r.number.2 ∧ Fp [b] w w' := by
  have h1 := take_any w b 8 r hr (by omega) hs
  have HT : Hid (r.number = (leN (r.take 8).1 8, (r.take 8).2)) := rfl
  have hsz := take_size r 8
  obtain ⟨q, hp⟩ : ∃ q, r.take 8 = q := ⟨_, rfl⟩
  rw [hp] at h1 HT hsz
  obtain ⟨s1, r1⟩ := q
  simp only at h1 HT hsz
  have H1 := Lib.hid h1
  clear h1 hp hr
  go_enter Tryd.func33, Tryd.ntmps33
  go_wp2_with (fail)
  refine H1.out.mono ?_
  rintro e w1 ⟨rfl, hr1, hf1⟩
  have HR1 := Lib.hid hr1
  have HF1 := Lib.hid hf1
  clear hr1 hf1
  go_wp2_with (fail)
  refine (number_any w1 s1 (by omega) (by omega)).mono ?_
  rintro e w2 ⟨rfl, hf2⟩
  have HR2 := Lib.hid ((hf2.block b (heap_lt HR1.out) (by simp)).trans HR1.out)
  have HF2 := Lib.hid (HF1.out.trans hf2 (by simp))
  clear hf2
  go_wp2_with (fail)
  go_ret
  rw [HT.out]
  exact ⟨rfl, HR2.out, HF2.out⟩

def Rd.flag (r : Rd) : Bool × Rd := (atB (r.take 1).1 0 == 1, if (r.take 1).2.e = 0 ∧ 1 < (atB (r.take 1).1 0).toNat then ⟨(r.take 1).2.rest, 1⟩ else (r.take 1).2)

set_option maxHeartbeats 1000000 in
theorem flag_any (w : World) (b : Nat) (r : Rd) (hr : RdAt w b r) (hs : r.rest.size ≤ 9223372036854775807) :
    Calls Tryd.prog 34 #[.pointer (some ⟨b, 0, none⟩)] w fun e w' => e = .returned (.bool r.flag.1) ∧ RdAt w' b r.flag.2 ∧ Fp [b] w w' := by
  have h1 := take_any w b 1 r hr (by omega) hs
  have HT : Hid (r.flag = (atB (r.take 1).1 0 == 1, if (r.take 1).2.e = 0 ∧ 1 < (atB (r.take 1).1 0).toNat then ⟨(r.take 1).2.rest, 1⟩ else (r.take 1).2)) := rfl
  have hsz := take_size r 1
  obtain ⟨q, hp⟩ : ∃ q, r.take 1 = q := ⟨_, rfl⟩
  rw [hp] at h1 HT hsz
  obtain ⟨s1, r1⟩ := q
  simp only at h1 HT hsz
  have hpos : 0 < s1.size := by omega
  have hat := at_index hpos
  obtain ⟨y, hy⟩ : ∃ y, y = atB s1 0 := ⟨_, rfl⟩
  rw [← hy] at hat HT
  have hb8 : y.toNat < 256 := y.toNat_lt
  have H1 := Lib.hid h1
  have hone : ((y.toNat : Int) == 1) = (y == 1) := by
    by_cases e : y = 1
    · subst e; rfl
    · have h2 : y.toNat ≠ 1 := fun h => e (UInt8.toNat_inj.1 h)
      have h3 : ¬ (y.toNat : Int) = 1 := by omega
      rw [beq_eq_false_iff_ne.2 e, beq_eq_false_iff_ne.2 h3]
  have HONE := Lib.hid hone
  clear h1 hp hr hy hone
  go_enter Tryd.func34, Tryd.ntmps34
  go_wp2_with (fail)
  refine H1.out.mono ?_
  rintro e w1 ⟨rfl, hr1, hf1⟩
  have c1 : w1.cell? ⟨b, 1, none⟩ = some (.int .i64 r1.e) := cell_of_block hr1 1
  have f1 : w1.frozen? ⟨b, 1, none⟩ = false := frozen_of_block hr1 1
  have hlt := heap_lt hr1
  have HR1 := Lib.hid hr1
  have HF1 := Lib.hid hf1
  clear hr1 hf1
  obtain ⟨rest, e⟩ := r1
  simp only at c1
  by_cases he : e = 0
  · subst he
    by_cases h1 : 1 < y.toNat
    · have t1 : (1 : Int) < (y.toNat : Int) := by omega
      go_wp2_with (fail)
      go_ret
      rw [HT.out, if_pos (by simp [h1])]
      refine ⟨ret_bool HONE.out, ?_, HF1.out.trans (Fp.setCell w1 ⟨b, 1, none⟩ _) (by simp)⟩
      unfold RdAt
      rw [heap_setCell_same HR1.out]
      rfl
    · have t1 : ¬ (1 : Int) < (y.toNat : Int) := by omega
      go_wp2_with (fail)
      go_ret
      rw [HT.out, if_neg (fun h => h1 h.2)]
      exact ⟨ret_bool HONE.out, HR1.out, HF1.out⟩
  · have t1 : (e == 0) = false := by simpa using he
    go_wp2_with (fail)
    go_ret
    rw [HT.out, if_neg (fun h => he h.1)]
    exact ⟨ret_bool HONE.out, HR1.out, HF1.out⟩
end Go.Proofs.YtlpfijkchbpdmaaDoor
