/-
  The small case of layer 1, and the bound.
-/
import Derived.Test.YtlpfijkchbpdmaaDoorCellLaw2
import Derived.Outline
namespace Go.Proofs.YtlpfijkchbpdmaaDoor
open Go.RowKit

def bdB (c : Cel) : Bool := decide (c.row.size ≤ 200 ∧ c.col.size ≤ 200 ∧ c.val.size ≤ 300)

set_option maxRecDepth 100000 in
set_option maxHeartbeats 1000000 in
theorem bounded_any (c : Cel) (w : World) (hc : CelOK c) : Calls Tryd.prog 11 #[cellV c] w fun e w' => e = .returned (.bool (bdB c)) ∧ Fp [] w w' := by
  obtain ⟨h1, h2, h3, h4, h5⟩ := hc
  have HB : Hid (bdB c = decide (c.row.size ≤ 200 ∧ c.col.size ≤ 200 ∧ c.val.size ≤ 300)) := rfl
  unfold cellV
  by_cases k1 : c.row.size ≤ 200
  · by_cases k2 : c.col.size ≤ 200
    · by_cases k3 : c.val.size ≤ 300
      · go_enter Tryd.func11, Tryd.ntmps11
        go_wp2_with (fail)
        go_ret
        exact ⟨ret_bool (by rw [HB.out]; simp [*]; omega), Fp.alloc _ _⟩
      · go_enter Tryd.func11, Tryd.ntmps11
        go_wp2_with (fail)
        go_ret
        exact ⟨ret_bool (by rw [HB.out]; simp [*]; omega), Fp.alloc _ _⟩
    · go_enter Tryd.func11, Tryd.ntmps11
      go_wp2_with (fail)
      go_ret
      exact ⟨ret_bool (by rw [HB.out]; simp [*]), Fp.alloc _ _⟩
  · go_enter Tryd.func11, Tryd.ntmps11
    go_wp2_with (fail)
    go_ret
    exact ⟨ret_bool (by rw [HB.out]; simp [*]), Fp.alloc _ _⟩

def ca : Cel := ⟨⟨#[114]⟩, ⟨#[99]⟩, 5, 0, false, ⟨#[118]⟩⟩
def cb : Cel := ⟨⟨#[114]⟩, ⟨#[99]⟩, 4, 0, false, ⟨#[]⟩⟩
theorem ca_ok : CelOK ca := ⟨by decide, by decide, by decide, by decide, by decide⟩
theorem cb_ok : CelOK cb := ⟨by decide, by decide, by decide, by decide, by decide⟩
theorem ca_may : mayB ca = true := by decide
theorem ca_key : (⟨(keyL ca).toArray⟩ : ByteArray).size = 22 := by decide

set_option maxRecDepth 100000 in
set_option maxHeartbeats 4000000 in
theorem shown_any (w : World) (hm : MaxAt w) : Calls Tryd.prog 12 #[] w fun e w' => e = .returned (.bool true) ∧ Fp [] w w' := by
  have e1 : ∀ w, Calls Tryd.prog 13 #[.agg #[.string ⟨#[114]⟩, .string ⟨#[99]⟩, .int .u64 5, .int .u64 0, .bool false, .string ⟨#[118]⟩]] w fun e w' => e = .returned (.tuple #[.string ⟨(encL ca).toArray⟩, .int .i64 0]) ∧ Fp [] w w' := fun w => enc_yes ca w ca_ok ca_may
  have hd : decP (⟨(encL ca).toArray⟩ ++ ⟨#[120]⟩) = (ca, ⟨#[120]⟩, 0) := by
    have h := dec_enc ca ca_ok ca_may [120]
    have e : (⟨(encL ca).toArray⟩ ++ ⟨#[120]⟩ : ByteArray) = bl (encL ca ++ [120]) := by decide
    rw [e, h]; rfl
  have d1 := fun w => dec_any (⟨(encL ca).toArray⟩ ++ ⟨#[120]⟩) w (by decide)
  rw [hd] at d1
  have d2 : ∀ w, Calls Tryd.prog 15 #[.string (⟨(encL ca).toArray⟩ ++ ⟨#[120]⟩)] w fun e w' => e = .returned (.tuple #[.agg #[.string ⟨#[114]⟩, .string ⟨#[99]⟩, .int .u64 5, .int .u64 0, .bool false, .string ⟨#[118]⟩], .string ⟨#[120]⟩, .int .i64 0]) ∧ Fp [] w w' := d1
  have c1 : ∀ w, Calls Tryd.prog 19 #[.agg #[.string ⟨#[114]⟩, .string ⟨#[99]⟩, .int .u64 5, .int .u64 0, .bool false, .string ⟨#[118]⟩], .agg #[.string ⟨#[114]⟩, .string ⟨#[99]⟩, .int .u64 4, .int .u64 0, .bool false, .string ⟨#[]⟩]] w fun e w' => e = .returned (.int .i64 (-1)) ∧ Fp [] w w' := by
    have : cmpC ca cb = -1 := by decide
    intro w; rw [← this]; exact cmp_any ca cb w
  have c2 : ∀ w, Calls Tryd.prog 19 #[.agg #[.string ⟨#[114]⟩, .string ⟨#[99]⟩, .int .u64 4, .int .u64 0, .bool false, .string ⟨#[]⟩], .agg #[.string ⟨#[114]⟩, .string ⟨#[99]⟩, .int .u64 5, .int .u64 0, .bool false, .string ⟨#[118]⟩]] w fun e w' => e = .returned (.int .i64 1) ∧ Fp [] w w' := by
    have : cmpC cb ca = 1 := by decide
    intro w; rw [← this]; exact cmp_any cb ca w
  have m1 : ∀ w, Calls Tryd.prog 17 #[.agg #[.string ⟨#[114]⟩, .string ⟨#[99]⟩, .int .u64 5, .int .u64 0, .bool false, .string ⟨#[118]⟩]] w fun e w' => e = .returned (.bool true) ∧ Fp [] w w' := by
    intro w; rw [← ca_may]; exact may_any ca w ca_ok
  have k1 : ∀ w, MaxAt w → Calls Tryd.prog 18 #[.agg #[.string ⟨#[114]⟩, .string ⟨#[99]⟩, .int .u64 5, .int .u64 0, .bool false, .string ⟨#[118]⟩]] w fun e w' => e = .returned (.string ⟨(keyL ca).toArray⟩) ∧ Fp [] w w' := fun w hm => key_yes ca w ca_ok ca_may hm
  obtain ⟨ks, hks⟩ : ∃ ks, ks = (⟨(keyL ca).toArray⟩ : ByteArray) := ⟨_, rfl⟩
  have hk22 := ca_key
  rw [← hks] at k1 hk22
  obtain ⟨es, hes⟩ : ∃ es, es = (⟨(encL ca).toArray⟩ : ByteArray) := ⟨_, rfl⟩
  have hz : es.size ≤ 100 := by rw [hes]; decide
  rw [← hes] at e1 d2
  have E1 := Lib.hid e1
  have D1 := Lib.hid d2
  have C1 := Lib.hid c1
  have C2 := Lib.hid c2
  have M1 := Lib.hid m1
  have K1 := Lib.hid k1
  have HM := Lib.hid hm
  clear e1 d1 d2 c1 c2 m1 k1 hd hks hes hm
  obtain ⟨W, hW⟩ : ∃ W, W = (w.alloc (.cells #[.string ⟨#[114]⟩, .string ⟨#[99]⟩, .int .u64 5, .int .u64 0, .bool false, .string ⟨#[118]⟩] 24)).alloc (.cells #[.string ⟨#[114]⟩, .string ⟨#[99]⟩, .int .u64 4, .int .u64 0, .bool false, .string ⟨#[]⟩] 24) := ⟨_, rfl⟩
  have hfw : Fp [] w W := by rw [hW]; exact (Fp.alloc _ _).alloc' _
  have hba : W.heap[w.heap.size]? = some (.cells #[.string ⟨#[114]⟩, .string ⟨#[99]⟩, .int .u64 5, .int .u64 0, .bool false, .string ⟨#[118]⟩] 24 (0, 0)) := by
    rw [hW, Below.heap_alloc _ _ _ (by simp)]; exact heap_alloc_at rfl _
  have hbb : W.heap[w.heap.size + 1]? = some (.cells #[.string ⟨#[114]⟩, .string ⟨#[99]⟩, .int .u64 4, .int .u64 0, .bool false, .string ⟨#[]⟩] 24 (0, 0)) := by
    rw [hW]; exact heap_alloc_at (by simp) _
  have hcell : ∀ w', Fp [] W w' → (w'.cell? ⟨w.heap.size, 0, none⟩ = some (.string ⟨#[114]⟩) ∧ w'.cell? ⟨w.heap.size, 1, none⟩ = some (.string ⟨#[99]⟩) ∧ w'.cell? ⟨w.heap.size, 2, none⟩ = some (.int .u64 5) ∧ w'.cell? ⟨w.heap.size, 3, none⟩ = some (.int .u64 0) ∧ w'.cell? ⟨w.heap.size, 4, none⟩ = some (.bool false) ∧ w'.cell? ⟨w.heap.size, 5, none⟩ = some (.string ⟨#[118]⟩)) ∧
      (w'.cell? ⟨w.heap.size + 1, 0, none⟩ = some (.string ⟨#[114]⟩) ∧ w'.cell? ⟨w.heap.size + 1, 1, none⟩ = some (.string ⟨#[99]⟩) ∧ w'.cell? ⟨w.heap.size + 1, 2, none⟩ = some (.int .u64 4) ∧ w'.cell? ⟨w.heap.size + 1, 3, none⟩ = some (.int .u64 0) ∧ w'.cell? ⟨w.heap.size + 1, 4, none⟩ = some (.bool false) ∧ w'.cell? ⟨w.heap.size + 1, 5, none⟩ = some (.string ⟨#[]⟩)) ∧ w.heap.size < w'.heap.size ∧ w.heap.size + 1 < w'.heap.size := by
    intro w' hf
    have h1 := (hf.block _ (heap_lt hba) (by simp)).trans hba
    have h2 := (hf.block _ (heap_lt hbb) (by simp)).trans hbb
    exact ⟨⟨cell_of_block h1 0, cell_of_block h1 1, cell_of_block h1 2, cell_of_block h1 3, cell_of_block h1 4, cell_of_block h1 5⟩, ⟨cell_of_block h2 0, cell_of_block h2 1, cell_of_block h2 2, cell_of_block h2 3, cell_of_block h2 4, cell_of_block h2 5⟩, heap_lt h1, heap_lt h2⟩
  have HCELL := Lib.hid hcell
  have HFW := Lib.hid hfw
  have HW := Lib.hid hW
  have HMM := Lib.hid (MaxAt.fp HM.out hfw (by simp))
  clear hcell hfw hba hbb hW
  go_enter Tryd.func12, Tryd.ntmps12
  go_wp2_with (fail)
  rw [← HW.out]
  refine (E1.out _).mono ?_
  rintro e w1 ⟨rfl, hf1⟩
  have HF1 := Lib.hid hf1
  obtain ⟨⟨a0, a1, a2, a3, a4, a5⟩, ⟨b0, b1, b2, b3, b4, b5⟩, hlt, hlt2⟩ := HCELL.out _ hf1
  clear hf1
  go_wp2_with (fail)
  refine (D1.out _).mono ?_
  rintro e w2 ⟨rfl, hf2⟩
  have HF2 := Lib.hid (HF1.out.trans hf2 (by simp))
  clear hf2 a0 a1 a2 a3 a4 a5 b0 b1 b2 b3 b4 b5 hlt hlt2
  obtain ⟨⟨a0, a1, a2, a3, a4, a5⟩, ⟨b0, b1, b2, b3, b4, b5⟩, hlt, hlt2⟩ := HCELL.out _ HF2.out
  go_wp2_with (fail)
  clear a0 a1 a2 a3 a4 a5 b0 b1 b2 b3 b4 b5 hlt hlt2
  obtain ⟨X, hX⟩ : ∃ X, X = w2.alloc (.cells #[.string ⟨#[114]⟩, .string ⟨#[99]⟩, .int .u64 5, .int .u64 0, .bool false, .string ⟨#[118]⟩] 24) := ⟨_, rfl⟩
  rw [← hX]
  have hxb : X.heap[w2.heap.size]? = some (.cells #[.string ⟨#[114]⟩, .string ⟨#[99]⟩, .int .u64 5, .int .u64 0, .bool false, .string ⟨#[118]⟩] 24 (0, 0)) := by rw [hX]; exact heap_alloc_at rfl _
  have HFX := Lib.hid (show Fp [] W X by rw [hX]; exact HF2.out.alloc' _)
  have hxcell : ∀ w', Fp [] X w' → w'.cell? ⟨w2.heap.size, 0, none⟩ = some (.string ⟨#[114]⟩) ∧ w'.cell? ⟨w2.heap.size, 1, none⟩ = some (.string ⟨#[99]⟩) ∧ w'.cell? ⟨w2.heap.size, 2, none⟩ = some (.int .u64 5) ∧ w'.cell? ⟨w2.heap.size, 3, none⟩ = some (.int .u64 0) ∧ w'.cell? ⟨w2.heap.size, 4, none⟩ = some (.bool false) ∧ w'.cell? ⟨w2.heap.size, 5, none⟩ = some (.string ⟨#[118]⟩) := by
    intro w' hf
    have h1 := (hf.block _ (heap_lt hxb) (by simp)).trans hxb
    exact ⟨cell_of_block h1 0, cell_of_block h1 1, cell_of_block h1 2, cell_of_block h1 3, cell_of_block h1 4, cell_of_block h1 5⟩
  have HXCELL := Lib.hid hxcell
  clear hX hxb hxcell
  refine (C1.out _).mono ?_
  rintro e w3 ⟨rfl, hf3⟩
  have HG3 := Lib.hid (hf3)
  obtain ⟨⟨a0, a1, a2, a3, a4, a5⟩, ⟨b0, b1, b2, b3, b4, b5⟩, -⟩ := HCELL.out _ (HFX.out.trans HG3.out (by simp))
  obtain ⟨c0, c1, c2, c3, c4, c5⟩ := HXCELL.out _ HG3.out
  clear hf3
  go_wp2_with (fail)
  clear a0 a1 a2 a3 a4 a5 b0 b1 b2 b3 b4 b5 c0 c1 c2 c3 c4 c5
  refine (C2.out _).mono ?_
  rintro e w4 ⟨rfl, hf4⟩
  have HG4 := Lib.hid (HG3.out.trans hf4 (by simp))
  obtain ⟨⟨a0, a1, a2, a3, a4, a5⟩, ⟨b0, b1, b2, b3, b4, b5⟩, -⟩ := HCELL.out _ (HFX.out.trans HG4.out (by simp))
  obtain ⟨c0, c1, c2, c3, c4, c5⟩ := HXCELL.out _ HG4.out
  clear hf4
  go_wp2_with (fail)
  clear a0 a1 a2 a3 a4 a5 b0 b1 b2 b3 b4 b5 c0 c1 c2 c3 c4 c5
  refine (M1.out _).mono ?_
  rintro e w5 ⟨rfl, hf5⟩
  have HG5 := Lib.hid (HG4.out.trans hf5 (by simp))
  obtain ⟨⟨a0, a1, a2, a3, a4, a5⟩, ⟨b0, b1, b2, b3, b4, b5⟩, -⟩ := HCELL.out _ (HFX.out.trans HG5.out (by simp))
  obtain ⟨c0, c1, c2, c3, c4, c5⟩ := HXCELL.out _ HG5.out
  clear hf5
  go_wp2_with (fail)
  clear a0 a1 a2 a3 a4 a5 b0 b1 b2 b3 b4 b5 c0 c1 c2 c3 c4 c5
  refine (K1.out _ (HMM.out.fp (HFX.out.trans HG5.out (by simp)) (by simp))).mono ?_
  rintro e w6 ⟨rfl, hf6⟩
  have HG6 := Lib.hid (HG5.out.trans hf6 (by simp))
  obtain ⟨⟨a0, a1, a2, a3, a4, a5⟩, ⟨b0, b1, b2, b3, b4, b5⟩, -⟩ := HCELL.out _ (HFX.out.trans HG6.out (by simp))
  obtain ⟨c0, c1, c2, c3, c4, c5⟩ := HXCELL.out _ HG6.out
  clear hf6
  go_wp2_with (fail)
  clear a0 a1 a2 a3 a4 a5 b0 b1 b2 b3 b4 b5 c0 c1 c2 c3 c4 c5
  go_ret
  exact ⟨rfl, (HFW.out.trans HFX.out (by simp)).trans HG6.out (by simp)⟩
end Go.Proofs.YtlpfijkchbpdmaaDoor
