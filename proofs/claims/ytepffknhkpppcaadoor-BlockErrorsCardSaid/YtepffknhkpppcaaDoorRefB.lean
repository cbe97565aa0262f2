/-
  The reference of layer 1: Number, Encode.
-/
import Derived.Test.YtepffknhkpppcaaDoorRefA
namespace Go.Proofs.YtepffknhkpppcaaDoor
open Go.RowKit

theorem make_brow (w : World) (n : Nat) (hn : n ≤ 1000) : ∃ W, (Instr.makeSlice 46 (.int .i64 n) (.int .i64 n)).run Tryd.prog w = .ok (.slice (some ⟨w.heap.size, 0, none⟩) n n) W ∧ BRow W w.heap.size n (fun _ => 0) ∧ Fp [] w W := by
  have h := run_makeSlice (P := Tryd.prog) w 46 5 Tryd.t5 (.int .u8 0) Tryd.underlying46 (by kernel_rfl) (by kernel_rfl) .i64 .i64 n n (by omega) (Int.le_refl _) (by show (n : Int).toNat * 1 ≤ _; omega) (by show ((1 : Nat) : Int) * n ≤ _; omega) (by omega)
  change _ = Result.ok _ (w.alloc (.cells (madeCells (Value.int .u8 0).cells ((n : Int).toNat * 1)) 5)) at h
  simp only [Int.toNat_natCast, Nat.mul_one] at h
  have hb := heap_alloc_at (w := w) (n := w.heap.size) rfl (.cells (madeCells (Value.int .u8 0).cells n) 5 (0, 0))
  refine ⟨_, h, ⟨heap_lt hb, fun j hj => ?_, fun j _ => frozen_of_block hb j⟩, Fp.alloc _ _⟩
  rw [cell_of_block hb j]
  simp [madeCells, Value.cells, hj, Nat.mod_one, byteV]

/-- the bytes behind k rounds -/
def numF (n : Nat) (high : Bool) (k t : Nat) : UInt8 := match high with | true => if 7 - t < k then byteN n (7 - t) else 0 | false => if t < k then byteN n t else 0
def numL (n : Nat) (high : Bool) : List UInt8 := match high with | true => be8 n | false => le8 n
theorem numF_all (n : Nat) (high : Bool) : (List.range 8).map (numF n high 8) = numL n high := by
  cases high <;> rfl
theorem numF_zero (n : Nat) (high : Bool) (t : Nat) : numF n high 0 t = 0 := by
  cases high <;> rfl

theorem brow_set {w : World} {b n k : Nat} {f : Nat → UInt8} (h : BRow w b n f) (hk : k < n) (x : UInt8) : BRow (w.setCell ⟨b, k, none⟩ (byteV x)) b n (fun t => if t = k then x else f t) := by
  refine ⟨by simpa [World.setCell] using h.lt, fun j hj => ?_, fun j hj => by rw [World.frozen?_setCell]; exact h.free j hj⟩
  by_cases e : j = k
  · subst e
    rw [World.cell?_setCell_same _ _ _ (h.cell j hj), if_pos rfl]
  · rw [World.cell?_setCell_other _ _ _ _ (fun e2 => e (congrArg Addr.off e2).symm), h.cell j hj, if_neg e]
theorem BRow.congr {w : World} {b n : Nat} {f g : Nat → UInt8} (h : BRow w b n f) (hfg : ∀ t, t < n → f t = g t) : BRow w b n g :=
  ⟨h.lt, fun j hj => by rw [h.cell j hj, hfg j hj], h.free⟩

theorem byte_at {n k x : Nat} (h : x = n / 256 ^ k) : byteV (byteN n k) = .int .u8 ((x : Int) % 256) := by
  unfold byteV byteN
  rw [← h, UInt8.toNat_ofNat']
  rfl
theorem byte_next {n k x : Nat} (h : x = n / 256 ^ k) : (Value.int .u64 ((x : Int) / 256)) = .int .u64 ((n / 256 ^ (k + 1) : Nat) : Int) := by
  have e : n / 256 ^ (k + 1) = x / 256 := by rw [Nat.pow_succ, ← Nat.div_div_eq_div_mul, ← h]
  rw [e]
  rfl
set_option maxRecDepth 100000 in
set_option maxHeartbeats 2000000 in
theorem rnumber_any' (n : Nat) (high : Bool) (w : World) (hn : n < 18446744073709551616) :
    Calls Tryd.prog 47 #[.int .u64 n, .bool high] w fun e w' => e = .returned (.string (bl (numL n high))) ∧ Fp [] w w' := by
  obtain ⟨W, z1, z2, z3⟩ := make_brow w 8 (by decide)
  have HZ := Lib.hid z2
  have HF0 := Lib.hid z3
  rw [show ((8 : Nat) : Int) = 8 from rfl] at z1
  clear z2 z3
  cases high
  all_goals
    go_enter Tryd.func47, Tryd.ntmps47
    go_wp2_with (fail)
  · go_loopg [0, 6] 8 (fun g vn vi wr => ∃ k : Nat, g + k = 8 ∧ vi = .int .i64 k ∧ vn = .int .u64 ((n / 256 ^ k : Nat) : Int) ∧ BRow wr w.heap.size 8 (numF n false k) ∧ Fp [] w wr)
    case atStart => exact ⟨0, rfl, rfl, by simp, HZ.out.congr (fun t _ => (numF_zero n false t).symm), HF0.out⟩
    case round =>
      obtain ⟨k, hg, rfl, rfl, hb, hf⟩ := hrel
      have HB := Lib.hid hb
      have HF := Lib.hid hf
      by_cases hk : k < 8
      · have c1 : wr.cell? ⟨w.heap.size, k, none⟩ = some (.int .u8 0) := by rw [hb.cell k hk]; simp [numF, byteV]
        have f1 := hb.free k hk
        obtain ⟨x, hx⟩ : ∃ x, x = n / 256 ^ k := ⟨_, rfl⟩
        rw [← hx]
        have hxl : x < 18446744073709551616 := by rw [hx]; exact Nat.lt_of_le_of_lt (Nat.div_le_self _ _) hn
        have HX := Lib.hid hx
        clear hb hf hx
        go_wp2_with (fail)
        go_roundg (gk - 1)
        case measure => omega
        case rel =>
          refine ⟨k + 1, by omega, by go_num, byte_next HX.out, ?_, HF.out.setCell' (p := ⟨w.heap.size, k, none⟩) (Or.inr (Nat.le_refl _)) _⟩
          have hbs := brow_set HB.out hk (byteN n k)
          rw [byte_at HX.out] at hbs
          refine hbs.congr fun t ht => ?_
          by_cases e : t = k
          · subst e; rw [if_pos rfl]; simp only [numF]; rw [if_pos (by omega)]
          · rw [if_neg e]
            simp only [numF]
            by_cases e2 : t < k
            · rw [if_pos e2, if_pos (by omega)]
            · rw [if_neg e2, if_neg (by omega)]
      · obtain rfl : k = 8 := by omega
        have hstr := str_of_brow (cap := 8) hb
        rw [numF_all] at hstr
        clear hb hf
        go_wp2_with (fail)
        go_ret
        exact ⟨rfl, HF.out⟩
  · go_loopg [0, 6] 8 (fun g vn vi wr => ∃ k : Nat, g + k = 8 ∧ vi = .int .i64 k ∧ vn = .int .u64 ((n / 256 ^ k : Nat) : Int) ∧ BRow wr w.heap.size 8 (numF n true k) ∧ Fp [] w wr)
    case atStart => exact ⟨0, rfl, rfl, by simp, HZ.out.congr (fun t _ => (numF_zero n true t).symm), HF0.out⟩
    case round =>
      obtain ⟨k, hg, rfl, rfl, hb, hf⟩ := hrel
      have HB := Lib.hid hb
      have HF := Lib.hid hf
      by_cases hk : k < 8
      · obtain ⟨m, hm⟩ : ∃ m, m = 7 - k := ⟨_, rfl⟩
        have hmi : (7 : Int) - (k : Int) = (m : Int) := by omega
        have hm8 : m < 8 := by omega
        have c1 : wr.cell? ⟨w.heap.size, m, none⟩ = some (.int .u8 0) := by rw [hb.cell m hm8]; simp only [numF, byteV]; rw [if_neg (by omega)]; rfl
        have f1 := hb.free m hm8
        obtain ⟨x, hx⟩ : ∃ x, x = n / 256 ^ k := ⟨_, rfl⟩
        rw [← hx]
        have hxl : x < 18446744073709551616 := by rw [hx]; exact Nat.lt_of_le_of_lt (Nat.div_le_self _ _) hn
        have HX := Lib.hid hx
        have HM := Lib.hid hm
        clear hb hf hx hm
        go_wp2_with (fail)
        go_roundg (gk - 1)
        case measure => omega
        case rel =>
          refine ⟨k + 1, by omega, by go_num, byte_next HX.out, ?_, HF.out.setCell' (p := ⟨w.heap.size, m, none⟩) (Or.inr (Nat.le_refl _)) _⟩
          have hbs := brow_set HB.out hm8 (byteN n k)
          rw [byte_at HX.out] at hbs
          refine hbs.congr fun t ht => ?_
          have hmm := HM.out
          by_cases e : t = m
          · subst e; rw [if_pos rfl]; simp only [numF]; rw [if_pos (by omega), show 7 - t = k by omega]
          · rw [if_neg e]
            simp only [numF]
            by_cases e2 : 7 - t < k
            · rw [if_pos e2, if_pos (by omega)]
            · rw [if_neg e2, if_neg (by omega)]
      · obtain rfl : k = 8 := by omega
        have hstr := str_of_brow (cap := 8) hb
        rw [numF_all] at hstr
        clear hb hf
        go_wp2_with (fail)
        go_ret
        exact ⟨rfl, HF.out⟩
end Go.Proofs.YtepffknhkpppcaaDoor
