/-
  The reference of layer 1: May, Number, value, short. The reference of layer 1: Number, Encode. The reference of layer 1: Encode.
-/
import Derived.Test.YtjnapcfclejknaaDoorCellShown
import Derived.IntWalk
import Derived.Laws.DeepStrings4
import Derived.Test.YtjnapcfclejknaaDoorBytesStep
namespace Go.Proofs.YtjnapcfclejknaaDoor
section
open Go.RowKit

/-! ### value -/
def loV (s : ByteArray) : Nat → Nat
  | 0 => 0
  | k + 1 => loV s k * 256 + (atB s (7 - k)).toNat
def hiV (s : ByteArray) : Nat → Nat
  | 0 => 0
  | k + 1 => hiV s k * 256 + (atB s k).toNat
theorem loV_lt (s : ByteArray) : ∀ k, loV s k < 256 ^ k
  | 0 => Nat.one_pos
  | k + 1 => by
    have h1 := loV_lt s k
    have h2 := (atB s (7 - k)).toNat_lt
    show loV s k * 256 + _ < 256 ^ (k + 1)
    rw [Nat.pow_succ]; omega
theorem hiV_lt (s : ByteArray) : ∀ k, hiV s k < 256 ^ k
  | 0 => Nat.one_pos
  | k + 1 => by
    have h1 := hiV_lt s k
    have h2 := (atB s k).toNat_lt
    show hiV s k * 256 + _ < 256 ^ (k + 1)
    rw [Nat.pow_succ]; omega
theorem loV_leN (s : ByteArray) : loV s 8 = leN s 8 := by
  simp only [loV, leN, Nat.sub_zero, Nat.reduceSub]; omega
theorem at_any {s : ByteArray} {k : Nat} (h : k < s.size) : s[k] = atB s k := by
  unfold atB
  rw [List.getD_eq_getElem?_getD, List.getElem?_eq_getElem (by simpa using h)]
  simp
  rfl
def valV (s : ByteArray) (high : Bool) (k : Nat) : Nat := match high with | true => hiV s k | false => loV s k
theorem valV_lt (s : ByteArray) (high : Bool) (k : Nat) : valV s high k < 256 ^ k := by
  cases high
  · exact loV_lt s k
  · exact hiV_lt s k

/-! ### short -/
def shortR (s : ByteArray) : ByteArray × ByteArray × Bool :=
  if s.size = 0 ∨ s.size < 1 + (atB s 0).toNat then (⟨#[]⟩, ⟨#[]⟩, false) else (s.extract 1 (1 + (atB s 0).toNat), s.extract (1 + (atB s 0).toNat) s.size, true)

end

section
open Go.RowKit

theorem make_brow (w : World) (n : Nat) (hn : n ≤ 1000) : ∃ W, (Instr.makeSlice 56 (.int .i64 n) (.int .i64 n)).run Tryd.prog w = .ok (.slice (some ⟨w.heap.size, 0, none⟩) n n) W ∧ BRow W w.heap.size n (fun _ => 0) ∧ Fp [] w W := by
  have h := run_makeSlice (P := Tryd.prog) w 56 5 Tryd.t5 (.int .u8 0) Tryd.underlying56 (by kernel_rfl) (by kernel_rfl) .i64 .i64 n n (by omega) (Int.le_refl _) (by show (n : Int).toNat * 1 ≤ _; omega) (by show ((1 : Nat) : Int) * n ≤ _; omega) (by omega)
  change _ = Result.ok _ (w.alloc (.cells (madeCells (Value.int .u8 0).cells ((n : Int).toNat * 1)) 5)) at h
  simp only [Int.toNat_natCast, Nat.mul_one] at h
  have hb := heap_alloc_at (w := w) (n := w.heap.size) rfl (.cells (madeCells (Value.int .u8 0).cells n) 5 (0, 0))
  refine ⟨_, h, ⟨heap_lt hb, fun j hj => ?_, fun j _ => frozen_of_block hb j⟩, Fp.alloc _ _⟩
  rw [cell_of_block hb j]
  simp [madeCells, Value.cells, hj, Nat.mod_one, byteV]

/-- the bytes behind k rounds -/
def numF (n : Nat) (high : Bool) (k t : Nat) : UInt8 := match high with | true => if 7 - t < k then byteN n (7 - t) else 0 | false => if t < k then byteN n t else 0
def numL (n : Nat) (high : Bool) : List UInt8 := match high with | true => be8 n | false => le8 n
theorem numF_all (n : Nat) (high : Bool) : (List.range 8).map (numF n high 8) = numL n high := by
  cases high <;> rfl
theorem numF_zero (n : Nat) (high : Bool) (t : Nat) : numF n high 0 t = 0 := by
  cases high <;> rfl

theorem brow_set {w : World} {b n k : Nat} {f : Nat → UInt8} (h : BRow w b n f) (hk : k < n) (x : UInt8) : BRow (w.setCell ⟨b, k, none⟩ (byteV x)) b n (fun t => if t = k then x else f t) := by
  refine ⟨by simpa [World.setCell] using h.lt, fun j hj => ?_, fun j hj => by rw [World.frozen?_setCell]; exact h.free j hj⟩
  by_cases e : j = k
  · subst e
    rw [World.cell?_setCell_same _ _ _ (h.cell j hj), if_pos rfl]
  · rw [World.cell?_setCell_other _ _ _ _ (fun e2 => e (congrArg Addr.off e2).symm), h.cell j hj, if_neg e]
theorem BRow.congr {w : World} {b n : Nat} {f g : Nat → UInt8} (h : BRow w b n f) (hfg : ∀ t, t < n → f t = g t) : BRow w b n g :=
  ⟨h.lt, fun j hj => by rw [h.cell j hj, hfg j hj], h.free⟩

theorem byte_at {n k x : Nat} (h : x = n / 256 ^ k) : byteV (byteN n k) = .int .u8 ((x : Int) % 256) := by
  unfold byteV byteN
  rw [← h, UInt8.toNat_ofNat']
  rfl
theorem byte_next {n k x : Nat} (h : x = n / 256 ^ k) : (Value.int .u64 ((x : Int) / 256)) = .int .u64 ((n / 256 ^ (k + 1) : Nat) : Int) := by
  have e : n / 256 ^ (k + 1) = x / 256 := by rw [Nat.pow_succ, ← Nat.div_div_eq_div_mul, ← h]
  rw [e]
  rfl
end

section
open Go.RowKit

theorem conv1 {w : World} {g n : Nat} (hg : w.heap[g]? = some (.cells #[.int .u8 n] 5 (0, 0))) (h : n < 256) : (convert 56 9 (.slice (some ⟨g, 0, none⟩) 1 1)).run Tryd.prog w = .ok (.string (bl [UInt8.ofNat n])) w := by
  refine str_of_brow (cap := 1) (n := 1) (f := fun _ => UInt8.ofNat n) ⟨heap_lt hg, fun j hj => ?_, fun j _ => frozen_of_block hg j⟩
  obtain rfl : j = 0 := by omega
  rw [cell_of_block hg, byteV_ofNat h]
  rfl
theorem conv2 {w : World} {g n m : Nat} (hg : w.heap[g]? = some (.cells #[.int .u8 n, .int .u8 m] 5 (0, 0))) (h : n < 256) (h2 : m < 256) : (convert 56 9 (.slice (some ⟨g, 0, none⟩) 2 2)).run Tryd.prog w = .ok (.string (bl [UInt8.ofNat n, UInt8.ofNat m])) w := by
  refine str_of_brow (cap := 2) (n := 2) (f := fun j => if j = 0 then UInt8.ofNat n else UInt8.ofNat m) ⟨heap_lt hg, fun j hj => ?_, fun j _ => frozen_of_block hg j⟩
  have h3 : j = 0 ∨ j = 1 := by omega
  rcases h3 with rfl | rfl
  · rw [cell_of_block hg, if_pos rfl, byteV_ofNat h]; rfl
  · rw [cell_of_block hg, if_neg (by decide), byteV_ofNat h2]; rfl
theorem bl_append (a b : List UInt8) : bl a ++ bl b = bl (a ++ b) := by
  rw [← Lib.mk_data (bl a ++ bl b)]
  unfold bl
  simp

end
end Go.Proofs.YtjnapcfclejknaaDoor
