/-
  The reference of layer 1: May, Number, value, short. The reference of layer 1: Number, Encode. The reference of layer 1: Encode.
-/
import Derived.Test.YtjnapcfclejknaaGreatDoorCellShown
import Derived.IntWalk
import Derived.Laws.DeepStrings4
import Derived.Test.YtjnapcfclejknaaGreatDoorBytesStep
namespace Go.Proofs.YtjnapcfclejknaaGreatDoor
section
open Go.RowKit

set_option maxRecDepth 100000 in
set_option maxHeartbeats 2000000 in
theorem rmay_any (c : Cel) (w : World) (hc : CelOK c) : Calls Tryz.prog 69 #[cellV c] w fun e w' => e = .returned (.bool (mayB c)) ∧ Fp [] w w' := by
  obtain ⟨h1, h2, h3, h4, h5⟩ := hc
  have HB : Hid (mayB c = (decide (1 ≤ c.row.size ∧ c.row.size ≤ 40) && decide (1 ≤ c.col.size ∧ c.col.size ≤ 40) && decide (c.val.size ≤ 100) && (!c.del || decide (c.val.size = 0)))) := rfl
  unfold cellV
  by_cases k1 : c.row.size < 1
  · have HT : Hid (mayB c = false) := by unfold Hid; rw [HB.out, decide_eq_false (by omega)]; rfl
    go_enter Tryz.func69, Tryz.ntmps69
    go_wp2_with (fail)
    go_ret
    exact ⟨ret_bool HT.out.symm, Fp.alloc _ _⟩
  by_cases k2 : c.row.size ≤ 40
  case neg =>
    have k2' : 40 < c.row.size := by omega
    have HT : Hid (mayB c = false) := by unfold Hid; rw [HB.out, decide_eq_false (by omega)]; rfl
    go_enter Tryz.func69, Tryz.ntmps69
    go_wp2_with (fail)
    go_ret
    exact ⟨ret_bool HT.out.symm, Fp.alloc _ _⟩
  have HR : Hid (decide (1 ≤ c.row.size ∧ c.row.size ≤ 40) = true) := decide_eq_true (by omega)
  by_cases k3 : c.col.size < 1
  · have HT : Hid (mayB c = false) := by unfold Hid; rw [HB.out, HR.out, decide_eq_false (by omega)]; rfl
    go_enter Tryz.func69, Tryz.ntmps69
    go_wp2_with (fail)
    go_ret
    exact ⟨ret_bool HT.out.symm, Fp.alloc _ _⟩
  by_cases k4 : c.col.size ≤ 40
  case neg =>
    have k4' : 40 < c.col.size := by omega
    have HT : Hid (mayB c = false) := by unfold Hid; rw [HB.out, HR.out, decide_eq_false (by omega)]; rfl
    go_enter Tryz.func69, Tryz.ntmps69
    go_wp2_with (fail)
    go_ret
    exact ⟨ret_bool HT.out.symm, Fp.alloc _ _⟩
  have HC : Hid (decide (1 ≤ c.col.size ∧ c.col.size ≤ 40) = true) := decide_eq_true (by omega)
  by_cases k5 : c.val.size ≤ 100
  case neg =>
    have k5' : 100 < c.val.size := by omega
    have HT : Hid (mayB c = false) := by unfold Hid; rw [HB.out, HR.out, HC.out, decide_eq_false (by omega)]; rfl
    go_enter Tryz.func69, Tryz.ntmps69
    go_wp2_with (fail)
    go_ret
    exact ⟨ret_bool HT.out.symm, Fp.alloc _ _⟩
  have HV : Hid (decide (c.val.size ≤ 100) = true) := decide_eq_true (by omega)
  obtain ⟨dl, hdl⟩ : ∃ dl, dl = c.del := ⟨_, rfl⟩
  rw [← hdl] at HB ⊢
  clear hdl
  cases dl
  · have HT : Hid (mayB c = true) := by unfold Hid; rw [HB.out, HR.out, HC.out, HV.out]; rfl
    go_enter Tryz.func69, Tryz.ntmps69
    go_wp2_with (fail)
    go_ret
    exact ⟨ret_bool HT.out.symm, Fp.alloc _ _⟩
  by_cases h0 : c.val.size = 0
  · have HT : Hid (mayB c = true) := by unfold Hid; rw [HB.out, HR.out, HC.out, HV.out, decide_eq_true h0]; rfl
    have he := str_empty h0
    go_enter Tryz.func69, Tryz.ntmps69
    go_wp2_with (fail)
    go_ret
    exact ⟨ret_bool HT.out.symm, Fp.alloc _ _⟩
  · have HT : Hid (mayB c = false) := by unfold Hid; rw [HB.out, HR.out, HC.out, HV.out, decide_eq_false h0]; rfl
    have he := str_full (Nat.pos_of_ne_zero h0)
    clear h0
    go_enter Tryz.func69, Tryz.ntmps69
    go_wp2_with (fail)
    go_ret
    exact ⟨ret_bool HT.out.symm, Fp.alloc _ _⟩

/-! ### value -/
def loV (s : ByteArray) : Nat → Nat
  | 0 => 0
  | k + 1 => loV s k * 256 + (atB s (7 - k)).toNat
def hiV (s : ByteArray) : Nat → Nat
  | 0 => 0
  | k + 1 => hiV s k * 256 + (atB s k).toNat
theorem loV_lt (s : ByteArray) : ∀ k, loV s k < 256 ^ k
  | 0 => Nat.one_pos
  | k + 1 => by
    have h1 := loV_lt s k
    have h2 := (atB s (7 - k)).toNat_lt
    show loV s k * 256 + _ < 256 ^ (k + 1)
    rw [Nat.pow_succ]; omega
theorem hiV_lt (s : ByteArray) : ∀ k, hiV s k < 256 ^ k
  | 0 => Nat.one_pos
  | k + 1 => by
    have h1 := hiV_lt s k
    have h2 := (atB s k).toNat_lt
    show hiV s k * 256 + _ < 256 ^ (k + 1)
    rw [Nat.pow_succ]; omega
theorem loV_leN (s : ByteArray) : loV s 8 = leN s 8 := by
  simp only [loV, leN, Nat.sub_zero, Nat.reduceSub]; omega
theorem at_any {s : ByteArray} {k : Nat} (h : k < s.size) : s[k] = atB s k := by
  unfold atB
  rw [List.getD_eq_getElem?_getD, List.getElem?_eq_getElem (by simpa using h)]
  simp
  rfl
def valV (s : ByteArray) (high : Bool) (k : Nat) : Nat := match high with | true => hiV s k | false => loV s k
theorem valV_lt (s : ByteArray) (high : Bool) (k : Nat) : valV s high k < 256 ^ k := by
  cases high
  · exact loV_lt s k
  · exact hiV_lt s k

set_option maxRecDepth 100000 in
set_option maxHeartbeats 2000000 in
theorem rvalue_any (s : ByteArray) (high : Bool) (w : World) (h8 : 8 ≤ s.size) (hs : s.size ≤ 9223372036854775807) :
    Calls Tryz.prog 109 #[.string s, .bool high] w fun e w' => e = .returned (.int .u64 (valV s high 8)) ∧ w = w' := by
  cases high
  all_goals
    go_enter Tryz.func109, Tryz.ntmps109
    go_wp2_with (fail)
  · go_loopg [5, 6] 8 (fun g n i wr => ∃ k : Nat, g + k = 8 ∧ i = .int .i64 k ∧ n = .int .u64 (valV s false k) ∧ w = wr)
    case atStart => exact ⟨0, rfl, rfl, rfl, rfl⟩
    case round =>
      obtain ⟨k, hg, rfl, rfl, rfl⟩ := hrel
      by_cases hk : k < 8
      · have hv := valV_lt s false k
        have hv1 := valV_lt s false (k + 1)
        have HS : Hid (valV s false (k + 1) = valV s false k * 256 + (atB s (7 - k)).toNat) := rfl
        have hb : (256 : Nat) ^ (k + 1) ≤ 256 ^ 8 := Nat.pow_le_pow_right (by decide) (by omega)
        have hb2 : (256 : Nat) ^ 8 = 18446744073709551616 := by decide
        rw [HS.out] at hv1
        obtain ⟨x, hx⟩ : ∃ x, x = valV s false k := ⟨_, rfl⟩
        rw [← hx] at hv1 ⊢
        have HX := Lib.hid hx
        obtain ⟨m, hm⟩ : ∃ m, m = 7 - k := ⟨_, rfl⟩
        have hmi : (7 : Int) - (k : Int) = (m : Int) := by omega
        have hms : m < s.size := by omega
        have hat := at_any hms
        have hbt : (atB s m).toNat < 256 := (atB s m).toNat_lt
        have hxl : x * 256 + (atB s m).toNat < 18446744073709551616 := by rw [hm]; omega
        have HM := Lib.hid hm
        clear hv hv1 hx hm hb hb2
        go_wp2_with (fail)
        go_roundg (gk - 1)
        case measure => omega
        case rel => exact ⟨k + 1, by omega, by go_num, by rw [HS.out, ← HX.out, ← HM.out]; go_num, rfl⟩
      · obtain rfl : k = 8 := by omega
        go_wp2_with (fail)
        go_ret
        exact ⟨rfl, rfl⟩
  · go_loopg [5, 6] 8 (fun g n i wr => ∃ k : Nat, g + k = 8 ∧ i = .int .i64 k ∧ n = .int .u64 (valV s true k) ∧ w = wr)
    case atStart => exact ⟨0, rfl, rfl, rfl, rfl⟩
    case round =>
      obtain ⟨k, hg, rfl, rfl, rfl⟩ := hrel
      by_cases hk : k < 8
      · have hv1 := valV_lt s true (k + 1)
        have HS : Hid (valV s true (k + 1) = valV s true k * 256 + (atB s k).toNat) := rfl
        have hb : (256 : Nat) ^ (k + 1) ≤ 256 ^ 8 := Nat.pow_le_pow_right (by decide) (by omega)
        have hb2 : (256 : Nat) ^ 8 = 18446744073709551616 := by decide
        rw [HS.out] at hv1
        obtain ⟨x, hx⟩ : ∃ x, x = valV s true k := ⟨_, rfl⟩
        rw [← hx] at hv1 ⊢
        have HX := Lib.hid hx
        have hms : k < s.size := by omega
        have hat := at_any hms
        have hbt : (atB s k).toNat < 256 := (atB s k).toNat_lt
        have hxl : x * 256 + (atB s k).toNat < 18446744073709551616 := by omega
        clear hv1 hx hb hb2
        go_wp2_with (fail)
        go_roundg (gk - 1)
        case measure => omega
        case rel => exact ⟨k + 1, by omega, by go_num, by rw [HS.out, ← HX.out]; go_num, rfl⟩
      · obtain rfl : k = 8 := by omega
        go_wp2_with (fail)
        go_ret
        exact ⟨rfl, rfl⟩

/-! ### short -/
def shortR (s : ByteArray) : ByteArray × ByteArray × Bool :=
  if s.size = 0 ∨ s.size < 1 + (atB s 0).toNat then (⟨#[]⟩, ⟨#[]⟩, false) else (s.extract 1 (1 + (atB s 0).toNat), s.extract (1 + (atB s 0).toNat) s.size, true)

end

section
open Go.RowKit

theorem make_brow (w : World) (n : Nat) (hn : n ≤ 1000) : ∃ W, (Instr.makeSlice 52 (.int .i64 n) (.int .i64 n)).run Tryz.prog w = .ok (.slice (some ⟨w.heap.size, 0, none⟩) n n) W ∧ BRow W w.heap.size n (fun _ => 0) ∧ Fp [] w W := by
  have h := run_makeSlice (P := Tryz.prog) w 52 5 Tryz.t5 (.int .u8 0) Tryz.underlying52 (by kernel_rfl) (by kernel_rfl) .i64 .i64 n n (by omega) (Int.le_refl _) (by show (n : Int).toNat * 1 ≤ _; omega) (by show ((1 : Nat) : Int) * n ≤ _; omega) (by omega)
  change _ = Result.ok _ (w.alloc (.cells (madeCells (Value.int .u8 0).cells ((n : Int).toNat * 1)) 5)) at h
  simp only [Int.toNat_natCast, Nat.mul_one] at h
  have hb := heap_alloc_at (w := w) (n := w.heap.size) rfl (.cells (madeCells (Value.int .u8 0).cells n) 5 (0, 0))
  refine ⟨_, h, ⟨heap_lt hb, fun j hj => ?_, fun j _ => frozen_of_block hb j⟩, Fp.alloc _ _⟩
  rw [cell_of_block hb j]
  simp [madeCells, Value.cells, hj, Nat.mod_one, byteV]

/-- the bytes behind k rounds -/
def numF (n : Nat) (high : Bool) (k t : Nat) : UInt8 := match high with | true => if 7 - t < k then byteN n (7 - t) else 0 | false => if t < k then byteN n t else 0
def numL (n : Nat) (high : Bool) : List UInt8 := match high with | true => be8 n | false => le8 n
theorem numF_all (n : Nat) (high : Bool) : (List.range 8).map (numF n high 8) = numL n high := by
  cases high <;> rfl
theorem numF_zero (n : Nat) (high : Bool) (t : Nat) : numF n high 0 t = 0 := by
  cases high <;> rfl

theorem brow_set {w : World} {b n k : Nat} {f : Nat → UInt8} (h : BRow w b n f) (hk : k < n) (x : UInt8) : BRow (w.setCell ⟨b, k, none⟩ (byteV x)) b n (fun t => if t = k then x else f t) := by
  refine ⟨by simpa [World.setCell] using h.lt, fun j hj => ?_, fun j hj => by rw [World.frozen?_setCell]; exact h.free j hj⟩
  by_cases e : j = k
  · subst e
    rw [World.cell?_setCell_same _ _ _ (h.cell j hj), if_pos rfl]
  · rw [World.cell?_setCell_other _ _ _ _ (fun e2 => e (congrArg Addr.off e2).symm), h.cell j hj, if_neg e]
theorem BRow.congr {w : World} {b n : Nat} {f g : Nat → UInt8} (h : BRow w b n f) (hfg : ∀ t, t < n → f t = g t) : BRow w b n g :=
  ⟨h.lt, fun j hj => by rw [h.cell j hj, hfg j hj], h.free⟩

theorem byte_at {n k x : Nat} (h : x = n / 256 ^ k) : byteV (byteN n k) = .int .u8 ((x : Int) % 256) := by
  unfold byteV byteN
  rw [← h, UInt8.toNat_ofNat']
  rfl
theorem byte_next {n k x : Nat} (h : x = n / 256 ^ k) : (Value.int .u64 ((x : Int) / 256)) = .int .u64 ((n / 256 ^ (k + 1) : Nat) : Int) := by
  have e : n / 256 ^ (k + 1) = x / 256 := by rw [Nat.pow_succ, ← Nat.div_div_eq_div_mul, ← h]
  rw [e]
  rfl
set_option maxRecDepth 100000 in
set_option maxHeartbeats 2000000 in
theorem rnumber_any' (n : Nat) (high : Bool) (w : World) (hn : n < 18446744073709551616) :
    Calls Tryz.prog 37 #[.int .u64 n, .bool high] w fun e w' => e = .returned (.string (bl (numL n high))) ∧ Fp [] w w' := by
  obtain ⟨W, z1, z2, z3⟩ := make_brow w 8 (by decide)
  have HZ := Lib.hid z2
  have HF0 := Lib.hid z3
  rw [show ((8 : Nat) : Int) = 8 from rfl] at z1
  clear z2 z3
  cases high
  all_goals
    go_enter Tryz.func37, Tryz.ntmps37
    go_wp2_with (fail)
  · go_loopg [0, 6] 8 (fun g vn vi wr => ∃ k : Nat, g + k = 8 ∧ vi = .int .i64 k ∧ vn = .int .u64 ((n / 256 ^ k : Nat) : Int) ∧ BRow wr w.heap.size 8 (numF n false k) ∧ Fp [] w wr)
    case atStart => exact ⟨0, rfl, rfl, by simp, HZ.out.congr (fun t _ => (numF_zero n false t).symm), HF0.out⟩
    case round =>
      obtain ⟨k, hg, rfl, rfl, hb, hf⟩ := hrel
      have HB := Lib.hid hb
      have HF := Lib.hid hf
      by_cases hk : k < 8
      · have c1 : wr.cell? ⟨w.heap.size, k, none⟩ = some (.int .u8 0) := by rw [hb.cell k hk]; simp [numF, byteV]
        have f1 := hb.free k hk
        obtain ⟨x, hx⟩ : ∃ x, x = n / 256 ^ k := ⟨_, rfl⟩
        rw [← hx]
        have hxl : x < 18446744073709551616 := by rw [hx]; exact Nat.lt_of_le_of_lt (Nat.div_le_self _ _) hn
        have HX := Lib.hid hx
        clear hb hf hx
        go_wp2_with (fail)
        go_roundg (gk - 1)
        case measure => omega
        case rel =>
          refine ⟨k + 1, by omega, by go_num, byte_next HX.out, ?_, HF.out.setCell' (p := ⟨w.heap.size, k, none⟩) (Or.inr (Nat.le_refl _)) _⟩
          have hbs := brow_set HB.out hk (byteN n k)
          rw [byte_at HX.out] at hbs
          refine hbs.congr fun t ht => ?_
          by_cases e : t = k
          · subst e; rw [if_pos rfl]; simp only [numF]; rw [if_pos (by omega)]
          · rw [if_neg e]
            simp only [numF]
            by_cases e2 : t < k
            · rw [if_pos e2, if_pos (by omega)]
            · rw [if_neg e2, if_neg (by omega)]
      · obtain rfl : k = 8 := by omega
        have hstr := str_of_brow (cap := 8) hb
        rw [numF_all] at hstr
        clear hb hf
        go_wp2_with (fail)
        go_ret
        exact ⟨rfl, HF.out⟩
  · go_loopg [0, 6] 8 (fun g vn vi wr => ∃ k : Nat, g + k = 8 ∧ vi = .int .i64 k ∧ vn = .int .u64 ((n / 256 ^ k : Nat) : Int) ∧ BRow wr w.heap.size 8 (numF n true k) ∧ Fp [] w wr)
    case atStart => exact ⟨0, rfl, rfl, by simp, HZ.out.congr (fun t _ => (numF_zero n true t).symm), HF0.out⟩
    case round =>
      obtain ⟨k, hg, rfl, rfl, hb, hf⟩ := hrel
      have HB := Lib.hid hb
      have HF := Lib.hid hf
      by_cases hk : k < 8
      · obtain ⟨m, hm⟩ : ∃ m, m = 7 - k := ⟨_, rfl⟩
        have hmi : (7 : Int) - (k : Int) = (m : Int) := by omega
        have hm8 : m < 8 := by omega
        have c1 : wr.cell? ⟨w.heap.size, m, none⟩ = some (.int .u8 0) := by rw [hb.cell m hm8]; simp only [numF, byteV]; rw [if_neg (by omega)]; rfl
        have f1 := hb.free m hm8
        obtain ⟨x, hx⟩ : ∃ x, x = n / 256 ^ k := ⟨_, rfl⟩
        rw [← hx]
        have hxl : x < 18446744073709551616 := by rw [hx]; exact Nat.lt_of_le_of_lt (Nat.div_le_self _ _) hn
        have HX := Lib.hid hx
        have HM := Lib.hid hm
        clear hb hf hx hm
        go_wp2_with (fail)
        go_roundg (gk - 1)
        case measure => omega
        case rel =>
          refine ⟨k + 1, by omega, by go_num, byte_next HX.out, ?_, HF.out.setCell' (p := ⟨w.heap.size, m, none⟩) (Or.inr (Nat.le_refl _)) _⟩
          have hbs := brow_set HB.out hm8 (byteN n k)
          rw [byte_at HX.out] at hbs
          refine hbs.congr fun t ht => ?_
          have hmm := HM.out
          by_cases e : t = m
          · subst e; rw [if_pos rfl]; simp only [numF]; rw [if_pos (by omega), show 7 - t = k by omega]
          · rw [if_neg e]
            simp only [numF]
            by_cases e2 : 7 - t < k
            · rw [if_pos e2, if_pos (by omega)]
            · rw [if_neg e2, if_neg (by omega)]
      · obtain rfl : k = 8 := by omega
        have hstr := str_of_brow (cap := 8) hb
        rw [numF_all] at hstr
        clear hb hf
        go_wp2_with (fail)
        go_ret
        exact ⟨rfl, HF.out⟩
end

section
open Go.RowKit

theorem conv1 {w : World} {g n : Nat} (hg : w.heap[g]? = some (.cells #[.int .u8 n] 5 (0, 0))) (h : n < 256) : (convert 52 9 (.slice (some ⟨g, 0, none⟩) 1 1)).run Tryz.prog w = .ok (.string (bl [UInt8.ofNat n])) w := by
  refine str_of_brow (cap := 1) (n := 1) (f := fun _ => UInt8.ofNat n) ⟨heap_lt hg, fun j hj => ?_, fun j _ => frozen_of_block hg j⟩
  obtain rfl : j = 0 := by omega
  rw [cell_of_block hg, byteV_ofNat h]
  rfl
theorem conv2 {w : World} {g n m : Nat} (hg : w.heap[g]? = some (.cells #[.int .u8 n, .int .u8 m] 5 (0, 0))) (h : n < 256) (h2 : m < 256) : (convert 52 9 (.slice (some ⟨g, 0, none⟩) 2 2)).run Tryz.prog w = .ok (.string (bl [UInt8.ofNat n, UInt8.ofNat m])) w := by
  refine str_of_brow (cap := 2) (n := 2) (f := fun j => if j = 0 then UInt8.ofNat n else UInt8.ofNat m) ⟨heap_lt hg, fun j hj => ?_, fun j _ => frozen_of_block hg j⟩
  have h3 : j = 0 ∨ j = 1 := by omega
  rcases h3 with rfl | rfl
  · rw [cell_of_block hg, if_pos rfl, byteV_ofNat h]; rfl
  · rw [cell_of_block hg, if_neg (by decide), byteV_ofNat h2]; rfl
theorem bl_append (a b : List UInt8) : bl a ++ bl b = bl (a ++ b) := by
  rw [← Lib.mk_data (bl a ++ bl b)]
  unfold bl
  simp

end
end Go.Proofs.YtjnapcfclejknaaGreatDoor
