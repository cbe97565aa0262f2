/-
  Seek: the program's, and the reference's. bounded, shown of layer 4's laws.
-/
import Derived.Test.YtepffknhkpppcaaDoorBlkG
import Derived.Test.YtepffknhkpppcaaDoorSame
import Derived.Test.YtepffknhkpppcaaDoorCellFrame
namespace Go.Proofs.YtepffknhkpppcaaDoor
section
open Go.RowKit Go.Lib

theorem cb_lt_trans {a b c : List UInt8} (h1 : compareBytes a b = -1) (h2 : compareBytes b c = -1) : compareBytes a c = -1 := by
  have h3 := cb_trans (a := a) (b := b) (c := c) (by omega) (by omega)
  rcases cb_range a c with h | h | h
  · exact h
  · have := cb_eq h
    subst this
    have := cb_neg a b
    omega
  · omega
theorem sorted_at {l : List Cel} (hok : ∀ c ∈ l, CelOK c) (hr : risC l = true) : ∀ j (hj : j < l.length) i (hi : i < j), compareBytes (keyL (l[i]'(Nat.lt_trans hi hj))) (keyL l[j]) = -1
  | 0, _, i, hi => absurd hi (Nat.not_lt_zero _)
  | j + 1, hj, i, hi => by
    have hb : badAt l (j + 1) = false := by
      unfold risC at hr
      have : (List.range l.length).any (badAt l) = false := by simpa using hr
      have h2 := List.any_eq_false.1 this (j + 1) (List.mem_range.2 hj)
      simpa using h2
    rw [badAt_at hj rfl _ _ rfl rfl] at hb
    have hs : compareBytes (keyL (l[j]'(by omega))) (keyL l[j + 1]) = -1 := by
      have h1 := key_order (l[j]'(by omega)) l[j + 1] (hok _ (List.getElem_mem _)) (hok _ (List.getElem_mem _))
      have h2 : ¬ 0 ≤ cmpC (l[j]'(by omega)) l[j + 1] := by simpa using hb
      rcases cb_range (keyL (l[j]'(by omega))) (keyL l[j + 1]) with h | h | h
      · exact h
      · omega
      · omega
    by_cases e : i = j
    · subst e; exact hs
    · exact cb_lt_trans (sorted_at hok hr j (by omega) i (by omega)) hs
def lessK (l : List Cel) (key : ByteArray) (i : Nat) : Bool := match l[i]? with
  | some c => Op.bytesLess (keyB c).toList key.toList
  | none => false

def countK (l : List Cel) (key : ByteArray) : Nat := (l.filter (fun c => Op.bytesLess (keyB c).toList key.toList)).length
theorem less_at {l : List Cel} {key : ByteArray} {i : Nat} (hi : i < l.length) (hm : mayB l[i] = true) : lessK l key i = decide (compareBytes (keyL l[i]) key.toList = -1) := by
  unfold lessK
  rw [List.getElem?_eq_getElem hi]
  simp only
  unfold keyB
  rw [if_pos hm, ByteArray.toList_eq, less_cb]
theorem count_is {l : List Cel} {key : ByteArray} {h : Nat} (hok : ∀ c ∈ l, CelOK c) (hm : l.all mayB = true) (hr : risC l = true) (h1 : h ≤ l.length) (h2 : h < l.length → (!lessK l key h) = true) (h3 : 0 < h → (!lessK l key (h - 1)) = false) : h = countK l key := by
  have may : ∀ i (hi : i < l.length), mayB l[i] = true := fun i hi => List.all_eq_true.1 hm _ (List.getElem_mem hi)
  have mono : ∀ j (hj : j < l.length) i (hi : i < j), lessK l key j = true → lessK l key i = true := fun j hj i hi e => by
    rw [less_at hj (may j hj)] at e
    rw [less_at (Nat.lt_trans hi hj) (may i (Nat.lt_trans hi hj))]
    exact decide_eq_true (cb_lt_trans (sorted_at hok hr j hj i hi) (of_decide_eq_true e))
  have lo : ∀ i, i < h → lessK l key i = true := fun i hi => by
    have e : lessK l key (h - 1) = true := by simpa using h3 (by omega)
    by_cases e2 : i = h - 1
    · rw [e2]; exact e
    · exact mono (h - 1) (by omega) i (by omega) e
  have hi : ∀ i, h ≤ i → i < l.length → lessK l key i = false := fun i h4 h5 => by
    have e : lessK l key h = false := by simpa using h2 (by omega)
    by_cases e2 : i = h
    · rw [e2]; exact e
    · cases hl : lessK l key i
      · rfl
      · rw [mono i h5 h (by omega) hl] at e; cases e
  have at_ : ∀ i (hi : i < l.length), lessK l key i = Op.bytesLess (keyB l[i]).toList key.toList := fun i hi => by unfold lessK; rw [List.getElem?_eq_getElem hi]
  unfold countK
  conv => rhs; rw [← List.take_append_drop h l]
  rw [List.filter_append, List.length_append]
  have e1 : (l.take h).filter (fun c => Op.bytesLess (keyB c).toList key.toList) = l.take h := List.filter_eq_self.2 fun c hc => by
    obtain ⟨i, hi2, rfl⟩ := List.getElem_of_mem hc
    rw [List.length_take] at hi2
    rw [List.getElem_take, ← at_ i (by omega)]
    exact lo i (by omega)
  have e2 : (l.drop h).filter (fun c => Op.bytesLess (keyB c).toList key.toList) = [] := List.filter_eq_nil_iff.2 fun c hc => by
    obtain ⟨i, hi2, rfl⟩ := List.getElem_of_mem hc
    rw [List.length_drop] at hi2
    rw [List.getElem_drop, ← at_ (h + i) (by omega), hi (h + i) (by omega) (by omega)]
    decide
  rw [e1, e2, List.length_take]
  simp only [List.length_nil]
  omega
def seekN (s key : ByteArray) : Nat := match parseP s with
  | some l => countK l key
  | none => 0

set_option maxRecDepth 100000 in
set_option maxHeartbeats 4000000 in
theorem seekcl_any (w : World) (a : Option Addr) (len cap : Nat) (l : List Cel) (key : ByteArray) (b6 b3 i : Nat) (hb6 : w.heap[b6]? = some (.cells #[.slice a len cap] 22 (0, 0))) (hb3 : w.heap[b3]? = some (.cells #[.string key] 9 (0, 0)))
    (hl : CelsAt w a len l) (hi : i < len) (hm : MaxAt w) :
    Calls Tryd.prog 38 #[.int .i64 i, .pointer (some ⟨b6, 0, none⟩), .pointer (some ⟨b3, 0, none⟩)] w fun e w' => e = .returned (.bool (!lessK l key i)) ∧ Fp [] w w' := by
  have hkl : i < l.length := by rw [← hl.len]; exact hi
  obtain ⟨b1, o1, rfl, hb1, hcells⟩ := cels_get hl hkl
  have hok := hl.ok l[i] (List.getElem_mem hkl)
  have hlk : lessK l key i = Op.bytesLess (keyB l[i]).toList key.toList := by unfold lessK; rw [List.getElem?_eq_getElem hkl]
  rw [hlk]
  obtain ⟨c, hc⟩ : ∃ c, l[i] = c := ⟨_, rfl⟩
  rw [hc] at hok hcells ⊢
  have HMK := Lib.hid (fun w hm => key_all c w hok hm)
  obtain ⟨kb, hkb⟩ : ∃ kb, keyB c = kb := ⟨_, rfl⟩
  rw [hkb] at HMK ⊢
  have HM := Lib.hid hm
  clear hlk hc hkb hl hm hok
  obtain ⟨row, col, ts, seq, del, val⟩ := c
  rw [show cellV (⟨row, col, ts, seq, del, val⟩ : Cel) = .agg #[.string row, .string col, .int .u64 ts, .int .u64 seq, .bool del, .string val] from rfl] at HMK
  have HCE := Lib.hid hcells
  have HB6 := Lib.hid hb6
  have HB3 := Lib.hid hb3
  have zi : (i : Int) < (len : Int) := by omega
  clear hcells hb6 hb3
  go_enter Tryd.func38, Tryd.ntmps38
  go_wp2_with (fail)
  refine wp_region_calm (by kernel_rfl) (by kernel_rfl) ?_
  -- 0
  apply ex_plain rfl rfl rfl
  · intro a w hC hA K hK
    have h1 := hA.free 1 _ (by kernel_rfl) rfl
    obtain ⟨k0, k1, k2, k3, k4, k5⟩ := HCE.out _ hC
    have q6 : w.cell? ⟨b6, 0, none⟩ = some (.slice (some ⟨b1, o1, none⟩) len cap) := cell_of_block ((hC.block _ (heap_lt HB6.out) (by simp)).trans HB6.out) 0
    have q3 : w.cell? ⟨b3, 0, none⟩ = some (.string key) := cell_of_block ((hC.block _ (heap_lt HB3.out) (by simp)).trans HB3.out) 0
    simp only [Oper.wp, execOp]; go_simp
    exact hK _ hC (Fp.refl _ _)
  -- 1
  apply ex_plain rfl rfl rfl
  · intro a w hC hA K hK
    have h0 := hA.free 0 _ (by kernel_rfl) rfl
    simp only [Oper.wp, execOp]; go_simp
    exact hK _ hC (Fp.refl _ _)
  -- 2
  apply ex_plain rfl rfl rfl
  · intro a w hC hA K hK
    have h5 : a.tmps[5]?.getD undef = _ := hA.dep 0 5 _ (by kernel_rfl) rfl
    have h6 : a.tmps[6]?.getD undef = _ := hA.dep 1 6 _ (by kernel_rfl) rfl
    obtain ⟨k0, k1, k2, k3, k4, k5⟩ := HCE.out _ hC
    have q6 : w.cell? ⟨b6, 0, none⟩ = some (.slice (some ⟨b1, o1, none⟩) len cap) := cell_of_block ((hC.block _ (heap_lt HB6.out) (by simp)).trans HB6.out) 0
    have q3 : w.cell? ⟨b3, 0, none⟩ = some (.string key) := cell_of_block ((hC.block _ (heap_lt HB3.out) (by simp)).trans HB3.out) 0
    simp only [Oper.wp, execOp]; go_simp
    exact hK _ hC (Fp.refl _ _)
  -- 3
  apply ex_plain rfl rfl rfl
  · intro a w hC hA K hK
    have h7 : a.tmps[7]?.getD undef = _ := hA.dep 2 7 _ (by kernel_rfl) rfl
    obtain ⟨k0, k1, k2, k3, k4, k5⟩ := HCE.out _ hC
    have q6 : w.cell? ⟨b6, 0, none⟩ = some (.slice (some ⟨b1, o1, none⟩) len cap) := cell_of_block ((hC.block _ (heap_lt HB6.out) (by simp)).trans HB6.out) 0
    have q3 : w.cell? ⟨b3, 0, none⟩ = some (.string key) := cell_of_block ((hC.block _ (heap_lt HB3.out) (by simp)).trans HB3.out) 0
    simp only [Oper.wp, execOp]; go_simp
    exact hK _ hC (Fp.refl _ _)
  -- 4
  apply ex_plain rfl rfl rfl
  · intro a w hC hA K hK
    have h8 : a.tmps[8]?.getD undef = _ := hA.dep 3 8 _ (by kernel_rfl) rfl
    simp only [Oper.wp, execOp]; go_simp
    (with_reducible refine (HMK.out _ (HM.out.fp hC (by simp))).mono ?_); rintro e w2 ⟨rfl, hf⟩; exact hK _ (hC.trans hf (by simp)) hf
  -- 5
  apply ex_plain rfl rfl rfl
  · intro a w hC hA K hK
    have h2 := hA.free 2 _ (by kernel_rfl) rfl
    obtain ⟨k0, k1, k2, k3, k4, k5⟩ := HCE.out _ hC
    have q6 : w.cell? ⟨b6, 0, none⟩ = some (.slice (some ⟨b1, o1, none⟩) len cap) := cell_of_block ((hC.block _ (heap_lt HB6.out) (by simp)).trans HB6.out) 0
    have q3 : w.cell? ⟨b3, 0, none⟩ = some (.string key) := cell_of_block ((hC.block _ (heap_lt HB3.out) (by simp)).trans HB3.out) 0
    simp only [Oper.wp, execOp]; go_simp
    exact hK _ hC (Fp.refl _ _)
  -- 6
  apply ex_plain rfl rfl rfl
  · intro a w hC hA K hK
    have h9 : a.tmps[9]?.getD undef = _ := hA.dep 4 9 _ (by kernel_rfl) rfl
    have h10 : a.tmps[10]?.getD undef = _ := hA.dep 5 10 _ (by kernel_rfl) rfl
    simp only [Oper.wp, execOp]; go_simp
    exact hK _ hC (Fp.refl _ _)
  -- 7
  apply ex_plain rfl rfl rfl
  · intro a w hC hA K hK
    have h11 : a.tmps[11]?.getD undef = _ := hA.dep 6 11 _ (by kernel_rfl) rfl
    simp only [Oper.wp, execOp]; go_simp
    exact hK _ hC (Fp.refl _ _)
  refine ⟨?_, ?_⟩
  · repeat (first | exact trivial | refine stab_val _ ?_ | refine ⟨fun w1 w2 v _ hf ⟨g, h1, h2⟩ => ⟨g, h1, (hf.block g (heap_lt h2) (by simp)).trans h2⟩, ?_⟩)
  · intro w' hC
    simp only [List.reverse_cons, List.reverse_nil, List.nil_append, List.cons_append]
    iterate 8 (refine all_val ?_)
    refine all_nil ?_
    simp only [putAll, Act.put, List.setIfInBounds_toArray, List.set_cons_succ, List.set_cons_zero]
    go_wp2_with (fail)
    go_ret
    exact ⟨rfl, hC⟩

set_option maxRecDepth 100000 in
set_option maxHeartbeats 4000000 in
theorem search_any (w : World) (n b6 b3 : Nat) (p : Nat → Bool) (hn : n ≤ 1000000)
    (hcl : ∀ i W, i < n → Fp [] w W → Calls Tryd.prog 38 #[.int .i64 i, .pointer (some ⟨b6, 0, none⟩), .pointer (some ⟨b3, 0, none⟩)] W fun e W' => e = .returned (.bool (p i)) ∧ Fp [] W W') :
    Calls Tryd.prog 37 #[.int .i64 n, .func (.func 38) #[] #[.pointer (some ⟨b6, 0, none⟩), .pointer (some ⟨b3, 0, none⟩)]] w fun e w' =>
      ∃ h : Nat, e = .returned (.int .i64 h) ∧ h ≤ n ∧ (h < n → p h = true) ∧ (0 < h → p (h - 1) = false) ∧ Fp [] w w' := by
  have HCL := Lib.hid hcl
  clear hcl
  go_enter Tryd.func37, Tryd.ntmps37
  go_wp2_with (fail)
  go_loopg [5, 6] n (fun g vi vj wr => ∃ i j : Nat, g = j - i ∧ i ≤ j ∧ j ≤ n ∧ vi = .int .i64 i ∧ vj = .int .i64 j ∧ (j < n → p j = true) ∧ (0 < i → p (i - 1) = false) ∧ Fp [] w wr)
  case atStart => exact ⟨0, n, by omega, by omega, Nat.le_refl _, rfl, rfl, fun h => absurd h (Nat.lt_irrefl _), fun h => absurd h (Nat.lt_irrefl _), Fp.refl _ _⟩
  case round =>
    obtain ⟨i, j, rfl, hij, hjn, rfl, rfl, hpj, hpi, hf⟩ := hrel
    have HF := Lib.hid hf
    have HPJ := Lib.hid hpj
    have HPI := Lib.hid hpi
    clear hf hpj hpi
    by_cases hlt : i < j
    · have z : (i : Int) < (j : Int) := by omega
      obtain ⟨m, hm⟩ : ∃ m, (i + j) / 2 = m := ⟨_, rfl⟩
      have e1 : ((i : Int) + (j : Int)) / 2 = (m : Int) := by omega
      have hmi : i ≤ m := by omega
      have hmj : m < j := by omega
      clear hm
      go_wp2_with (fail)
      (with_reducible refine (HCL.out m _ (by omega) HF.out).mono ?_)
      rintro e w2 ⟨rfl, hf⟩
      have HF2 := Lib.hid (HF.out.trans hf (by simp))
      clear hf
      cases hp : p m
      · have HP := Lib.hid hp
        clear hp
        go_wp2_with (fail)
        go_roundg (j - (m + 1))
        case measure => omega
        case rel => exact ⟨m + 1, j, rfl, by omega, hjn, by simp, rfl, HPJ.out, fun _ => HP.out, HF2.out⟩
      · have HP := Lib.hid hp
        clear hp
        go_wp2_with (fail)
        go_roundg (m - i)
        case measure => omega
        case rel => exact ⟨i, m, rfl, by omega, by omega, rfl, rfl, fun _ => HP.out, HPI.out, HF2.out⟩
    · obtain rfl : i = j := by omega
      have z : ¬ (i : Int) < (i : Int) := by omega
      go_wp2_with (fail)
      go_ret
      exact ⟨i, rfl, hjn, HPJ.out, HPI.out, HF.out⟩

set_option maxRecDepth 100000 in
set_option maxHeartbeats 4000000 in
theorem seek_any (w : World) (s key : ByteArray) (hs : s.size ≤ 100000) (hm : MaxAt w) :
    Calls Tryd.prog 18 #[.string s, .string key] w fun e w' => e = .returned (.tuple #[.int .i64 (seekN s key : Nat), .int .i64 (codeP s)]) ∧ Fp [] w w' := by
  have HPA := Lib.hid (fun w hm => bparse_any w s hs hm)
  have HM := Lib.hid hm
  clear hm
  obtain ⟨N, hN⟩ : ∃ N, seekN s key = N := ⟨_, rfl⟩
  obtain ⟨ec, hec⟩ : ∃ ec, codeP s = ec := ⟨_, rfl⟩
  rw [hec] at HPA ⊢
  rw [hN]
  have HN := Lib.hid hN
  have HEC := Lib.hid hec
  clear hN hec
  go_enter Tryd.func18, Tryd.ntmps18
  go_wp2_with (fail)
  (with_reducible refine (HPA.out _ (HM.out.fp (Fp.alloc _ _) (by simp))).mono ?_)
  rintro e w2 ⟨v, rfl, ho, hf⟩
  have hb3 := (hf.block _ (by simp) (by simp)).trans (heap_alloc_at (w := w) rfl (.cells #[.string key] 9))
  have HF := Lib.hid ((Fp.alloc w (.cells #[.string key] 9)).trans hf (by simp))
  clear hf
  cases hp : parseP s with
  | none =>
    have HP := Lib.hid hp
    obtain rfl : ec = 50 := by rw [← HEC.out, code_none hp]
    obtain rfl : N = 0 := by rw [← HN.out]; unfold seekN; rw [hp]
    obtain ⟨a, n, c, rfl⟩ := ownC_slice ho
    clear hp ho hb3
    go_wp2_with (fail)
    go_ret2
    exact ⟨rfl, HF.out.alloc' _⟩
  | some l =>
    have HP := Lib.hid hp
    obtain ⟨hr, h0, h1⟩ := parse_is hp
    have hok := parse_ok hs hp
    obtain rfl : ec = 0 := by rw [← HEC.out, code_some hp]
    obtain rfl : N = countK l key := by rw [← HN.out]; unfold seekN; rw [hp]
    rw [hp] at ho
    obtain ⟨a, cap, rfl, hcs⟩ := OwnC.at (l := l) ho hok
    obtain ⟨g1, g2, g3, _⟩ := build_ok h0
    have HCT : Hid (∀ h, h ≤ l.length → (h < l.length → (!lessK l key h) = true) → (0 < h → (!lessK l key (h - 1)) = false) → h = countK l key) := fun h k1 k2 k3 => count_is hok g2 g3 k1 k2 k3
    have HB3 := Lib.hid hb3
    have HCS := Lib.hid hcs
    clear hp ho hb3 hr h0 h1 hcs hok g2 g3
    go_wp2_with (fail)
    have hsz2 : w.heap.size < w2.heap.size := heap_lt HB3.out
    have HSE := Lib.hid (search_any (w2.alloc (.cells #[.slice a l.length cap] 22)) l.length w2.heap.size w.heap.size (fun i => !lessK l key i) (by omega) (fun i W hi hf =>
      seekcl_any W a l.length cap l key w2.heap.size w.heap.size i ((hf.block _ (by simp) (by simp)).trans (heap_alloc_at rfl _)) ((hf.block _ (by simp; omega) (by simp)).trans (heap_alloc_old HB3.out)) ((HCS.out.fp (Fp.alloc _ _)).fp hf) hi (HM.out.fp ((HF.out.alloc' _).trans hf (by simp)) (by simp))))
    (with_reducible refine HSE.out.mono ?_)
    rintro e w3 ⟨h, rfl, h1, h2, h3, hf3⟩
    obtain rfl := HCT.out h h1 h2 h3
    have HF3 := Lib.hid ((HF.out.alloc' _).trans hf3 (by simp))
    clear hf3 h1 h2 h3 HSE
    go_wp2_with (fail)
    go_ret2
    exact ⟨rfl, HF3.out⟩

set_option maxRecDepth 100000 in
set_option maxHeartbeats 4000000 in
theorem rseek_any (w : World) (s key : ByteArray) (hs : s.size ≤ 100000) :
    Calls Tryd.prog 19 #[.string s, .string key] w fun e w' => e = .returned (.tuple #[.int .i64 (seekN s key : Nat), .int .i64 (codeP s)]) ∧ Fp [] w w' := by
  have HPA := Lib.hid (fun w => rparse_any w s hs)
  rw [code_same hs, parse_same hs] at HPA
  obtain ⟨N, hN⟩ : ∃ N, seekN s key = N := ⟨_, rfl⟩
  obtain ⟨ec, hec⟩ : ∃ ec, codeP s = ec := ⟨_, rfl⟩
  rw [hec] at HPA ⊢
  rw [hN]
  have HN := Lib.hid hN
  have HEC := Lib.hid hec
  clear hN hec
  go_enter Tryd.func19, Tryd.ntmps19
  go_wp2_with (fail)
  (with_reducible refine (HPA.out _).mono ?_)
  rintro e w2 ⟨v, rfl, ho, hf⟩
  have HF := Lib.hid hf
  clear hf
  cases hp : parseP s with
  | none =>
    have HP := Lib.hid hp
    obtain rfl : ec = 50 := by rw [← HEC.out, code_none hp]
    obtain rfl : N = 0 := by rw [← HN.out]; unfold seekN; rw [hp]
    clear hp ho
    go_wp2_with (fail)
    go_ret2
    exact ⟨rfl, HF.out⟩
  | some l =>
    have hok := parse_ok hs hp
    obtain rfl : ec = 0 := by rw [← HEC.out, code_some hp]
    obtain rfl : N = countK l key := by rw [← HN.out]; unfold seekN; rw [hp]
    rw [hp] at ho
    obtain ⟨a, cap, rfl, hcs⟩ := OwnC.at (l := l) ho hok
    have HCS := Lib.hid hcs
    have HLL : Hid (l.length ≤ 255) := (build_ok (parse_is hp).2.1).1
    clear hp ho hcs hok
    go_wp2_with (fail)
    go_loopg [8, 9] l.length (fun g vn vi wr => ∃ k : Nat, g + k = l.length ∧ vi = .int .i64 k ∧ vn = .int .i64 (countK (l.take k) key : Nat) ∧ Fp [] w2 wr)
    case atStart => exact ⟨0, by omega, rfl, rfl, Fp.refl _ _⟩
    case round =>
      obtain ⟨k, hg, rfl, rfl, hf⟩ := hrel
      have HF3 := Lib.hid hf
      clear hf
      by_cases hk : k < l.length
      · have zk : (k : Int) < (l.length : Int) := by omega
        have hk9 : k < 1000 := by have := HLL.out; omega
        obtain ⟨b1, o1, rfl, hb1, hcells⟩ := cels_get HCS.out hk
        have hok := HCS.out.ok l[k] (List.getElem_mem hk)
        have hct : countK (l.take (k + 1)) key = countK (l.take k) key + (if Op.bytesLess (keyB l[k]).toList key.toList = true then 1 else 0) := by
          unfold countK
          rw [List.take_succ_eq_append_getElem hk, List.filter_append, List.length_append]
          congr 1
          unfold List.filter
          cases Op.bytesLess (keyB l[k]).toList key.toList <;> rfl
        have hcl : countK (l.take k) key ≤ 255 := by
          have h1 : (l.take k).length ≤ 255 := by rw [List.length_take]; have := HLL.out; omega
          exact Nat.le_trans (List.length_filter_le _ _) h1
        have HCT := Lib.hid hct
        obtain ⟨cc, hcc⟩ : ∃ cc, countK (l.take k) key = cc := ⟨_, rfl⟩
        rw [hcc] at HCT hcl ⊢
        obtain ⟨c, hc⟩ : ∃ c, l[k] = c := ⟨_, rfl⟩
        rw [hc] at hok hcells HCT
        have HMK := Lib.hid (fun w => rkey_any c w hok)
        obtain ⟨kb, hkb⟩ : ∃ kb, keyB c = kb := ⟨_, rfl⟩
        rw [hkb] at HMK HCT
        obtain ⟨b, hb⟩ : ∃ b, Op.bytesLess kb.toList key.toList = b := ⟨_, rfl⟩
        rw [hb] at HCT
        clear hcc hc hkb hok hct
        obtain ⟨row, col, ts, seq, del, val⟩ := c
        rw [show cellV (⟨row, col, ts, seq, del, val⟩ : Cel) = .agg #[.string row, .string col, .int .u64 ts, .int .u64 seq, .bool del, .string val] from rfl] at HMK
        obtain ⟨k0, k1, k2, k3, k4, k5⟩ := hcells _ HF3.out
        clear hcells
        go_wp2_with (fail)
        (with_reducible refine (HMK.out _).mono ?_)
        rintro e w4 ⟨rfl, hf⟩
        have HF4 := Lib.hid (HF3.out.trans hf (by simp))
        clear hf
        cases b
        · go_wp2_with (fail)
          go_roundg (gk - 1)
          case measure => omega
          case rel => exact ⟨k + 1, by omega, by go_num, by rw [HCT.out]; rfl, HF4.out⟩
        · go_wp2_with (fail)
          go_roundg (gk - 1)
          case measure => omega
          case rel => exact ⟨k + 1, by omega, by go_num, by rw [HCT.out]; rfl, HF4.out⟩
      · obtain rfl : k = l.length := by omega
        have zk : ¬ (l.length : Int) < (l.length : Int) := by omega
        rw [List.take_length]
        go_wp2_with (fail)
        go_ret2
        exact ⟨rfl, HF.out.trans HF3.out (by simp)⟩
end

section
open Go.RowKit Go.Lib

theorem body_len : ∀ (l : List Cel) (i : Nat) (last : List UInt8), l.all mayB = true → (bodyL i last l).length ≤ 286 * l.length
  | [], _, _, _ => Nat.le_refl _
  | c :: r, i, last, h => by
    rw [List.all_cons, Bool.and_eq_true] at h
    unfold bodyL
    have h1 := body_len r (i + 1) (keyL c) h.2
    have h2 := key_short h.1
    have h3 := (may_sizes h.1).2.2
    have h4 : (entL (lastAt i last) c).length ≤ 286 := by
      unfold entL
      simp only [List.length_append, List.length_drop, List.length_cons, List.length_nil]
      have e1 : ∀ n, (two n).length = 2 := fun _ => rfl
      have e2 : c.val.data.toList.length = c.val.size := rfl
      rw [e1, e1, e2]
      omega
    rw [List.length_append, List.length_cons]
    omega
theorem built_size {l : List Cel} : (buildP l).1.size ≤ 80000 := by
  by_cases h0 : (buildP l).2 = 0
  · obtain ⟨h1, h2, _, h4⟩ := build_ok h0
    rw [h4, bl_size, List.length_cons]
    have := body_len l 0 [] h2
    omega
  · unfold buildP at h0 ⊢
    split
    · exact Nat.zero_le _
    · split
      · exact Nat.zero_le _
      · split
        · exact Nat.zero_le _
        · rename_i h1 h2 h3
          rw [if_neg h1, if_neg h2, if_neg h3] at h0
          exact absurd rfl h0
theorem built_empty {l : List Cel} (h : (buildP l).2 ≠ 0) : (buildP l).1 = ⟨#[]⟩ := by
  unfold buildP at h ⊢
  split
  · rfl
  · split
    · rfl
    · split
      · rfl
      · rename_i h1 h2 h3
        rw [if_neg h1, if_neg h2, if_neg h3] at h
        exact absurd rfl h

def SomeB (e : Ending) : Prop := ∃ b, e = .returned (.bool b)
set_option maxRecDepth 100000 in
set_option maxHeartbeats 4000000 in
theorem bounded4_any (w : World) (a : Option Addr) (len cap : Nat) (l : List Cel) (hl : CelsAt w a len l) (hn : len ≤ 9223372036854775807) :
    Calls Tryd.prog 9 #[.slice a len cap] w fun e w' => SomeB e ∧ Fp [] w w' := by
  have HL := Lib.hid hl
  have HLEN := Lib.hid hl.len
  clear hl
  go_enter Tryd.func9, Tryd.ntmps9
  go_wp2_with (fail)
  go_loopg [3] len (fun g vi wr => ∃ k : Nat, g + k = len ∧ vi = .int .i64 k ∧ Fp [] w wr)
  case atStart => exact ⟨0, rfl, rfl, Fp.refl _ _⟩
  case round =>
    obtain ⟨k, hg, rfl, hf⟩ := hrel
    have HF := Lib.hid hf
    clear hf
    by_cases hk : k < len
    · have hkl : k < l.length := by rw [← HLEN.out]; exact hk
      have zk : (k : Int) < (len : Int) := by omega
      obtain ⟨b1, o1, rfl, hb1, hcells⟩ := cels_get HL.out hkl
      obtain ⟨c, hc⟩ : ∃ c, l[k] = c := ⟨_, rfl⟩
      rw [hc] at hcells
      obtain ⟨q0, q1, q2, q3, q4, q5⟩ := hcells wr HF.out
      clear hcells hc
      obtain ⟨row, col, ts, seq, del, val⟩ := c
      simp only at q0 q1 q2 q3 q4 q5
      by_cases h1 : row.size > 100
      · have y1 : (row.size : Int) > 100 := by omega
        go_wp2_with (fail)
        go_ret
        exact ⟨⟨_, rfl⟩, HF.out⟩
      · have y1 : ¬ (row.size : Int) > 100 := by omega
        by_cases h2 : col.size > 100
        · have y2 : (col.size : Int) > 100 := by omega
          go_wp2_with (fail)
          go_ret
          exact ⟨⟨_, rfl⟩, HF.out⟩
        · have y2 : ¬ (col.size : Int) > 100 := by omega
          by_cases h3 : val.size > 200
          · have y3 : (val.size : Int) > 200 := by omega
            go_wp2_with (fail)
            go_ret
            exact ⟨⟨_, rfl⟩, HF.out⟩
          · have y3 : ¬ (val.size : Int) > 200 := by omega
            go_wp2_with (fail)
            go_roundg (gk - 1)
            case measure => omega
            case rel => exact ⟨k + 1, by omega, by go_num, HF.out⟩
    · obtain rfl : k = len := by omega
      have zk : ¬ (k : Int) < (k : Int) := by omega
      go_wp2_with (fail)
      go_ret
      exact ⟨⟨_, rfl⟩, HF.out⟩

def shL : List Cel := [⟨⟨#[97]⟩, ⟨#[99]⟩, 2, 0, false, ⟨#[120]⟩⟩, ⟨⟨#[97]⟩, ⟨#[99]⟩, 1, 0, true, ⟨#[]⟩⟩]
theorem shL_ok : ∀ c ∈ shL, CelOK c := by
  intro c hc
  simp only [shL, List.mem_cons, List.not_mem_nil, or_false] at hc
  rcases hc with rfl | rfl <;> exact ⟨by decide, by decide, by decide, by decide, by decide⟩
theorem shL_zero : (buildP shL).2 = 0 := by kernel_rfl
theorem shL_len : shL.length = 2 := rfl
theorem sh_share : shareB ⟨#[97, 98, 99]⟩ ⟨#[97, 98, 100]⟩ = 2 := by kernel_rfl
theorem shL_at (w : World) : CelsAt (w.alloc (.cells #[.string ⟨#[97]⟩, .string ⟨#[99]⟩, .int .u64 2, .int .u64 0, .bool false, .string ⟨#[120]⟩, .string ⟨#[97]⟩, .string ⟨#[99]⟩, .int .u64 1, .int .u64 0, .bool true, .string ⟨#[]⟩] 36)) (some ⟨w.heap.size, 0, none⟩) 2 shL := by
  refine ⟨rfl, Or.inr ⟨w.heap.size, 0, rfl, by simp, fun i hi => ?_⟩, shL_ok⟩
  have hh := heap_alloc_at (w := w) rfl (.cells #[.string ⟨#[97]⟩, .string ⟨#[99]⟩, .int .u64 2, .int .u64 0, .bool false, .string ⟨#[120]⟩, .string ⟨#[97]⟩, .string ⟨#[99]⟩, .int .u64 1, .int .u64 0, .bool true, .string ⟨#[]⟩] 36)
  have h2 : i = 0 ∨ i = 1 := by rw [shL_len] at hi; omega
  rcases h2 with rfl | rfl
  · exact ⟨cell_of_block hh _, cell_of_block hh _, cell_of_block hh _, cell_of_block hh _, cell_of_block hh _, cell_of_block hh _⟩
  · exact ⟨cell_of_block hh _, cell_of_block hh _, cell_of_block hh _, cell_of_block hh _, cell_of_block hh _, cell_of_block hh _⟩

set_option maxRecDepth 100000 in
set_option maxHeartbeats 4000000 in
theorem shown4_any (w : World) (hm : MaxAt w) : Calls Tryd.prog 10 #[] w fun e w' => e = .returned (.bool true) ∧ Fp [] w w' := by
  have HL := Lib.hid (shL_at w)
  have hb := fun (hmm : MaxAt (w.alloc (.cells #[.string ⟨#[97]⟩, .string ⟨#[99]⟩, .int .u64 2, .int .u64 0, .bool false, .string ⟨#[120]⟩, .string ⟨#[97]⟩, .string ⟨#[99]⟩, .int .u64 1, .int .u64 0, .bool true, .string ⟨#[]⟩] 36))) => build_any (w.alloc (.cells #[.string ⟨#[97]⟩, .string ⟨#[99]⟩, .int .u64 2, .int .u64 0, .bool false, .string ⟨#[120]⟩, .string ⟨#[97]⟩, .string ⟨#[99]⟩, .int .u64 1, .int .u64 0, .bool true, .string ⟨#[]⟩] 36)) (some ⟨w.heap.size, 0, none⟩) 2 2 shL (shL_at w) (by decide) hmm
  have hs := built_size (l := shL)
  have hp := parse_built shL_ok shL_zero
  rw [shL_zero] at hb
  obtain ⟨bs, hbs⟩ : ∃ bs, (buildP shL).1 = bs := ⟨_, rfl⟩
  rw [hbs] at hb hs hp
  have HB := Lib.hid hb
  have HM := Lib.hid hm
  have HPA := Lib.hid (fun w hm => bparse_any w bs (by omega) hm)
  rw [code_some hp, hp] at HPA
  have HSH := Lib.hid (fun w => shared_any ⟨#[97, 98, 99]⟩ ⟨#[97, 98, 100]⟩ w (by decide) (by decide))
  rw [sh_share] at HSH
  clear hb hs hp hbs hm
  go_enter Tryd.func10, Tryd.ntmps10
  go_wp2_with (fail)
  (with_reducible refine (HB.out (HM.out.fp (Fp.alloc _ _) (by simp))).mono ?_)
  rintro e w1 ⟨rfl, hf1⟩
  have HF1 := Lib.hid ((Fp.alloc _ _).trans hf1 (by simp))
  have HL1 := Lib.hid (HL.out.fp hf1)
  clear hf1
  go_wp2_with (fail)
  (with_reducible refine (HPA.out _ (HM.out.fp HF1.out (by simp))).mono ?_)
  rintro e w2 ⟨v, rfl, ho, hf2⟩
  have HF2 := Lib.hid (HF1.out.trans hf2 (by simp))
  obtain ⟨a, cap, rfl, hcs⟩ := OwnC.at (l := shL) ho shL_ok
  obtain ⟨b1, o1, rfl, hb1, hc1⟩ := cels_get hcs (k := 1) (by decide)
  obtain ⟨b2, o2, e2, hb2, hc2⟩ := cels_get (HL1.out.fp hf2) (k := 1) (by decide)
  cases e2
  have HC1 := Lib.hid hc1
  have HC2 := Lib.hid hc2
  have HB1 := Lib.hid hb1
  clear hf2 ho hcs hc1 hc2 hb1 hb2
  rw [shL_len]
  go_wp2_with (fail)
  refine wp_region_calm (by kernel_rfl) (by kernel_rfl) ?_
  -- 0
  apply ex_plain rfl rfl rfl
  · intro a w hC hA K hK
    have h3 := hA.free 3 _ (by kernel_rfl) rfl
    simp only [Oper.wp, execOp]; go_simp
    exact hK _ hC (Fp.refl _ _)
  -- 1
  apply ex_plain rfl rfl rfl
  · intro a w hC hA K hK
    have h19 : a.tmps[19]?.getD undef = _ := hA.dep 0 19 _ (by kernel_rfl) rfl
    simp only [Oper.wp, execOp]; go_simp
    exact hK _ hC (Fp.refl _ _)
  -- 2
  apply ex_plain rfl rfl rfl
  · intro a w hC hA K hK
    have h20 : a.tmps[20]?.getD undef = _ := hA.dep 1 20 _ (by kernel_rfl) rfl
    simp only [Oper.wp, execOp]; go_simp
    exact hK _ hC (Fp.refl _ _)
  -- 3
  apply ex_yes 2 21 rfl rfl rfl rfl (by kernel_rfl) rfl rfl
  · intro a w hC hA K hK
    have h5 := hA.free 5 _ (by kernel_rfl) rfl
    simp only [Oper.wp, execOp]; go_simp
    exact hK _ hC (Fp.refl _ _)
  -- 4
  apply ex_yes 2 21 rfl rfl rfl rfl (by kernel_rfl) rfl rfl
  · intro a w hC hA K hK
    have h22 : a.tmps[22]?.getD undef = _ := hA.dep 3 22 _ (by kernel_rfl) rfl
    simp only [Oper.wp, execOp]; go_simp
    exact hK _ hC (Fp.refl _ _)
  -- 5
  apply ex_plain rfl rfl rfl
  · intro a w hC hA K hK
    have h21 : a.tmps[21]?.getD undef = _ := hA.dep 2 21 _ (by kernel_rfl) rfl
    have h23 : a.tmps[23]?.getD undef = _ := hA.dep 4 23 _ (by kernel_rfl) rfl
    simp only [Oper.wp, execOp]; go_simp
    exact hK _ hC (Fp.refl _ _)
  -- 6
  apply ex_plain rfl rfl rfl
  · intro a w hC hA K hK
    have h24 : a.tmps[24]?.getD undef = _ := hA.dep 5 24 _ (by kernel_rfl) rfl
    simp only [Oper.wp, execOp]; go_simp
    exact hK _ hC (Fp.refl _ _)
  -- 7
  apply ex_yes 6 25 rfl rfl rfl rfl (by kernel_rfl) rfl rfl
  · intro a w hC hA K hK
    have h4 := hA.free 4 _ (by kernel_rfl) rfl
    simp only [Oper.wp, execOp]; go_simp
    exact hK _ hC (Fp.refl _ _)
  -- 8
  apply ex_yes 6 25 rfl rfl rfl rfl (by kernel_rfl) rfl rfl
  · intro a w hC hA K hK
    have h26 : a.tmps[26]?.getD undef = _ := hA.dep 7 26 _ (by kernel_rfl) rfl
    simp only [Oper.wp, execOp]; go_simp
    exact hK _ hC (Fp.refl _ _)
  -- 9
  apply ex_yes 6 25 rfl rfl rfl rfl (by kernel_rfl) rfl rfl
  · intro a w hC hA K hK
    have h27 : a.tmps[27]?.getD undef = _ := hA.dep 8 27 _ (by kernel_rfl) rfl
    simp only [Oper.wp, execOp]; go_simp
    exact hK _ hC (Fp.refl _ _)
  -- 10
  apply ex_plain rfl rfl rfl
  · intro a w hC hA K hK
    have h25 : a.tmps[25]?.getD undef = _ := hA.dep 6 25 _ (by kernel_rfl) rfl
    have h28 : a.tmps[28]?.getD undef = _ := hA.dep 9 28 _ (by kernel_rfl) rfl
    simp only [Oper.wp, execOp]; go_simp
    exact hK _ hC (Fp.refl _ _)
  -- 11
  apply ex_plain rfl rfl rfl
  · intro a w hC hA K hK
    have h29 : a.tmps[29]?.getD undef = _ := hA.dep 10 29 _ (by kernel_rfl) rfl
    simp only [Oper.wp, execOp]; go_simp
    exact hK _ hC (Fp.refl _ _)
  -- 12
  apply ex_yes 11 30 rfl rfl rfl rfl (by kernel_rfl) rfl rfl
  · intro a w hC hA K hK
    have h4 := hA.free 4 _ (by kernel_rfl) rfl
    simp only [Oper.wp, execOp]; go_simp
    exact hK _ hC (Fp.refl _ _)
  -- 13
  apply ex_yes 11 30 rfl rfl rfl rfl (by kernel_rfl) rfl rfl
  · intro a w hC hA K hK
    have h31 : a.tmps[31]?.getD undef = _ := hA.dep 12 31 _ (by kernel_rfl) rfl
    obtain ⟨k0, k1, k2, k3, k4, k5⟩ := HC1.out _ hC
    obtain ⟨j0, j1, j2, j3, j4, j5⟩ := HC2.out _ hC
    simp only [shL, List.getElem_cons_succ, List.getElem_cons_zero] at k0 k1 k2 k3 k4 k5 j0 j1 j2 j3 j4 j5
    simp only [Oper.wp, execOp]; go_simp
    exact hK _ hC (Fp.refl _ _)
  -- 14
  apply ex_yes 11 30 rfl rfl rfl rfl (by kernel_rfl) rfl rfl
  · intro a w hC hA K hK
    have h32 : a.tmps[32]?.getD undef = _ := hA.dep 13 32 _ (by kernel_rfl) rfl
    obtain ⟨k0, k1, k2, k3, k4, k5⟩ := HC1.out _ hC
    obtain ⟨j0, j1, j2, j3, j4, j5⟩ := HC2.out _ hC
    simp only [shL, List.getElem_cons_succ, List.getElem_cons_zero] at k0 k1 k2 k3 k4 k5 j0 j1 j2 j3 j4 j5
    simp only [Oper.wp, execOp]; go_simp
    exact hK _ hC (Fp.refl _ _)
  -- 15
  apply ex_yes 11 30 rfl rfl rfl rfl (by kernel_rfl) rfl rfl
  · intro a w hC hA K hK
    have h1 := hA.free 1 _ (by kernel_rfl) rfl
    simp only [Oper.wp, execOp]; go_simp
    exact hK _ hC (Fp.refl _ _)
  -- 16
  apply ex_yes 11 30 rfl rfl rfl rfl (by kernel_rfl) rfl rfl
  · intro a w hC hA K hK
    have h34 : a.tmps[34]?.getD undef = _ := hA.dep 15 34 _ (by kernel_rfl) rfl
    obtain ⟨k0, k1, k2, k3, k4, k5⟩ := HC1.out _ hC
    obtain ⟨j0, j1, j2, j3, j4, j5⟩ := HC2.out _ hC
    simp only [shL, List.getElem_cons_succ, List.getElem_cons_zero] at k0 k1 k2 k3 k4 k5 j0 j1 j2 j3 j4 j5
    simp only [Oper.wp, execOp]; go_simp
    exact hK _ hC (Fp.refl _ _)
  -- 17
  apply ex_yes 11 30 rfl rfl rfl rfl (by kernel_rfl) rfl rfl
  · intro a w hC hA K hK
    have h35 : a.tmps[35]?.getD undef = _ := hA.dep 16 35 _ (by kernel_rfl) rfl
    obtain ⟨k0, k1, k2, k3, k4, k5⟩ := HC1.out _ hC
    obtain ⟨j0, j1, j2, j3, j4, j5⟩ := HC2.out _ hC
    simp only [shL, List.getElem_cons_succ, List.getElem_cons_zero] at k0 k1 k2 k3 k4 k5 j0 j1 j2 j3 j4 j5
    simp only [Oper.wp, execOp]; go_simp
    exact hK _ hC (Fp.refl _ _)
  -- 18
  apply ex_yes 11 30 rfl rfl rfl rfl (by kernel_rfl) rfl rfl
  · intro a w hC hA K hK
    have h33 : a.tmps[33]?.getD undef = _ := hA.dep 14 33 _ (by kernel_rfl) rfl
    have h36 : a.tmps[36]?.getD undef = _ := hA.dep 17 36 _ (by kernel_rfl) rfl
    simp only [Oper.wp, execOp]; go_simp
    exact hK _ hC (Fp.refl _ _)
  -- 19
  apply ex_plain rfl rfl rfl
  · intro a w hC hA K hK
    have h30 : a.tmps[30]?.getD undef = _ := hA.dep 11 30 _ (by kernel_rfl) rfl
    have h37 : a.tmps[37]?.getD undef = _ := hA.dep 18 37 _ (by kernel_rfl) rfl
    simp only [Oper.wp, execOp]; go_simp
    exact hK _ hC (Fp.refl _ _)
  -- 20
  apply ex_plain rfl rfl rfl
  · intro a w hC hA K hK
    have h38 : a.tmps[38]?.getD undef = _ := hA.dep 19 38 _ (by kernel_rfl) rfl
    simp only [Oper.wp, execOp]; go_simp
    exact hK _ hC (Fp.refl _ _)
  -- 21
  apply ex_yes 20 39 rfl rfl rfl rfl (by kernel_rfl) rfl rfl
  · intro a w hC hA K hK
    simp only [Oper.wp, execOp]; go_simp
    (with_reducible refine (HSH.out _).mono ?_); rintro e w2 ⟨rfl, hf⟩; exact hK _ (hC.trans hf (by simp)) hf
  -- 22
  apply ex_yes 20 39 rfl rfl rfl rfl (by kernel_rfl) rfl rfl
  · intro a w hC hA K hK
    have h40 : a.tmps[40]?.getD undef = _ := hA.dep 21 40 _ (by kernel_rfl) rfl
    simp only [Oper.wp, execOp]; go_simp
    exact hK _ hC (Fp.refl _ _)
  -- 23
  apply ex_plain rfl rfl rfl
  · intro a w hC hA K hK
    have h39 : a.tmps[39]?.getD undef = _ := hA.dep 20 39 _ (by kernel_rfl) rfl
    have h41 : a.tmps[41]?.getD undef = _ := hA.dep 22 41 _ (by kernel_rfl) rfl
    simp only [Oper.wp, execOp]; go_simp
    exact hK _ hC (Fp.refl _ _)
  -- 24
  apply ex_plain rfl rfl rfl
  · intro a w hC hA K hK
    have h42 : a.tmps[42]?.getD undef = _ := hA.dep 23 42 _ (by kernel_rfl) rfl
    simp only [Oper.wp, execOp]; go_simp
    exact hK _ hC (Fp.refl _ _)
  refine ⟨?_, ?_⟩
  · repeat (first | exact trivial | refine stab_val _ ?_ | refine ⟨fun w1 w2 v _ hf ⟨g, h1, h2⟩ => ⟨g, h1, (hf.block g (heap_lt h2) (by simp)).trans h2⟩, ?_⟩)
  · intro w' hC
    simp only [List.reverse_cons, List.reverse_nil, List.nil_append, List.cons_append]
    iterate 25 (refine all_val ?_)
    refine all_nil ?_
    simp only [putAll, Act.put, List.setIfInBounds_toArray, List.set_cons_succ, List.set_cons_zero]
    go_wp2_with (fail)
    go_ret
    exact ⟨rfl, HF2.out.trans hC (by simp)⟩
end
end Go.Proofs.YtepffknhkpppcaaDoor
