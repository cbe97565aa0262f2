/-
 The reader of a block's bytes. A range over a function whose iterator turns one block of its own (a reader's). Over any program. The entries of a block: the iterator.
-/
import Derived.Test.YtkjmgbifoaoefaaGreatDoorQBytes
import Derived.Laws.BitsLemmas
import Derived.Laws.DeepStrings4
import Derived.Test.YtkjmgbifoaoefaaGreatDoorQMem
import Derived.RangeFuncWrites
import Derived.RangeFuncCalls
import Derived.RangeFuncLeaves
import Derived.Test.YtkjmgbifoaoefaaGreatDoorQCellA
import Derived.Deep.Cut
import Derived.TacticsIn
import Derived.BigFrameIn
import Derived.BigGuardIn
set_option maxRecDepth 100000
set_option maxHeartbeats 8000000
namespace Go.Proofs.YtkjmgbifoaoefaaGreatDoor
section
open Go.RowKit
structure Rb where
 rest : ByteArray
 ok : Bool
def Rb.take (r : Rb) (n : Nat) : ByteArray × Rb :=
 if n ≤ r.rest.size then (r.rest.extract 0 n, ⟨r.rest.extract n r.rest.size, r.ok⟩) else (ByteArray.empty, ⟨r.rest, false⟩)
def Rb.num (r : Rb) (n : Nat) : Nat × Rb := (leN (r.take n).1 (r.take n).1.size, (r.take n).2)
def RbAt (w : World) (b : Nat) (r : Rb) : Prop := w.heap[b]? = some (.cells #[.string r.rest, .bool r.ok] 152 (0, 0))
theorem RbAt.fp {w w' : World} {b : Nat} {r : Rb} {S : List Nat} (h : RbAt w b r) (hf : Fp S w w') (hb : b ∉ S) : RbAt w' b r := (hf.block b (heap_lt h) hb).trans h
def Nu (w w' : World) : Prop := ∀ B, w.heap.size ≤ B → ∀ c fz, w'.heap[B]? ≠ some (.cells c 157 fz)
theorem Nu.same {w w' : World} (h : w'.heap.size ≤ w.heap.size) : Nu w w' := fun B hB c fz e => by have := heap_lt e; omega
theorem Nu.refl (w : World) : Nu w w := Nu.same (Nat.le_refl _)
theorem Nu.trans {a b c : World} (h : Nu a b) (k : Nu b c) {S : List Nat} (hf : Fp S b c) (hS : ∀ i ∈ S, i < a.heap.size) : Nu a c := fun B hB cs fz e => by
 by_cases hb : b.heap.size ≤ B
 ·exact k B hb cs fz e
 ·have h1 := hf.block B (by omega) (fun hm => by have := hS B hm; omega)
  rw [h1] at e
  exact h B hB cs fz e
theorem rtake_size (r : Rb) (n : Nat) : (r.take n).1.size ≤ n ∧ (r.take n).1.size ≤ r.rest.size ∧ (r.take n).2.rest.size ≤ r.rest.size := by
 unfold Rb.take
 split
 ·simp only [ByteArray.size_extract]; omega
 ·exact ⟨Nat.zero_le _, Nat.zero_le _, Nat.le_refl _⟩
theorem btake_any (w : World) (b n : Nat) (r : Rb) (hr : RbAt w b r) (_hn : n ≤ 1000000) (hs : r.rest.size ≤ 1000000000) :
  Calls Tryz.prog 151 #[.pointer (some ⟨b, 0, none⟩), .int .i64 n] w fun e w' => e = .returned (.string (r.take n).1) ∧ RbAt w' b (r.take n).2 ∧ Fp [b] w w' ∧ Nu w w' := by
 have c0 : w.cell? ⟨b, 0, none⟩ = some (.string r.rest) := cell_of_block hr 0
 have c1 : w.cell? ⟨b, 1, none⟩ = some (.bool r.ok) := cell_of_block hr 1
 have f0 : w.frozen? ⟨b, 0, none⟩ = false := frozen_of_block hr 0
 have f1 : w.frozen? ⟨b, 1, none⟩ = false := frozen_of_block hr 1
 have HR := Lib.hid hr
 obtain ⟨rest, ok⟩ := r
 simp only at c0 c1 hs
 clear hr
 by_cases hl : n ≤ rest.size
 ·have t1 : ¬ (rest.size : Int) < (n : Int) := by omega
  have t2 : (n : Int) ≤ (rest.size : Int) := by omega
  have HT : Hid ((⟨rest, ok⟩ : Rb).take n = (rest.extract 0 n, ⟨rest.extract n rest.size, ok⟩)) := if_pos hl
  go_enter Tryz.func151, Tryz.ntmps151
  go_wp2_with (fail)
  go_ret
  rw [HT.out]
  refine ⟨rfl, ?_, Fp.setCell w ⟨b, 0, none⟩ _, Nu.same (by simp [World.setCell])⟩
  unfold RbAt
  show (w.setCell _ _).heap[b]? = _
  rw [heap_setCell_same HR.out]; rfl
 ·have t1 : (rest.size : Int) < (n : Int) := by omega
  have HT : Hid ((⟨rest, ok⟩ : Rb).take n = (ByteArray.empty, ⟨rest, false⟩)) := if_neg hl
  go_enter Tryz.func151, Tryz.ntmps151
  go_wp2_with (fail)
  go_ret
  rw [HT.out]
  refine ⟨rfl, ?_, ((Fp.setCell w ⟨b, 1, none⟩ (.bool false)).trans (Fp.setCell _ ⟨b, 0, none⟩ _) (by simp)), Nu.same (by simp [World.setCell])⟩
  unfold RbAt
  show ((w.setCell _ _).setCell _ _).heap[b]? = _
  rw [heap_setCell_same (heap_setCell_same HR.out _)]; rfl
theorem or_step2 {s : ByteArray} {k : Nat} (hks : k < s.size) (hk : k < 2) :
  bits .or .i64 (leN s k : Int) (wrap64 ((s[k].toNat : Int) * 2 ^ (8 * k))) = (leN s (k + 1) : Int) := by
 have h0 : s[k].toNat < 256 := s[k].toNat_lt
 have e1 : atB s k = s[k] := by
  unfold atB
  rw [List.getD_eq_getElem?_getD, List.getElem?_eq_getElem (by simpa using hks)]
  simp
  rfl
 have h1 := leN_lt s k
 have h3 := leN_or s k
 rw [e1] at h3
 have h4 : (256 : Nat) ^ k = 2 ^ (8 * k) := by rw [Nat.pow_mul]
 have h5 : (256 : Nat) ^ k ≤ 256 ^ 1 := Nat.pow_le_pow_right (by decide) (by omega)
 have h7 : s[k].toNat * 256 ^ k ≤ 255 * 256 := Nat.mul_le_mul (by omega) h5
 have w2 : ((s[k].toNat : Int) * 2 ^ (8 * k)) = ((s[k].toNat * 256 ^ k : Nat) : Int) := by
  rw [h4]; push_cast; rfl
 rw [w2, show wrap64 ((s[k].toNat * 256 ^ k : Nat) : Int) = ((s[k].toNat * 256 ^ k : Nat) : Int) by unfold wrap64; omega]
 rw [(bits_nat .i64 62 (by decide) (fun n h0 h1 => by rw [IntKind.wrap_i64]; omega) _ _ (by omega) (by omega)).2, h3]
theorem bytes_in (w : World) (s : ByteArray) : ∃ cap W, (convert 9 67 (.string s)).run Tryz.prog w = .ok (.slice (some ⟨w.heap.size, 0, none⟩) s.size cap) W ∧
  (∀ j (h : j < s.size), W.cell? ⟨w.heap.size, j, none⟩ = some (.int .u8 s[j].toNat)) ∧ Fp [] w W ∧ Nu w W := by
 have h := run_bytes_of_string (P := Tryz.prog) w 9 67 5 s Tryz.underlying9 Tryz.underlying67 Tryz.underlying5
 refine ⟨_, _, h, ?_, (Fp.drew w).alloc' _, ?_⟩
 rotate_left
 ·intro B hB c fz e
  have hlt := heap_lt e
  have hsz : (w.drew.alloc (.cells (bytesRow s (grownCap w s.size 0 5)) 5 ((bytesRow s (grownCap w s.size 0 5)).size, (bytesRow s (grownCap w s.size 0 5)).size + 1))).heap.size = w.heap.size + 1 := by simp
  rw [hsz] at hlt
  have hBe : B = w.heap.size := by omega
  have hb := heap_alloc_at (w := w.drew) (n := w.heap.size) rfl (.cells (bytesRow s (grownCap w s.size 0 5)) 5 ((bytesRow s (grownCap w s.size 0 5)).size, (bytesRow s (grownCap w s.size 0 5)).size + 1))
  rw [hBe, hb] at e
  cases e
 have hb := heap_alloc_at (w := w.drew) (n := w.heap.size) rfl (.cells (bytesRow s (grownCap w s.size 0 5)) 5 ((bytesRow s (grownCap w s.size 0 5)).size, (bytesRow s (grownCap w s.size 0 5)).size + 1))
 intro j hj
 rw [cell_of_block hb, bytesRow_at s _ j hj]
 rfl
theorem bnum_any (w : World) (b n : Nat) (r : Rb) (hr : RbAt w b r) (hn : n ≤ 2) (hs : r.rest.size ≤ 1000000000) :
  Calls Tryz.prog 85 #[.pointer (some ⟨b, 0, none⟩), .int .i64 n] w fun e w' => e = .returned (.int .i64 ((r.num n).1 : Nat)) ∧ RbAt w' b (r.num n).2 ∧ Fp [b] w w' ∧ Nu w w' := by
 have HT := Lib.hid (btake_any w b n r hr (by omega) hs)
 have hz := (rtake_size r n).1
 unfold Rb.num
 obtain ⟨t, ht⟩ : ∃ t, r.take n = t := ⟨_, rfl⟩
 obtain ⟨s, r'⟩ := t
 rw [ht] at HT hz
 rw [ht]
 simp only at hz
 have hs2 : s.size ≤ 2 := by omega
 clear hr ht
 go_enter Tryz.func85, Tryz.ntmps85
 go_wp2_with (fail)
 (with_reducible refine HT.out.mono ?_)
 rintro e w1 ⟨rfl, hr1, hf1, hn1⟩
 obtain ⟨cap, W, hconv, hrow, hfw, hnw⟩ := bytes_in w1 s
 have HROW := Lib.hid hrow
 have HR2 := Lib.hid (hr1.fp hfw (by simp))
 have HF2 := Lib.hid (hf1.trans hfw (by simp))
 have HN2 := Lib.hid (hn1.trans hnw hfw (by simp))
 clear hrow hr1 hf1 hfw hn1 hnw
 go_wp2_with (fail)
 go_loopg [4, 12] s.size (fun g vn vi wr => ∃ k : Nat, g + k = s.size ∧ vn = .int .i64 (leN s k : Nat) ∧ vi = .int .i64 k ∧ wr = W)
 case atStart => exact ⟨0, by omega, rfl, rfl, rfl⟩
 case round =>
  obtain ⟨k, hg, rfl, rfl, rfl⟩ := hrel
  by_cases hk : k < s.size
  ·have hk2 : k < 2 := by omega
   have ho := or_step2 hk hk2
   have q0 : wr.cell? ⟨w1.heap.size, k, none⟩ = some (.int .u8 s[k].toNat) := HROW.out k hk
   have hb := s[k].toNat_lt
   go_wp2_with (fail)
   go_roundg (gk - 1)
   case measure => omega
   case rel => exact ⟨k + 1, by omega, by first | rfl | rw [ho], by simp, rfl⟩
  ·obtain rfl : k = s.size := by omega
   go_wp2_with (fail)
   go_ret
   exact ⟨rfl, HR2.out, HF2.out, HN2.out⟩
end
section
open Go.RowKit
theorem Fp.putObj (W : World) (l : Nat) (o : Obj) : Fp [l] W (W.putObj l o) := by
 refine ⟨rfl, rfl, rfl, by simp, fun k _ hn => World.putObj_heap_other (by simpa using hn)⟩
structure Kept (T : TypeId) (base : Nat) (S : List Nat) (W W' : World) : Prop where
 size : W.heap.size ≤ W'.heap.size
 low : ∀ k, k < base → k < W.heap.size → k ∉ S → W'.heap[k]? = W.heap[k]?
 high : ∀ k c fz, base ≤ k → W.heap[k]? = some (.cells c T fz) → W'.heap[k]? = W.heap[k]?
theorem Kept.of {T : TypeId} {base : Nat} {S : List Nat} {W W' : World} (h : Fp S W W') (hS : ∀ k ∈ S, k < base) : Kept T base S W W' :=
 ⟨h.size, fun k _ h2 h3 => h.block k h2 h3, fun k c fz h1 h2 => h.block k (Array.getElem?_eq_some_iff.1 h2).1 (fun hm => by have := hS k hm; omega)⟩
theorem Kept.trans {T : TypeId} {base : Nat} {S S' : List Nat} {a b c : World} (h : Kept T base S a b) (k : Kept T base S' b c) (hs : ∀ i ∈ S', i ∈ S) : Kept T base S a c :=
 ⟨Nat.le_trans h.size k.size, fun i h1 h2 h3 => (k.low i h1 (Nat.lt_of_lt_of_le h2 h.size) (fun hm => h3 (hs i hm))).trans (h.low i h1 h2 h3),
  fun i x fz h1 h2 => (k.high i x fz h1 ((h.high i x fz h1 h2).trans h2)).trans (h.high i x fz h1 h2)⟩
theorem Kept.mono {T : TypeId} {base : Nat} {S S' : List Nat} {a b : World} (h : Kept T base S a b) (hs : ∀ i ∈ S, i ∈ S') : Kept T base S' a b :=
 ⟨h.size, fun i h1 h2 h3 => h.low i h1 h2 (fun hm => h3 (hs i hm)), h.high⟩
section
variable {P : Program}
theorem range_reader {α : Type} {g : Operand} {ps : Array Tmp} {assign body : Code} {Q : Exit → Act → World → Prop} {a : Act} {w : World} {n : Nat} {gf : Nat} {lb : Array Value}
  (hg : a.eval g = .func (.func gf) #[] lb) (eg : ∀ args w, (callFunc gf args).run P w = .ok (.enter gf args) w)
  {encs : α → Array Value} (hps : ∀ x, (encs x).size = ps.size) (T : TypeId) (S0 Sx : List Nat) (hS0 : ∀ k ∈ S0, k < w.heap.size) (hSx : ∀ k ∈ Sx, k < w.heap.size) (rb : Nat) (hrb : rb < w.heap.size) (cx : Nat)
  (V : List α → α → Prop) (I Ix SS : List α → World → Prop)
  (Z : World → Prop) (hI : ∀ s A B k, I s A → Fp [k] A B → (k = w.heap.size ∨ k = w.heap.size + 1) → I s B) (hIr : ∀ s A B, I s A → Fp [rb] A B → Z B → I s B)
  (hIx : ∀ s A B, Ix s A → Fp [w.heap.size + 1] A B → Ix s B)
  (hSS : ∀ s A B, SS s A → Fp [w.heap.size + 1] A B → SS s B)
  (hiter : ∀ (J Jx : List α → World → Prop) (W1 : World), Fp [] w W1 → w.heap.size + 2 ≤ W1.heap.size → (∀ s A B, J s A → Fp [rb] A B → Z B → J s B) →
   (∀ pre x W, V pre x → J pre W → YieldAt Fence.wide (n - 1 - 1) P (w.heap.size + 1) (encs x) W fun e W' => (e = .returned (.bool true) ∧ J (pre ++ [x]) W' ∧ Kept T (w.heap.size + 2) ((w.heap.size + 1) :: S0) W W') ∨ (e = .returned (.bool false) ∧ Jx (pre ++ [x]) W')) →
   J [] W1 → CallsIn Fence.wide (n - 1) P gf (#[.func (.yield (w.heap.size + 1)) #[] #[]] ++ lb) W1 fun e W' => (∃ v, e = .returned v) ∧ ((∃ xs, SS xs W' ∧ J xs W') ∨ (∃ pre, Jx pre W')))
  (h0 : I [] w) (Ax : α → Act → World → Prop) (hAx : ∀ x a' A B, Ax x a' A → Fp [w.heap.size + 1] A B → Ax x a' B)
  (hassign : ∀ (l : Nat) (x : α) (W : World) (K : Act → World → Prop), w.heap.size + 2 ≤ W.heap.size → (∀ a' W', Fp [] W W' → Ax x a' W' → K a' W') →
   assign.wpIn (Fence.wide.inRound l) (n - 1 - 1) P (Exit.then K (fun _ _ _ => False)) { tmps := (ps.zip (encs x)).foldl (fun t (p, v) => t.setIfInBounds p v) a.tmps, defers := [] } W)
  (hbody : ∀ (l : Nat) (pre : List α) (x : α) (a' : Act) (W : World), V pre x → I pre W → w.heap.size + 2 ≤ W.heap.size → Ax x a' W → body.wpIn (Fence.wide.inRound l) (n - 1 - 1) P (fun e _ W' => match e with
    |.normal => Kept T (w.heap.size + 2) S0 W W' ∧ I (pre ++ [x]) W'
    |.exit id => id = cx ∧ Kept T (w.heap.size + 2) Sx W W' ∧ Ix (pre ++ [x]) W'
    |_ => False) a' W)
  (hdone : ∀ (xs : List α) (W : World), SS xs W → I xs W → W.heap[w.heap.size]? = some (.deferred (some [])) → Q .normal { a with defers := { target := .collected w.heap.size, args := #[] } :: a.defers } W)
  (hstop : ∀ (pre : List α) (W : World), Ix pre W → W.heap[w.heap.size]? = some (.deferred (some [])) → (Code.exit cx).wpIn Fence.wide n P Q { a with defers := { target := .collected w.heap.size, args := #[] } :: a.defers } W) :
  (Code.rangeFunc g ps assign body).wpIn Fence.wide n P Q a w := by
 refine wpIn_rangeFunc ?_
 intro fn hfn
 obtain ⟨rec, hrec⟩ : ∃ rec : LoopState → Option Code → Loop, rec = fun st pe => { state := st, pending := pe, fn, tmps := a.tmps, params := ps, assign, body, defers := w.heap.size } := ⟨_, rfl⟩
 obtain ⟨W1, hW1⟩ : ∃ W1, (w.alloc (.deferred (some []))).alloc (.loop (rec .ready none)) = W1 := ⟨_, rfl⟩
 have hL1 : W1.heap[w.heap.size + 1]? = some (.loop (rec .ready none)) := by
  rw [← hW1]; have := World.alloc_heap_new (w.alloc (.deferred (some []))) (.loop (rec .ready none)); rwa [World.size_alloc] at this
 have hK1 : W1.heap[w.heap.size]? = some (.deferred (some [])) := by
  rw [← hW1]; exact (Below.heap_alloc _ _ _ (by simp)).trans (World.alloc_heap_new w _)
 have hf1 : Fp [] w W1 := by rw [← hW1]; exact (Fp.alloc w _).alloc' _
 have hI1 : I [] W1 := hI [] w W1 w.heap.size h0 (hf1.mono (by simp)) (Or.inl rfl)
 refine ⟨w.heap.size + 1, [{ target := .collected w.heap.size, args := #[] }], W1, { target := .fn (.func gf) lb, args := #[.func (.yield (w.heap.size + 1)) #[] #[]] }, W1, gf,
  #[.func (.yield (w.heap.size + 1)) #[] #[]] ++ lb, W1, ?_, ?_, ?_, ?_, (fun h => by cases h), ?_⟩
 ·rw [← hW1, hrec]; exact run_enterLoop_outer _ _ _ _ _
 ·simp only [resolve, hg]
  simp [go_sem]
 ·intro f' _; trivial
 ·simp [invoke, go_sem, eg]
 ·refine (hiter
   (fun pre W => I pre W ∧ W.heap[w.heap.size + 1]? = some (.loop (rec .ready none)) ∧ W.heap[w.heap.size]? = some (.deferred (some [])))
   (fun pre W => Ix pre W ∧ W.heap[w.heap.size + 1]? = some (.loop (rec .done (some (.exit cx)))) ∧ W.heap[w.heap.size]? = some (.deferred (some [])))
   W1 hf1 (heap_lt hL1) ?_ ?_ ⟨hI1, hL1, hK1⟩).mono ?_
  ·rintro s A B ⟨h1, h2, h3⟩ hf hz
   exact ⟨hIr s A B h1 hf hz, (hf.block _ (heap_lt h2) (by simp; omega)).trans h2, (hf.block _ (heap_lt h3) (by simp; omega)).trans h3⟩
  ·rintro pre x W hV ⟨hi, hl, hk⟩
   have hlt : w.heap.size + 1 < W.heap.size := (Array.getElem?_eq_some_iff.1 hl).1
   have hy := run_yield (P := P) (args := encs x) hl (by rw [hrec]; exact hps x)
   rw [hrec] at hy
   refine ⟨fn, _, assign, body, hy, roundIn_of_wpIn hfn (hassign _ x W _ hlt fun a' W2 hf2 ha' => ?_)⟩
   have hlA : W2.heap[w.heap.size + 1]? = some (.loop (rec .ready none)) := (hf2.block _ (heap_lt hl) (by simp)).trans hl
   have hkA : W2.heap[w.heap.size]? = some (.deferred (some [])) := (hf2.block _ (heap_lt hk) (by simp)).trans hk
   have hiA : I pre W2 := hI pre W W2 w.heap.size hi (hf2.mono (by simp)) (Or.inl rfl)
   have hltA : w.heap.size + 1 < W2.heap.size := heap_lt hlA
   refine ⟨_, run_beginRound hlA (by rw [hrec]), ?_⟩
   have hl2 : (W2.putObj (w.heap.size + 1) (.loop { rec .ready none with state := .busy })).heap[w.heap.size + 1]? = some (.loop { rec .ready none with state := .busy }) := World.putObj_heap_same hltA
   have hk2 : (W2.putObj (w.heap.size + 1) (.loop { rec .ready none with state := .busy })).heap[w.heap.size]? = some (.deferred (some [])) := (World.putObj_heap_other (by omega)).trans hkA
   have hfp2 := Fp.putObj W2 (w.heap.size + 1) (.loop { rec .ready none with state := .busy })
   refine wpIn_mono (hbody _ pre x a' _ hV (hI pre _ _ (w.heap.size + 1) hiA hfp2 (Or.inr rfl)) (Nat.le_trans hltA hfp2.size) (hAx _ _ _ _ ha' hfp2)) ?_
   have fin : ∀ (jump : Option Code) (W3 : World) (S : List Nat), (∀ k ∈ S, k < w.heap.size) → Kept T (w.heap.size + 2) S (W2.putObj (w.heap.size + 1) (.loop { rec .ready none with state := .busy })) W3 →
     (Instr.endRound (w.heap.size + 1) jump).run P W3 = .ok (.bool jump.isNone) (W3.putObj (w.heap.size + 1) (.loop (rec (if jump.isNone then .ready else .done) jump))) ∧
     (W3.putObj (w.heap.size + 1) (.loop (rec (if jump.isNone then .ready else .done) jump))).heap[w.heap.size + 1]? = some (.loop (rec (if jump.isNone then .ready else .done) jump)) ∧
     (W3.putObj (w.heap.size + 1) (.loop (rec (if jump.isNone then .ready else .done) jump))).heap[w.heap.size]? = some (.deferred (some [])) := fun jump W3 S hS hk3 => by
    have hl3 := (hk3.low _ (by omega) (heap_lt hl2) (fun hm => by have := hS _ hm; omega)).trans hl2
    have hk4 := (hk3.low _ (by omega) (heap_lt hk2) (fun hm => by have := hS _ hm; omega)).trans hk2
    have := run_endRound (P := P) jump hl3
    rw [hrec] at this ⊢
    exact ⟨this, World.putObj_heap_same (heap_lt hl3), (World.putObj_heap_other (by omega)).trans hk4⟩
   rintro e a3 W3 hp
   cases e with
   |normal =>
    obtain ⟨hk3, hi3⟩ := hp
    obtain ⟨hr, hl4, hk4⟩ := fin none W3 S0 hS0 hk3
    refine ⟨_, _, hr, .inl ⟨rfl, ⟨hI _ _ _ _ hi3 (Fp.putObj _ _ _) (Or.inr rfl), hl4, hk4⟩, ?_⟩⟩
    exact ((Kept.of ((hf2.mono (by simp)).trans hfp2 (by simp) : Fp ((w.heap.size + 1) :: S0) _ _) (by intro k hk; rcases List.mem_cons.1 hk with h | h; omega; have := hS0 k h; omega)).trans hk3 (fun k hk => by simp [hk])).trans (Kept.of (Fp.putObj _ _ _) (by simp)) (by simp)
   |exit id =>
    obtain ⟨rfl, hk3, hi3⟩ := hp
    obtain ⟨hr, hl4, hk4⟩ := fin (some (.exit id)) W3 Sx hSx hk3
    exact ⟨_, _, hr, .inr ⟨rfl, hIx _ _ _ hi3 (Fp.putObj _ _ _), hl4, hk4⟩⟩
   |ret => exact hp.elim
   |goto t => exact hp.elim
   |panic ch => exact hp.elim
   |outgrown => exact hp.elim
  ·rintro e W2 ⟨⟨v, rfl⟩, (⟨xs, hS, hi, hl, hk⟩ | ⟨pre, hi, hl, hk⟩)⟩
   ·exact ⟨none, _, by have := run_endLoop (P := P) hl (by rw [hrec]; simp); rw [hrec] at this; exact this, hdone xs _ (hSS _ _ _ hS (Fp.putObj _ _ _)) (hI _ _ _ _ hi (Fp.putObj _ _ _) (Or.inr rfl)) ((World.putObj_heap_other (by omega)).trans hk)⟩
   ·exact ⟨some (.exit cx), _, by have := run_endLoop (P := P) hl (by rw [hrec]; simp); rw [hrec] at this; exact this, hstop pre _ (hIx _ _ _ hi (Fp.putObj _ _ _)) ((World.putObj_heap_other (by omega)).trans hk)⟩
end
end
section
open Go.RowKit
structure Ent where
 key : ByteArray
 del : Nat
 val : ByteArray
def Ent.cells (x : Ent) : Array Value := #[.string x.key, .int .u8 x.del, .string x.val]
def encEn (x : Ent) : Array Value := #[.agg #[.string x.key, .int .u8 x.del, .string x.val]]
def pick2 : Bool → Bool → Rb → Rb → Rb → Rb
 |false, _, r, _, _ => r
 |true, false, _, r, _ => r
 |true, true, _, _, r => r
def C2 (i j : Nat) (E : List Nat) (w0 : World) (rb : Nat) (r r' r'' : Rb) (b : Nat → Bool) (w : World) : Prop := Fp (rb :: E) w0 w ∧ RbAt w rb (pick2 (b i) (b j) r r' r'')
section
variable {i j : Nat} {E : List Nat} {w0 w w' : World} {rb : Nat} {r r' r'' : Rb} {b : Nat → Bool}
theorem C2.fp (h : C2 i j E w0 rb r r' r'' b w) : Fp (rb :: E) w0 w := h.1
theorem C2.first (h : C2 i j E w0 rb r r' r'' b w) (h1 : b i = false) : RbAt w rb r := by have := h.2; rw [h1] at this; exact this
theorem C2.second (h : C2 i j E w0 rb r r' r'' b w) (h1 : b i = true) (h2 : b j = false) : RbAt w rb r' := by have := h.2; rw [h1, h2] at this; exact this
theorem C2.last (h : C2 i j E w0 rb r r' r'' b w) (h1 : b i = true) (h2 : b j = true) : RbAt w rb r'' := by have := h.2; rw [h1, h2] at this; exact this
theorem upd_self : upd b i i = true := if_pos rfl
theorem updE_ne (h : j ≠ i) : upd b i j = b j := if_neg h
theorem C2.did1 (h : C2 i j E w0 rb r r' r'' b w) (hij : j ≠ i) (h2 : b j = false) (hr : RbAt w' rb r') (hf : Fp [rb] w w') : C2 i j E w0 rb r r' r'' (upd b i) w' :=
 ⟨h.1.trans hf (by simp), by rw [upd_self, updE_ne hij, h2]; exact hr⟩
theorem C2.did2 (h : C2 i j E w0 rb r r' r'' b w) (hij : i ≠ j) (h1 : b i = true) (hr : RbAt w' rb r'') (hf : Fp [rb] w w') : C2 i j E w0 rb r r' r'' (upd b j) w' :=
 ⟨h.1.trans hf (by simp), by rw [upd_self, updE_ne hij, h1]; exact hr⟩
end
def stepE (last : ByteArray) (r : Rb) : Option Ent × Rb :=
 if (r.num 2).1 ≤ last.size then
  (if ((((((r.num 2).2.num 2).2.take ((r.num 2).2.num 2).1).2.num 1).2.num 1).2.take ((((((r.num 2).2.num 2).2.take ((r.num 2).2.num 2).1).2.num 1).2.num 1).1)).2.ok then
   some ⟨last.extract 0 (r.num 2).1 ++ (((r.num 2).2.num 2).2.take ((r.num 2).2.num 2).1).1, ((((r.num 2).2.num 2).2.take ((r.num 2).2.num 2).1).2.num 1).1,
    ((((((r.num 2).2.num 2).2.take ((r.num 2).2.num 2).1).2.num 1).2.num 1).2.take ((((((r.num 2).2.num 2).2.take ((r.num 2).2.num 2).1).2.num 1).2.num 1).1)).1⟩ else none,
   ((((((r.num 2).2.num 2).2.take ((r.num 2).2.num 2).1).2.num 1).2.num 1).2.take ((((((r.num 2).2.num 2).2.take ((r.num 2).2.num 2).1).2.num 1).2.num 1).1)).2)
 else (none, ⟨((r.num 2).2.num 2).2.rest, false⟩)
def entsE : Nat → ByteArray → Rb → List Ent × Rb
 |0, _, r => ([], r)
 |k + 1, last, r => match stepE last r with
  |(none, r') => ([], r')
  |(some x, r') => (x :: (entsE k x.key r').1, (entsE k x.key r').2)
theorem bnum_at {b n v : Nat} (z : Int) {r r' : Rb} (h : r.num n = (v, r')) (hz : z = n) (hn : n ≤ 2) (hs : r.rest.size ≤ 1000000000) (w : World) (hr : RbAt w b r) :
  Calls Tryz.prog 85 #[.pointer (some ⟨b, 0, none⟩), .int .i64 z] w fun e w' => e = .returned (.int .i64 (v : Nat)) ∧ RbAt w' b r' ∧ Fp [b] w w' ∧ Nu w w' := by
 have := bnum_any w b n r hr hn hs
 subst hz
 rw [h] at this
 exact this
theorem btake_at {b n : Nat} {s : ByteArray} {r r' : Rb} (h : r.take n = (s, r')) (hn : n ≤ 1000000) (hs : r.rest.size ≤ 1000000000) (w : World) (hr : RbAt w b r) :
  Calls Tryz.prog 151 #[.pointer (some ⟨b, 0, none⟩), .int .i64 n] w fun e w' => e = .returned (.string s) ∧ RbAt w' b r' ∧ Fp [b] w w' ∧ Nu w w' := by
 have := btake_any w b n r hr hn hs
 rw [h] at this
 exact this
theorem num_facts {n v : Nat} {r r' : Rb} (h : r.num n = (v, r')) : v < 256 ^ n ∧ r'.rest.size ≤ r.rest.size := by
 have h1 := rtake_size r n
 have h2 := leN_lt (r.take n).1 (r.take n).1.size
 unfold Rb.num at h
 cases h
 exact ⟨Nat.lt_of_lt_of_le h2 (Nat.pow_le_pow_right (by decide) h1.1), h1.2.2⟩
theorem take_facts {n : Nat} {s : ByteArray} {r r' : Rb} (h : r.take n = (s, r')) : s.size + r'.rest.size ≤ r.rest.size := by
 unfold Rb.take at h
 split at h
 ·cases h
  simp only [ByteArray.size_extract]
  omega
 ·cases h
  show 0 + r.rest.size ≤ _
  omega
theorem notin3 {x a b : Nat} {S : List Nat} (h1 : x ≠ a) (h2 : x ≠ b) (h3 : x ∉ S) : x ∉ a :: b :: S := by simp [h1, h2, h3]
theorem step_far {last : ByteArray} {r r1 r2 : Rb} {n m : Nat} (h1 : r.num 2 = (n, r1)) (h2 : r1.num 2 = (m, r2)) (h : ¬ n ≤ last.size) : stepE last r = (none, ⟨r2.rest, false⟩) := by
 unfold stepE
 simp only [h1, h2]
 rw [if_neg h]
theorem step_near {last t val : ByteArray} {r r1 r2 r3 r4 r5 r6 : Rb} {n m d v : Nat} (h1 : r.num 2 = (n, r1)) (h2 : r1.num 2 = (m, r2)) (h : n ≤ last.size) (h3 : r2.take m = (t, r3)) (h4 : r3.num 1 = (d, r4)) (h5 : r4.num 1 = (v, r5)) (h6 : r5.take v = (val, r6)) :
  stepE last r = (if r6.ok then some ⟨last.extract 0 n ++ t, d, val⟩ else none, r6) := by
 unfold stepE
 simp only [h1, h2, h3, h4, h5, h6]
 rw [if_pos h]
theorem ents_none {last : ByteArray} {r r' : Rb} {k many : Nat} (h : stepE last r = (none, r')) (hk : k < many) : entsE (many - k) last r = ([], r') := by
 obtain ⟨j, hj⟩ : ∃ j, many - k = j + 1 := ⟨many - k - 1, by omega⟩
 rw [hj]
 unfold entsE
 rw [h]
theorem ents_some {last : ByteArray} {r r' : Rb} {x : Ent} {k many : Nat} (h : stepE last r = (some x, r')) (hk : k < many) : entsE (many - k) last r = (x :: (entsE (many - (k + 1)) x.key r').1, (entsE (many - (k + 1)) x.key r').2) := by
 obtain ⟨j, hj⟩ : ∃ j, many - k = j + 1 := ⟨many - k - 1, by omega⟩
 rw [hj, show many - (k + 1) = j by omega]
 conv => lhs; unfold entsE
 rw [h]
def zeroE : Array Value := #[.string ByteArray.empty, .int .u8 0, .string ByteArray.empty]
def EB (N : Nat) (w : World) (B : Nat) : Prop := N ≤ B ∧ ∃ c fz, w.heap[B]? = some (.cells c 157 fz)
def EntSt (b1 b2 : Bool) (N : Nat) (xc : Array Value) (w : World) : Prop :=
 (b1 = false → ∀ B, ¬ EB N w B) ∧ (b1 = true → ∃ B, N ≤ B ∧ w.heap[B]? = some (.cells (bif b2 then xc else zeroE) 157 (0, 0)) ∧ ∀ B', EB N w B' → B' = B)
theorem EB.back {N rb B : Nat} {w w' : World} (hf : Fp [rb] w w') (hn : Nu w w') (hrb : rb < N) (h : EB N w' B) : EB N w B := by
 obtain ⟨h1, c, fz, h2⟩ := h
 by_cases hB : w.heap.size ≤ B
 ·exact absurd h2 (hn B hB c fz)
 ·exact ⟨h1, c, fz, (hf.block B (by omega) (by simp; omega)).symm.trans h2⟩
theorem EB.fp {N rb B : Nat} {w w' : World} (h : EB N w B) (hf : Fp [rb] w w') (hrb : rb < N) : EB N w' B := by
 obtain ⟨h1, c, fz, h2⟩ := h
 exact ⟨h1, c, fz, (hf.block B (heap_lt h2) (by simp; omega)).trans h2⟩
theorem EntSt.fp {b1 b2 : Bool} {N rb : Nat} {xc : Array Value} {w w' : World} (h : EntSt b1 b2 N xc w) (hf : Fp [rb] w w') (hn : Nu w w') (hrb : rb < N) : EntSt b1 b2 N xc w' := by
 refine ⟨fun e B hB => h.1 e B (hB.back hf hn hrb), fun e => ?_⟩
 obtain ⟨B, g1, g2, g3⟩ := h.2 e
 exact ⟨B, g1, (hf.block B (heap_lt g2) (by simp; omega)).trans g2, fun B' hB' => g3 B' (hB'.back hf hn hrb)⟩
def C6 (w0 : World) (rb : Nat) (xc : Array Value) (r r' r'' : Rb) (b : Nat → Bool) (w : World) : Prop := C2 5 8 [] w0 rb r r' r'' b w ∧ EntSt (b 11) (b 12) w0.heap.size xc w
section
variable {w0 w : World} {rb : Nat} {xc : Array Value} {r r' r'' : Rb} {b : Nat → Bool}
theorem C6.c (h : C6 w0 rb xc r r' r'' b w) : C2 5 8 [] w0 rb r r' r'' b w := h.1
theorem C6.e (h : C6 w0 rb xc r r' r'' b w) : EntSt (b 11) (b 12) w0.heap.size xc w := h.2
theorem C6.made (h : C6 w0 rb xc r r' r'' b w) (h11 : b 11 = false) (h12 : b 12 = false) : C6 w0 rb xc r r' r'' (upd b 11) (w.alloc (.cells zeroE 157)) ∧
  EB w0.heap.size (w.alloc (.cells zeroE 157)) w.heap.size ∧ ∀ B, EB w0.heap.size w B → EB w0.heap.size (w.alloc (.cells zeroE 157)) B := by
 have hs := h.c.fp.size
 refine ⟨⟨⟨h.c.1.alloc' _, h.c.2.fp (Fp.alloc _ _) (by simp)⟩, (fun e => by rw [upd_self] at e; cases e), fun _ => ⟨w.heap.size, hs, ?_, ?_⟩⟩, ⟨hs, _, _, heap_alloc_at rfl _⟩, ?_⟩
 ·rw [updE_ne (by decide), h12]
  exact heap_alloc_at rfl _
 ·rintro B ⟨h1, c, fz, h2⟩
  by_cases hB : B < w.heap.size
  ·rw [Below.heap_alloc _ _ _ hB] at h2
   exact absurd ⟨h1, c, fz, h2⟩ (h.e.1 h11 B)
  ·have := heap_lt h2
   simp at this
   omega
 ·rintro B ⟨h1, c, fz, h2⟩
  exact ⟨h1, c, fz, heap_alloc_old h2⟩
theorem C6.block (h : C6 w0 rb xc r r' r'' b w) (h11 : b 11 = true) {B : Nat} (hB : EB w0.heap.size w B) : w.heap[B]? = some (.cells (bif b 12 then xc else zeroE) 157 (0, 0)) := by
 obtain ⟨B', g1, g2, g3⟩ := h.e.2 h11
 rw [g3 B hB]
 exact g2
theorem C6.stored (h : C6 w0 rb xc r r' r'' b w) (h11 : b 11 = true) {B : Nat} (hB : EB w0.heap.size w B) {w' : World} (hf : Fp [B] w w') (hs : w'.heap.size = w.heap.size) (hc : w'.heap[B]? = some (.cells xc 157 (0, 0))) (hrb : rb < w0.heap.size) :
  C6 w0 rb xc r r' r'' (upd b 12) w' ∧ ∀ B', EB w0.heap.size w B' → EB w0.heap.size w' B' := by
 obtain ⟨B0, g1, g2, g3⟩ := h.e.2 h11
 have hBN := hB.1
 refine ⟨⟨⟨h.c.1.trans hf (by simp; omega), h.c.2.fp hf (by simp; omega)⟩, fun e => ?_, fun _ => ⟨B, hB.1, ?_, ?_⟩⟩, ?_⟩
 ·rw [updE_ne (by decide), h11] at e; cases e
 ·rw [upd_self]; exact hc
 ·rintro B' ⟨h1, c, fz, h2⟩
  by_cases e : B' = B
  ·exact e
  ·have h3 := hf.block B' (by rw [← hs]; exact heap_lt h2) (by simpa using e)
   rw [h3] at h2
   rw [g3 B hB]
   exact g3 B' ⟨h1, c, fz, h2⟩
 ·rintro B' hB'
  by_cases e : B' = B
  ·subst e; exact ⟨hB'.1, _, _, hc⟩
  ·obtain ⟨h1, c, fz, h2⟩ := hB'
   exact ⟨h1, c, fz, (hf.block B' (heap_lt h2) (by simpa using e)).trans h2⟩
end
def C7 (w0 : World) (rb B : Nat) (key val : ByteArray) (d : Nat) (r r' r'' : Rb) (b : Nat → Bool) (w : World) : Prop :=
 C2 2 3 [B] w0 rb r r' r'' b w ∧ w.heap[B]? = some (.cells #[.string key, .int .u8 d, .string (bif b 5 then val else ByteArray.empty)] 157 (0, 0))
section
variable {w0 w : World} {rb B d : Nat} {key val : ByteArray} {r r' r'' : Rb} {b : Nat → Bool}
theorem C7.c (h : C7 w0 rb B key val d r r' r'' b w) : C2 2 3 [B] w0 rb r r' r'' b w := h.1
theorem C7.e (h : C7 w0 rb B key val d r r' r'' b w) : w.heap[B]? = some (.cells #[.string key, .int .u8 d, .string (bif b 5 then val else ByteArray.empty)] 157 (0, 0)) := h.2
theorem C7.stored (h : C7 w0 rb B key val d r r' r'' b w) (hrb : rb ≠ B) : C7 w0 rb B key val d r r' r'' (upd b 5) (w.setCell ⟨B, 2, none⟩ (.string val)) := by
 refine ⟨⟨h.c.1.setCell' (Or.inl (by simp)) _, h.c.2.fp (Fp.setCell w ⟨B, 2, none⟩ (.string val)) (by simpa using hrb)⟩, ?_⟩
 rw [heap_setCell_same h.e, upd_self]
 rfl
end
theorem entries_any (base L n many bm bp rb : Nat) (w : World) (r0 : Rb) (hn : 1 ≤ n) (hbm : w.heap[bm]? = some (.cells #[.int .i64 many] 3 (0, 0))) (hbp : w.heap[bp]? = some (.cells #[.pointer (some ⟨rb, 0, none⟩)] 150 (0, 0)))
  (hrb : RbAt w rb r0) (hrs : r0.rest.size ≤ 1000000000) (hmany : many ≤ 1000000) (hbase : base ≤ w.heap.size) (hbml : bm < base) (hbpl : bp < base) (hrbl : rb < base) (hmr : bm ≠ rb) (hpr : bp ≠ rb) (hmL : bm ≠ L) (hpL : bp ≠ L) (hrL : rb ≠ L)
  (S0 : List Nat) (hS0 : ∀ k ∈ S0, k < base ∧ k ≠ bm ∧ k ≠ bp ∧ k ≠ rb) (J Jx : List Ent → World → Prop)
  (hJ : ∀ s A B, J s A → Fp [rb] A B → (∃ r, RbAt B rb r) → J s B)
  (hy : ∀ pre x W, (∃ post, (entsE many ByteArray.empty r0).1 = pre ++ x :: post) → J pre W → YieldAt Fence.wide (n - 1) Tryz.prog L (encEn x) W fun e W' => (e = .returned (.bool true) ∧ J (pre ++ [x]) W' ∧ Kept 157 base (L :: S0) W W') ∨ (e = .returned (.bool false) ∧ Jx (pre ++ [x]) W'))
  (h0 : J [] w) :
  CallsIn Fence.wide n Tryz.prog 150 #[.func (.yield L) #[] #[], .pointer (some ⟨bm, 0, none⟩), .pointer (some ⟨bp, 0, none⟩)] w fun e w' => (∃ v, e = .returned v) ∧
   ((∃ xs, (xs = (entsE many ByteArray.empty r0).1 ∧ RbAt w' rb (entsE many ByteArray.empty r0).2) ∧ J xs w') ∨ ∃ pre, Jx pre w') := by
 rw [callsIn_wide]
 have HY := Lib.hid hy
 have HJ := Lib.hid hJ
 have HS0 := Lib.hid hS0
 have q0 : w.cell? ⟨bm, 0, none⟩ = some (.int .i64 many) := cell_of_block hbm 0
 have HRB := Lib.hid hrb
 have HBM := Lib.hid hbm
 have HBP := Lib.hid hbp
 have HRS := Lib.hid hrs
 clear hy hJ hS0 hrb hbm hbp hrs
 go_enter Tryz.func150, Tryz.ntmps150
 go_wp2_with (fail)
 go_loopg [4, 9] many (fun g vl vi wr => ∃ (k : Nat) (last : ByteArray) (pre : List Ent) (r : Rb), g + k = many ∧ vl = .string last ∧ vi = .int .i64 k ∧ J pre wr ∧ RbAt wr rb r ∧ last.size + r.rest.size ≤ 1000000000 ∧ Kept 157 base (rb :: L :: S0) w wr ∧
  entsE many ByteArray.empty r0 = (pre ++ (entsE (many - k) last r).1, (entsE (many - k) last r).2))
 case atStart => exact ⟨0, ByteArray.empty, [], r0, by omega, rfl, rfl, h0, HRB.out, by have := HRS.out; simpa using this, Kept.of (Fp.refl [] _) (by simp) |>.mono (by simp), rfl⟩
 case round =>
  obtain ⟨k, last, pre, r, hg, rfl, rfl, hj, hr, hsz, hf, heq⟩ := hrel
  have HFW := Lib.hid hf
  have HEQ := Lib.hid heq
  have HR := Lib.hid hr
  have HJK := Lib.hid hj
  clear hf heq hr hj
  have q1 : wr.cell? ⟨bm, 0, none⟩ = some (.int .i64 many) := cell_of_block ((HFW.out.low _ hbml (heap_lt HBM.out) (notin3 hmr hmL fun h => (HS0.out _ h).2.1 rfl)).trans HBM.out) 0
  have hbp1 : wr.heap[bp]? = some (.cells #[.pointer (some ⟨rb, 0, none⟩)] 150 (0, 0)) := (HFW.out.low _ hbpl (heap_lt HBP.out) (notin3 hpr hpL fun h => (HS0.out _ h).2.2.1 rfl)).trans HBP.out
  have q2 : wr.cell? ⟨bp, 0, none⟩ = some (.pointer (some ⟨rb, 0, none⟩)) := cell_of_block hbp1 0
  have HBP1 := Lib.hid hbp1
  clear hbp1
  by_cases hk : k < many
  ·have z1 : (k : Int) < (many : Int) := by omega
   obtain ⟨t1, ht1⟩ : ∃ t, r.num 2 = t := ⟨_, rfl⟩
   obtain ⟨nn, r1⟩ := t1
   obtain ⟨t2, ht2⟩ : ∃ t, r1.num 2 = t := ⟨_, rfl⟩
   obtain ⟨m, r2⟩ := t2
   have b1 := num_facts ht1
   have b2 := num_facts ht2
   have M1 := Lib.hid (bnum_at (b := rb) 2 ht1 rfl (by omega) (by omega))
   have M2 := Lib.hid (bnum_at (b := rb) 2 ht2 rfl (by omega) (by omega))
   have HT1 := Lib.hid ht1
   have HT2 := Lib.hid ht2
   clear ht1 ht2
   go_wp2_with (fail)
   refine wp_region_n (C2 1 3 [] wr rb r r1 r2) (fun _ _ => True) (by kernel_rfl) (by kernel_rfl) ⟨(Fp.drew _ : Fp [] wr wr.drew).mono (by simp), HR.out.fp (Fp.drew _ : Fp [] wr wr.drew) (by simp)⟩ ?_
   apply nx_plain (fun _ _ h => h) rfl rfl rfl
   ·intro b a w hC hA K hK
    have h2 := hA.f 2
    have q : w.cell? ⟨bp, 0, none⟩ = some (.pointer (some ⟨rb, 0, none⟩)) := cell_of_block ((hC.fp.block _ (heap_lt HBP1.out) (by simpa using hpr)).trans HBP1.out) 0
    simp only [Oper.wp, execOp]; go_simp
    exact hK _ hC trivial
   apply nx_turn (eqV (.int .i64 nn)) rfl rfl rfl
   ·intro b a w hC hA K hK
    have h11 := hA.e 0 11
    simp only [Oper.wp, execOp]; go_simp
    (with_reducible refine (M1.out _ (hC.first hA.self)).mono ?_)
    rintro e w2 ⟨rfl, hr2, hf2, hn2⟩
    exact hK _ _ (hC.did1 (by decide) (hA.post 3 (by kernel_rfl)) hr2 hf2) trivial rfl
   apply nx_plain (fun _ _ h => h) rfl rfl rfl
   ·intro b a w hC hA K hK
    have h2 := hA.f 2
    have q : w.cell? ⟨bp, 0, none⟩ = some (.pointer (some ⟨rb, 0, none⟩)) := cell_of_block ((hC.fp.block _ (heap_lt HBP1.out) (by simpa using hpr)).trans HBP1.out) 0
    simp only [Oper.wp, execOp]; go_simp
    exact hK _ hC trivial
   apply nx_turn (eqV (.int .i64 m)) rfl rfl rfl
   ·intro b a w hC hA K hK
    have h13 := hA.e 2 13
    simp only [Oper.wp, execOp]; go_simp
    (with_reducible refine (M2.out _ (hC.second (hA.pre 1 (by kernel_rfl)) hA.self)).mono ?_)
    rintro e w2 ⟨rfl, hr2, hf2, hn2⟩
    exact hK _ _ (hC.did2 (by decide) (hA.pre 1 (by kernel_rfl)) hr2 hf2) trivial rfl
   iterate 2
    apply nx_plain (fun _ _ h => h) rfl rfl rfl
    ·intro b a w hC hA K hK
     try have := hA.e 1 12
     try have := hA.e 3 14
     simp only [Oper.wp, execOp]; go_simp
     exact hK _ hC trivial
   refine ⟨?_, ?_⟩
   ·repeat (first | exact trivial | refine stabN_val _ ?_ | refine ⟨fun w1 w2 v hf ⟨g, h1, h2⟩ => ⟨g, h1, (hf.block g (heap_lt h2) (by simp)).trans h2⟩, ?_⟩)
   ·intro wa bb hC hbb
    simp only [List.reverse_cons, List.reverse_nil, List.nil_append, List.cons_append]
    iterate 1 (refine all_val ?_)
    refine all_some ?_
    intro v1 u1
    obtain rfl := u1
    iterate 1 (refine all_val ?_)
    refine all_some ?_
    intro v3 u3
    obtain rfl := u3
    iterate 2 (refine all_val ?_)
    refine all_nil ?_
    simp only [putAll, Act.put, List.setIfInBounds_toArray, List.set_cons_succ, List.set_cons_zero]
    have HR2 := Lib.hid (hC.last (hbb 1 (by decide)) (hbb 3 (by decide)))
    have HF2 := Lib.hid hC.fp
    have HBP2 := Lib.hid ((hC.fp.block _ (heap_lt HBP1.out) (by simpa using hpr)).trans HBP1.out)
    have HFW2 := Lib.hid (HFW.out.trans (Kept.of hC.fp (by simp; omega)) (by simp))
    have HJ2 := Lib.hid (HJ.out _ _ _ HJK.out hC.fp ⟨_, HR2.out⟩)
    have q3 : wa.cell? ⟨bp, 0, none⟩ = some (.pointer (some ⟨rb, 0, none⟩)) := cell_of_block HBP2.out 0
    have hrw : rb < wa.heap.size := heap_lt HR2.out
    clear hC hbb
    by_cases hnl : last.size < nn
    ·have z2 : (nn : Int) > (last.size : Int) := by omega
     have c1 : wa.cell? ⟨rb, 1, none⟩ = some (.bool r2.ok) := cell_of_block HR2.out 1
     have f1 : wa.frozen? ⟨rb, 1, none⟩ = false := frozen_of_block HR2.out 1
     go_wp2_with (fail)
     refine bodyPost_ret (results_none rfl _ _ _) rfl ?_
     have hE := HEQ.out
     rw [ents_none (step_far HT1.out HT2.out (by omega)) hk] at hE
     refine ⟨⟨_, rfl⟩, Or.inl ⟨pre, ⟨by rw [hE]; simp, ?_⟩, HJ.out _ _ _ HJ2.out (Fp.setCell _ ⟨rb, 1, none⟩ _) ⟨⟨r2.rest, false⟩, by show (wa.setCell _ _).heap[rb]? = _; rw [heap_setCell_same HR2.out]; rfl⟩⟩⟩
     rw [hE]
     show (wa.setCell _ _).heap[rb]? = _
     rw [heap_setCell_same HR2.out]; rfl
    ·have z2 : ¬ (nn : Int) > (last.size : Int) := by omega
     have z3 : (nn : Int) ≤ (last.size : Int) := by omega
     obtain ⟨t3, ht3⟩ : ∃ t, r2.take m = t := ⟨_, rfl⟩
     obtain ⟨t, r3⟩ := t3
     obtain ⟨t4, ht4⟩ : ∃ t, r3.num 1 = t := ⟨_, rfl⟩
     obtain ⟨d, r4⟩ := t4
     obtain ⟨t5, ht5⟩ : ∃ t, r4.num 1 = t := ⟨_, rfl⟩
     obtain ⟨v, r5⟩ := t5
     obtain ⟨t6, ht6⟩ : ∃ t, r5.take v = t := ⟨_, rfl⟩
     obtain ⟨val, r6⟩ := t6
     have b3 := take_facts ht3
     have b4 := num_facts ht4
     have b5 := num_facts ht5
     have b6 := take_facts ht6
     have hsub : (last.extract 0 nn).size = nn := by simp only [ByteArray.size_extract]; omega
     have wd : IntKind.u8.wrap (d : Int) = (d : Int) := by rw [IntKind.wrap_u8]; have := b4.1; omega
     have HST := Lib.hid (step_near (last := last) HT1.out HT2.out (by omega) ht3 ht4 ht5 ht6)
     have M3 := Lib.hid (btake_at (b := rb) ht3 (by have := b2.1; omega) (by omega))
     have M4 := Lib.hid (bnum_at (b := rb) 1 ht4 rfl (by omega) (by omega))
     have M5 := Lib.hid (bnum_at (b := rb) 1 ht5 rfl (by omega) (by omega))
     have M6 := Lib.hid (btake_at (b := rb) ht6 (by have := b5.1; omega) (by omega))
     clear ht3 ht4 ht5 ht6
     obtain ⟨pf, hpf⟩ : ∃ pf, last.extract 0 nn = pf := ⟨_, rfl⟩
     rw [hpf] at hsub HST
     obtain ⟨key, hkey⟩ : ∃ key, pf ++ t = key := ⟨_, rfl⟩
     have hks : key.size = pf.size + t.size := by rw [← hkey]; simp
     rw [hkey] at HST
     go_wp2_with (fail)
     refine wp_region_n (C6 wa rb #[.string key, .int .u8 d, .string ByteArray.empty] r2 r3 r4) (fun a b => ∀ B, EB wa.heap.size a B → EB wa.heap.size b B) (by kernel_rfl) (by kernel_rfl) ⟨⟨(Fp.drew _ : Fp [] wa wa.drew).mono (by simp), HR2.out.fp (Fp.drew _ : Fp [] wa wa.drew) (by simp)⟩, fun _ B hB => by obtain ⟨h1, c, fz, h2⟩ := hB; have := heap_lt h2; simp at this; omega, fun e => by cases e⟩ ?_
     iterate 5
      apply nx_plain (fun _ _ h => h) rfl rfl rfl
      ·intro b a w hC hA K hK
       have := hA.f 4
       have := hA.f 5
       have := hA.f 2
       have := hA.f 6
       try have := hA.e 0 22
       try have := hA.e 1 23
       have q : w.cell? ⟨bp, 0, none⟩ = some (.pointer (some ⟨rb, 0, none⟩)) := cell_of_block ((hC.c.fp.block _ (heap_lt HBP2.out) (by simpa using hpr)).trans HBP2.out) 0
       simp only [Oper.wp, execOp]; go_simp
       exact hK _ hC (fun _ h => h)
     apply nx_turn (eqV (.string t)) rfl rfl rfl
     ·intro b a w hC hA K hK
      have h25 := hA.e 3 25
      have h26 := hA.e 4 26
      simp only [Oper.wp, execOp]; go_simp
      (with_reducible refine (M3.out _ (hC.c.first hA.self)).mono ?_)
      rintro e w2 ⟨rfl, hr2, hf2, hn2⟩
      exact hK _ _ ⟨hC.c.did1 (by decide) (hA.post 8 (by kernel_rfl)) hr2 hf2, hC.e.fp hf2 hn2 hrw⟩ (fun B hB => hB.fp hf2 hrw) rfl
     iterate 2
      apply nx_plain (fun _ _ h => h) rfl rfl rfl
      ·intro b a w hC hA K hK
       have := hA.f 2
       try have := hA.e 2 24
       try have := hA.e 5 27
       have q : w.cell? ⟨bp, 0, none⟩ = some (.pointer (some ⟨rb, 0, none⟩)) := cell_of_block ((hC.c.fp.block _ (heap_lt HBP2.out) (by simpa using hpr)).trans HBP2.out) 0
       simp only [Oper.wp, execOp]; go_simp
       first
       |exact hK _ hC (fun _ h => h)
       |rw [if_neg (by first | omega | (simp only [ByteArray.size_append]; omega))]
        exact hK _ hC (fun _ h => h)
     apply nx_turn (eqV (.int .i64 d)) rfl rfl rfl
     ·intro b a w hC hA K hK
      have h29 := hA.e 7 29
      simp only [Oper.wp, execOp]; go_simp
      (with_reducible refine (M4.out _ (hC.c.second (hA.pre 5 (by kernel_rfl)) hA.self)).mono ?_)
      rintro e w2 ⟨rfl, hr2, hf2, hn2⟩
      exact hK _ _ ⟨hC.c.did2 (by decide) (hA.pre 5 (by kernel_rfl)) hr2 hf2, hC.e.fp hf2 hn2 hrw⟩ (fun B hB => hB.fp hf2 hrw) rfl
     iterate 2
      apply nx_plain (fun _ _ h => h) rfl rfl rfl
      ·intro b a w hC hA K hK
       try have := hA.e 8 30
       try have := hA.e 6 28
       try have := hA.e 9 31
       simp only [Oper.wp, execOp]; go_simp
       exact hK _ hC (fun _ h => h)
     apply nx_turn (fun w v => ∃ B, v = .pointer (some ⟨B, 0, none⟩) ∧ EB wa.heap.size w B) rfl rfl rfl
     ·intro b a w hC hA K hK
      have hm := hC.made hA.self (hA.post 12 (by kernel_rfl))
      simp only [Oper.wp, execOp]; go_simp
      exact hK _ _ hm.1 hm.2.2 ⟨_, rfl, hm.2.1⟩
     apply nx_effect (fun _ => True) rfl rfl
     ·intro b a w hC hA K hK
      have h7 := hA.dep 11 7 _ (by kernel_rfl) rfl
      have h32 := hA.e 10 32
      obtain ⟨B, h7, hB⟩ := h7
      have hb := hC.block (hA.pre 11 (by kernel_rfl)) hB
      rw [hA.self] at hb
      have e0 : w.cell? ⟨B, 0, none⟩ = some (.string ByteArray.empty) := cell_of_block hb 0
      have e1 : w.cell? ⟨B, 1, none⟩ = some (.int .u8 0) := cell_of_block hb 1
      have e2 : w.cell? ⟨B, 2, none⟩ = some (.string ByteArray.empty) := cell_of_block hb 2
      have g0 := frozen_of_block hb 0
      have g1 := frozen_of_block hb 1
      have g2 := frozen_of_block hb 2
      have hst := hC.stored (hA.pre 11 (by kernel_rfl)) hB (w' := ((w.setCell ⟨B, 0, none⟩ (.string key)).setCell ⟨B, 1, none⟩ (.int .u8 d)).setCell ⟨B, 2, none⟩ (.string ByteArray.empty)) (((Fp.setCell w ⟨B, 0, none⟩ _).setCell' (Or.inl (by simp)) _).setCell' (Or.inl (by simp)) _) (by simp [World.setCell]) (by rw [heap_setCell_same (heap_setCell_same (heap_setCell_same hb _) _) _]; rfl) hrw
      simp only [Oper.wp, execOp]; go_simp
      exact hK undef _ hst.1 hst.2 trivial
     refine ⟨?_, ?_⟩
     ·refine ⟨fun _ _ _ _ _ => trivial, ?_⟩
      refine ⟨fun w1 w2 v h ⟨B, e, hB⟩ => ⟨B, e, h B hB⟩, ?_⟩
      refine stabN_val _ ?_
      refine stabN_val _ ?_
      refine ⟨fun _ _ _ _ h => h, ?_⟩
      refine stabN_val _ ?_
      refine stabN_val _ ?_
      refine ⟨fun _ _ _ _ h => h, ?_⟩
      iterate 5 refine stabN_val _ ?_
      exact trivial
     ·intro wb bb hC hbb
      simp only [List.reverse_cons, List.reverse_nil, List.nil_append, List.cons_append]
      iterate 5 (refine all_val ?_)
      refine all_some ?_
      intro v5 u5
      obtain rfl := u5
      iterate 2 (refine all_val ?_)
      refine all_some ?_
      intro v8 u8
      obtain rfl := u8
      iterate 2 (refine all_val ?_)
      refine all_some ?_
      intro v11 u11
      refine all_some ?_
      intro v12 u12
      refine all_nil ?_
      simp only [putAll, Act.put, List.setIfInBounds_toArray, List.set_cons_succ, List.set_cons_zero]
      obtain ⟨B, rfl, hB⟩ := u11
      have hblk := hC.block (hbb 11 (by decide)) hB
      rw [hbb 12 (by decide)] at hblk
      have HBK4 := Lib.hid hblk
      have HR4 := Lib.hid (hC.c.last (hbb 5 (by decide)) (hbb 8 (by decide)))
      have hBN := hB.1
      have HF4 := Lib.hid hC.c.fp
      have hrB : rb ≠ B := by omega
      have hpB : bp ≠ B := by have := heap_lt HBP2.out; omega
      have HBP4 := Lib.hid ((hC.c.fp.block _ (heap_lt HBP2.out) (by simpa using hpr)).trans HBP2.out)
      have q4 : wb.cell? ⟨bp, 0, none⟩ = some (.pointer (some ⟨rb, 0, none⟩)) := cell_of_block HBP4.out 0
      clear hC hbb u12 hB hblk
      go_wp2_with (fail)
      refine wp_region_n (C7 wb rb B key val d r4 r5 r6) (fun _ _ => True) (by kernel_rfl) (by kernel_rfl) ⟨⟨(Fp.drew _ : Fp [] wb wb.drew).mono (by simp), HR4.out.fp (Fp.drew _ : Fp [] wb wb.drew) (by simp)⟩, HBK4.out⟩ ?_
      iterate 2
       apply nx_plain (fun _ _ h => h) rfl rfl rfl
       ·intro b a w hC hA K hK
        have := hA.f 2
        have q : w.cell? ⟨bp, 0, none⟩ = some (.pointer (some ⟨rb, 0, none⟩)) := cell_of_block ((hC.c.fp.block _ (heap_lt HBP4.out) (by simp [hpr, hpB])).trans HBP4.out) 0
        simp only [Oper.wp, execOp]; go_simp
        exact hK _ hC trivial
      apply nx_turn (eqV (.int .i64 v)) rfl rfl rfl
      ·intro b a w hC hA K hK
       have h34 := hA.e 1 34
       simp only [Oper.wp, execOp]; go_simp
       (with_reducible refine (M5.out _ (hC.c.first hA.self)).mono ?_)
       rintro e w2 ⟨rfl, hr2, hf2, hn2⟩
       exact hK _ _ ⟨hC.c.did1 (by decide) (hA.post 3 (by kernel_rfl)) hr2 hf2, (hf2.block _ (heap_lt hC.e) (by simpa using Ne.symm hrB)).trans hC.e⟩ trivial rfl
      apply nx_turn (eqV (.string val)) rfl rfl rfl
      ·intro b a w hC hA K hK
       have h33 := hA.e 0 33
       have h35 := hA.e 2 35
       simp only [Oper.wp, execOp]; go_simp
       (with_reducible refine (M6.out _ (hC.c.second (hA.pre 2 (by kernel_rfl)) hA.self)).mono ?_)
       rintro e w2 ⟨rfl, hr2, hf2, hn2⟩
       exact hK _ _ ⟨hC.c.did2 (by decide) (hA.pre 2 (by kernel_rfl)) hr2 hf2, (hf2.block _ (heap_lt hC.e) (by simpa using Ne.symm hrB)).trans hC.e⟩ trivial rfl
      apply nx_plain (fun _ _ h => h) rfl rfl rfl
      ·intro b a w hC hA K hK
       have h7 := hA.f 7
       simp only [Oper.wp, execOp]; go_simp
       exact hK _ hC trivial
      apply nx_effect (fun _ => True) rfl rfl
      ·intro b a w hC hA K hK
       have h37 := hA.e 4 37
       have h36 := hA.e 3 36
       have e2 : w.cell? ⟨B, 2, none⟩ = some _ := cell_of_block hC.e 2
       have g2 := frozen_of_block hC.e 2
       simp only [Oper.wp, execOp]; go_simp
       exact hK undef _ (hC.stored hrB) trivial trivial
      refine ⟨?_, ?_⟩
      ·refine ⟨fun _ _ _ _ _ => trivial, ?_⟩
       refine stabN_val _ ?_
       refine ⟨fun _ _ _ _ h => h, ?_⟩
       refine ⟨fun _ _ _ _ h => h, ?_⟩
       refine stabN_val _ ?_
       refine stabN_val _ ?_
       exact trivial
      ·intro wc bb hC hbb
       simp only [List.reverse_cons, List.reverse_nil, List.nil_append, List.cons_append]
       iterate 2 (refine all_val ?_)
       refine all_some ?_
       intro v2 u2
       obtain rfl := u2
       refine all_some ?_
       intro v3 u3
       obtain rfl := u3
       iterate 1 (refine all_val ?_)
       refine all_some ?_
       intro v5 u5
       refine all_nil ?_
       simp only [putAll, Act.put, List.setIfInBounds_toArray, List.set_cons_succ, List.set_cons_zero]
       have hblk := hC.e
       rw [hbb 5 (by decide)] at hblk
       have HBK := Lib.hid hblk
       have hr6 := hC.c.last (hbb 2 (by decide)) (hbb 3 (by decide))
       have HR6 := Lib.hid hr6
       have HFC := Lib.hid hC.c.fp
       have hfac : Fp [rb] wa wc := HF4.out.trans hC.c.fp (by intro i hi; simp only [List.mem_cons, List.not_mem_nil, or_false] at hi ⊢; rcases hi with h | h; exact Or.inl h; exact Or.inr (by omega))
       have HJC := Lib.hid (HJ.out _ _ _ HJ2.out hfac ⟨_, HR6.out⟩)
       have HFWC := Lib.hid (HFW2.out.trans (Kept.of hfac (by simp; omega)) (by simp))
       have HBPC := Lib.hid ((hfac.block _ (heap_lt HBP2.out) (by simpa using hpr)).trans HBP2.out)
       clear hfac
       have q5 : wc.cell? ⟨bp, 0, none⟩ = some (.pointer (some ⟨rb, 0, none⟩)) := cell_of_block ((hC.c.fp.block _ (heap_lt HBP4.out) (by simp [hpr, hpB])).trans HBP4.out) 0
       have q6 : wc.cell? ⟨rb, 1, none⟩ = some (.bool r6.ok) := cell_of_block hr6 1
       have e0 : wc.cell? ⟨B, 0, none⟩ = some (.string key) := cell_of_block hblk 0
       have e1 : wc.cell? ⟨B, 1, none⟩ = some (.int .u8 d) := cell_of_block hblk 1
       have e2 : wc.cell? ⟨B, 2, none⟩ = some (.string val) := cell_of_block hblk 2
       clear hC hbb hblk hr6 u5
       cases hok : r6.ok
       ·rw [hok] at q6
        go_wp2_with (fail)
        refine bodyPost_ret (results_none rfl _ _ _) rfl ?_
        have hE := HEQ.out
        have hst := HST.out
        rw [hok] at hst
        rw [ents_none hst hk] at hE
        refine ⟨⟨_, rfl⟩, Or.inl ⟨pre, ⟨by rw [hE]; simp, ?_⟩, HJC.out⟩⟩
        rw [hE]
        exact HR6.out
       ·rw [hok] at q6
        have hst := HST.out
        rw [hok] at hst
        have HE := Lib.hid HEQ.out
        rw [ents_some hst hk] at HE
        obtain ⟨fn, tm, asg, bd, hyl, hrd⟩ := HY.out pre ⟨key, d, val⟩ wc ⟨_, congrArg Prod.fst HE.out⟩ HJC.out
        have HRD := Lib.hid hrd
        clear hrd hst
        unfold encEn at hyl
        go_upto_region 8 with (fail)
        refine (wpIn_wide (n := n)).1 ?_
        gi_wp2_with (fail)
        (with_reducible refine HRD.out.mono ?_)
        rintro e W1 (⟨rfl, hj1, hf1⟩ | ⟨rfl, hjx⟩)
        ·have HJ1 := Lib.hid hj1
         have HFW1 := Lib.hid (HFWC.out.trans hf1 (by intro i hi; exact List.mem_cons_of_mem _ hi))
         have HR1 := Lib.hid ((hf1.low _ hrbl (heap_lt HR6.out) (by intro h; rcases List.mem_cons.1 h with h | h; exact hrL h; exact (HS0.out _ h).2.2.2 rfl)).trans HR6.out : RbAt W1 rb r6)
         have hb1 := (hf1.high _ _ _ (by have hsz0 := HFW2.out.size; omega) HBK.out).trans HBK.out
         have e10 : W1.cell? ⟨B, 0, none⟩ = some (.string key) := cell_of_block hb1 0
         clear hj1 hf1 hb1
         gi_wp2_with (fail)
         go_wp2_with (fail)
         go_roundg (gk - 1)
         case measure => omega
         case rel =>
          refine ⟨k + 1, key, pre ++ [⟨key, d, val⟩], r6, by omega, rfl, rfl, HJ1.out, HR1.out, by omega, HFW1.out, ?_⟩
          rw [HE.out, List.append_assoc]
          rfl
        ·have HJX := Lib.hid hjx
         clear hjx
         gi_wp2_with (fail)
         go_wp2_with (fail)
         refine bodyPost_ret (results_none rfl _ _ _) rfl ?_
         exact ⟨⟨_, rfl⟩, Or.inr ⟨_, HJX.out⟩⟩
  ·have z1 : ¬ (k : Int) < (many : Int) := by omega
   go_wp2_with (fail)
   go_end0
   have hE := HEQ.out
   rw [show many - k = 0 by omega] at hE
   refine ⟨⟨_, rfl⟩, Or.inl ⟨pre, ⟨by rw [hE]; simp [entsE], ?_⟩, HJK.out⟩⟩
   rw [hE]
   exact HR.out
end
end Go.Proofs.YtkjmgbifoaoefaaGreatDoor
