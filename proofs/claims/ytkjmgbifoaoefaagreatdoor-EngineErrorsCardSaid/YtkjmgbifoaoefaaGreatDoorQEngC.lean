/-
 engine: steps that go well; manifest, open, journal, sweep; Open of a fresh disk. engine: what is wrong, twice; a map of one key. engine: twice.
-/
import Derived.Test.YtkjmgbifoaoefaaGreatDoorQTabN
import Derived.Test.YtkjmgbifoaoefaaGreatDoorQWalC
import Derived.Test.YtkjmgbifoaoefaaGreatDoorQBlkB
import Derived.DeepKeys4
set_option maxRecDepth 100000
set_option maxHeartbeats 8000000
namespace Go.Proofs.YtkjmgbifoaoefaaGreatDoor
section
open Go.RowKit Go.Lib Go.Maps Go.MapKept Go.ChangeMaps
def stepW (f : Bool × Nat × Array Value) : Value := match f with
 |(true, F, c) => .func (.func F) c #[]
 |(false, F, c) => .func (.func F) #[] c
structure GoodSteps (fs : List (Bool × Nat × Array Value)) (P : Nat → World → Prop) : Prop where
 enters : ∀ i (h : i < fs.length) w, (callFunc fs[i].2.1 fs[i].2.2).run Tryz.prog w = .ok (.enter fs[i].2.1 fs[i].2.2) w
 calls : ∀ i (h : i < fs.length) W, P i W → Calls Tryz.prog fs[i].2.1 fs[i].2.2 W fun e w' => e = .returned (.int .i64 0) ∧ P (i + 1) w'
 calm : ∀ i W W', P i W → Fp [] W W' → P i W'
theorem esteps_ok (w : World) (sb : Nat) (fs : List (Bool × Nat × Array Value)) (P : Nat → World → Prop) (hst : GoodSteps fs P) (h0 : P 0 w)
  (hs : ∀ i W, P i W → W.heap[sb]? = some (.cells (fs.map stepW).toArray 44 (0, 0))) (hn : fs.length ≤ 1000) :
  Calls Tryz.prog 18 #[.slice (some ⟨sb, 0, none⟩) fs.length fs.length] w fun e w' => e = .returned (.int .i64 0) ∧ P fs.length w' := by
 have HS := Lib.hid hs
 have HST := Lib.hid hst
 have H0 := Lib.hid h0
 clear hs hst h0
 go_enter Tryz.func18, Tryz.ntmps18
 go_wp2_with (fail)
 go_loopg [8] fs.length (fun g vi W => ∃ (k : Nat), g + k = fs.length ∧ vi = .int .i64 k ∧ P k W)
 case atStart => exact ⟨0, by omega, rfl, H0.out⟩
 case round =>
  obtain ⟨k, hg, rfl, hp⟩ := hrel
  have HP := Lib.hid hp
  clear hp
  by_cases hk : k < fs.length
  ·have zk : (k : Int) < (fs.length : Int) := by omega
   have hen := HST.out.enters k hk
   have HC := Lib.hid (HST.out.calls k hk wr HP.out)
   have hcell : wr.cell? ⟨sb, k, none⟩ = some (stepW fs[k]) := by
    rw [cell_of_block (HS.out _ _ HP.out)]; simp [hk]
   obtain ⟨⟨bd, F, cap⟩, hfk⟩ : ∃ f, fs[k] = f := ⟨_, rfl⟩
   rw [hfk] at hcell HC hen
   simp only at hen HC
   clear hfk
   cases bd <;> (simp only [stepW] at hcell)
   all_goals
    go_wp2_with (fail)
    (with_reducible refine HC.out.mono ?_)
    rintro e w2 ⟨rfl, hp2⟩
    have HP2 := Lib.hid hp2
    clear hp2
    go_wp2_with (fail)
    go_roundg (gk - 1)
    case measure => omega
    case rel => exact ⟨k + 1, by omega, by go_num, HP2.out⟩
  ·have zk : ¬ (k : Int) < (fs.length : Int) := by omega
   obtain rfl : k = fs.length := by omega
   go_wp2_with (fail)
   go_ret
   exact ⟨rfl, HP.out⟩
noncomputable def tabsTy : MTy Tryz.prog 54 9 35 ByteArray (Option Nat) where
 K := string_keyed Tryz.underlying9
 ht := Tryz.underlying54
 kv := .string
 mv := fun o => .pointer (o.map fun p => ⟨p, 0, none⟩)
 ok := fun s => s.size ≤ maxLen
 inj := fun h => by cases h; rfl
 key := fun h => ⟨_, Go.WideMaps.keyOf_string_mk Tryz.underlying9 h⟩
 zero := none
 hz := fun w => by kernel_rfl
structure FreshAt (w : World) (G b bm tm M : Nat) (l1 l2 : Value) (d : Dk) : Prop where
 disk : DiskAt w b bm d
 eng : EngAt w G (.slice none 0 0) 0 0 b l1 l2 tm M 0 false
 tabs : MapAt tabsTy w tm []
 mem : MemAt w M (.pointer none) 0 0
 ne : G ∉ [b, bm] ∧ tm ∉ [b, bm, G] ∧ M ∉ [b, bm, G] ∧ 0 ∉ [b, bm, G, tm, M]
 tab : TabAt w
theorem FreshAt.calm {w w' : World} {G b bm tm M : Nat} {l1 l2 : Value} {d : Dk} (h : FreshAt w G b bm tm M l1 l2 d) (hf : Fp [] w w') : FreshAt w' G b bm tm M l1 l2 d :=
 ⟨h.disk.of_fp hf (by simp) (by simp), h.eng.fp hf (by simp), h.tabs.of_block (hf.block tm h.tabs.lt (by simp)), h.mem.fp hf (by simp), h.ne, h.tab.fp hf (by simp)⟩
theorem FreshAt.turned {w w' : World} {G b bm tm M : Nat} {l1 l2 : Value} {d d2 : Dk} (h : FreshAt w G b bm tm M l1 l2 d) (hf : Fp [b, bm] w w') (hd : DiskAt w' b bm d2) : FreshAt w' G b bm tm M l1 l2 d2 := by
 have hh := h
 obtain ⟨n1, n2, n3, n4⟩ := h.ne
 simp only [List.mem_cons, List.not_mem_nil, or_false, not_or] at n2 n3 n4
 exact ⟨hd, h.eng.fp hf n1, h.tabs.of_block (hf.block tm h.tabs.lt (by simp; omega)), h.mem.fp hf (by simp; omega), h.ne, h.tab.fp hf (by simp; omega)⟩
theorem FreshAt.put1 {w : World} {G b bm tm M : Nat} {l1 l2 v : Value} {d : Dk} (h : FreshAt w G b bm tm M l1 l2 d) : FreshAt (w.setCell ⟨G, 4, none⟩ v) G b bm tm M v l2 d := by
 obtain ⟨n1, n2, n3, n4⟩ := h.ne
 simp only [List.mem_cons, List.not_mem_nil, or_false, not_or] at n1 n2 n3 n4
 have hf := Fp.setCell w ⟨G, 4, none⟩ v
 exact ⟨h.disk.of_fp hf (by simp; omega) (by simp; omega), (heap_setCell_same h.eng _).trans rfl, h.tabs.of_block (hf.block tm h.tabs.lt (by simp; omega)), h.mem.fp hf (by simp; omega), h.ne, h.tab.fp hf (by simp; omega)⟩
theorem FreshAt.put2 {w : World} {G b bm tm M : Nat} {l1 l2 v : Value} {d : Dk} (h : FreshAt w G b bm tm M l1 l2 d) : FreshAt (w.setCell ⟨G, 5, none⟩ v) G b bm tm M l1 v d := by
 obtain ⟨n1, n2, n3, n4⟩ := h.ne
 simp only [List.mem_cons, List.not_mem_nil, or_false, not_or] at n1 n2 n3 n4
 have hf := Fp.setCell w ⟨G, 5, none⟩ v
 exact ⟨h.disk.of_fp hf (by simp; omega) (by simp; omega), (heap_setCell_same h.eng _).trans rfl, h.tabs.of_block (hf.block tm h.tabs.lt (by simp; omega)), h.mem.fp hf (by simp; omega), h.ne, h.tab.fp hf (by simp; omega)⟩
theorem FreshAt.putLast {w : World} {G b bm tm M : Nat} {l1 l2 : Value} {d : Dk} (h : FreshAt w G b bm tm M l1 l2 d) : FreshAt (w.setCell ⟨G, 8, none⟩ (.int .u64 0)) G b bm tm M l1 l2 d := by
 obtain ⟨n1, n2, n3, n4⟩ := h.ne
 simp only [List.mem_cons, List.not_mem_nil, or_false, not_or] at n1 n2 n3 n4
 have hf := Fp.setCell w ⟨G, 8, none⟩ (.int .u64 0)
 exact ⟨h.disk.of_fp hf (by simp; omega) (by simp; omega), (heap_setCell_same h.eng _).trans rfl, h.tabs.of_block (hf.block tm h.tabs.lt (by simp; omega)), h.mem.fp hf (by simp; omega), h.ne, h.tab.fp hf (by simp; omega)⟩
def manB : ByteArray := ⟨#[77, 65, 78, 73, 70, 69, 83, 84]⟩
def logB : ByteArray := ⟨#[76, 79, 71]⟩
theorem eman_any (w : World) (G b bm tm M : Nat) (l1 l2 : Value) (d d2 : Dk) (h : FreshAt w G b bm tm M l1 l2 d) (hok : DkOK d) (hr : d.wOpen manB = (d2, 0, [])) (hrs : (d.read manB).1.size ≤ 100000000) :
  Calls Tryz.prog 19 #[ptrV G] w fun e w' => e = .returned (.int .i64 0) ∧ (∃ L, FreshAt w' G b bm tm M (ptrV L) l2 d2 ∧ LogAt w' L b ⟨manB, 0, false⟩ ∧ w.heap.size ≤ L) ∧ Fp [b, bm, G] w w' := by
 have HC := Lib.hid (wopen_any w b bm d manB h.disk hok (by decide) h.tab hrs)
 rw [hr] at HC
 clear hr hrs hok
 have q3 : w.cell? ⟨G, 3, none⟩ = some (.pointer (some ⟨b, 0, none⟩)) := h.eng.cell 3
 have hlt := heap_lt h.eng
 have H := Lib.hid h
 clear h
 unfold manB at *
 unfold ptrV
 go_enter Tryz.func19, Tryz.ntmps19
 go_wp2_with (fail)
 refine HC.out.mono ?_
 rintro e w2 ⟨hd2, hf2, ⟨hx, -⟩ | ⟨-, L, v, rfl, hL, hlog, hown⟩⟩
 ·exact absurd rfl hx
 obtain ⟨⟨a, cap, hv⟩, -⟩ := hown.at
 replace hv : v = .slice a 0 cap := hv
 subst hv
 have h2 := H.out.turned hf2 hd2
 have q4 : w2.cell? ⟨G, 4, none⟩ = some l1 := h2.eng.cell 4
 have f4 : w2.frozen? ⟨G, 4, none⟩ = false := frozen_of_block h2.eng 4
 have f8 : w2.frozen? ⟨G, 8, none⟩ = false := frozen_of_block h2.eng 8
 have q2 : w2.cell? ⟨G, 2, none⟩ = some (.int .u64 0) := h2.eng.cell 2
 have q8 : w2.cell? ⟨G, 8, none⟩ = some (.int .u64 0) := h2.eng.cell 8
 have hLG : L ≠ G := by omega
 have h3 := (h2.put1 (v := ptrV L)).putLast
 have hlog3 : LogAt ((w2.setCell ⟨G, 4, none⟩ (ptrV L)).setCell ⟨G, 8, none⟩ (.int .u64 0)) L b _ := (hlog.fp (Fp.setCell _ ⟨G, 4, none⟩ (ptrV L)) (by simpa using hLG)).fp (Fp.setCell _ ⟨G, 8, none⟩ (.int .u64 0)) (by simpa using hLG)
 have hf3 : Fp [b, bm, G] w ((w2.setCell ⟨G, 4, none⟩ (ptrV L)).setCell ⟨G, 8, none⟩ (.int .u64 0)) := ((hf2.mono (S' := [b, bm, G]) (by simp)).trans (Fp.setCell _ ⟨G, 4, none⟩ _) (by simp)).trans (Fp.setCell _ ⟨G, 8, none⟩ _) (by simp)
 have HL3 := Lib.hid hlog3
 have H3 := Lib.hid h3
 have HF3 := Lib.hid hf3
 clear h2 h3 hlog3 hf3 hlog hown hf2 hd2
 unfold ptrV at H3 HL3 HF3
 go_wp2_with (fail)
 refine wp_loop_rounds 1 ?_
 rw [rounds_succ]
 go_wp2_with (fail)
 go_ret
 exact ⟨rfl, ⟨L, H3.out, HL3.out, hL⟩, HF3.out⟩
theorem ejour_any (w : World) (G b bm tm M : Nat) (l1 l2 : Value) (d d2 : Dk) (h : FreshAt w G b bm tm M l1 l2 d) (hok : DkOK d) (hr : d.wOpen logB = (d2, 0, [])) (hrs : (d.read logB).1.size ≤ 100000000) :
  Calls Tryz.prog 21 #[ptrV G] w fun e w' => e = .returned (.int .i64 0) ∧ (∃ L, FreshAt w' G b bm tm M l1 (ptrV L) d2 ∧ LogAt w' L b ⟨logB, 0, false⟩ ∧ w.heap.size ≤ L) ∧ Fp [b, bm, G] w w' := by
 have HC := Lib.hid (wopen_any w b bm d logB h.disk hok (by decide) h.tab hrs)
 rw [hr] at HC
 clear hr hrs hok
 have q3 : w.cell? ⟨G, 3, none⟩ = some (.pointer (some ⟨b, 0, none⟩)) := h.eng.cell 3
 have hlt := heap_lt h.eng
 have H := Lib.hid h
 clear h
 unfold logB at *
 unfold ptrV
 go_enter Tryz.func21, Tryz.ntmps21
 go_wp2_with (fail)
 refine HC.out.mono ?_
 rintro e w2 ⟨hd2, hf2, ⟨hx, -⟩ | ⟨-, L, v, rfl, hL, hlog, hown⟩⟩
 ·exact absurd rfl hx
 obtain ⟨⟨a, cap, hv⟩, -⟩ := hown.at
 replace hv : v = .slice a 0 cap := hv
 subst hv
 have h2 := H.out.turned hf2 hd2
 have q5 : w2.cell? ⟨G, 5, none⟩ = some l2 := h2.eng.cell 5
 have f5 : w2.frozen? ⟨G, 5, none⟩ = false := frozen_of_block h2.eng 5
 have hLG : L ≠ G := by omega
 have h3 := (h2.put2 (v := ptrV L))
 have hlog3 : LogAt (w2.setCell ⟨G, 5, none⟩ (ptrV L)) L b _ := hlog.fp (Fp.setCell _ ⟨G, 5, none⟩ (ptrV L)) (by simpa using hLG)
 have hf3 : Fp [b, bm, G] w (w2.setCell ⟨G, 5, none⟩ (ptrV L)) := (hf2.mono (S' := [b, bm, G]) (by simp)).trans (Fp.setCell _ ⟨G, 5, none⟩ _) (by simp)
 have HL3 := Lib.hid hlog3
 have H3 := Lib.hid h3
 have HF3 := Lib.hid hf3
 clear h2 h3 hlog3 hf3 hlog hown hf2 hd2
 unfold ptrV at H3 HL3 HF3
 go_wp2_with (fail)
 refine wp_loop_rounds 1 ?_
 rw [rounds_succ]
 go_wp2_with (fail)
 go_ret
 exact ⟨rfl, ⟨L, H3.out, HL3.out, hL⟩, HF3.out⟩
theorem eopen_any (w : World) (G nx fl b tm M la : Nat) (l1 l2 : Value) (off : Bool) (h : EngAt w G (.slice none 0 0) nx fl b l1 l2 tm M la off) :
  Calls Tryz.prog 20 #[ptrV G] w fun e w' => e = .returned (.int .i64 0) ∧ w' = w := by
 have q0 : w.cell? ⟨G, 0, none⟩ = some (.slice none 0 0) := h.cell 0
 clear h
 unfold ptrV
 go_enter Tryz.func20, Tryz.ntmps20
 go_wp2_with (fail)
 refine wp_loop_rounds 1 ?_
 rw [rounds_succ]
 go_wp2_with (fail)
 go_ret
 exact ⟨rfl, rfl⟩
theorem prefix_t (w : World) (s : ByteArray) (h0 : (decide (1 ≤ s.size)) = true) (hb : ((s.extract 0 1).toList == [116]) = false) : Calls Tryz.prog 67 #[.string s, .string ⟨#[116]⟩] w fun e w' => e = .returned (.bool false) ∧ w' = w := by
 have h1 : 1 ≤ s.size := of_decide_eq_true h0
 have z0 : (1 : Int) ≤ (s.size : Int) := by omega
 go_enter Tryz.func67, Tryz.ntmps67
 go_wp2
 refine bodyPost_ret (v := .bool false) (by simp [results, Tryz.results67, go_sem]) rfl ?_
 exact ⟨rfl, rfl⟩
theorem esweep_any (w : World) (G b bm tm M : Nat) (l1 l2 : Value) (d : Dk) (h : FreshAt w G b bm tm M l1 l2 d) (hok : DkOK d) (hns : ∀ ns, ListOf d ns → ns = [logB, manB]) :
  Calls Tryz.prog 22 #[ptrV G] w fun e w' => e = .returned (.int .i64 0) ∧ Fp [] w w' := by
 have HC := Lib.hid (list_gives w b bm d h.disk hok)
 have q3 : w.cell? ⟨G, 3, none⟩ = some (.pointer (some ⟨b, 0, none⟩)) := h.eng.cell 3
 have HP1 := Lib.hid (fun w => prefix_t w logB (by decide +kernel) (by decide +kernel))
 have HP2 := Lib.hid (fun w => prefix_t w manB (by decide +kernel) (by decide +kernel))
 have H := Lib.hid h
 clear h
 unfold ptrV logB manB at *
 go_enter Tryz.func22, Tryz.ntmps22
 go_wp2_with (fail)
 refine HC.out.mono ?_
 rintro e w2 ⟨a, cap, ns, rfl, hl, hat, hf2⟩
 obtain rfl := hns ns hl
 rcases hat with hat | ⟨g, rfl, hg, hgl, hcs⟩
 ·cases hat
 have c0 : w2.cell? ⟨g, 0, none⟩ = some (.string ⟨#[76, 79, 71]⟩) := hcs 0 (by decide)
 have c1 : w2.cell? ⟨g, 1, none⟩ = some (.string ⟨#[77, 65, 78, 73, 70, 69, 83, 84]⟩) := hcs 1 (by decide)
 have h2 := H.out.calm hf2
 have q6 : w2.cell? ⟨G, 6, none⟩ = some (.map (some tm)) := h2.eng.cell 6
 have r1 : (Instr.lookup 54 (.map (some tm)) (.string ⟨#[76, 79, 71]⟩) true).run Tryz.prog w2 = .ok (.tuple #[.pointer none, .bool false]) w2 := h2.tabs.lookup true (x := ⟨#[76, 79, 71]⟩) (by show _ ≤ maxLen; unfold maxLen; decide)
 have r2 : (Instr.lookup 54 (.map (some tm)) (.string ⟨#[77, 65, 78, 73, 70, 69, 83, 84]⟩) true).run Tryz.prog w2 = .ok (.tuple #[.pointer none, .bool false]) w2 := h2.tabs.lookup true (x := ⟨#[77, 65, 78, 73, 70, 69, 83, 84]⟩) (by show _ ≤ maxLen; unfold maxLen; decide)
 have HF2 := Lib.hid hf2
 clear hcs h2 hl hf2
 go_wp2_with (fail)
 refine wp_loop_rounds 3 ?_
 rw [rounds_succ]
 go_wp2_with (fail)
 refine (HP1.out _).mono ?_
 rintro e w3 ⟨rfl, rfl⟩
 go_wp2_with (fail)
 rw [rounds_succ]
 go_wp2_with (fail)
 refine (HP2.out _).mono ?_
 rintro e w3 ⟨rfl, rfl⟩
 go_wp2_with (fail)
 rw [rounds_succ]
 go_wp2_with (fail)
 go_ret
 exact ⟨rfl, HF2.out⟩
theorem cells_ne {w : World} {a b : Nat} {c1 c2 : Array Value} {T1 T2 : TypeId} {f1 f2 : Nat × Nat} (h1 : w.heap[a]? = some (.cells c1 T1 f1)) (h2 : w.heap[b]? = some (.cells c2 T2 f2)) (hT : T1 ≠ T2) : a ≠ b := by
 rintro rfl
 rw [h1] at h2
 injection Option.some.inj h2 with _ h3
 exact hT h3
structure OpenAt (w0 : World) (G b bm tm M : Nat) (L1 L2 : Nat) (d : Dk) (W : World) : Prop where
 st : FreshAt W G b bm tm M (ptrV L1) (ptrV L2) d
 lg1 : LogAt W L1 b ⟨manB, 0, false⟩
 lg2 : LogAt W L2 b ⟨logB, 0, false⟩
 fp : Fp [b, bm] w0 W
 new : w0.heap.size ≤ G ∧ w0.heap.size ≤ tm ∧ w0.heap.size ≤ M ∧ w0.heap.size ≤ L1 ∧ w0.heap.size ≤ L2
structure OpenP (w0 : World) (G b bm tm M sb : Nat) (d d1 d2 : Dk) (i : Nat) (W : World) : Prop where
 sl : W.heap[sb]? = some (.cells #[stepW (true, 19, #[ptrV G]), stepW (true, 20, #[ptrV G]), stepW (true, 21, #[ptrV G]), stepW (true, 22, #[ptrV G])] 44 (0, 0))
 fp : Fp [b, bm] w0 W
 st : ∃ l1 l2, FreshAt W G b bm tm M l1 l2 (if i = 0 then d else if i < 3 then d1 else d2) ∧
  (1 ≤ i → ∃ L, l1 = ptrV L ∧ w0.heap.size ≤ L ∧ LogAt W L b ⟨manB, 0, false⟩) ∧ (3 ≤ i → ∃ L, l2 = ptrV L ∧ w0.heap.size ≤ L ∧ LogAt W L b ⟨logB, 0, false⟩)
theorem OpenP.calm {w0 W W' : World} {G b bm tm M sb i : Nat} {d d1 d2 : Dk} (h : OpenP w0 G b bm tm M sb d d1 d2 i W) (hf : Fp [] W W') : OpenP w0 G b bm tm M sb d d1 d2 i W' := by
 obtain ⟨l1, l2, h1, h2, h3⟩ := h.st
 refine ⟨(hf.block sb (heap_lt h.sl) (by simp)).trans h.sl, h.fp.trans hf (by simp), l1, l2, h1.calm hf, fun hi => ?_, fun hi => ?_⟩
 ·obtain ⟨L, e, g, k⟩ := h2 hi
  exact ⟨L, e, g, k.fp hf (by simp)⟩
 ·obtain ⟨L, e, g, k⟩ := h3 hi
  exact ⟨L, e, g, k.fp hf (by simp)⟩
theorem FreshAt.L_off {w : World} {G b bm tm M L : Nat} {l1 l2 : Value} {d : Dk} {lg : Lg} (h : FreshAt w G b bm tm M l1 l2 d) (hl : LogAt w L b lg) : L ∉ [b, bm, G] := by
 have h1 := hl.ne h.disk
 have h2 := cells_ne hl h.eng (by decide)
 simp only [List.mem_cons, List.not_mem_nil, or_false, not_or] at h1 ⊢
 exact ⟨h1.1, h1.2, h2⟩
theorem FreshAt.sb_off {w : World} {G b bm tm M sb : Nat} {l1 l2 : Value} {d : Dk} {c : Array Value} (h : FreshAt w G b bm tm M l1 l2 d) (hl : w.heap[sb]? = some (.cells c 44 (0, 0))) : sb ∉ [b, bm, G] := by
 have h1 := box_ne hl (by decide) h.disk
 have h2 := cells_ne hl h.eng (by decide)
 simp only [List.mem_cons, List.not_mem_nil, or_false, not_or] at h1 ⊢
 exact ⟨h1.1, h1.2, h2⟩
theorem openP_good {w0 : World} {G b bm tm M sb : Nat} {d d1 d2 : Dk} (hG : w0.heap.size ≤ G) (hok : DkOK d) (hok1 : DkOK d1) (hok2 : DkOK d2) (hr1 : d.wOpen manB = (d1, 0, [])) (hs1 : (d.read manB).1.size ≤ 100000000)
  (hr2 : d1.wOpen logB = (d2, 0, [])) (hs2 : (d1.read logB).1.size ≤ 100000000) (hns : ∀ ns, ListOf d2 ns → ns = [logB, manB]) :
  GoodSteps [(true, 19, #[ptrV G]), (true, 20, #[ptrV G]), (true, 21, #[ptrV G]), (true, 22, #[ptrV G])] (OpenP w0 G b bm tm M sb d d1 d2) := by
 refine ⟨fun i hi w => ?_, fun i hi W hp => ?_, fun i W W' hp hf => hp.calm hf⟩
 ·match i, hi with
  |0, _ => rfl
  |1, _ => rfl
  |2, _ => rfl
  |3, _ => rfl
 ·match i, hi with
  |0, _ =>
   obtain ⟨l1, l2, h1, h2, h3⟩ := hp.st
   rw [if_pos rfl] at h1
   refine (eman_any W G b bm tm M l1 l2 d d1 h1 hok hr1 hs1).mono ?_
   rintro e w' ⟨rfl, ⟨L, g1, g2, g3⟩, hf⟩
   refine ⟨rfl, (hf.block sb (heap_lt hp.sl) (h1.sb_off hp.sl)).trans hp.sl, hp.fp.trans hf (by simp; omega), ptrV L, l2, g1, fun _ => ⟨L, rfl, Nat.le_trans hp.fp.size g3, g2⟩, fun hi => by omega⟩
  |1, _ =>
   obtain ⟨l1, l2, h1, h2, h3⟩ := hp.st
   refine (eopen_any W G _ _ _ _ _ _ _ _ _ h1.eng).mono ?_
   rintro e w' ⟨rfl, rfl⟩
   exact ⟨rfl, hp.sl, hp.fp, l1, l2, h1, fun _ => h2 (by omega), fun hi => by omega⟩
  |2, _ =>
   obtain ⟨l1, l2, h1, h2, h3⟩ := hp.st
   obtain ⟨L1, rfl, g4, g5⟩ := h2 (by omega)
   refine (ejour_any W G b bm tm M _ l2 d1 d2 h1 hok1 hr2 hs2).mono ?_
   rintro e w' ⟨rfl, ⟨L, g1, g2, g3⟩, hf⟩
   refine ⟨rfl, (hf.block sb (heap_lt hp.sl) (h1.sb_off hp.sl)).trans hp.sl, hp.fp.trans hf (by simp; omega), ptrV L1, ptrV L, g1, fun _ => ⟨L1, rfl, g4, g5.fp hf (h1.L_off g5)⟩, fun _ => ⟨L, rfl, Nat.le_trans hp.fp.size g3, g2⟩⟩
  |3, _ =>
   obtain ⟨l1, l2, h1, h2, h3⟩ := hp.st
   refine (esweep_any W G b bm tm M l1 l2 d2 h1 hok2 hns).mono ?_
   rintro e w' ⟨rfl, hf⟩
   exact ⟨rfl, (show OpenP w0 G b bm tm M sb d d1 d2 4 W from ⟨hp.sl, hp.fp, l1, l2, h1, fun _ => h2 (by omega), fun _ => h3 (by omega)⟩).calm hf⟩
theorem gopen_any (w : World) (b bm : Nat) (d d1 d2 : Dk) (hd : DiskAt w b bm d) (ht : TabAt w) (hok : DkOK d) (hok1 : DkOK d1) (hok2 : DkOK d2) (hr1 : d.wOpen manB = (d1, 0, [])) (hs1 : (d.read manB).1.size ≤ 100000000)
  (hr2 : d1.wOpen logB = (d2, 0, [])) (hs2 : (d1.read logB).1.size ≤ 100000000) (hns : ∀ ns, ListOf d2 ns → ns = [logB, manB]) (htn : 0 ∉ [b, bm]) (htl : 0 < w.heap.size) :
  Calls Tryz.prog 6 #[ptrV b] w fun e w' => ∃ G tm M L1 L2, e = .returned (.tuple #[ptrV G, .int .i64 0]) ∧ OpenAt w G b bm tm M L1 L2 d2 w' := by
 have hlb := heap_lt hd.cells
 have hlm := hd.files.lt
 obtain ⟨W, hW⟩ : ∃ W, W = (((w.alloc (.map #[] 0)).alloc (.cells #[.pointer none, .int .i64 0, .int .i64 0] 118)).alloc (.cells (engA (.slice none 0 0) 0 0 b (.pointer none) (.pointer none) w.heap.size (w.heap.size + 1) 0 false) 61)).alloc (.cells #[stepW (true, 19, #[ptrV (w.heap.size + 1 + 1)]), stepW (true, 20, #[ptrV (w.heap.size + 1 + 1)]), stepW (true, 21, #[ptrV (w.heap.size + 1 + 1)]), stepW (true, 22, #[ptrV (w.heap.size + 1 + 1)])] 44) := ⟨_, rfl⟩
 have hf : Fp [] w W := by rw [hW]; exact (((Fp.alloc _ _).alloc' _).alloc' _).alloc' _
 have hP : OpenP w (w.heap.size + 1 + 1) b bm w.heap.size (w.heap.size + 1) (w.heap.size + 1 + 1 + 1) d d1 d2 0 W := by
  refine ⟨?_, hf.mono (by simp), .pointer none, .pointer none, ⟨hd.of_fp hf (by simp) (by simp), ?_, ?_, ?_, ?_, ht.fp hf (by simp)⟩, fun h => by omega, fun h => by omega⟩
  ·rw [hW]; exact heap_alloc_at (by simp) _
  ·rw [hW]; exact heap_alloc_old (heap_alloc_at (by simp) _)
  ·rw [hW]
   exact (MapAt.made tabsTy w).of_block ((((Fp.alloc (w.alloc (.map #[] 0)) _).alloc' _).alloc' _).block _ (by simp) (by simp))
  ·rw [hW]; exact heap_alloc_old (heap_alloc_old (heap_alloc_at (by simp) _))
  ·simp only [List.mem_cons, List.not_mem_nil, or_false, not_or] at htn ⊢
   omega
 have HC := Lib.hid (esteps_ok W (w.heap.size + 1 + 1 + 1) _ _ (openP_good (sb := w.heap.size + 1 + 1 + 1) (w0 := w) (by omega) hok hok1 hok2 hr1 hs1 hr2 hs2 hns) hP (fun i W h => h.sl) (by simp))
 have HM := Lib.hid (fun w => mnew_any w)
 clear hd ht hok hok1 hok2 hr1 hs1 hr2 hs2 hns hP
 have hmm := @run_makeMap Tryz.prog
 simp only [stepW] at hW
 unfold ptrV engA at *
 go_enter Tryz.func6, Tryz.ntmps6
 go_wp2_with (fail)
 refine (HM.out _).mono ?_
 rintro e w2 ⟨rfl, rfl⟩
 go_wp2_with (fail)
 rw [hW] at HC
 refine HC.out.mono ?_
 rintro e w2 ⟨rfl, hP⟩
 clear hW
 have HP := Lib.hid hP
 clear hP HC
 go_wp2_with (fail)
 go_ret2
 have hP := HP.out
 obtain ⟨l1, l2, h1, h2, h3⟩ := hP.st
 obtain ⟨L1, rfl, g1, k1⟩ := h2 (by simp)
 obtain ⟨L2, rfl, g2, k2⟩ := h3 (by simp)
 exact ⟨w.heap.size + 1 + 1, w.heap.size, w.heap.size + 1, L1, L2, rfl, h1, k1, k2, hP.fp, by omega, by omega, by omega, g1, g2⟩
end
section
open Go.RowKit Go.Lib Go.Maps Go.MapKept Go.ChangeMaps
theorem ewrong_any (c : Cel) (w : World) (hc : CelOK c) : Calls Tryz.prog 23 #[cellV c] w fun e w' => e = .returned (.bool (!mayB c)) ∧ Fp [] w w' := by
 have HM := Lib.hid (fun w => may_any c w hc)
 obtain ⟨m, hm⟩ : ∃ m, mayB c = m := ⟨_, rfl⟩
 rw [hm] at HM
 rw [hm]
 clear hm
 obtain ⟨row, col, ts, seq, del, val⟩ := c
 rw [show cellV (⟨row, col, ts, seq, del, val⟩ : Cel) = .agg #[.string row, .string col, .int .u64 ts, .int .u64 seq, .bool del, .string val] from rfl] at *
 go_enter Tryz.func23, Tryz.ntmps23
 go_wp2_with (fail)
 (with_reducible refine (HM.out _).mono ?_)
 rintro e w1 ⟨rfl, hf⟩
 have HF : Hid (Fp [] w w1) := (Fp.alloc w _).trans hf (by simp)
 clear hf
 go_wp2_with (fail)
 go_ret
 exact ⟨rfl, HF.out⟩
theorem eindex_any (w : World) (a : Option Addr) (len cap : Nat) (l : List Cel) (hl : CelsAt w a len l) (hn : len ≤ 9223372036854775807) :
  Calls Tryz.prog 69 #[.slice a len cap, .func (.func 23) #[] #[]] w fun e w' => (∃ r : Int, e = .returned (.int .i64 r) ∧ decide (r ≥ 0) = !l.all mayB) ∧ Fp [] w w' := by
 have HL := Lib.hid hl
 have HLEN := Lib.hid hl.len
 have HW := Lib.hid (fun c w h => ewrong_any c w h)
 clear hl
 go_enter Tryz.func69, Tryz.ntmps69
 go_wp2_with (fail)
 go_loopg [8] len (fun g vi wr => ∃ k : Nat, g + k = len ∧ vi = .int .i64 k ∧ Fp [] w wr ∧ ∀ i (hi : i < l.length), i < k → mayB l[i] = true)
 case atStart => exact ⟨0, rfl, rfl, Fp.refl _ _, by intro i _ h; omega⟩
 case round =>
  obtain ⟨k, hg, rfl, hf, hall⟩ := hrel
  have HF := Lib.hid hf
  have HALL := Lib.hid hall
  clear hf hall
  by_cases hk : k < len
  ·have hkl : k < l.length := by rw [← HLEN.out]; exact hk
   obtain ⟨b1, o1, rfl, hb1, hcells⟩ := cels_get HL.out hkl
   obtain ⟨c, hc⟩ : ∃ c, l[k] = c := ⟨_, rfl⟩
   have hcm : c ∈ l := by rw [← hc]; exact List.getElem_mem hkl
   have HOK := Lib.hid (HL.out.ok c hcm)
   have HNO : Hid (mayB c = false → l.all mayB = false) := fun h => by
    rw [List.all_eq_false]
    exact ⟨c, hcm, by simp [h]⟩
   have HYES : Hid (mayB c = true → ∀ i (hi : i < l.length), i < k + 1 → mayB l[i] = true) := fun h i hi hik => by
    by_cases e : i = k
    ·subst e; rw [hc]; exact h
    ·exact HALL.out i hi (by omega)
   rw [hc] at hcells
   obtain ⟨q0, q1, q2, q3, q4, q5⟩ := hcells wr HF.out
   clear hcells hc hcm
   have HWC := Lib.hid (fun w => HW.out c w HOK.out)
   obtain ⟨m, hm⟩ : ∃ m, mayB c = m := ⟨_, rfl⟩
   rw [hm] at HNO HYES HWC
   clear hm
   obtain ⟨row, col, ts, seq, del, val⟩ := c
   rw [show cellV (⟨row, col, ts, seq, del, val⟩ : Cel) = .agg #[.string row, .string col, .int .u64 ts, .int .u64 seq, .bool del, .string val] from rfl] at HWC
   go_wp2_with (fail)
   (with_reducible refine (HWC.out _).mono ?_)
   rintro e w2 ⟨rfl, hf⟩
   have HF2 := Lib.hid (HF.out.trans hf (by simp))
   clear hf
   cases m
   ·have HA := Lib.hid (HNO.out rfl)
    go_wp2_with (fail)
    go_ret
    exact ⟨⟨k, rfl, by rw [HA.out, decide_eq_true (by omega)]; rfl⟩, HF2.out⟩
   ·have HA := Lib.hid (HYES.out rfl)
    go_wp2_with (fail)
    go_roundg (gk - 1)
    case measure => omega
    case rel => exact ⟨k + 1, by omega, by simp, HF2.out, HA.out⟩
  ·have HA : Hid (l.all mayB = true) := by
    unfold Hid
    rw [List.all_eq_true]
    intro x hx
    obtain ⟨i, hi, rfl⟩ := List.getElem_of_mem hx
    exact HALL.out i hi (by have := HLEN.out; omega)
   go_wp2_with (fail)
   go_ret
   exact ⟨⟨-1, rfl, by rw [HA.out]; rfl⟩, HF.out⟩
theorem econtains_any (w : World) (a : Option Addr) (len cap : Nat) (l : List Cel) (hl : CelsAt w a len l) (hn : len ≤ 9223372036854775807) :
  Calls Tryz.prog 25 #[.slice a len cap, .func (.func 23) #[] #[]] w fun e w' => e = .returned (.bool (!l.all mayB)) ∧ Fp [] w w' := by
 have H := Lib.hid (eindex_any w a len cap l hl hn)
 clear hl
 go_enter Tryz.func25, Tryz.ntmps25
 go_wp2_with (fail)
 (with_reducible refine H.out.mono ?_)
 rintro e w1 ⟨⟨r, rfl, hr⟩, hf⟩
 have HF := Lib.hid hf
 have HR := Lib.hid hr
 clear hf hr
 go_wp2_with (fail)
 go_ret
 exact ⟨ret_bool HR.out, HF.out⟩
section
variable {P : Program} {t k e : TypeId} {κ ν : Type}
theorem MTy.entry_new (M : MTy P t k e κ ν) {w : World} {b : Nat} (h : w.heap[b]? = some (.map #[] 0)) {x : κ} (hx : M.ok x) :
  (Instr.mapEntry t (.map (some b)) (M.kv x)).run P w = .ok (.tuple #[M.mv M.zero, .int .i64 0]) (setBlock w b (.map #[⟨M.kv x, M.mv M.zero, 0⟩] 1)) := by
 obtain ⟨l, hl⟩ := M.key hx
 have hf : (Instr.findKey k (M.kv x) []).run P w = .ok none w := by
  rcases M.K.find w hl [] (by simp) with ⟨h1, _⟩ | ⟨j, y, _, h2, _⟩
  ·exact h1
  ·simp at h2
 simp [Instr.mapEntry, run_underlying M.ht, MapKept.run_getObj_map h, M.K.check w false hl, hf, M.hz, MapKept.run_setObj_map _ h, Result.andThen, setBlock, goInt]
theorem MTy.entry_again (M : MTy P t k e κ ν) {w : World} {b : Nat} {v : Value} {x : κ} (h : w.heap[b]? = some (.map #[⟨M.kv x, v, 0⟩] 1)) (hx : M.ok x) :
  (Instr.mapEntry t (.map (some b)) (M.kv x)).run P w = .ok (.tuple #[v, .int .i64 0]) (setBlock w b (.map #[⟨M.kv x, v, 0⟩] 1)) := by
 obtain ⟨l, hl⟩ := M.key hx
 have hf : (Instr.findKey k (M.kv x) [⟨M.kv x, v, 0⟩]).run P w = .ok (some (0, v)) w := by
  rcases M.K.find w hl [⟨M.kv x, v, 0⟩] (by intro y hy; simp at hy; subst hy; exact ⟨l, hl⟩) with ⟨_, h1⟩ | ⟨j, y, h1, h2, _⟩
  ·exact absurd rfl (h1 _ (List.mem_singleton.2 rfl))
  ·match j, h2 with
   |0, h2 => cases h2; exact h1
 simp [Instr.mapEntry, run_underlying M.ht, MapKept.run_getObj_map h, M.K.check w false hl, hf, M.K.stays w hl, MapKept.run_setObj_map _ h, Result.andThen, setBlock, goInt]
theorem entry_store {w : World} {b : Nat} {kv v : Value} (h : w.heap[b]? = some (.map #[⟨kv, v, 0⟩] 1)) (val : Value) :
  (Instr.entryStore t (.map (some b)) (.int .i64 0) val).run P w = .ok () (setBlock w b (.map #[⟨kv, val, 0⟩] 1)) := by
 simp [Instr.entryStore, MapKept.run_getObj_map h, MapKept.run_setObj_map _ h, Result.andThen, setBlock, asInt, asIntOf]
theorem MTy.look_new (M : MTy P t k e κ ν) {w : World} {b : Nat} (h : w.heap[b]? = some (.map #[] 0)) {x : κ} (hx : M.ok x) :
  (Instr.lookup t (.map (some b)) (M.kv x) false).run P w = .ok (M.mv M.zero) w := by
 obtain ⟨l, hl⟩ := M.key hx
 have hf : (Instr.findKey k (M.kv x) []).run P w = .ok none w := by
  rcases M.K.find w hl [] (by simp) with ⟨h1, _⟩ | ⟨j, y, _, h2, _⟩
  ·exact h1
  ·simp at h2
 simp [Instr.lookup, run_underlying M.ht, MapKept.run_getObj_map h, M.K.check w _ hl, hf, M.hz, Result.andThen]
theorem MTy.look_again (M : MTy P t k e κ ν) {w : World} {b : Nat} {v : Value} {x : κ} (h : w.heap[b]? = some (.map #[⟨M.kv x, v, 0⟩] 1)) (hx : M.ok x) :
  (Instr.lookup t (.map (some b)) (M.kv x) false).run P w = .ok v w := by
 obtain ⟨l, hl⟩ := M.key hx
 have hf : (Instr.findKey k (M.kv x) [⟨M.kv x, v, 0⟩]).run P w = .ok (some (0, v)) w := by
  rcases M.K.find w hl [⟨M.kv x, v, 0⟩] (by intro y hy; simp at hy; subst hy; exact ⟨l, hl⟩) with ⟨_, h1⟩ | ⟨j, y, h1, h2, _⟩
  ·exact absurd rfl (h1 _ (List.mem_singleton.2 rfl))
  ·match j, h2 with
   |0, h2 => cases h2; exact h1
 simp [Instr.lookup, run_underlying M.ht, MapKept.run_getObj_map h, M.K.check w _ hl, hf, Result.andThen]
theorem map_len {P : Program} {t k e : TypeId} (ht : P.underlying t = some (.map k e)) {w : World} {b : Nat} {es : Array MapEntry} {cl : Nat} (h : w.heap[b]? = some (.map es cl)) (ty : TypeId) : (Builtin.len_ #[t] ty #[.map (some b)]).run P w = .ok (.int .i64 es.size) w := by
 simp [Builtin.len_, run_underlying ht, MapKept.run_getObj_map h, Result.andThen, goInt]
end
theorem laidE : laidOutB Tryz.prog = true := by kernel_rfl
theorem cellRowE : (24 : TypeId) < Tryz.prog.types.size := of_decide_eq_true (by kernel_rfl)
theorem cellWideE : (match Tryz.prog.underlying 24 with | some (.array _ _) | some (.struct _) => true | _ => false) = true := by kernel_rfl
theorem cellKeyed : Keyed Tryz.prog 24 := Keyed.of_law (deep_law_laid laidE (m := 2) (by omega) cellRowE (by kernel_rfl) cellWideE)
theorem cells24E : Tryz.prog.cellsOf 24 = 6 := by kernel_rfl
theorem cells9E : Tryz.prog.cellsOf 9 = 1 := by kernel_rfl
theorem cells22E : Tryz.prog.cellsOf 22 = 1 := by kernel_rfl
theorem cells4E : Tryz.prog.cellsOf 4 = 1 := by kernel_rfl
theorem keyTypeE : Tryz.prog.keyType 24 = true := by kernel_rfl
theorem litU64 {n : Nat} (h : n < 18446744073709551616) : (Lit.int .u64 n).wf = true := by
 simp [Lit.wf, IntKind.min, IntKind.max, IntKind.bits, IntKind.signed]
 omega
theorem cellFormed (row col val : ByteArray) (ts seq : Nat) (del : Bool) : (cellV ⟨row, col, ts, seq, del, val⟩).formed Tryz.prog 24 = true := by simp [Value.formed, cellV, Tryz.underlying24, cells24E]
theorem cellLits (n : Nat) (row col val : ByteArray) (ts seq : Nat) (del : Bool) (h1 : ts < 18446744073709551616) (h2 : seq < 18446744073709551616) (h3 : row.size ≤ maxLen) (h4 : col.size ≤ maxLen) (h5 : val.size ≤ maxLen) :
  ∃ l, Tryz.prog.keyLits (n + 2) 24 (cellV ⟨row, col, ts, seq, del, val⟩).cells.toList = some l := by
 simp [Program.keyLits, Tryz.underlying24, Tryz.underlying9, Tryz.underlying22, Tryz.underlying4, cells24E, cells9E, cells22E, cells4E, cellV, Value.cells, if_pos h3, if_pos h4, if_pos h5, litU64 h1, litU64 h2]
theorem cellFuel (N : Nat) (h : 24 < N) : ∃ n, N + 1 = n + 2 := ⟨N - 1, by omega⟩
theorem cellKey (c : Cel) (h : CelOK c) : ∃ l, keyOf Tryz.prog 24 (cellV c) = some l := by
 obtain ⟨row, col, ts, seq, del, val⟩ := c
 obtain ⟨h1, h2, h3, h4, h5⟩ := h
 obtain ⟨n, hn⟩ := cellFuel _ cellRowE
 obtain ⟨l, hl⟩ := cellLits n row col val ts seq del h1 h2 h3 h4 h5
 unfold keyOf
 rw [Tryz.underlying24]
 simp only [cellFormed, keyTypeE, Bool.and_true, if_true]
 rw [hn, hl]
 exact ⟨_, rfl⟩
noncomputable def hadTy : MTy Tryz.prog 134 24 3 Cel Int where
 K := cellKeyed
 ht := Tryz.underlying134
 kv := cellV
 mv := .int .i64
 ok := CelOK
 inj := fun {a b} h => by
  obtain ⟨_, _, _, _, _, _⟩ := a
  obtain ⟨_, _, _, _, _, _⟩ := b
  unfold cellV at h
  simp at h
  obtain ⟨e1, e2, e3, e4, e5, e6⟩ := h
  have e3 := Int.ofNat.inj e3
  have e4 := Int.ofNat.inj e4
  subst e1 e2 e3 e4 e5 e6
  rfl
 key := fun {a} h => cellKey a h
 zero := 0
 hz := fun w => by kernel_rfl
end
section
open Go.RowKit Go.Lib Go.Maps Go.MapKept Go.ChangeMaps
def mapSt (kv : Value) (o : Option Int) : Obj := match o with
 |none => .map #[] 0
 |some v => .map #[⟨kv, .int .i64 v, 0⟩] 1
section
variable {P : Program} {t k e : TypeId} {κ : Type}
theorem MTy.st_look (M : MTy P t k e κ Int) (hmv : ∀ v, M.mv v = .int .i64 v) (hz : M.zero = 0) {w : World} {b : Nat} {x : κ} {o : Option Int} (h : w.heap[b]? = some (mapSt (M.kv x) o)) (hx : M.ok x) :
  (Instr.lookup t (.map (some b)) (M.kv x) false).run P w = .ok (.int .i64 (o.getD 0)) w := by
 cases o with
 |none => have := M.look_new h hx; rw [hmv, hz] at this; exact this
 |some v => exact M.look_again h hx
theorem MTy.st_entry (M : MTy P t k e κ Int) (hmv : ∀ v, M.mv v = .int .i64 v) (hz : M.zero = 0) {w : World} {b : Nat} {x : κ} {o : Option Int} (h : w.heap[b]? = some (mapSt (M.kv x) o)) (hx : M.ok x) :
  (Instr.mapEntry t (.map (some b)) (M.kv x)).run P w = .ok (.tuple #[.int .i64 (o.getD 0), .int .i64 0]) (setBlock w b (mapSt (M.kv x) (some (o.getD 0)))) := by
 cases o with
 |none => have := M.entry_new h hx; rw [hmv, hz] at this; exact this
 |some v => exact M.entry_again h hx
end
theorem st_store {P : Program} {t : TypeId} {w : World} {b : Nat} {kv : Value} {v : Int} (h : w.heap[b]? = some (mapSt kv (some v))) (u : Int) :
  (Instr.entryStore t (.map (some b)) (.int .i64 0) (.int .i64 u)).run P w = .ok () (setBlock w b (mapSt kv (some u))) := entry_store h _
theorem setBlock_at {w : World} {b : Nat} {o o2 : Obj} (h : w.heap[b]? = some o) : (setBlock w b o2).heap[b]? = some o2 := by
 have := heap_lt h
 simp [setBlock, this]
structure CountC (w0 : World) (m : Nat) (kv : Value) (o : Option Int) (a z : Bool) (w : World) : Prop where
 fp : Fp [m] w0 w
 map : w.heap[m]? = some (mapSt kv (if z then some (o.getD 0 + 1) else if a then some (o.getD 0) else o))
theorem CountC.pre {w0 w : World} {m : Nat} {kv : Value} {o : Option Int} {a z : Bool} (h : CountC w0 m kv o a z w) (hz : z = false) : w.heap[m]? = some (mapSt kv (if a then some (o.getD 0) else o)) := by
 have := h.map
 rw [hz] at this
 exact this
theorem getD_if (o : Option Int) (a : Bool) : (if a then some (o.getD 0) else o).getD 0 = o.getD 0 := by cases a <;> rfl
theorem twice_any (w : World) (a : Option Addr) (n cap : Nat) (l : List Cel) (x : Cel) (hl : CelsAt w a n l) (hn : n ≤ 1000000) (h0 : 0 < n) (hx : CelOK x) (hsame : ∀ c ∈ l, (⟨c.row, c.col, c.ts, 0, false, ⟨#[]⟩⟩ : Cel) = x) :
  Calls Tryz.prog 26 #[.slice a n cap] w fun e w' => e = .returned (.bool (decide (1 < n))) ∧ Fp [] w w' := by
 have HLN := Lib.hid hl.len
 have hmm := @run_makeMap Tryz.prog
 have HL := Lib.hid hl
 have HS := Lib.hid hsame
 have HX := Lib.hid hx
 clear hl hsame hx
 obtain ⟨m, hm0⟩ : ∃ m, m = w.heap.size := ⟨_, rfl⟩
 go_enter Tryz.func26, Tryz.ntmps26
 go_wp2_with (fail)
 rw [← hm0]
 have HM0 := Lib.hid hm0
 clear hm0
 go_loopg [9] n (fun g vi W => ∃ k : Nat, g + k = n ∧ vi = .int .i64 k ∧ W.heap[m]? = some (mapSt (cellV x) (if k = 0 then none else some k)) ∧ Fp [] w W)
 case atStart => exact ⟨0, rfl, rfl, heap_alloc_at HM0.out _, Fp.alloc _ _⟩
 case round =>
  obtain ⟨k, hg, rfl, hm, hf⟩ := hrel
  have HM := Lib.hid hm
  have HF := Lib.hid hf
  clear hm hf
  by_cases hk : k < n
  ·have hkl : k < l.length := by have := HLN.out; omega
   obtain ⟨b1, o1, rfl, hb1, hcells⟩ := cels_get HL.out hkl
   have hxc := HS.out l[k] (List.getElem_mem hkl)
   obtain ⟨c, hc⟩ : ∃ c, l[k] = c := ⟨_, rfl⟩
   rw [hc] at hcells hxc
   obtain ⟨q0, q1, q2, q3, q4, q5⟩ := hcells wr HF.out
   clear hcells hc
   obtain ⟨row, col, ts, seq, del, val⟩ := c
   simp only at hxc
   subst hxc
   obtain ⟨o, ho⟩ : ∃ o : Option Int, (if k = 0 then none else some (k : Int)) = o := ⟨_, rfl⟩
   have hod : o.getD 0 = k := by
    rw [← ho]
    by_cases e : k = 0
    ·subst e; rfl
    ·rw [if_neg e]; rfl
   rw [ho] at HM
   clear ho
   obtain ⟨W, hW⟩ : ∃ W, W = wr.alloc (.cells #[.string row, .string col, .int .u64 ts, .int .u64 seq, .bool del, .string val] 24) := ⟨_, rfl⟩
   have hWF : Fp [] wr W := by rw [hW]; exact Fp.alloc _ _
   have hbx : W.heap[wr.heap.size]? = some (.cells #[.string row, .string col, .int .u64 ts, .int .u64 seq, .bool del, .string val] 24 (0, 0)) := by rw [hW]; exact heap_alloc_at rfl _
   have hmlt := heap_lt HM.out
   have HXB : Hid (∀ w', Fp [m] W w' → w'.cell? ⟨wr.heap.size, 0, none⟩ = some (.string row) ∧ w'.cell? ⟨wr.heap.size, 1, none⟩ = some (.string col) ∧ w'.cell? ⟨wr.heap.size, 2, none⟩ = some (.int .u64 ts)) := fun w' hf => by
    have hb := (hf.block _ (heap_lt hbx) (by simp; omega)).trans hbx
    exact ⟨cell_of_block hb 0, cell_of_block hb 1, cell_of_block hb 2⟩
   have HMW := Lib.hid ((hWF.block _ hmlt (by simp)).trans HM.out)
   have HF1 := Lib.hid (HF.out.trans hWF (by simp))
   have u1 : IntKind.i64.wrap ((k : Int) + 1) = (k : Int) + 1 := by rw [IntKind.wrap_i64]; omega
   have hok := HX.out
   clear hbx hWF HM
   go_wp2_with (fail)
   rw [← hW]
   clear hW q0 q1 q2 q3 q4 q5
   refine wp_region_n (fun bb w3 => CountC W m (cellV ⟨row, col, ts, 0, false, ⟨#[]⟩⟩) o (bb 10) (bb 12) w3) (Fp [m]) (by kernel_rfl) (by kernel_rfl) ⟨(Fp.drew _).mono (by simp), ((Fp.drew _).block _ (heap_lt HMW.out) (by simp)).trans HMW.out⟩ ?_
   iterate 8
    apply nx_plain (fun _ _ h => h) rfl rfl rfl
    ·intro b a w hC hA K hK
     have := hA.f 3
     have := hA.f 5
     try have := hA.e 1 14
     try have := hA.e 3 16
     try have := hA.e 5 18
     try have := hA.e 2 15
     try have := hA.e 4 17
     try have := hA.e 6 19
     obtain ⟨y0, y1, y2⟩ := HXB.out _ hC.fp
     simp only [Oper.wp, execOp]; go_simp
     exact hK _ hC (Fp.refl _ _)
   apply nx_plain (fun _ _ h => h) rfl rfl rfl
   ·intro b a w hC hA K hK
    have h13 := hA.e 0 13
    have h20 := hA.e 7 20
    have r : (Instr.lookup 134 (.map (some m)) (.agg #[.string row, .string col, .int .u64 ts, .int .u64 0, .bool false, .string ⟨#[]⟩]) false).run Tryz.prog w = .ok (.int .i64 k) w := by
     have := hadTy.st_look (fun _ => rfl) rfl (x := ⟨row, col, ts, 0, false, ⟨#[]⟩⟩) (hC.pre (hA.post 12 (by kernel_rfl))) hok
     rw [getD_if, hod] at this
     exact this
    simp only [Oper.wp, execOp]; go_simp
    exact hK _ hC (Fp.refl _ _)
   apply nx_plain (fun _ _ h => h) rfl rfl rfl
   ·intro b a w hC hA K hK
    have h21 := hA.e 8 21
    simp only [Oper.wp, execOp]; go_simp
    exact hK _ hC (Fp.refl _ _)
   apply nx_turn (eqV (.tuple #[.int .i64 k, .int .i64 0])) rfl rfl rfl
   ·intro b a w hC hA K hK
    have h13 := hA.e 0 13
    have h20 := hA.e 7 20
    have hh := hC.pre (hA.post 12 (by kernel_rfl))
    have r := hadTy.st_entry (fun _ => rfl) rfl (x := ⟨row, col, ts, 0, false, ⟨#[]⟩⟩) hh hok
    rw [getD_if, hod] at r
    have r : (Instr.mapEntry 134 (.map (some m)) (.agg #[.string row, .string col, .int .u64 ts, .int .u64 0, .bool false, .string ⟨#[]⟩])).run Tryz.prog w = .ok (.tuple #[.int .i64 k, .int .i64 0]) _ := r
    have hst := setBlock_at (o2 := mapSt (cellV ⟨row, col, ts, 0, false, ⟨#[]⟩⟩) (some k)) hh
    simp only [Oper.wp, execOp]; go_simp
    exact hK _ _ ⟨hC.fp.trans (Fp.setBlock _ _ _) (by simp), by have h12 := hA.post 12 (by kernel_rfl); simp only [upd] at *; simp [h12, hod]; exact hst⟩ (Fp.setBlock _ _ _) rfl
   apply nx_plain (fun _ _ h => h) rfl rfl rfl
   ·intro b a w hC hA K hK
    have h23 := hA.e 10 23
    simp only [Oper.wp, execOp]; go_simp
    exact hK _ hC (Fp.refl _ _)
   apply nx_effect (fun _ => True) rfl rfl
   ·intro b a w hC hA K hK
    have h13 := hA.e 0 13
    have h24 := hA.e 11 24
    have h22 := hA.e 9 22
    have hh := hC.map
    rw [hA.self, hA.pre 10 (by kernel_rfl), hod] at hh
    have r : (Instr.entryStore 134 (.map (some m)) (.int .i64 0) (.int .i64 ((k : Int) + 1))).run Tryz.prog w = .ok () _ := st_store hh _
    have hst := setBlock_at (o2 := mapSt (cellV ⟨row, col, ts, 0, false, ⟨#[]⟩⟩) (some ((k : Int) + 1))) hh
    simp only [Oper.wp, execOp]; go_simp
    exact hK undef _ ⟨hC.fp.trans (Fp.setBlock _ _ _) (by simp), by simp [upd, hod]; exact hst⟩ (Fp.setBlock _ _ _) trivial
   refine ⟨?_, ?_⟩
   ·refine ⟨fun _ _ _ _ _ => trivial, ?_⟩
    refine stabN_val _ ?_
    refine ⟨fun _ _ _ _ h => h, ?_⟩
    iterate 10 refine stabN_val _ ?_
    exact trivial
   ·intro w3 bb hC hbb
    simp only [List.reverse_cons, List.reverse_nil, List.nil_append, List.cons_append]
    iterate 10 (refine all_val ?_)
    refine all_some ?_
    intro v10 u10
    obtain rfl := u10
    iterate 1 (refine all_val ?_)
    refine all_some ?_
    intro v12 u12
    refine all_nil ?_
    simp only [putAll, Act.put, List.setIfInBounds_toArray, List.set_cons_succ, List.set_cons_zero]
    have hm3 := hC.map
    rw [hbb 12 (by decide), hod] at hm3
    have HM3 := Lib.hid hm3
    have HF3 := Lib.hid hC.fp
    clear hC hm3 hbb
    go_wp2_with (fail)
    go_roundg (gk - 1)
    case measure => omega
    case rel => exact ⟨k + 1, by omega, by go_num, by rw [if_neg (by omega), Int.natCast_add]; exact HM3.out, HF1.out.trans HF3.out (by have := HM0.out; simp; omega)⟩
  ·obtain rfl : k = n := by omega
   have hm : wr.heap[m]? = some (.map #[⟨cellV x, .int .i64 k, 0⟩] 1) := by have := HM.out; rw [if_neg (by omega)] at this; exact this
   have hlen := map_len Tryz.underlying134 hm 3
   simp only [List.size_toArray, List.length_cons, List.length_nil] at hlen
   go_wp2_with (fail)
   go_ret
   have e : decide ((1 : Int) < (k : Int)) = decide (1 < k) := decide_eq_decide.2 (by omega)
   exact ⟨congrArg (fun b => Ending.returned (.bool b)) e, HF.out⟩
end
end Go.Proofs.YtkjmgbifoaoefaaGreatDoor
