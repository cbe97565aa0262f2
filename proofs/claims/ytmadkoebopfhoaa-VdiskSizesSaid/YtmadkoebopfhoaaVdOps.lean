/-
  The disk's calls that go through the gate.
-/
import Derived.Test.YtmadkoebopfhoaaVdPure
import Derived.Deep.QuietTactic
import Derived.BigQuiet
namespace Go.Proofs.Ytmadkoebopfhoaa
open Go.RowKit Go.Maps Go.MapKept Go.ChangeMaps

/-! ### Append -/
def addTo (s : ByteArray) (f : File) : File := ⟨f.s ++ s, f.synced⟩
def Dk.full (d : Dk) (name s : ByteArray) : Bool := (mget d.files name).isSome && !d.off && decide (d.cap < d.size + s.size)
def Dk.append (d : Dk) (name s : ByteArray) : Dk := if d.full name s then d else d.thereD name (fun f => d.tick.set name (addTo s f) false)
def Dk.appendE (d : Dk) (name s : ByteArray) : Int := if d.full name s then 2 else d.thereE name

theorem append1_enters (f ps pd pn : Value) : ∀ w, (callFunc 27 #[f, ps, pd, pn]).run Try.prog w = .ok (.enter 27 #[f, ps, pd, pn]) w := fun w => by kernel_rfl

set_option maxHeartbeats 400000 in
theorem append1_any (w : World) (b bm qs qd qn : Nat) (d : Dk) (f : File) (name s : ByteArray) (hd : DiskAt w b bm d) (hname : name.size ≤ maxLen)
    (h1 : w.cell? ⟨qs, 0, none⟩ = some (.string s)) (h2 : w.cell? ⟨qd, 0, none⟩ = some (.pointer (some ⟨b, 0, none⟩))) (h3 : w.cell? ⟨qn, 0, none⟩ = some (.string name))
    (g0 : 0 ≤ d.size) (g1 : d.size ≤ 1000000000) (g2 : f.s.size + s.size ≤ 1000000000) (g3 : (fget d name).s.size ≤ 1000000000) :
    Calls Try.prog 27 #[.agg #[.string f.s, .int .i64 f.synced], .pointer (some ⟨qs, 0, none⟩), .pointer (some ⟨qd, 0, none⟩), .pointer (some ⟨qn, 0, none⟩)] w fun e w' => e = .returned (.tuple #[]) ∧ DiskAt w' b bm (d.set name (addTo s f) false) ∧ Fp [b, bm] w w' := by
  have hfa := Fp.alloc w (.cells #[.string (f.s ++ s), .int .i64 f.synced] 52)
  have hset := set_any (w.alloc (.cells #[.string (f.s ++ s), .int .i64 f.synced] 52)) b bm d name (addTo s f) false (hd.of_fp hfa (by simp) (by simp)) hname g0 g1 (by unfold addTo; simp; omega) g3
  change Calls Try.prog _ #[_, _, .agg #[.string (f.s ++ s), .int .i64 f.synced], _] _ _ at hset
  have k1 : qs < w.heap.size := World.block_lt_of_cell? _ _ h1
  have k2 : qd < w.heap.size := World.block_lt_of_cell? _ _ h2
  have k3 : qn < w.heap.size := World.block_lt_of_cell? _ _ h3
  have HS := Lib.hid hset
  have HFA := Lib.hid hfa
  clear hset hd hfa
  go_enter Try.func27, Try.ntmps27
  go_wp2_with (fail)
  refine HS.out.mono ?_
  rintro e w2 ⟨rfl, hd2, hf2, _⟩
  have HD2 := Lib.hid hd2
  clear hd2
  go_wp2_with (fail)
  go_end0
  exact ⟨rfl, HD2.out, (HFA.out.mono (by simp)).trans hf2 (by simp)⟩

theorem box_fp {w w1 : World} {b q : Nat} {v : Value} (hf : Fp [b] w w1) (hb : b ≠ q) (h : w.cell? ⟨q, 0, none⟩ = some v) : w1.cell? ⟨q, 0, none⟩ = some v := by
  rw [hf.cell (World.block_lt_of_cell? _ _ h) (by simpa using Ne.symm hb)]; exact h

theorem named_zero {d : Dk} {l : List ByteArray} (h : d.named l = 0) : d.off = false := by
  unfold Dk.named at h
  cases ho : d.off
  · rfl
  · rw [ho] at h; simp at h

/-- what the gate needs of Append -/
theorem append_gate (w : World) (b bm qs qd qn : Nat) (d : Dk) (name s : ByteArray) (hok : DkOK d) (hname : name.size ≤ maxLen) (hfull : d.full name s = false) (hs : s.size ≤ 1000000000)
    (h1 : w.cell? ⟨qs, 0, none⟩ = some (.string s)) (h2 : w.cell? ⟨qd, 0, none⟩ = some (.pointer (some ⟨b, 0, none⟩))) (h3 : w.cell? ⟨qn, 0, none⟩ = some (.string name)) (n1 : b ≠ qs) (n2 : b ≠ qd) (n3 : b ≠ qn) :
    d.named [name] = 0 → ∀ f, mget d.files name = some f → DkOK (d.tick.set name (addTo s f) false) ∧ (d.does true = true → TurnsF w b bm d.tick f (d.tick.set name (addTo s f) false) 27 #[.pointer (some ⟨qs, 0, none⟩), .pointer (some ⟨qd, 0, none⟩), .pointer (some ⟨qn, 0, none⟩)]) ∧ (d.does true = false → d.tick.set name (addTo s f) false = d.tick) := by
  intro hn f hf
  have ho := named_zero hn
  have hfit : d.size + s.size ≤ d.cap := by
    unfold Dk.full at hfull
    rw [hf, ho] at hfull
    simpa using hfull
  have hfile := hok.file hf
  have hz := hok.size
  have hcp := hok.caps
  have hfg : fget d.tick name = f := by
    show (mget d.files name).getD zeroFile = f
    rw [hf]; rfl
  refine ⟨hok.tick.put name _ ?_ ?_ (Or.inl (by show (mget d.files name).isSome = true; rw [hf]; rfl)), fun _ => ⟨append1_enters _ _ _ _, fun w1 hd1 hf1 => ?_⟩, fun h => by simp [Dk.does] at h⟩
  · rw [hfg]
    show (total d.files : Int) + ((f.s ++ s).size : Nat) - f.s.size ≤ d.cap
    simp only [ByteArray.size_append]
    omega
  · show f.synced ≤ (f.s ++ s).size
    simp only [ByteArray.size_append]
    omega
  · refine append1_any w1 b bm qs qd qn d.tick f name s hd1 hname (box_fp hf1 n1 h1) (box_fp hf1 n2 h2) (box_fp hf1 n3 h3) (by show 0 ≤ d.size; omega) (by show d.size ≤ _; omega) (by omega) (hok.tick.fget_le name)

set_option maxHeartbeats 1000000 in
theorem append_any (w : World) (b bm : Nat) (d : Dk) (name s : ByteArray) (hd : DiskAt w b bm d) (hok : DkOK d) (hname : name.size ≤ maxLen) (hs : s.size ≤ 1000000000) :
    Calls Try.prog 11 #[.pointer (some ⟨b, 0, none⟩), .string name, .string s] w fun e w' => e = .returned (.int .i64 (d.appendE name s)) ∧ DiskAt w' b bm (d.append name s) ∧ Fp [b, bm] w w' := by
  have hlt := heap_lt hd.cells
  have hlt1 : b < w.heap.size + 1 := by omega
  have hlt2 : b < w.heap.size + 1 + 1 := by omega
  have hlt3 : b < w.heap.size + 1 + 1 + 1 := by omega
  have c0 : w.cell? ⟨b, 0, none⟩ = some (.int .i64 d.cap) := cell_of_block hd.cells 0
  have c1 : w.cell? ⟨b, 1, none⟩ = some (.int .i64 d.size) := cell_of_block hd.cells 1
  have c2 : w.cell? ⟨b, 2, none⟩ = some (.map (some bm)) := cell_of_block hd.cells 2
  have c3 : w.cell? ⟨b, 3, none⟩ = some (.bool d.off) := cell_of_block hd.cells 3
  have hfp : Fp [] w (((w.alloc (.cells #[.pointer (some ⟨b, 0, none⟩)] 24)).alloc (.cells #[.string name] 9)).alloc (.cells #[.string s] 9)) := ((Fp.alloc _ _).alloc' _).alloc' _
  have hlg : ∀ W, Fp [] w W → (Instr.lookup 47 (.map (some bm)) (.string name) true).run Try.prog W = .ok (.tuple #[.agg #[.string (fget d name).s, .int .i64 (fget d name).synced], .bool (mget d.files name).isSome]) W := fun W hf => (hd.of_fp hf (by simp) (by simp)).files.lookup true hname
  have hl := hlg _ hfp.drew'
  have hl2 := hlg _ (hfp.alloc' (.cells #[.string ⟨#[]⟩, .int .i64 0] 52)).drew'
  clear hlg
  obtain ⟨W, hW⟩ : ∃ W, W = ((((w.alloc (.cells #[.pointer (some ⟨b, 0, none⟩)] 24)).alloc (.cells #[.string name] 9)).alloc (.cells #[.string s] 9)).alloc (.cells #[.string (fget d name).s, .int .i64 (fget d name).synced] 52)) := ⟨_, rfl⟩
  have hfW : Fp [] w W := by rw [hW]; exact hfp.alloc' _
  have hb1 : W.heap[w.heap.size]? = some (.cells #[.pointer (some ⟨b, 0, none⟩)] 24 (0, 0)) := by
    rw [hW, Below.heap_alloc _ _ _ (by simp <;> omega), Below.heap_alloc _ _ _ (by simp <;> omega), Below.heap_alloc _ _ _ (by simp <;> omega)]
    exact heap_alloc_at rfl _
  have hb2 : W.heap[w.heap.size + 1]? = some (.cells #[.string name] 9 (0, 0)) := by
    rw [hW, Below.heap_alloc _ _ _ (by simp <;> omega), Below.heap_alloc _ _ _ (by simp <;> omega)]
    exact heap_alloc_at (by simp) _
  have hb3 : W.heap[w.heap.size + 1 + 1]? = some (.cells #[.string s] 9 (0, 0)) := by
    rw [hW, Below.heap_alloc _ _ _ (by simp <;> omega)]
    exact heap_alloc_at (by simp) _
  have hth : d.full name s = false → ∀ W', W'.heap = W.heap → Fp [] w W' → Calls Try.prog 26 #[.pointer (some ⟨b, 0, none⟩), .string name, .bool true, .func (.func 27) #[] #[.pointer (some ⟨w.heap.size + 1 + 1, 0, none⟩), .pointer (some ⟨w.heap.size, 0, none⟩), .pointer (some ⟨w.heap.size + 1, 0, none⟩)]] W' fun e w' => e = .returned (.int .i64 (d.thereE name)) ∧ DiskAt w' b bm (d.thereD name (fun f => d.tick.set name (addTo s f) false)) ∧ Fp [b, bm] W' w' := by
    intro hfull W' hh hf
    refine there_any W' b bm d name true 27 _ _ (hd.of_fp hf (by simp) (by simp)) hok hname (append_gate W' b bm (w.heap.size + 1 + 1) w.heap.size (w.heap.size + 1) d name s hok hname hfull hs ?_ ?_ ?_ (by omega) (by omega) (by omega))
    · exact cell_of_block (by rw [hh]; exact hb3) 0
    · exact cell_of_block (by rw [hh]; exact hb1) 0
    · exact cell_of_block (by rw [hh]; exact hb2) 0
  have HD := Lib.hid hd
  have HTH := Lib.hid hth
  have HW := Lib.hid hW
  have HFW := Lib.hid hfW
  have hz := hok.size
  have hz1 : 0 ≤ d.size := by omega
  have hz2 : d.size ≤ 1000000000 := by have := hok.le; omega
  clear hd hth hW hfW hb1 hb2 hb3 hz
  obtain ⟨is, his⟩ : ∃ is, is = (mget d.files name).isSome := ⟨_, rfl⟩
  obtain ⟨off, hoff⟩ : ∃ off, off = d.off := ⟨_, rfl⟩
  rw [← his] at hl hl2
  rw [← hoff] at c3
  have HF : Hid (d.full name s = (is && !off && decide (d.cap < d.size + s.size))) := by unfold Hid Dk.full; rw [← his, ← hoff]
  clear his hoff
  have hlast : d.full name s = true → d.appendE name s = 2 ∧ d.append name s = d := fun h => by unfold Dk.appendE Dk.append; rw [h]; exact ⟨rfl, rfl⟩
  have hlast2 : d.full name s = false → d.appendE name s = d.thereE name ∧ d.append name s = d.thereD name (fun f => d.tick.set name (addTo s f) false) := fun h => by unfold Dk.appendE Dk.append; rw [h]; exact ⟨rfl, rfl⟩
  have HL1 := Lib.hid hlast
  have HL2 := Lib.hid hlast2
  clear hlast hlast2
  have hcase : (is = true ∧ off = false ∧ d.cap < d.size + s.size) ∨ is = false ∨ (is = true ∧ off = true) ∨ (is = true ∧ off = false ∧ ¬ d.cap < d.size + s.size) := by
    cases is <;> cases off <;> simp <;> omega
  rcases hcase with ⟨rfl, rfl, hfull⟩ | rfl | ⟨rfl, rfl⟩ | ⟨rfl, rfl, hfull⟩
  · have HFF : Hid (d.full name s = true) := by unfold Hid; rw [HF.out]; simpa using hfull
    clear HTH
    go_enter Try.func11, Try.ntmps11
    go_wp2_with (fail)
    go_region
    all_goals
      go_wp2_with (fail)
      go_quiet (fail)
      go_wp2_with (fail)
      go_ret
      refine ⟨by rw [(HL1.out HFF.out).1]; rfl, ?_, ?_⟩
      · rw [(HL1.out HFF.out).2]
        exact HD.out.of_fp (S := []) ((((HW.out ▸ HFW.out).drew').trans (Fp.drewN _ _) (by simp))) (by simp) (by simp)
      · exact ((((HW.out ▸ HFW.out).drew').trans (Fp.drewN _ _) (by simp))).mono (by simp)
  all_goals
    have HFF : Hid (d.full name s = false) := by unfold Hid; rw [HF.out]; simp <;> omega
    have HT : ∀ n, Hid (Calls Try.prog 26 #[.pointer (some ⟨b, 0, none⟩), .string name, .bool true, .func (.func 27) #[] #[.pointer (some ⟨w.heap.size + 1 + 1, 0, none⟩), .pointer (some ⟨w.heap.size, 0, none⟩), .pointer (some ⟨w.heap.size + 1, 0, none⟩)]] (W.drewN n) fun e w' => e = .returned (.int .i64 (d.thereE name)) ∧ DiskAt w' b bm (d.thereD name (fun f => d.tick.set name (addTo s f) false)) ∧ Fp [b, bm] (W.drewN n) w') := fun n => HTH.out HFF.out _ rfl (HFW.out.trans (Fp.drewN _ _) (by simp))
    rw [HW.out] at HT
    clear HTH
    go_enter Try.func11, Try.ntmps11
    go_wp2_with (fail)
    go_region
    all_goals
      go_wp2_with (fail)
      go_quiet (fail)
      go_wp2_with (fail)
      refine (HT _).out.mono ?_
      rintro e w2 ⟨rfl, hd2, hf2⟩
      have HD2 := Lib.hid hd2
      clear hd2
      go_wp2_with (fail)
      go_ret
      refine ⟨by rw [(HL2.out HFF.out).1]; rfl, by rw [(HL2.out HFF.out).2]; exact HD2.out, ?_⟩
      exact ((((HW.out ▸ HFW.out).trans (Fp.drewN _ _) (by simp))).mono (by simp)).trans hf2 (by simp)
end Go.Proofs.Ytmadkoebopfhoaa
