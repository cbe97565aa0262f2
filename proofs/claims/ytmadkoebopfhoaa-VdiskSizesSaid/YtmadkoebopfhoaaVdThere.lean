/-
  The disk's gate for files that have to be there.
-/
import Derived.Test.YtmadkoebopfhoaaVdAct
namespace Go.Proofs.Ytmadkoebopfhoaa
open Go.RowKit Go.Maps Go.MapKept Go.ChangeMaps

/-- a call with a file that turns the disk to d2, and answers nothing -/
structure TurnsF (w : World) (b bm : Nat) (d : Dk) (f : File) (d2 : Dk) (K : Nat) (caps : Array Value) : Prop where
  enters : ∀ w, (callFunc K (#[.agg #[.string f.s, .int .i64 f.synced]] ++ caps)).run Try.prog w = .ok (.enter K (#[.agg #[.string f.s, .int .i64 f.synced]] ++ caps)) w
  calls : ∀ w1, DiskAt w1 b bm d → Fp [b] w w1 → Calls Try.prog K (#[.agg #[.string f.s, .int .i64 f.synced]] ++ caps) w1 fun e w' => e = .returned (.tuple #[]) ∧ DiskAt w' b bm d2 ∧ Fp [b, bm] w1 w'

theorem TurnsF.later {w w' : World} {b bm : Nat} {d : Dk} {f : File} {d2 : Dk} {K : Nat} {caps : Array Value} (h : TurnsF w b bm d f d2 K caps) (hf : Fp [b] w w') : TurnsF w' b bm d f d2 K caps :=
  ⟨h.enters, fun w1 hd h1 => h.calls w1 hd (hf.trans h1 (by simp))⟩

set_option maxHeartbeats 400000 in
theorem there1_any (w : World) (b bm p q : Nat) (d : Dk) (f : File) (d2 : Dk) (K : Nat) (caps : Array Value)
    (hp : w.cell? ⟨p, 0, none⟩ = some (.func (.func K) #[] caps)) (hq0 : w.cell? ⟨q, 0, none⟩ = some (.string f.s)) (hq1 : w.cell? ⟨q, 1, none⟩ = some (.int .i64 f.synced)) (htu : TurnsF w b bm d f d2 K caps) (hd : DiskAt w b bm d) :
    Calls Try.prog 33 #[.pointer (some ⟨p, 0, none⟩), .pointer (some ⟨q, 0, none⟩)] w fun e w' => e = .returned (.tuple #[]) ∧ DiskAt w' b bm d2 ∧ Fp [b, bm] w w' := by
  have hen := htu.enters
  have HC := Lib.hid (htu.calls w hd (Fp.refl _ _))
  clear htu hd
  go_enter Try.func33, Try.ntmps33
  go_wp2_with (fail)
  refine HC.out.mono ?_
  rintro e w2 ⟨rfl, hd2, hf2⟩
  have HD2 := Lib.hid hd2
  clear hd2
  go_wp2_with (fail)
  go_end0
  exact ⟨rfl, HD2.out, hf2⟩

theorem there1_enters (p q : Value) : ∀ w, (callFunc 33 #[p, q]).run Try.prog w = .ok (.enter 33 #[p, q]) w := fun w => by kernel_rfl

/-- what becomes of the disk, and what is answered: g: what the call with the file makes of it -/
def Dk.thereD (d : Dk) (name : ByteArray) (g : File → Dk) : Dk := if d.named [name] ≠ 0 then d else match mget d.files name with | none => d | some f => d.burnt (g f)
def Dk.thereE (d : Dk) (name : ByteArray) : Int := if d.named [name] ≠ 0 then d.named [name] else match mget d.files name with | none => 3 | some _ => d.told

set_option maxHeartbeats 1000000 in
theorem there_any (w : World) (b bm : Nat) (d : Dk) (name : ByteArray) (always : Bool) (K : Nat) (caps : Array Value) (g : File → Dk) (hd : DiskAt w b bm d) (hok : DkOK d) (hname : name.size ≤ maxLen)
    (hg : d.named [name] = 0 → ∀ f, mget d.files name = some f → DkOK (g f) ∧ (d.does always = true → TurnsF w b bm d.tick f (g f) K caps) ∧ (d.does always = false → g f = d.tick)) :
    Calls Try.prog 26 #[.pointer (some ⟨b, 0, none⟩), .string name, .bool always, .func (.func K) #[] caps] w fun e w' => e = .returned (.int .i64 (d.thereE name)) ∧ DiskAt w' b bm (d.thereD name g) ∧ Fp [b, bm] w w' := by
  have c2 : w.cell? ⟨b, 2, none⟩ = some (.map (some bm)) := cell_of_block hd.cells 2
  have hlt := heap_lt hd.cells
  have hfp : Fp [] w ((w.alloc (.cells #[.func (.func K) #[] caps] 57)).alloc (.cells #[.string name] 9)) := (Fp.alloc _ _).alloc' _
  have hd1 := hd.of_fp hfp (by simp) (by simp)
  have hl : (Instr.lookup 47 (.map (some bm)) (.string name) true).run Try.prog ((w.alloc (.cells #[.func (.func K) #[] caps] 57)).alloc (.cells #[.string name] 9)) = .ok (.tuple #[.agg #[.string (fget d name).s, .int .i64 (fget d name).synced], .bool (mget d.files name).isSome]) ((w.alloc (.cells #[.func (.func K) #[] caps] 57)).alloc (.cells #[.string name] 9)) := hd1.files.lookup true hname
  have hnm : Calls Try.prog 22 #[.pointer (some ⟨b, 0, none⟩), .slice (some ⟨w.heap.size + 1, 0, none⟩) 1 1] ((w.alloc (.cells #[.func (.func K) #[] caps] 57)).alloc (.cells #[.string name] 9)) fun e w' => e = .returned (.int .i64 (d.named [name])) ∧ ((w.alloc (.cells #[.func (.func K) #[] caps] 57)).alloc (.cells #[.string name] 9)) = w' :=
    named_any _ b bm (w.heap.size + 1) d [name] hd1 (heap_alloc_at (by simp) _) (by simp)
  have HD1 := Lib.hid hd1
  have HN := Lib.hid hnm
  have HG := Lib.hid hg
  have HFP := Lib.hid hfp
  clear hd hd1 hnm hg hfp
  obtain ⟨nm, hnm⟩ : ∃ nm, nm = d.named [name] := ⟨_, rfl⟩
  rw [← hnm] at HN
  by_cases h0 : nm = 0
  · subst h0
    cases hg : mget d.files name with
    | none =>
      rw [hg] at hl
      have HE : Hid (d.thereE name = 3) := by simp [Hid, Dk.thereE, ← hnm, hg]
      have HD : Hid (d.thereD name g = d) := by simp [Hid, Dk.thereD, ← hnm, hg]
      clear hg hnm
      go_enter Try.func26, Try.ntmps26
      go_wp2_with (go_at_call 22; refine HN.out.mono ?_; rintro e w' ⟨rfl, rfl⟩)
      go_ret
      exact ⟨by rw [HE.out]; rfl, by rw [HD.out]; exact HD1.out.of_fp (Fp.alloc _ _) (by simp) (by simp), (HFP.out.alloc' _).mono (by simp)⟩
    | some f =>
      have hfg : fget d name = f := by simp [fget, hg]
      rw [hg, hfg] at hl
      have HE : Hid (d.thereE name = d.told) := by simp [Hid, Dk.thereE, ← hnm, hg]
      have HD : Hid (d.thereD name g = d.burnt (g f)) := by simp [Hid, Dk.thereD, ← hnm, hg]
      obtain ⟨hg1, hg2, hg3⟩ := HG.out hnm.symm f hg
      have hact := act_any (((w.alloc (.cells #[.func (.func K) #[] caps] 57)).alloc (.cells #[.string name] 9)).alloc (.cells #[.string f.s, .int .i64 f.synced] 52)) b bm d (g f) always 33 #[.pointer (some ⟨w.heap.size, 0, none⟩), .pointer (some ⟨w.heap.size + 1 + 1, 0, none⟩)] (HD1.out.of_fp (Fp.alloc _ _) (by simp) (by simp)) hok hg1
        (fun hdo => by
          have htu := (hg2 hdo).later ((HFP.out.alloc' (.cells #[.string f.s, .int .i64 f.synced] 52)).mono (S' := [b]) (by simp))
          refine ⟨there1_enters _ _, fun w1 hdw hfw => ?_⟩
          refine there1_any w1 b bm w.heap.size (w.heap.size + 1 + 1) d.tick f (g f) K caps ?_ ?_ ?_ (htu.later hfw) hdw
          · rw [hfw.cell (by simp; omega) (by simp; omega), World.cell?_of_block (w := (w.alloc (.cells #[.func (.func K) #[] caps] 57)))]
            · exact cell_of_block (MapKept.heap_alloc w _).1 0
            · show (((w.alloc _).alloc _).alloc _).heap[w.heap.size]? = _
              rw [Below.heap_alloc _ _ _ (by simp; omega), Below.heap_alloc _ _ _ (by simp)]
          · rw [hfw.cell (by simp) (by simp; omega)]
            exact cell_of_block (heap_alloc_at (by simp) _) 0
          · rw [hfw.cell (by simp) (by simp; omega)]
            exact cell_of_block (heap_alloc_at (by simp) _) 1)
        hg3
      have HA := Lib.hid hact
      clear hg hnm hact hg1 hg2 hg3 hfg
      go_enter Try.func26, Try.ntmps26
      go_wp2_with (go_at_call 22; refine HN.out.mono ?_; rintro e w' ⟨rfl, rfl⟩)
      refine HA.out.mono ?_
      rintro e w2 ⟨rfl, hd2, hf2⟩
      have HD2 := Lib.hid hd2
      clear hd2
      go_wp2_with (fail)
      go_ret
      exact ⟨by rw [HE.out]; rfl, by rw [HD.out]; exact HD2.out, ((HFP.out.alloc' _).mono (by simp)).trans hf2 (by simp)⟩
  · have HE : Hid (d.thereE name = nm) := by simp [Hid, Dk.thereE, ← hnm, h0]
    have HD : Hid (d.thereD name g = d) := by simp [Hid, Dk.thereD, ← hnm, h0]
    have hb : ((nm : Int) != 0) = true := by simpa using h0
    clear hnm hl h0
    go_enter Try.func26, Try.ntmps26
    go_wp2_with (go_at_call 22; refine HN.out.mono ?_; rintro e w' ⟨rfl, rfl⟩)
    go_ret
    exact ⟨by rw [HE.out]; rfl, by rw [HD.out]; exact HD1.out, HFP.out.mono (by simp)⟩
end Go.Proofs.Ytmadkoebopfhoaa
