/-
 The disk's gate for files that have to be there. The disk as data: what its calls keep to. The disk's calls that go through the gate.
-/
import Derived.Test.YtkagolpnaicdoaaGreatDoorSVdSet
import Derived.Deep.QuietTactic
import Derived.BigQuiet
set_option maxRecDepth 100000
set_option maxHeartbeats 8000000
namespace Go.Proofs.YtkagolpnaicdoaaGreatDoor
section
open Go.RowKit Go.Maps Go.MapKept Go.ChangeMaps
structure TurnsF (w : World) (b bm : Nat) (d : Dk) (f : File) (d2 : Dk) (K : Nat) (caps : Array Value) : Prop where
 enters : ∀ w, (callFunc K (#[.agg #[.string f.s, .int .i64 f.synced]] ++ caps)).run Tryz.prog w = .ok (.enter K (#[.agg #[.string f.s, .int .i64 f.synced]] ++ caps)) w
 calls : ∀ w1, DiskAt w1 b bm d → Fp [b] w w1 → Calls Tryz.prog K (#[.agg #[.string f.s, .int .i64 f.synced]] ++ caps) w1 fun e w' => e = .returned (.tuple #[]) ∧ DiskAt w' b bm d2 ∧ Fp [b, bm] w1 w'
theorem TurnsF.later {w w' : World} {b bm : Nat} {d : Dk} {f : File} {d2 : Dk} {K : Nat} {caps : Array Value} (h : TurnsF w b bm d f d2 K caps) (hf : Fp [b] w w') : TurnsF w' b bm d f d2 K caps :=
 ⟨h.enters, fun w1 hd h1 => h.calls w1 hd (hf.trans h1 (by simp))⟩
theorem there1_any (w : World) (b bm p q : Nat) (d : Dk) (f : File) (d2 : Dk) (K : Nat) (caps : Array Value)
  (hp : w.cell? ⟨p, 0, none⟩ = some (.func (.func K) #[] caps)) (hq0 : w.cell? ⟨q, 0, none⟩ = some (.string f.s)) (hq1 : w.cell? ⟨q, 1, none⟩ = some (.int .i64 f.synced)) (htu : TurnsF w b bm d f d2 K caps) (hd : DiskAt w b bm d) :
  Calls Tryz.prog 241 #[.pointer (some ⟨p, 0, none⟩), .pointer (some ⟨q, 0, none⟩)] w fun e w' => e = .returned (.tuple #[]) ∧ DiskAt w' b bm d2 ∧ Fp [b, bm] w w' := by
 have hen := htu.enters
 have HC := Lib.hid (htu.calls w hd (Fp.refl _ _))
 clear htu hd
 go_enter Tryz.func241, Tryz.ntmps241
 go_wp2_with (fail)
 refine HC.out.mono ?_
 rintro e w2 ⟨rfl, hd2, hf2⟩
 have HD2 := Lib.hid hd2
 clear hd2
 go_wp2_with (fail)
 go_end0
 exact ⟨rfl, HD2.out, hf2⟩
theorem there1_enters (p q : Value) : ∀ w, (callFunc 241 #[p, q]).run Tryz.prog w = .ok (.enter 241 #[p, q]) w := fun w => by kernel_rfl
def Dk.thereD (d : Dk) (name : ByteArray) (g : File → Dk) : Dk := if d.named [name] ≠ 0 then d else match mget d.files name with | none => d | some f => d.burnt (g f)
def Dk.thereE (d : Dk) (name : ByteArray) : Int := if d.named [name] ≠ 0 then d.named [name] else match mget d.files name with | none => 3 | some _ => d.told
theorem there_any (w : World) (b bm : Nat) (d : Dk) (name : ByteArray) (always : Bool) (K : Nat) (caps : Array Value) (g : File → Dk) (hd : DiskAt w b bm d) (hok : DkOK d) (hname : name.size ≤ maxLen)
  (hg : d.named [name] = 0 → ∀ f, mget d.files name = some f → DkOK (g f) ∧ (d.does always = true → TurnsF w b bm d.tick f (g f) K caps) ∧ (d.does always = false → g f = d.tick)) :
  Calls Tryz.prog 186 #[.pointer (some ⟨b, 0, none⟩), .string name, .bool always, .func (.func K) #[] caps] w fun e w' => e = .returned (.int .i64 (d.thereE name)) ∧ DiskAt w' b bm (d.thereD name g) ∧ Fp [b, bm] w w' := by
 have c2 : w.cell? ⟨b, 2, none⟩ = some (.map (some bm)) := cell_of_block hd.cells 2
 have hlt := heap_lt hd.cells
 have hfp : Fp [] w ((w.alloc (.cells #[.func (.func K) #[] caps] 258)).alloc (.cells #[.string name] 9)) := (Fp.alloc _ _).alloc' _
 have hd1 := hd.of_fp hfp (by simp) (by simp)
 have hl : (Instr.lookup 116 (.map (some bm)) (.string name) true).run Tryz.prog ((w.alloc (.cells #[.func (.func K) #[] caps] 258)).alloc (.cells #[.string name] 9)) = .ok (.tuple #[.agg #[.string (fget d name).s, .int .i64 (fget d name).synced], .bool (mget d.files name).isSome]) ((w.alloc (.cells #[.func (.func K) #[] caps] 258)).alloc (.cells #[.string name] 9)) := hd1.files.lookup true hname
 have hnm : Calls Tryz.prog 175 #[.pointer (some ⟨b, 0, none⟩), .slice (some ⟨w.heap.size + 1, 0, none⟩) 1 1] ((w.alloc (.cells #[.func (.func K) #[] caps] 258)).alloc (.cells #[.string name] 9)) fun e w' => e = .returned (.int .i64 (d.named [name])) ∧ ((w.alloc (.cells #[.func (.func K) #[] caps] 258)).alloc (.cells #[.string name] 9)) = w' :=
  named_any _ b bm (w.heap.size + 1) d [name] hd1 (heap_alloc_at (by simp) _) (by simp)
 have HD1 := Lib.hid hd1
 have HN := Lib.hid hnm
 have HG := Lib.hid hg
 have HFP := Lib.hid hfp
 clear hd hd1 hnm hg hfp
 obtain ⟨nm, hnm⟩ : ∃ nm, nm = d.named [name] := ⟨_, rfl⟩
 rw [← hnm] at HN
 by_cases h0 : nm = 0
 ·subst h0
  cases hg : mget d.files name with
  |none =>
   rw [hg] at hl
   have HE : Hid (d.thereE name = 3) := by simp [Hid, Dk.thereE, ← hnm, hg]
   have HD : Hid (d.thereD name g = d) := by simp [Hid, Dk.thereD, ← hnm, hg]
   clear hg hnm
   go_enter Tryz.func186, Tryz.ntmps186
   go_wp2_with (go_at_call 175; refine HN.out.mono ?_; rintro e w' ⟨rfl, rfl⟩)
   go_ret
   exact ⟨by rw [HE.out]; rfl, by rw [HD.out]; exact HD1.out.of_fp (Fp.alloc _ _) (by simp) (by simp), (HFP.out.alloc' _).mono (by simp)⟩
  |some f =>
   have hfg : fget d name = f := by simp [fget, hg]
   rw [hg, hfg] at hl
   have HE : Hid (d.thereE name = d.told) := by simp [Hid, Dk.thereE, ← hnm, hg]
   have HD : Hid (d.thereD name g = d.burnt (g f)) := by simp [Hid, Dk.thereD, ← hnm, hg]
   obtain ⟨hg1, hg2, hg3⟩ := HG.out hnm.symm f hg
   have hact := act_any (((w.alloc (.cells #[.func (.func K) #[] caps] 258)).alloc (.cells #[.string name] 9)).alloc (.cells #[.string f.s, .int .i64 f.synced] 251)) b bm d (g f) always 241 #[.pointer (some ⟨w.heap.size, 0, none⟩), .pointer (some ⟨w.heap.size + 1 + 1, 0, none⟩)] (HD1.out.of_fp (Fp.alloc _ _) (by simp) (by simp)) hok hg1
    (fun hdo => by
     have htu := (hg2 hdo).later ((HFP.out.alloc' (.cells #[.string f.s, .int .i64 f.synced] 251)).mono (S' := [b]) (by simp))
     refine ⟨there1_enters _ _, fun w1 hdw hfw => ?_⟩
     refine there1_any w1 b bm w.heap.size (w.heap.size + 1 + 1) d.tick f (g f) K caps ?_ ?_ ?_ (htu.later hfw) hdw
     ·rw [hfw.cell (by simp; omega) (by simp; omega), World.cell?_of_block (w := (w.alloc (.cells #[.func (.func K) #[] caps] 258)))]
      ·exact cell_of_block (MapKept.heap_alloc w _).1 0
      ·show (((w.alloc _).alloc _).alloc _).heap[w.heap.size]? = _
       rw [Below.heap_alloc _ _ _ (by simp; omega), Below.heap_alloc _ _ _ (by simp)]
     ·rw [hfw.cell (by simp) (by simp; omega)]
      exact cell_of_block (heap_alloc_at (by simp) _) 0
     ·rw [hfw.cell (by simp) (by simp; omega)]
      exact cell_of_block (heap_alloc_at (by simp) _) 1)
    hg3
   have HA := Lib.hid hact
   clear hg hnm hact hg1 hg2 hg3 hfg
   go_enter Tryz.func186, Tryz.ntmps186
   go_wp2_with (go_at_call 175; refine HN.out.mono ?_; rintro e w' ⟨rfl, rfl⟩)
   refine HA.out.mono ?_
   rintro e w2 ⟨rfl, hd2, hf2⟩
   have HD2 := Lib.hid hd2
   clear hd2
   go_wp2_with (fail)
   go_ret
   exact ⟨by rw [HE.out]; rfl, by rw [HD.out]; exact HD2.out, ((HFP.out.alloc' _).mono (by simp)).trans hf2 (by simp)⟩
 ·have HE : Hid (d.thereE name = nm) := by simp [Hid, Dk.thereE, ← hnm, h0]
  have HD : Hid (d.thereD name g = d) := by simp [Hid, Dk.thereD, ← hnm, h0]
  have hb : ((nm : Int) != 0) = true := by simpa using h0
  clear hnm hl h0
  go_enter Tryz.func186, Tryz.ntmps186
  go_wp2_with (go_at_call 175; refine HN.out.mono ?_; rintro e w' ⟨rfl, rfl⟩)
  go_ret
  exact ⟨by rw [HE.out]; rfl, by rw [HD.out]; exact HD1.out, HFP.out.mono (by simp)⟩
end
section
open Go.RowKit Go.Maps Go.MapKept Go.ChangeMaps
theorem DkOK.tick {d : Dk} (h : DkOK d) : DkOK d.tick := by
 obtain ⟨h1, h2, h3, h4, h5, h6, h7, h8, h9, h10⟩ := h
 refine ⟨h1, h2, h3, h4, h5, h6, ?_, ?_, h9, h10⟩
 ·show 0 ≤ max (d.left - 1) 0; omega
 ·show max (d.left - 1) 0 ≤ _; omega
theorem total_mall {keep : Int} {F : List (ByteArray × File)} (h : ∀ p ∈ F, p.2.synced ≤ p.2.s.size) : total (mall (crashFile keep) F) ≤ total F := by
 have := total_mdone (keep := keep) (done := mkeys F) h
 rwa [mdone_all (fun x hx => hx)] at this
theorem crashFile_ok (keep : Int) (f : File) : (crashFile keep f).synced ≤ (crashFile keep f).s.size := Nat.le_refl _
theorem mkeys_mall {κ ν : Type} (g : ν → ν) (F : List (κ × ν)) : mkeys (mall g F) = mkeys F := by
 unfold mkeys mall
 rw [List.map_map]
 rfl
theorem DkOK.crash {d : Dk} (h : DkOK d) (keep : Int) : DkOK (d.crash keep) := by
 obtain ⟨h1, h2, h3, h4, h5, h6, h7, h8, h9, h10⟩ := h
 refine ⟨rfl, ?_, h3, ?_, ?_, ?_, h7, h8, h9, h10⟩
 ·show ((total (mall (crashFile keep) d.files) : Nat) : Int) ≤ d.cap
  have := total_mall (keep := keep) h5
  omega
 ·show (mkeys (mall (crashFile keep) d.files)).Nodup
  rw [mkeys_mall]
  exact h4
 ·intro p hp
  obtain ⟨q, _, rfl⟩ := List.mem_map.1 hp
  exact crashFile_ok _ _
 ·show (mall (crashFile keep) d.files).length ≤ 200
  unfold mall
  simpa using h6
theorem DkOK.burnt {d d2 : Dk} (h : DkOK d2) : DkOK (d.burnt d2) := by
 unfold Dk.burnt
 split
 ·exact h.crash _
 ·exact h
theorem DkOK.new {cap : Int} (h : cap ≤ 1000000000) : DkOK (Dk.new cap) :=
 ⟨rfl, by show ((0 : Nat) : Int) ≤ max cap 0; omega, by show max cap 0 ≤ _; omega, List.nodup_nil, (fun p hp => absurd hp (List.not_mem_nil)), Nat.zero_le _, Int.le_refl _, (by show (0 : Int) ≤ 9223372036854775807; decide), (by show (-9223372036854775808 : Int) ≤ 0; decide), (by show (0 : Int) ≤ 9223372036854775807; decide)⟩
theorem mkeys_mput_new {κ ν : Type} [DecidableEq κ] {F : List (κ × ν)} {x : κ} {v : ν} (h : mget F x = none) : mkeys (mput F x v) = mkeys F ++ [x] := by
 rw [mput_none (mget_none_iff.1 h)]
 simp [mkeys]
theorem nodup_mput {κ ν : Type} [DecidableEq κ] {F : List (κ × ν)} {x : κ} {v : ν} (h : (mkeys F).Nodup) : (mkeys (mput F x v)).Nodup := by
 cases hg : mget F x with
 |none =>
  rw [mkeys_mput_new hg, List.nodup_append]
  refine ⟨h, by simp, ?_⟩
  intro a ha c hc
  rw [List.mem_singleton] at hc
  rintro rfl
  obtain ⟨p, hp, rfl⟩ := List.mem_map.1 ha
  exact mget_none_iff.1 hg p hp hc
 |some y => rw [mkeys_mput (by rw [hg]; rfl)]; exact h
theorem nodup_mdel {κ ν : Type} [DecidableEq κ] {F : List (κ × ν)} {x : κ} (h : (mkeys F).Nodup) : (mkeys (mdel F x)).Nodup := by
 unfold mkeys mdel
 exact List.Nodup.sublist (List.Sublist.map _ (List.filter_sublist)) h
theorem total_new {F : List (ByteArray × File)} {x : ByteArray} {f : File} (h : mget F x = none) : total (mput F x f) = total F + f.s.size := by
 rw [mput_none (mget_none_iff.1 h)]
 simp [total]
theorem total_put {F : List (ByteArray × File)} (hn : (mkeys F).Nodup) (x : ByteArray) (f : File) : total (mput F x f) + ((mget F x).getD zeroFile).s.size = total F + f.s.size := by
 cases h : mget F x with
 |none => rw [total_new h]; rfl
 |some v => exact total_mput hn h
theorem total_mdel : ∀ {F : List (ByteArray × File)} (_ : (mkeys F).Nodup) (x : ByteArray), total (mdel F x) + ((mget F x).getD zeroFile).s.size = total F
 |[], _, x => rfl
 |p :: r, hn, x => by
  unfold mkeys at hn
  rw [List.map_cons, List.nodup_cons] at hn
  by_cases e : p.1 = x
  ·have h0 : ∀ q ∈ r, q.1 ≠ x := fun q hq e2 => hn.1 (List.mem_map.2 ⟨q, hq, e2.trans e.symm⟩)
   have h1 : mdel (p :: r) x = mdel r x := by
    unfold mdel
    rw [List.filter_cons, if_neg (by simp [e])]
   rw [h1, mdel_none h0, mget_cons_eq e]
   simp [total]; omega
  ·have h1 : mdel (p :: r) x = p :: mdel r x := by
    unfold mdel
    rw [List.filter_cons, if_pos (by simpa using e)]
   rw [h1, mget_cons_ne e]
   have := total_mdel hn.2 x
   simp [total] at this ⊢; omega
theorem length_mput {κ ν : Type} [DecidableEq κ] (F : List (κ × ν)) (x : κ) (v : ν) : (mput F x v).length = if (mget F x).isSome then F.length else F.length + 1 := by
 cases h : mget F x with
 |none => rw [mput_none (mget_none_iff.1 h)]; simp
 |some y =>
  have := congrArg List.length (mkeys_mput (v := v) (by rw [h]; rfl : (mget F x).isSome = true))
  simpa [mkeys] using this
theorem length_mdel {κ ν : Type} [DecidableEq κ] : ∀ {F : List (κ × ν)} (_ : (mkeys F).Nodup) (x : κ), (mdel F x).length + (if (mget F x).isSome then 1 else 0) = F.length
 |[], _, x => rfl
 |p :: r, hn, x => by
  unfold mkeys at hn
  rw [List.map_cons, List.nodup_cons] at hn
  by_cases e : p.1 = x
  ·have h0 : ∀ q ∈ r, q.1 ≠ x := fun q hq e2 => hn.1 (List.mem_map.2 ⟨q, hq, e2.trans e.symm⟩)
   have h1 : mdel (p :: r) x = mdel r x := by
    unfold mdel
    rw [List.filter_cons, if_neg (by simp [e])]
   rw [h1, mdel_none h0, mget_cons_eq e]
   simp
  ·have h1 : mdel (p :: r) x = p :: mdel r x := by
    unfold mdel
    rw [List.filter_cons, if_pos (by simpa using e)]
   rw [h1, mget_cons_ne e]
   have := length_mdel hn.2 x
   simp only [List.length_cons]; omega
theorem DkOK.put {d : Dk} (h : DkOK d) (name : ByteArray) (f : File) (h1 : (total d.files : Int) + f.s.size - (fget d name).s.size ≤ d.cap) (h2 : f.synced ≤ f.s.size) (h3 : (mget d.files name).isSome = true ∨ d.files.length < 200) : DkOK (d.set name f false) := by
 obtain ⟨g1, g2, g3, g4, g5, g6, g7, g8, g9, g10⟩ := h
 have ht := total_put g4 name f
 have hf : ((mget d.files name).getD zeroFile) = fget d name := rfl
 rw [hf] at ht
 refine ⟨?_, ?_, g3, nodup_mput g4, ?_, ?_, g7, g8, g9, g10⟩
 ·show d.size + _ = ((total (mput d.files name f) : Nat) : Int)
  omega
 ·show ((total (mput d.files name f) : Nat) : Int) ≤ d.cap
  omega
 ·intro p hp
  rcases mem_mput hp with hp | rfl
  ·exact g5 p hp
  ·exact h2
 ·show (mput d.files name f).length ≤ 200
  rw [length_mput]
  rcases h3 with h3 | h3
  ·rw [if_pos h3]; exact g6
  ·split <;> omega
theorem DkOK.gone {d : Dk} (h : DkOK d) (name : ByteArray) (h3 : (mget d.files name).isSome = true) : DkOK (d.set name zeroFile true) := by
 obtain ⟨g1, g2, g3, g4, g5, g6, g7, g8, g9, g10⟩ := h
 have ht := total_put g4 name zeroFile
 have hf : ((mget d.files name).getD zeroFile) = fget d name := rfl
 rw [hf] at ht
 have ht2 := total_mdel (nodup_mput (x := name) (v := zeroFile) g4) name
 rw [mget_mput_same] at ht2
 have hz : zeroFile.s.size = 0 := rfl
 simp only [Option.getD_some] at ht2
 have hl := length_mdel (nodup_mput (x := name) (v := zeroFile) g4) name
 rw [mget_mput_same, length_mput, if_pos h3] at hl
 refine ⟨?_, ?_, g3, nodup_mdel (nodup_mput g4), ?_, ?_, g7, g8, g9, g10⟩
 ·show d.size + _ = ((total (mdel (mput d.files name zeroFile) name) : Nat) : Int)
  omega
 ·show ((total (mdel (mput d.files name zeroFile) name) : Nat) : Int) ≤ d.cap
  omega
 ·intro p hp
  rcases mem_mput (List.mem_filter.1 hp).1 with hp | rfl
  ·exact g5 p hp
  ·exact Nat.le_refl _
 ·show (mdel (mput d.files name zeroFile) name).length ≤ 200
  omega
theorem DkOK.file {d : Dk} (h : DkOK d) {name : ByteArray} {f : File} (hf : mget d.files name = some f) : f.synced ≤ f.s.size ∧ f.s.size ≤ total d.files :=
 ⟨h.sync _ (mget_mem hf), mem_total (mget_mem hf)⟩
theorem DkOK.fget_le {d : Dk} (h : DkOK d) (name : ByteArray) : (fget d name).s.size ≤ 1000000000 := by
 unfold fget
 cases hf : mget d.files name with
 |none => exact Nat.zero_le _
 |some f => exact Nat.le_trans (h.file hf).2 h.le
end
section
open Go.RowKit Go.Maps Go.MapKept Go.ChangeMaps
def addTo (s : ByteArray) (f : File) : File := ⟨f.s ++ s, f.synced⟩
def Dk.full (d : Dk) (name s : ByteArray) : Bool := (mget d.files name).isSome && !d.off && decide (d.cap < d.size + s.size)
def Dk.append (d : Dk) (name s : ByteArray) : Dk := if d.full name s then d else d.thereD name (fun f => d.tick.set name (addTo s f) false)
def Dk.appendE (d : Dk) (name s : ByteArray) : Int := if d.full name s then 2 else d.thereE name
theorem append1_enters (f ps pd pn : Value) : ∀ w, (callFunc 239 #[f, ps, pd, pn]).run Tryz.prog w = .ok (.enter 239 #[f, ps, pd, pn]) w := fun w => by kernel_rfl
theorem append1_any (w : World) (b bm qs qd qn : Nat) (d : Dk) (f : File) (name s : ByteArray) (hd : DiskAt w b bm d) (hname : name.size ≤ maxLen)
  (h1 : w.cell? ⟨qs, 0, none⟩ = some (.string s)) (h2 : w.cell? ⟨qd, 0, none⟩ = some (.pointer (some ⟨b, 0, none⟩))) (h3 : w.cell? ⟨qn, 0, none⟩ = some (.string name))
  (g0 : 0 ≤ d.size) (g1 : d.size ≤ 1000000000) (g2 : f.s.size + s.size ≤ 1000000000) (g3 : (fget d name).s.size ≤ 1000000000) :
  Calls Tryz.prog 239 #[.agg #[.string f.s, .int .i64 f.synced], .pointer (some ⟨qs, 0, none⟩), .pointer (some ⟨qd, 0, none⟩), .pointer (some ⟨qn, 0, none⟩)] w fun e w' => e = .returned (.tuple #[]) ∧ DiskAt w' b bm (d.set name (addTo s f) false) ∧ Fp [b, bm] w w' := by
 have hfa := Fp.alloc w (.cells #[.string (f.s ++ s), .int .i64 f.synced] 251)
 have hset := set_any (w.alloc (.cells #[.string (f.s ++ s), .int .i64 f.synced] 251)) b bm d name (addTo s f) false (hd.of_fp hfa (by simp) (by simp)) hname g0 g1 (by unfold addTo; simp; omega) g3
 change Calls Tryz.prog _ #[_, _, .agg #[.string (f.s ++ s), .int .i64 f.synced], _] _ _ at hset
 have k1 : qs < w.heap.size := World.block_lt_of_cell? _ _ h1
 have k2 : qd < w.heap.size := World.block_lt_of_cell? _ _ h2
 have k3 : qn < w.heap.size := World.block_lt_of_cell? _ _ h3
 have HS := Lib.hid hset
 have HFA := Lib.hid hfa
 clear hset hd hfa
 go_enter Tryz.func239, Tryz.ntmps239
 go_wp2_with (fail)
 refine HS.out.mono ?_
 rintro e w2 ⟨rfl, hd2, hf2, _⟩
 have HD2 := Lib.hid hd2
 clear hd2
 go_wp2_with (fail)
 go_end0
 exact ⟨rfl, HD2.out, (HFA.out.mono (by simp)).trans hf2 (by simp)⟩
theorem box_fp {w w1 : World} {b q : Nat} {v : Value} (hf : Fp [b] w w1) (hb : b ≠ q) (h : w.cell? ⟨q, 0, none⟩ = some v) : w1.cell? ⟨q, 0, none⟩ = some v := by
 rw [hf.cell (World.block_lt_of_cell? _ _ h) (by simpa using Ne.symm hb)]; exact h
theorem named_zero {d : Dk} {l : List ByteArray} (h : d.named l = 0) : d.off = false := by
 unfold Dk.named at h
 cases ho : d.off
 ·rfl
 ·rw [ho] at h; simp at h
theorem append_gate (w : World) (b bm qs qd qn : Nat) (d : Dk) (name s : ByteArray) (hok : DkOK d) (hname : name.size ≤ maxLen) (hfull : d.full name s = false) (hs : s.size ≤ 1000000000)
  (h1 : w.cell? ⟨qs, 0, none⟩ = some (.string s)) (h2 : w.cell? ⟨qd, 0, none⟩ = some (.pointer (some ⟨b, 0, none⟩))) (h3 : w.cell? ⟨qn, 0, none⟩ = some (.string name)) (n1 : b ≠ qs) (n2 : b ≠ qd) (n3 : b ≠ qn) :
  d.named [name] = 0 → ∀ f, mget d.files name = some f → DkOK (d.tick.set name (addTo s f) false) ∧ (d.does true = true → TurnsF w b bm d.tick f (d.tick.set name (addTo s f) false) 239 #[.pointer (some ⟨qs, 0, none⟩), .pointer (some ⟨qd, 0, none⟩), .pointer (some ⟨qn, 0, none⟩)]) ∧ (d.does true = false → d.tick.set name (addTo s f) false = d.tick) := by
 intro hn f hf
 have ho := named_zero hn
 have hfit : d.size + s.size ≤ d.cap := by
  unfold Dk.full at hfull
  rw [hf, ho] at hfull
  simpa using hfull
 have hfile := hok.file hf
 have hz := hok.size
 have hcp := hok.caps
 have hfg : fget d.tick name = f := by
  show (mget d.files name).getD zeroFile = f
  rw [hf]; rfl
 refine ⟨hok.tick.put name _ ?_ ?_ (Or.inl (by show (mget d.files name).isSome = true; rw [hf]; rfl)), fun _ => ⟨append1_enters _ _ _ _, fun w1 hd1 hf1 => ?_⟩, fun h => by simp [Dk.does] at h⟩
 ·rw [hfg]
  show (total d.files : Int) + ((f.s ++ s).size : Nat) - f.s.size ≤ d.cap
  simp only [ByteArray.size_append]
  omega
 ·show f.synced ≤ (f.s ++ s).size
  simp only [ByteArray.size_append]
  omega
 ·refine append1_any w1 b bm qs qd qn d.tick f name s hd1 hname (box_fp hf1 n1 h1) (box_fp hf1 n2 h2) (box_fp hf1 n3 h3) (by show 0 ≤ d.size; omega) (by show d.size ≤ _; omega) (by omega) (hok.tick.fget_le name)
theorem append_any (w : World) (b bm : Nat) (d : Dk) (name s : ByteArray) (hd : DiskAt w b bm d) (hok : DkOK d) (hname : name.size ≤ maxLen) (hs : s.size ≤ 1000000000) :
  Calls Tryz.prog 182 #[.pointer (some ⟨b, 0, none⟩), .string name, .string s] w fun e w' => e = .returned (.int .i64 (d.appendE name s)) ∧ DiskAt w' b bm (d.append name s) ∧ Fp [b, bm] w w' := by
 have hlt := heap_lt hd.cells
 have hlt1 : b < w.heap.size + 1 := by omega
 have hlt2 : b < w.heap.size + 1 + 1 := by omega
 have hlt3 : b < w.heap.size + 1 + 1 + 1 := by omega
 have c0 : w.cell? ⟨b, 0, none⟩ = some (.int .i64 d.cap) := cell_of_block hd.cells 0
 have c1 : w.cell? ⟨b, 1, none⟩ = some (.int .i64 d.size) := cell_of_block hd.cells 1
 have c2 : w.cell? ⟨b, 2, none⟩ = some (.map (some bm)) := cell_of_block hd.cells 2
 have c3 : w.cell? ⟨b, 3, none⟩ = some (.bool d.off) := cell_of_block hd.cells 3
 have hfp : Fp [] w (((w.alloc (.cells #[.pointer (some ⟨b, 0, none⟩)] 52)).alloc (.cells #[.string name] 9)).alloc (.cells #[.string s] 9)) := ((Fp.alloc _ _).alloc' _).alloc' _
 have hlg : ∀ W, Fp [] w W → (Instr.lookup 116 (.map (some bm)) (.string name) true).run Tryz.prog W = .ok (.tuple #[.agg #[.string (fget d name).s, .int .i64 (fget d name).synced], .bool (mget d.files name).isSome]) W := fun W hf => (hd.of_fp hf (by simp) (by simp)).files.lookup true hname
 have hl := hlg _ hfp.drew'
 have hl2 := hlg _ (hfp.alloc' (.cells #[.string ⟨#[]⟩, .int .i64 0] 251)).drew'
 clear hlg
 obtain ⟨W, hW⟩ : ∃ W, W = ((((w.alloc (.cells #[.pointer (some ⟨b, 0, none⟩)] 52)).alloc (.cells #[.string name] 9)).alloc (.cells #[.string s] 9)).alloc (.cells #[.string (fget d name).s, .int .i64 (fget d name).synced] 251)) := ⟨_, rfl⟩
 have hfW : Fp [] w W := by rw [hW]; exact hfp.alloc' _
 have hb1 : W.heap[w.heap.size]? = some (.cells #[.pointer (some ⟨b, 0, none⟩)] 52 (0, 0)) := by
  rw [hW, Below.heap_alloc _ _ _ (by simp <;> omega), Below.heap_alloc _ _ _ (by simp <;> omega), Below.heap_alloc _ _ _ (by simp <;> omega)]
  exact heap_alloc_at rfl _
 have hb2 : W.heap[w.heap.size + 1]? = some (.cells #[.string name] 9 (0, 0)) := by
  rw [hW, Below.heap_alloc _ _ _ (by simp <;> omega), Below.heap_alloc _ _ _ (by simp <;> omega)]
  exact heap_alloc_at (by simp) _
 have hb3 : W.heap[w.heap.size + 1 + 1]? = some (.cells #[.string s] 9 (0, 0)) := by
  rw [hW, Below.heap_alloc _ _ _ (by simp <;> omega)]
  exact heap_alloc_at (by simp) _
 have hth : d.full name s = false → ∀ W', W'.heap = W.heap → Fp [] w W' → Calls Tryz.prog 186 #[.pointer (some ⟨b, 0, none⟩), .string name, .bool true, .func (.func 239) #[] #[.pointer (some ⟨w.heap.size + 1 + 1, 0, none⟩), .pointer (some ⟨w.heap.size, 0, none⟩), .pointer (some ⟨w.heap.size + 1, 0, none⟩)]] W' fun e w' => e = .returned (.int .i64 (d.thereE name)) ∧ DiskAt w' b bm (d.thereD name (fun f => d.tick.set name (addTo s f) false)) ∧ Fp [b, bm] W' w' := by
  intro hfull W' hh hf
  refine there_any W' b bm d name true 239 _ _ (hd.of_fp hf (by simp) (by simp)) hok hname (append_gate W' b bm (w.heap.size + 1 + 1) w.heap.size (w.heap.size + 1) d name s hok hname hfull hs ?_ ?_ ?_ (by omega) (by omega) (by omega))
  ·exact cell_of_block (by rw [hh]; exact hb3) 0
  ·exact cell_of_block (by rw [hh]; exact hb1) 0
  ·exact cell_of_block (by rw [hh]; exact hb2) 0
 have HD := Lib.hid hd
 have HTH := Lib.hid hth
 have HW := Lib.hid hW
 have HFW := Lib.hid hfW
 have hz := hok.size
 have hz1 : 0 ≤ d.size := by omega
 have hz2 : d.size ≤ 1000000000 := by have := hok.le; omega
 clear hd hth hW hfW hb1 hb2 hb3 hz
 obtain ⟨is, his⟩ : ∃ is, is = (mget d.files name).isSome := ⟨_, rfl⟩
 obtain ⟨off, hoff⟩ : ∃ off, off = d.off := ⟨_, rfl⟩
 rw [← his] at hl hl2
 rw [← hoff] at c3
 have HF : Hid (d.full name s = (is && !off && decide (d.cap < d.size + s.size))) := by unfold Hid Dk.full; rw [← his, ← hoff]
 clear his hoff
 have hlast : d.full name s = true → d.appendE name s = 2 ∧ d.append name s = d := fun h => by unfold Dk.appendE Dk.append; rw [h]; exact ⟨rfl, rfl⟩
 have hlast2 : d.full name s = false → d.appendE name s = d.thereE name ∧ d.append name s = d.thereD name (fun f => d.tick.set name (addTo s f) false) := fun h => by unfold Dk.appendE Dk.append; rw [h]; exact ⟨rfl, rfl⟩
 have HL1 := Lib.hid hlast
 have HL2 := Lib.hid hlast2
 clear hlast hlast2
 have hcase : (is = true ∧ off = false ∧ d.cap < d.size + s.size) ∨ is = false ∨ (is = true ∧ off = true) ∨ (is = true ∧ off = false ∧ ¬ d.cap < d.size + s.size) := by
  cases is <;> cases off <;> simp <;> omega
 rcases hcase with ⟨rfl, rfl, hfull⟩ | rfl | ⟨rfl, rfl⟩ | ⟨rfl, rfl, hfull⟩
 ·have HFF : Hid (d.full name s = true) := by unfold Hid; rw [HF.out]; simpa using hfull
  clear HTH
  go_enter Tryz.func182, Tryz.ntmps182
  go_wp2_with (fail)
  go_region
  all_goals
   go_wp2_with (fail)
   go_quiet (fail)
   go_wp2_with (fail)
   go_ret
   refine ⟨by rw [(HL1.out HFF.out).1]; rfl, ?_, ?_⟩
   ·rw [(HL1.out HFF.out).2]
    exact HD.out.of_fp (S := []) ((((HW.out ▸ HFW.out).drew').trans (Fp.drewN _ _) (by simp))) (by simp) (by simp)
   ·exact ((((HW.out ▸ HFW.out).drew').trans (Fp.drewN _ _) (by simp))).mono (by simp)
 all_goals
  have HFF : Hid (d.full name s = false) := by unfold Hid; rw [HF.out]; simp <;> omega
  have HT : ∀ n, Hid (Calls Tryz.prog 186 #[.pointer (some ⟨b, 0, none⟩), .string name, .bool true, .func (.func 239) #[] #[.pointer (some ⟨w.heap.size + 1 + 1, 0, none⟩), .pointer (some ⟨w.heap.size, 0, none⟩), .pointer (some ⟨w.heap.size + 1, 0, none⟩)]] (W.drewN n) fun e w' => e = .returned (.int .i64 (d.thereE name)) ∧ DiskAt w' b bm (d.thereD name (fun f => d.tick.set name (addTo s f) false)) ∧ Fp [b, bm] (W.drewN n) w') := fun n => HTH.out HFF.out _ rfl (HFW.out.trans (Fp.drewN _ _) (by simp))
  rw [HW.out] at HT
  clear HTH
  go_enter Tryz.func182, Tryz.ntmps182
  go_wp2_with (fail)
  go_region
  all_goals
   go_wp2_with (fail)
   go_quiet (fail)
   go_wp2_with (fail)
   refine (HT _).out.mono ?_
   rintro e w2 ⟨rfl, hd2, hf2⟩
   have HD2 := Lib.hid hd2
   clear hd2
   go_wp2_with (fail)
   go_ret
   refine ⟨by rw [(HL2.out HFF.out).1]; rfl, by rw [(HL2.out HFF.out).2]; exact HD2.out, ?_⟩
   exact ((((HW.out ▸ HFW.out).trans (Fp.drewN _ _) (by simp))).mono (by simp)).trans hf2 (by simp)
end
end Go.Proofs.YtkagolpnaicdoaaGreatDoor
